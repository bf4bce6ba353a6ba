/- Parts of this proof, one behind the other: G23, ByteLib, G16, G17, G25, G31, G33, FileFrame, G24. -/
import Derived.Test.YtnhmmbgnaogokaaGreatDoorU2
import Derived.Test.YtnhmmbgnaogokaaGreatDoorG0
import Derived.Test.YtnhmmbgnaogokaaGreatDoorU7
import Derived.OpenShut
import Derived.Test.YtnhmmbgnaogokaaGreatDoorU5
import Derived.Test.YtnhmmbgnaogokaaGreatDoorU6
section
namespace Go.Proofs.YtnhmmbgnaogokaaGreatDoor.G
open Go.RowKit Go.Proofs.YtnhmmbgnaogokaaGreatDoorW.PrintWords Go.Proofs.YtnhmmbgnaogokaaGreatDoorW.PrintLast Go.Proofs.YtnhmmbgnaogokaaGreatDoorW.PrintMore
set_option maxHeartbeats 8000000
set_option maxRecDepth 100000
attribute [local go_sem] max2_int min2_int max_two min_two max_three min_three max_four min_four   -- for this text's walks alone
set_option linter.unusedVariables false
set_option linter.unusedSimpArgs false

def sleuthref12_low.l0 : Nat → Int → Int → List Int → Int → Option (ByteArray)
 | 0, _, _, _, _ => none
 | k + 1, x0, x1, x5, x6 => if x6 < x1 then (if 0 ≤ (wrap64 (8 * x6)) then (if 0 ≤ x6 then (if x6 < (x5.length : Int) then (sleuthref12_low.l0 k x0 x1 (x5.set (x6 : Int).toNat ((shr .i64 x0 (wrap64 (8 * x6))) % 256)) (wrap64 (x6 + 1))) else (none)) else (none)) else (none)) else (some (strOfNums x5))
def sleuthref12_low.f (k : Nat) (a0 : Int) (a1 : Int) : Option (ByteArray) := if 0 ≤ a1 then (if (a1 : Int).toNat ≤ 281474976710656 then (sleuthref12_low.l0 k a0 a1 (List.replicate (a1 : Int).toNat 0) 0) else (none)) else (none)
theorem sleuthref12_low.calls (k : Nat) (a0 : Int) (a1 : Int) (r : ByteArray) (w : World) (h : sleuthref12_low.f k a0 a1 = some r) :
 Calls Tryz.prog 35 #[.int .i64 a0, .int .i64 a1] w fun e w' => e = .returned (.string r) ∧ Below w.heap.size w w' := by
 have HB := a_ (Below.refl w.heap.size w)
 have H := h; unfold sleuthref12_low.f at H
 clear h
 replace H := ifI_ H; obtain ⟨c3, H⟩ := H
 have c3b0 := eq_true c3
 have c3b1 : decide (0 ≤ a1) = true := decide_eq_true c3
 clear c3
 replace H := ifI_ H; obtain ⟨c4, H⟩ := H
 have c4b0 := eq_true c4
 have c4b1 : decide ((a1 : Int).toNat ≤ 281474976710656) = true := decide_eq_true c4
 clear c4
 obtain ⟨y1, i0⟩ : ∃ y_ : List Int, y_ = (List.replicate (a1 : Int).toNat 0) := ⟨_, rfl⟩
 replace H : (sleuthref12_low.l0 k a0 a1 y1 0) = some r := by first | (rw [i0]; with_reducible exact H) | (have H2_ := (Option.bind_some _ _).symm.trans H; rw [i0]; with_reducible exact H2_) | (have H2_ := (Option.bind_some _ _).symm.trans H; with_reducible exact H2_) | with_reducible exact H | (rw [i0]; exact H) | exact H
 have Y0 := a_ i0
 clear i0
 have H' := a_ H
 clear H
 go_enter Tryz.func35, Tryz.ntmps35
 go_wp2_with (first | ((with_reducible refine gate_dst (N := 8) rfl ?_); refine Kd.R_make (Kd.int .u8) _ 5 rfl (N := 8) rfl 47 _ _ rfl a1 rfl rfl Tryz.underlying47 (.int .u8 0) 1 info5 rfl (by decide) (by omega) 0 (ok := fun _ => True) (okp := fun _ => True) rfl (fun _ hk => hk) trivial (of_decide_eq_true hA_) (Nat.le_trans (Nat.mul_le_mul_right _ (of_decide_eq_true hA_ : a1.toNat ≤ 281474976710656)) (by omega)) (Below.refl _ _) (Nat.le_refl _) ?_; intro v0 w5 ho6 hb hg_ hnew_; clear hg_ hnew_; (first | rw [← Y0.out] at ho6 | (simp only [Int.reduceToNat] at ho6; rw [← Y0.out] at ho6)); have P0 := a_ (Kd.R_lower ho6 hS_); replace HB := a_ (below_step hB_ hb); clear hb ho6))
 go_loopg [6] k (fun kq v6 w' => ∃ (x1 : List Int) (x0 : Int), v6 = .int .i64 x0 ∧ Aside0 (sleuthref12_low.l0 kq a0 a1 x1 x0 = some r) ∧ Aside0 (kq ≤ k) ∧ Aside0 (Kd.R (Kd.int .u8) 5 w' w.heap.size (fun _ => True) v0 x1) ∧ Aside0 (Below w.heap.size w w'))
 case atStart => exact ⟨(y1), (0), hW_, H', ⟨Nat.le_refl _⟩, ⟨hR_ P0.out⟩, ⟨hC_⟩⟩
 case round =>
  clear H'
  try clear p2
  try clear c3
  try clear c3b0
  try clear c3b1
  try clear c4
  try clear c4b0
  try clear c4b1
  obtain ⟨x1, x0, rfl, HA, HK1, O0, HB⟩ := hrel
  cases gk with
  | zero => exact absurd HA.out (by simp [sleuthref12_low.l0])
  | succ k1 =>
   have H := HA.out
   clear HA
   simp only [sleuthref12_low.l0] at H
   by_cases c7 : x0 < a1
   case neg =>
    rw [if_neg c7] at H
    have c7b0 : decide (x0 < a1) = false := decide_eq_false c7
    clear c7
    obtain rfl := Option.some.inj H
    have hcv16 := own_string (P := Tryz.prog) Tryz.underlying47 Tryz.underlying5 Tryz.underlying9 (Kd.own_of_R O0.out)
    go_wp2
    go_ret
    exact ⟨hV_, hC_⟩
   rw [if_pos c7] at H
   have c7b0 : decide (x0 < a1) = true := decide_eq_true c7
   clear c7
   obtain ⟨ji8, hji8⟩ : ∃ j_ : Int, (wrap64 (8 * x0)) = j_ := ⟨_, rfl⟩
   replace H : (if 0 ≤ (ji8) then (if 0 ≤ x0 then (if x0 < (x1.length : Int) then (sleuthref12_low.l0 k1 a0 a1 (x1.set (x0 : Int).toNat ((shr .i64 a0 (ji8)) % 256)) (wrap64 (x0 + 1))) else (none)) else (none)) else (none)) = some r := by first | (rw [hji8] at H; exact H) | (simp only [hji8] at H ⊢; exact H)
   have hji8w : (IntKind.i64.wrap (8 * x0)) = ji8 := (i64_w _).trans hji8
   replace H := ifI_ H; obtain ⟨c9, H⟩ := H
   have c9b0 := eq_true c9
   have c9b1 : decide (0 ≤ (ji8)) = true := decide_eq_true c9
   clear c9
   obtain ⟨ji10, hji10⟩ : ∃ j_ : Int, (shr .i64 a0 (ji8)) = j_ := ⟨_, rfl⟩
   replace H : (if 0 ≤ x0 then (if x0 < (x1.length : Int) then (sleuthref12_low.l0 k1 a0 a1 (x1.set (x0 : Int).toNat ((ji10) % 256)) (wrap64 (x0 + 1))) else (none)) else (none)) = some r := by first | (rw [hji10] at H; exact H) | (simp only [hji10] at H ⊢; exact H)
   have hji10_ : (a0 / 2 ^ min (ji8).toNat 64) = ji10 := hji10
   have hji10z : (ji8) ≤ 64 → (a0 / 2 ^ (ji8).toNat) = ji10 := shr_small hji10
   replace H := ifI_ H; obtain ⟨c11, H⟩ := H
   have c11b0 : decide (0 ≤ x0) = true := decide_eq_true c11
   clear c11
   replace H := ifI_ H; obtain ⟨c12, H⟩ := H
   have c12b0 : decide (x0 < (x1.length : Int)) = true := decide_eq_true c12
   clear c12
   obtain ⟨y0, i1⟩ : ∃ y_ : List Int, y_ = (x1.set (x0 : Int).toNat ((ji10) % 256)) := ⟨_, rfl⟩
   replace H : (sleuthref12_low.l0 k1 a0 a1 y0 (wrap64 (x0 + 1))) = some r := by first | (rw [i1]; with_reducible exact H) | (have H2_ := (Option.bind_some _ _).symm.trans H; rw [i1]; with_reducible exact H2_) | (have H2_ := (Option.bind_some _ _).symm.trans H; with_reducible exact H2_) | with_reducible exact H | (rw [i1]; exact H) | exact H
   have Y1 := a_ i1
   clear i1
   have H' := a_ H
   clear H
   have p13 : 0 ≤ (x0 : Int) := of_decide_eq_true hA_
   have q13 : (x0 : Int) < ((x1.length : Int) : Int) := of_decide_eq_true hA_
   obtain ⟨j0, o0, e0, g0, gl13, cl13, HG13⟩ := Kd.R_form O0.out (by omega)
   (first | cases e0 | (injection e0 with ea_ en_ ec_; (first | subst ea_ | (injection ea_ with ea_; subst ea_)); subst ec_; clear en_))
   have J0 := a_ g0
   have K0 := a_ HG13
   clear g0 gl13 HG13
   obtain ⟨h0, hf13_0⟩ := Kd.R_celln 0 O0.out (x0 : Int) p13 q13
   replace p13 := eq_true p13
   replace q13 := eq_true q13
   have HP14 := Kd.R_putg O0.out (x0 : Int) ((ji10) % 256)
   go_wp2_with (first | ((with_reducible refine gate_store (t := 5) (p := 21) rfl ?_); refine store_event (t := 5) (p := 21) (v := ?vo_w15) (w1 := (wr.setCell ⟨j0, (x0 : Int).toNat, none⟩ (.int .u8 ((ji10) % 256)))) ?hg ?ho ?hn ?hr ?_; (case ho => rfl); (case hg => rfl); (case hn => rfl); (case hr => first | (go_simp; done) | (go_simp; rfl)); intro w0 hw; have hg : wr.grownBy w0 (some j0) := (by rw [hw]; exact HP14.2); have hp_ : Kd.R (Kd.int .u8) 5 w0 w.heap.size (fun _ => True) (.slice (some ⟨j0, 0, none⟩) x1.length o0) y0 := (by rw [hw, Y1.out]; exact HP14.1); clear HP14; replace O0 := a_ (hp_); replace HB := a_ ((by rw [hw]; exact below_set (HB.out) J0.out : Below w.heap.size w w0)); clear hg hw hp_))
   go_roundg k1
   case measure => have := HK1.out; omega
   case rel => exact ⟨(y0), (wrap64 (x0 + 1)), hW_, H', ⟨by have := HK1.out; omega⟩, ⟨hR_ O0.out⟩, ⟨hC_⟩⟩
def sleuthref12_sized.f (k : Nat) (a0 : ByteArray) : Option (ByteArray) := (sleuthref12_low.f k (a0.size : Int) 2).bind fun t281 => (if t281.size + a0.size ≤ 9223372036854775807 then (some (t281 ++ a0)) else (none))
theorem sleuthref12_sized.calls (k : Nat) (a0 : ByteArray) (r : ByteArray) (w : World) (h : sleuthref12_sized.f k a0 = some r) :
 Calls Tryz.prog 36 #[.string a0] w fun e w' => e = .returned (.string r) ∧ Below w.heap.size w w' := by
 have HB := a_ (Below.refl w.heap.size w)
 have H := h; unfold sleuthref12_sized.f at H
 clear h
 replace H := Option.bind_eq_some_iff.mp H
 obtain ⟨t0, A20, H⟩ := H
 try dsimp only at H
 have A2 := a_ A20
 clear A20
 replace H := ifI_ H; obtain ⟨c3, H⟩ := H
 have c3b0 := eq_true c3
 have c3b1 : decide (t0.size + a0.size ≤ 9223372036854775807) = true := decide_eq_true c3
 try have c3b2 : (9223372036854775807 < t0.size + a0.size) = False := eq_false (Nat.not_lt.2 c3)
 obtain rfl := Option.some.inj H
 go_enter Tryz.func36, Tryz.ntmps36
 go_wp2_with (first | ((with_reducible refine gate_callee (f := 35) rfl ?_); refine goesL_ (some 5) rfl rfl Tryz.func35 (by kernel_rfl) rfl #[.int .i64 (a0.size : Int), .int .i64 2] rfl hL_ ?_; (with_reducible refine (sleuthref12_low.calls k (a0.size : Int) 2 t0 _ A2.out).mono ?_); rintro e w4 ⟨rfl, hb⟩; refine ⟨_, rfl, ?_⟩; replace HB := a_ (below_step hB_ hb); (try clear hb); (try clear hb2); (try clear hk); (try clear hi)))
 go_ret
 exact ⟨hV_, hC_⟩
end Go.Proofs.YtnhmmbgnaogokaaGreatDoor.G
end
section
namespace Go.Proofs.YtnhmmbgnaogokaaGreatDoor.G
open Go.RowKit Go.Proofs.YtnhmmbgnaogokaaGreatDoorW.PrintWords Go.Proofs.YtnhmmbgnaogokaaGreatDoorW.PrintLast Go.Proofs.YtnhmmbgnaogokaaGreatDoorW.PrintMore
set_option linter.unusedVariables false
set_option linter.unusedSimpArgs false
theorem bytesOf_drop (s : ByteArray) (i : Nat) (h : i < s.size) : (bytesOf s).drop i = bt s (i : Int) :: (bytesOf s).drop (i + 1) := by
  have hl : i < (bytesOf s).length := by rw [bytesOf_length]; exact h
  rw [List.drop_eq_getElem_cons hl]
  congr 1
  rw [← rd_bytesOf]
  unfold rd
  simp [List.getD_eq_getElem?_getD, List.getElem?_eq_getElem hl]
theorem bytesOf_range (s : ByteArray) : ∀ x ∈ bytesOf s, 0 ≤ x ∧ x < 256 := by
  intro x hx
  unfold bytesOf at hx
  obtain ⟨b, _, rfl⟩ := List.mem_map.1 hx
  have := b.toNat_lt
  omega
theorem bytesOf_strOfNums (xs : List Int) (h : ∀ x ∈ xs, 0 ≤ x ∧ x < 256) : bytesOf (strOfNums xs) = xs := by
  unfold bytesOf
  rw [strOfNums_data, List.map_map]
  conv => rhs; rw [← List.map_id xs]
  apply List.map_congr_left
  intro x hx
  have := h x hx
  simp only [Function.comp, id, UInt8.toNat_ofNat']
  omega
theorem bytesOf_inj {a b : ByteArray} (h : bytesOf a = bytesOf b) : a = b := by
  have e : a.data.toList = b.data.toList := by
    unfold bytesOf at h
    refine List.map_inj_right (f := fun b : UInt8 => (b.toNat : Int)) ?_ |>.1 h
    intro x y hxy
    have : x.toNat = y.toNat := by exact_mod_cast hxy
    exact UInt8.toNat_inj.1 this
  cases a; cases b
  simp only [ByteArray.mk.injEq]
  exact Array.toList_inj.1 e
theorem strOfNums_bytesOf (s : ByteArray) : strOfNums (bytesOf s) = s :=
  bytesOf_inj (bytesOf_strOfNums _ (bytesOf_range s))
theorem bytesOf_append (a b : ByteArray) : bytesOf (a ++ b) = bytesOf a ++ bytesOf b := by
  unfold bytesOf
  simp [ByteArray.data_append]
theorem bytesOf_extract (a : ByteArray) (i j : Nat) : bytesOf (a.extract i j) = ((bytesOf a).take j).drop i := by
  unfold bytesOf
  simp only [ByteArray.data_extract, Array.toList_extract, List.extract_eq_drop_take', List.map_drop, List.map_take]
theorem size_strOfNums (xs : List Int) : (strOfNums xs).size = xs.length := by
  rw [← bytesOf_length]
  unfold bytesOf
  rw [List.length_map, strOfNums_data, List.length_map]
theorem toList_eq (a : ByteArray) : a.toList = a.data.toList := by
  have key : ∀ (n i : Nat) (r : List UInt8), a.size - i = n → ByteArray.toList.loop a i r = r.reverse ++ a.data.toList.drop i := by
    intro n
    induction n with
    | zero =>
      intro i r h
      unfold ByteArray.toList.loop
      rw [if_neg (by omega), List.drop_eq_nil_of_le (by rw [Array.length_toList]; show a.size ≤ i; omega), List.append_nil]
    | succ n ih =>
      intro i r h
      unfold ByteArray.toList.loop
      rw [if_pos (by omega), ih (i + 1) _ (by omega)]
      have hl : i < a.data.toList.length := by rw [Array.length_toList]; show i < a.size; omega
      rw [List.drop_eq_getElem_cons hl]
      simp only [List.reverse_cons, List.append_assoc, List.singleton_append]
      congr 2
      unfold ByteArray.get!
      cases a with
      | mk d =>
        simp only [Array.getElem_toList]
        exact getElem!_pos d i _
  unfold ByteArray.toList
  rw [key a.size 0 [] (by omega)]
  simp
theorem toList_inj {a b : ByteArray} : a.toList = b.toList ↔ a = b := by
  rw [toList_eq, toList_eq]
  constructor
  · intro h
    cases a; cases b
    simp only [ByteArray.mk.injEq]
    exact Array.toList_inj.1 h
  · rintro rfl; rfl

/-! the sum -/
def lowL : Nat → Int → List Int
  | 0, _ => []
  | n + 1, x => x % 256 :: lowL n (x / 256)
theorem lowL_length (n : Nat) : ∀ x, (lowL n x).length = n := by
  induction n with
  | zero => intro x; rfl
  | succ n ih => intro x; simp only [lowL, List.length_cons, ih]
theorem lowL_range (n : Nat) : ∀ x, ∀ y ∈ lowL n x, 0 ≤ y ∧ y < 256 := by
  induction n with
  | zero => intro x y hy; cases hy
  | succ n ih =>
    intro x y hy
    simp only [lowL, List.mem_cons] at hy
    rcases hy with rfl | hy
    · omega
    · exact ih _ _ hy
theorem lowL_get (n : Nat) : ∀ (x : Int) (i : Nat), i < n → (lowL n x)[i]? = some (x / 256 ^ i % 256) := by
  induction n with
  | zero => intro x i h; omega
  | succ n ih =>
    intro x i h
    cases i with
    | zero => simp [lowL]
    | succ i =>
      simp only [lowL, List.getElem?_cons_succ]
      rw [ih _ _ (by omega), Int.ediv_ediv_of_nonneg (by omega), Int.pow_succ, Int.mul_comm (256 ^ i) 256]
theorem refLow_l0 (x : Int) (m : Nat) (hm : m ≤ 7) (n : Nat) : ∀ (l : List Int) (j : Nat), j + n = m → l.length = m → (∀ i, i < j → l[i]? = some (x / 256 ^ i % 256)) → Ev (fun k => sleuthref12_low.l0 k x (m : Int) l (j : Int)) (strOfNums (lowL m x)) := by
  induction n with
  | zero =>
    intro l j hj hl h
    refine Ev.step (f := fun _ => some (strOfNums l)) (fun k => ?_) ?_
    · simp only [sleuthref12_low.l0]
      rw [if_neg (by omega)]
    · have e : l = lowL m x := by
        apply List.ext_getElem?
        intro i
        by_cases hi : i < m
        · rw [h i (by omega), lowL_get m x i hi]
        · rw [List.getElem?_eq_none (by omega), List.getElem?_eq_none (by rw [lowL_length]; omega)]
      rw [e]
      exact Ev.now _
  | succ n ih =>
    intro l j hj hl h
    have hw : wrap64 ((j : Int) + 1) = ((j + 1 : Nat) : Int) := by rw [w64 (by omega) (by omega)]; omega
    have hw8 : wrap64 (8 * (j : Int)) = 8 * (j : Int) := w64 (by omega) (by omega)
    refine Ev.step (f := fun k => sleuthref12_low.l0 k x (m : Int) (l.set (j : Int).toNat ((shr .i64 x (8 * (j : Int))) % 256)) ((j + 1 : Nat) : Int)) (fun k => ?_) ?_
    · simp only [sleuthref12_low.l0]
      rw [if_pos (by omega), hw8, if_pos (by omega), if_pos (by omega), if_pos (by omega), hw]
    · refine ih _ (j + 1) (by omega) (by rw [List.length_set]; exact hl) ?_
      intro i hi
      rw [Int.toNat_natCast]
      by_cases e : i = j
      · subst e
        rw [List.getElem?_set_self (by omega)]
        congr 2
        unfold shr
        have e1 : (8 * (i : Int)).toNat = 8 * i := by omega
        rw [e1, Nat.min_eq_left (by simp only [IntKind.bits]; omega), Int.pow_mul, show (2 : Int) ^ 8 = 256 from rfl]
      · rw [List.getElem?_set_ne (by omega)]
        exact h i (by omega)
theorem refLow_ev (x : Int) (m : Nat) (hm : m ≤ 7) : Ev (fun k => sleuthref12_low.f k x (m : Int)) (strOfNums (lowL m x)) := by
  have h := refLow_l0 x m hm m (List.replicate m 0) 0 (by omega) (by simp) (by intro i hi; omega)
  refine Ev.congr (fun k => ?_) h
  unfold sleuthref12_low.f
  rw [if_pos (by omega), if_pos (by omega), Int.toNat_natCast]
  rfl

/-! a frame -/
theorem sized_ev (s : ByteArray) (hs : s.size ≤ 140737488351232) : Ev (fun k => sleuthref12_sized.f k s) (strOfNums (lowL 2 (s.size : Int)) ++ s) := by
  refine Ev.bind (refLow_ev (s.size : Int) 2 (by omega)) ?_
  rw [if_pos (by rw [size_strOfNums, lowL_length]; omega)]
  exact Ev.now _
theorem strOfNums_append (a b : List Int) : strOfNums (a ++ b) = strOfNums a ++ strOfNums b := by
  unfold strOfNums
  apply ByteArray.ext
  simp [ByteArray.data_append]
theorem bt_range (s : ByteArray) (i : Int) : 0 ≤ bt s i ∧ bt s i < 256 := by
  unfold bt
  split
  · have := (s[i.toNat]'(by assumption)).toNat_lt
    omega
  · omega
theorem size_extract (a : ByteArray) (i j : Nat) (h : j ≤ a.size) : (a.extract i j).size = j - i := by
  rw [ByteArray.size_extract]
  omega
theorem bt_get (s : ByteArray) (i : Nat) : bt s (i : Int) = (bytesOf s).getD i 0 := by
  rw [← rd_bytesOf]; rfl
end Go.Proofs.YtnhmmbgnaogokaaGreatDoor.G
end
section
namespace Go.Proofs.YtnhmmbgnaogokaaGreatDoor.G
open Go.RowKit Go.Proofs.YtnhmmbgnaogokaaGreatDoorW.PrintWords Go.Proofs.YtnhmmbgnaogokaaGreatDoorW.PrintLast Go.Proofs.YtnhmmbgnaogokaaGreatDoorW.PrintMore
set_option maxHeartbeats 8000000
set_option maxRecDepth 100000
attribute [local go_sem] max2_int min2_int max_two min_two max_three min_three max_four min_four   -- for this text's walks alone
set_option linter.unusedVariables false
set_option linter.unusedSimpArgs false

def frame_low.l0 : Nat → Int → List Int → Int → Int → Option (List Int)
 | 0, _, _, _, _ => none
 | k + 1, x0, x5, x6, x7 => if x7 < x6 then (if x5.length < 140737488355328 then (frame_low.l0 k (x0 / 256) (x5 ++ [(x0) % 256]) x6 (wrap64 (x7 + 1))) else (none)) else (some x5)
def frame_low.f (k : Nat) (a0 : Int) (a1 : Int) : Option (List Int) := frame_low.l0 k a0 ([] : List Int) a1 0
theorem frame_low.mono_l : ∀ k, (∀ y0 y1 y2 y3, LeO (frame_low.l0 k y0 y1 y2 y3) (frame_low.l0 (k + 1) y0 y1 y2 y3))
 | 0 => fun _ _ _ _ r h => by simp [frame_low.l0] at h
 | k + 1 => by
  have ih0 := frame_low.mono_l k
  · intro y0 y1 y2 y3
    unfold frame_low.l0
    repeat' first
    | (with_reducible exact ih0 _ _ _ _)
    | (with_reducible exact LeO.refl _)
    | (with_reducible exact LeO.none _)
    | (with_reducible refine LeO.ite ?_ ?_)
    | (with_reducible refine LeO.bind ?_ (fun _ => ?_))
    | exact ih0 _ _ _ _
    | exact LeO.none _
    | refine LeO.ite ?_ ?_
    | refine LeO.bind ?_ (fun _ => ?_)
theorem frame_low.mono : ∀ a0 a1 k, LeO (frame_low.f k a0 a1) (frame_low.f (k + 1) a0 a1) := by
 intro a0 a1 k
 have ih0 := frame_low.mono_l k
 unfold frame_low.f
 repeat' first
  | (with_reducible exact ih0 _ _ _ _)
  | (with_reducible exact LeO.refl _)
  | (with_reducible exact LeO.none _)
  | (with_reducible refine LeO.ite ?_ ?_)
  | (with_reducible refine LeO.bind ?_ (fun _ => ?_))
  | exact ih0 _ _ _ _
  | exact LeO.none _
  | refine LeO.ite ?_ ?_
  | refine LeO.bind ?_ (fun _ => ?_)
theorem frame_low.calls (k : Nat) (a0 : Int) (a1 : Int) (r : List Int) (w : World) (h : frame_low.f k a0 a1 = some r) :
 Calls Tryz.prog 41 #[.int .u32 a0, .int .i64 a1] w fun e w' => ∃ v0_ : Value, e = .returned (v0_) ∧ Kd.R (Kd.int .u8) 5 w' w.heap.size (fun _ => True) v0_ r ∧ Below w.heap.size w w' := by
 have HB := a_ (Below.refl w.heap.size w)
 have H : (frame_low.l0 k a0 ([] : List Int) a1 0) = some r := h
 clear h
 have H' := a_ H
 clear H
 go_enter Tryz.func41, Tryz.ntmps41
 go_wp2
 go_loopg [0, 5, 7] k (fun kq v0 v5 v7 w' => ∃ (x0 : Int) (x2 : List Int) (x1 : Int), v0 = .int .u32 x0 ∧ v7 = .int .i64 x1 ∧ Aside0 (frame_low.l0 kq x0 x2 a1 x1 = some r) ∧ Aside0 (kq ≤ k) ∧ Aside0 (Kd.R (Kd.int .u8) 5 w' w.heap.size (fun _ => True) v5 x2) ∧ Aside0 (Below w.heap.size w w'))
 case atStart => exact ⟨(a0), (([] : List Int)), (0), hW_, hW_, H', ⟨Nat.le_refl _⟩, ⟨by first | exact Kd.R_nil _ _ _ _ _ | exact Kd.N_nil _ _ _ _ _ | exact Kd.V_nil _ _ _ _ _ | exact Kd.Q_nil _ _ _ _ _ | exact Kd.S_nil _ _ _ _ _⟩, ⟨hC_⟩⟩
 case round =>
  clear H'
  try clear p2
  obtain ⟨x0, x2, x1, rfl, rfl, HA, HK1, O0, HB⟩ := hrel
  cases gk with
  | zero => exact absurd HA.out (by simp [frame_low.l0])
  | succ k1 =>
   have H := HA.out
   clear HA
   simp only [frame_low.l0] at H
   by_cases c3 : x1 < a1
   case neg =>
    rw [if_neg c3] at H
    have c3b0 : decide (x1 < a1) = false := decide_eq_false c3
    clear c3
    obtain rfl := Option.some.inj H
    go_wp2
    go_ret
    exact ⟨_, hV_, hR_ O0.out, hC_⟩

   rw [if_pos c3] at H
   have c3b0 : decide (x1 < a1) = true := decide_eq_true c3
   clear c3
   replace H := ifI_ H; obtain ⟨c4, H⟩ := H
   have LMc4 := a_ c4
   clear c4
   obtain ⟨y0, i0⟩ : ∃ y_ : List Int, y_ = (x2 ++ [(x0) % 256]) := ⟨_, rfl⟩
   replace H : (frame_low.l0 k1 (x0 / 256) y0 a1 (wrap64 (x1 + 1))) = some r := by first | (rw [i0]; with_reducible exact H) | (have H2_ := (Option.bind_some _ _).symm.trans H; rw [i0]; with_reducible exact H2_) | (have H2_ := (Option.bind_some _ _).symm.trans H; with_reducible exact H2_) | with_reducible exact H | (rw [i0]; exact H) | exact H
   have Y0 := a_ i0
   clear i0
   have H' := a_ H
   clear H
   go_wp2_with (first | ((with_reducible refine gate_builtin (b := .append) (xs := #[.tmp 9, .tmp 12]) rfl ?_); at_builtin; refine Kd.R_append (Kd.int .u8) (w0 := w) w.heap.size rfl (.tmp 9) (.tmp 12) 47 5 (.int .u8 0) 1 rfl Tryz.underlying47 info5 rfl (by decide) (by omega) u5 x2 ((x0) % 256) [.int .u8 ((x0) % 256)] (fun _ => True) (fun _ => False) rfl rfl ?aP (fun _ hk => hk.elim) ?aF ?aO ?aB ?aS ?aL ?_; (case aP => exact rfl); (case aB => exact hB_); (case aF => exact (fun _ _ => trivial)); (case aO => exact (hR_ O0.out)); (case aS => exact hS_); (case aL => have := LMc4.out; omega); intro v1 w5 ho hb hg hat; rw [← Y0.out] at ho; replace HB := a_ (hb); have P0 := a_ (ho); clear O0; clear ho hb hg hat))
   go_roundg k1
   case measure => have := HK1.out; omega
   case rel => exact ⟨(x0 / 256), (y0), (wrap64 (x1 + 1)), hW_, hW_, H', ⟨by have := HK1.out; omega⟩, ⟨hR_ P0.out⟩, ⟨hC_⟩⟩
mutual
def frame_sum.l0 : Nat → ByteArray → Int → Int → Int → Option (Int)
 | 0, _, _, _, _ => none
 | k + 1, x0, x3, x7, x8 => if x8 < x7 then (if 0 ≤ x8 then (if x8 < (x0.size : Int) then (frame_sum.l1 k x0 (Go.bits .xor .u32 x3 ((bt x0 x8) % 4294967296)) x7 x8 0) else (none)) else (none)) else (some (Go.bits .xor .u32 4294967295 x3))
def frame_sum.l1 : Nat → ByteArray → Int → Int → Int → Int → Option (Int)
 | 0, _, _, _, _, _ => none
 | k + 1, x0, x3, x7, x8, x17 => if x17 < 8 then (if (Go.bits .and .u32 x3 1) = 1 then (frame_sum.l1 k x0 (Go.bits .xor .u32 (x3 / 2) 3988292384) x7 x8 (wrap64 (x17 + 1))) else (frame_sum.l1 k x0 (x3 / 2) x7 x8 (wrap64 (x17 + 1)))) else (frame_sum.l0 k x0 x3 x7 (wrap64 (x8 + 1)))
end
def frame_sum.f (k : Nat) (a0 : ByteArray) : Option (Int) := frame_sum.l0 k a0 4294967295 (a0.size : Int) 0
theorem frame_sum.mono_l : ∀ k, (∀ y0 y1 y2 y3, LeO (frame_sum.l0 k y0 y1 y2 y3) (frame_sum.l0 (k + 1) y0 y1 y2 y3)) ∧ (∀ y0 y1 y2 y3 y4, LeO (frame_sum.l1 k y0 y1 y2 y3 y4) (frame_sum.l1 (k + 1) y0 y1 y2 y3 y4))
 | 0 => ⟨fun _ _ _ _ r h => by simp [frame_sum.l0] at h, fun _ _ _ _ _ r h => by simp [frame_sum.l1] at h⟩
 | k + 1 => by
  obtain ⟨ih0, ih1⟩ := frame_sum.mono_l k
  refine ⟨?_, ?_⟩
  · intro y0 y1 y2 y3
    unfold frame_sum.l0
    repeat' first
    | (with_reducible exact ih0 _ _ _ _)
    | (with_reducible exact ih1 _ _ _ _ _)
    | (with_reducible exact LeO.refl _)
    | (with_reducible exact LeO.none _)
    | (with_reducible refine LeO.ite ?_ ?_)
    | (with_reducible refine LeO.bind ?_ (fun _ => ?_))
    | exact ih0 _ _ _ _
    | exact ih1 _ _ _ _ _
    | exact LeO.none _
    | refine LeO.ite ?_ ?_
    | refine LeO.bind ?_ (fun _ => ?_)
  · intro y0 y1 y2 y3 y4
    unfold frame_sum.l1
    repeat' first
    | (with_reducible exact ih0 _ _ _ _)
    | (with_reducible exact ih1 _ _ _ _ _)
    | (with_reducible exact LeO.refl _)
    | (with_reducible exact LeO.none _)
    | (with_reducible refine LeO.ite ?_ ?_)
    | (with_reducible refine LeO.bind ?_ (fun _ => ?_))
    | exact ih0 _ _ _ _
    | exact ih1 _ _ _ _ _
    | exact LeO.none _
    | refine LeO.ite ?_ ?_
    | refine LeO.bind ?_ (fun _ => ?_)
theorem frame_sum.mono : ∀ a0 k, LeO (frame_sum.f k a0) (frame_sum.f (k + 1) a0) := by
 intro a0 k
 obtain ⟨ih0, ih1⟩ := frame_sum.mono_l k
 unfold frame_sum.f
 repeat' first
  | (with_reducible exact ih0 _ _ _ _)
  | (with_reducible exact ih1 _ _ _ _ _)
  | (with_reducible exact LeO.refl _)
  | (with_reducible exact LeO.none _)
  | (with_reducible refine LeO.ite ?_ ?_)
  | (with_reducible refine LeO.bind ?_ (fun _ => ?_))
  | exact ih0 _ _ _ _
  | exact ih1 _ _ _ _ _
  | exact LeO.none _
  | refine LeO.ite ?_ ?_
  | refine LeO.bind ?_ (fun _ => ?_)
theorem frame_sum.calls (k : Nat) (a0 : ByteArray) (r : Int) (w : World) (h : frame_sum.f k a0 = some r) :
 Calls Tryz.prog 42 #[.string a0] w fun e w' => e = .returned (.int .u32 r) ∧ Drawn0 w w' := by
 have H := h; unfold frame_sum.f at H
 clear h
 have H' := a_ H
 clear H
 go_enter Tryz.func42, Tryz.ntmps42
 go_wp2
 go_loopg [3, 8] k (fun kq v3 v8 w' => ∃ (x3 : Int) (x0 : Int), v3 = .int .u32 x3 ∧ v8 = .int .i64 x0 ∧ Aside0 (frame_sum.l0 kq a0 x3 (a0.size : Int) x0 = some r) ∧ Aside0 (kq ≤ k) ∧ Drawn0 w w')
 case atStart => exact ⟨(4294967295), (0), hW_, hW_, H', ⟨Nat.le_refl _⟩, by repeat (first | exact Drawn0.refl _ | apply Drawn0.step)⟩
 case round =>
  clear H'
  obtain ⟨x3, x0, rfl, rfl, HA, HK1, ⟨m1, rfl⟩⟩ := hrel
  cases gk with
  | zero => exact absurd HA.out (by simp [frame_sum.l0])
  | succ k1 =>
   have H := HA.out
   clear HA
   simp only [frame_sum.l0] at H
   by_cases c2 : x0 < (a0.size : Int)
   case neg =>
    rw [if_neg c2] at H
    have c2b0 : decide (x0 < (a0.size : Int)) = false := decide_eq_false c2
    clear c2
    obtain rfl := Option.some.inj H
    go_wp2
    go_ret
    exact ⟨by first | rfl | (simp; done) | (simp [*]; done), by repeat (first | exact Drawn0.refl _ | apply Drawn0.step)⟩

   rw [if_pos c2] at H
   have c2b0 : decide (x0 < (a0.size : Int)) = true := decide_eq_true c2
   clear c2
   replace H := ifI_ H; obtain ⟨c3, H⟩ := H
   have c3b0 : decide (0 ≤ x0) = true := decide_eq_true c3
   clear c3
   replace H := ifI_ H; obtain ⟨c4, H⟩ := H
   have c4b0 : decide (x0 < (a0.size : Int)) = true := decide_eq_true c4
   clear c4
   have H' := a_ H
   clear H
   have p5 : 0 ≤ (x0 : Int) := of_decide_eq_true hA_
   have q5 : x0 < (a0.size : Int) := of_decide_eq_true hA_
   have h0 := bt_at a0 x0
   replace p5 := eq_true p5
   replace q5 := eq_true q5
   go_wp2
   go_loopg [3, 17] k1 (fun kq v3 v0 w' => ∃ (x1 : Int) (x2 : Int), v3 = .int .u32 x1 ∧ v0 = .int .i64 x2 ∧ Aside0 (frame_sum.l1 kq a0 x1 (a0.size : Int) x0 x2 = some r) ∧ Aside0 (kq ≤ k1) ∧ Drawn0 w w')
   case atStart => exact ⟨(Go.bits .xor .u32 x3 ((bt a0 x0) % 4294967296)), (0), hW_, hW_, H', ⟨Nat.le_refl _⟩, by repeat (first | exact Drawn0.refl _ | apply Drawn0.step)⟩
   case round =>
    clear H'
    try clear c2
    try clear c2b0
    try clear p2
    try clear c3
    try clear c3b0
    try clear c4
    try clear c4b0
    try clear p5
    try clear q5
    try clear h0
    try clear p5
    try clear q5
    obtain ⟨x1, x2, rfl, rfl, HA, HK2, ⟨m2, rfl⟩⟩ := hrel
    cases gk with
    | zero => exact absurd HA.out (by simp [frame_sum.l1])
    | succ k2 =>
     have H := HA.out
     clear HA
     simp only [frame_sum.l1] at H
     by_cases c6 : x2 < 8
     case neg =>
      rw [if_neg c6] at H
      have c6b0 : decide (x2 < 8) = false := decide_eq_false c6
      clear c6
      have H' := a_ H
      clear H
      go_wp2
      go_roundg k2
      case measure => have := HK1.out; have := HK2.out; omega
      case rel => exact ⟨(x1), (wrap64 (x0 + 1)), hW_, hW_, H', ⟨by have := HK1.out; have := HK2.out; omega⟩, by repeat (first | exact Drawn0.refl _ | apply Drawn0.step)⟩
     rw [if_pos c6] at H
     have c6b0 : decide (x2 < 8) = true := decide_eq_true c6
     clear c6
     by_cases c7 : (Go.bits .and .u32 x1 1) = 1
     case neg =>
      rw [if_neg c7] at H
      have c7b0 : ((Go.bits .and .u32 x1 1) == 1) = false := beq_eq_false_iff_ne.mpr c7
      have c7b1 : ((Go.bits .and .u32 x1 1) != 1) = true := bne_iff_ne.mpr c7
      have H' := a_ H
      clear H
      go_wp2
      go_roundg k2
      case measure => have := HK1.out; have := HK2.out; omega
      case rel => exact ⟨(x1 / 2), (wrap64 (x2 + 1)), hW_, hW_, H', ⟨by have := HK1.out; have := HK2.out; omega⟩, by repeat (first | exact Drawn0.refl _ | apply Drawn0.step)⟩
     rw [if_pos c7] at H
     have c7b0 : ((Go.bits .and .u32 x1 1) == 1) = true := beq_iff_eq.mpr c7
     have c7b1 : ((Go.bits .and .u32 x1 1) != 1) = false := bne_eq_false_iff_eq.mpr c7
     clear c7
     have H' := a_ H
     clear H
     go_wp2
     go_roundg k2
     case measure => have := HK1.out; have := HK2.out; omega
     case rel => exact ⟨(Go.bits .xor .u32 (x1 / 2) 3988292384), (wrap64 (x2 + 1)), hW_, hW_, H', ⟨by have := HK1.out; have := HK2.out; omega⟩, by repeat (first | exact Drawn0.refl _ | apply Drawn0.step)⟩
set_option maxHeartbeats 8000000
set_option maxRecDepth 100000
attribute [local go_sem] max2_int min2_int max_two min_two max_three min_three max_four min_four   -- for this text's walks alone
set_option linter.unusedVariables false
set_option linter.unusedSimpArgs false

def frame_Put.f (k : Nat) (a0 : ByteArray) : Option (ByteArray × Int) := if (a0.size : Int) > 8192 then (some ((⟨#[]⟩ : ByteArray), 1600)) else ((frame_low.f k (((a0.size : Int)) % 4294967296) 2).bind fun t156 => (if t156.length + a0.size < 140737488355328 then ((some (t156 ++ bytesOf a0 : List Int)).bind fun y159 => ((frame_sum.f k (strOfNums y159)).bind fun t162 => ((frame_low.f k t162 4).bind fun t163 => (if y159.length + t163.length < 140737488355328 then (some (strOfNums (y159 ++ t163), 0)) else (none))))) else (none)))
theorem frame_Put.mono : ∀ a0 k, LeO (frame_Put.f k a0) (frame_Put.f (k + 1) a0) := by
 intro a0 k
 unfold frame_Put.f
 repeat' first
  | (with_reducible exact frame_low.mono _ _ _)
  | (with_reducible exact frame_sum.mono _ _)
  | (with_reducible exact LeO.refl _)
  | (with_reducible exact LeO.none _)
  | (with_reducible refine LeO.ite ?_ ?_)
  | (with_reducible refine LeO.bind ?_ (fun _ => ?_))
  | exact frame_low.mono _ _ _
  | exact frame_sum.mono _ _
  | exact LeO.none _
  | refine LeO.ite ?_ ?_
  | refine LeO.bind ?_ (fun _ => ?_)
theorem frame_Put.calls (k : Nat) (a0 : ByteArray) (r1 : ByteArray) (r2 : Int) (w : World) (h : frame_Put.f k a0 = some (r1, r2)) :
 Calls Tryz.prog 20 #[.string a0] w fun e w' => e = .returned (.tuple #[.string r1, .int .i64 r2]) ∧ Below w.heap.size w w' := by
 have HB := a_ (Below.refl w.heap.size w)
 have H := h; unfold frame_Put.f at H
 clear h
 by_cases c2 : (a0.size : Int) > 8192
 case pos =>
  rw [if_pos c2] at H
  have c2b0 : decide (8192 < (a0.size : Int)) = true := decide_eq_true c2
  have c2b1 : decide (8192 < a0.size) = true := decide_eq_true (by omega)
  clear c2
  simp only [Option.some.injEq, Prod.mk.injEq] at H
  obtain ⟨rfl, rfl⟩ := H
  go_enter Tryz.func20, Tryz.ntmps20
  go_wp2
  go_ret2
  exact ⟨hV_, hC_⟩
 rw [if_neg c2] at H
 have c2b0 : decide (8192 < (a0.size : Int)) = false := decide_eq_false c2
 have c2b1 : decide (8192 < a0.size) = false := decide_eq_false (by omega)
 clear c2
 replace H := Option.bind_eq_some_iff.mp H
 obtain ⟨t2, A30, H⟩ := H
 try dsimp only at H
 have A3 := a_ A30
 clear A30
 replace H := ifI_ H; obtain ⟨c4, H⟩ := H
 have LMc4 := a_ c4
 clear c4
 obtain ⟨y0, i0⟩ : ∃ y_ : List Int, y_ = (t2 ++ bytesOf a0) := ⟨_, rfl⟩
 replace H : ((frame_sum.f k (strOfNums y0)).bind fun t1 => ((frame_low.f k t1 4).bind fun t0 => (if y0.length + t0.length < 140737488355328 then (some (strOfNums (y0 ++ t0), 0)) else (none)))) = some (r1, r2) := by first | (rw [i0]; with_reducible exact H) | (have H2_ := (Option.bind_some _ _).symm.trans H; rw [i0]; with_reducible exact H2_) | (have H2_ := (Option.bind_some _ _).symm.trans H; with_reducible exact H2_) | with_reducible exact H | (rw [i0]; exact H) | exact H
 have Y0 := a_ i0
 clear i0
 replace H := Option.bind_eq_some_iff.mp H
 obtain ⟨t1, A50, H⟩ := H
 try dsimp only at H
 have A5 := a_ A50
 clear A50
 replace H := Option.bind_eq_some_iff.mp H
 obtain ⟨t0, A60, H⟩ := H
 try dsimp only at H
 have A6 := a_ A60
 clear A60
 replace H := ifI_ H; obtain ⟨c7, H⟩ := H
 have LMc7 := a_ c7
 clear c7
 obtain ⟨y1, i1⟩ : ∃ y_ : List Int, y_ = (y0 ++ t0) := ⟨_, rfl⟩
 replace H : (some (strOfNums y1, 0)) = some (r1, r2) := by first | (rw [i1]; with_reducible exact H) | (have H2_ := (Option.bind_some _ _).symm.trans H; rw [i1]; with_reducible exact H2_) | (have H2_ := (Option.bind_some _ _).symm.trans H; with_reducible exact H2_) | with_reducible exact H | (rw [i1]; exact H) | exact H
 have Y1 := a_ i1
 clear i1
 simp only [Option.some.injEq, Prod.mk.injEq] at H
 obtain ⟨rfl, rfl⟩ := H
 go_enter Tryz.func20, Tryz.ntmps20
 go_wp2_with (first | ((with_reducible refine gate_callee (f := 41) rfl ?_); refine goesL_ (some 11) rfl rfl Tryz.func41 (by kernel_rfl) rfl #[.int .u32 (((a0.size : Int)) % 4294967296), .int .i64 2] rfl hL_ ?_; (with_reducible refine (frame_low.calls k (((a0.size : Int)) % 4294967296) 2 t2 _ A3.out).mono ?_); rintro e w8 ⟨v1, rfl, ho0, hb⟩; refine ⟨_, rfl, ?_⟩; have P2 := a_ (Kd.R_lower ho0 hS_); replace HB := a_ (below_step hB_ hb); (try clear hb); (try clear hb2); (try clear hk); (try clear hi); (try clear ho0)) | (at_builtin; refine print_append_str (w0 := w) w.heap.size rfl (.tmp 11) _ 47 9 5 rfl Tryz.underlying47 Tryz.underlying9 info5 v1 t2 a0 rfl rfl ?aO ?aB ?aS ?aL ?_; (case aB => exact hB_); (case aO => exact (Kd.own_of_R (hR_ P2.out))); (case aS => exact hS_); (case aL => have := LMc4.out; omega); intro v0 w9 ho0 hb hg; have ho := Kd.R_of_own (h1 := fun _ => rfl) (ok := fun _ => True) ho0 (fun _ _ => trivial); clear ho0; have hat := True.intro; rw [← Y0.out] at ho; change Kd.R (Kd.int .u8) 5 w9 w.heap.size (fun _ => True) v0 y0 at ho; replace HB := a_ (hb); have P0 := a_ (ho); clear P2; clear ho hb hg hat; have hcv10 := own_string (P := Tryz.prog) Tryz.underlying47 Tryz.underlying5 Tryz.underlying9 (Kd.own_of_R P0.out)) | ((with_reducible refine gate_callee (f := 42) rfl ?_); refine goesL_ _ rfl rfl Tryz.func42 (by kernel_rfl) rfl #[.string (strOfNums y0)] rfl hL_ ?_; (with_reducible refine (frame_sum.calls k (strOfNums y0) t1 _ A5.out).mono ?_); rintro e w' ⟨rfl, ⟨nd, rfl⟩⟩; refine ⟨_, rfl, ?_⟩) | ((with_reducible refine gate_callee (f := 41) rfl ?_); refine goesL_ (some 18) rfl rfl Tryz.func41 (by kernel_rfl) rfl #[.int .u32 t1, .int .i64 4] rfl hL_ ?_; (with_reducible refine (frame_low.calls k t1 4 t0 _ A6.out).mono ?_); rintro e w1 ⟨v2, rfl, ho0, hb⟩; refine ⟨_, rfl, ?_⟩; have P1 := a_ (Kd.R_lower (Kd.R_new' ho0 (Kd.R_lt (hR_ P0.out))) hS_); replace P0 := a_ (Kd.R_elder' (hR_ P0.out) (Kd.R_base ho0) hb); replace HB := a_ (below_step hB_ hb); (try clear hb); (try clear hb2); (try clear hk); (try clear hi); (try clear ho0); obtain ⟨a1, o0, e0⟩ := Kd.R_slice P1.out; subst e0) | ((with_reducible refine gate_builtin (b := .append) (xs := #[.tmp 14, .tmp 18]) rfl ?_); at_builtin; refine Kd.R_append_rows (Kd.int .u8) (w0 := w) w.heap.size rfl (.tmp 14) (.tmp 18) 47 5 (.int .u8 0) 1 rfl Tryz.underlying47 info5 rfl (by decide) (by omega) v0 y0 t0 _ _ _ (fun k_ => some k_ ≠ (.slice a1 t0.length o0 : Value).ownBlock) (fun _ => False) rfl rfl ?aO ?aR (fun _ _ h => h) (fun _ h => h.elim) ?aF ?aB ?aS ?aL ?_; (case aR => exact cC_ (Kd.R_reads' P1.out).2.2); (case aB => exact hB_); (case aF => exact (fun k_ hk => Kd.fresh' (Kd.R_lt (hR_ P1.out)) k_ hk)); (case aO => exact (by (with_reducible repeat (first | apply Kd.R_alloc | apply Kd.R_drewN | apply Kd.R_drew)); exact Kd.R_mono P0.out (fun _ hk => hk.2))); (case aS => exact hS_); (case aL => have := LMc7.out; omega); intro v3 w2 ho hb hg hat; rw [← Y1.out] at ho; replace P1 := a_ (Kd.R_after (ok := (fun _ => True)) (hR_ P1.out) hg hat); replace HB := a_ (hb); have P3 := a_ (ho); clear P0; clear ho hb hg hat; have hcv14 := own_string (P := Tryz.prog) Tryz.underlying47 Tryz.underlying5 Tryz.underlying9 (Kd.own_of_R P3.out)))
 go_ret2
 exact ⟨hV_, hC_⟩
set_option maxHeartbeats 8000000
set_option maxRecDepth 100000
attribute [local go_sem] max2_int min2_int max_two min_two max_three min_three max_four min_four   -- for this text's walks alone
set_option linter.unusedVariables false
set_option linter.unusedSimpArgs false

mutual
def sleuthref12_Sum.l0 : Nat → ByteArray → Int → Int → Option (Int)
 | 0, _, _, _ => none
 | k + 1, x0, x3, x4 => if x4 < (x0.size : Int) then (if 0 ≤ x4 then (sleuthref12_Sum.l1 k x0 (Go.bits .xor .u32 x3 ((bt x0 x4) % 4294967296)) x4 0) else (none)) else (some (wrap64 (Go.bits .xor .u32 4294967295 x3)))
def sleuthref12_Sum.l1 : Nat → ByteArray → Int → Int → Int → Option (Int)
 | 0, _, _, _, _ => none
 | k + 1, x0, x3, x4, x5 => if x5 < 8 then (if (Go.bits .and .u32 x3 1) = 1 then (sleuthref12_Sum.l1 k x0 (Go.bits .xor .u32 (x3 / 2) 3988292384) x4 (wrap64 (x5 + 1))) else (sleuthref12_Sum.l1 k x0 (x3 / 2) x4 (wrap64 (x5 + 1)))) else (sleuthref12_Sum.l0 k x0 x3 (wrap64 (x4 + 1)))
end
def sleuthref12_Sum.f (k : Nat) (a0 : ByteArray) : Option (Int) := sleuthref12_Sum.l0 k a0 4294967295 0
theorem sleuthref12_Sum.calls (k : Nat) (a0 : ByteArray) (r : Int) (w : World) (h : sleuthref12_Sum.f k a0 = some r) :
 Calls Tryz.prog 37 #[.string a0] w fun e w' => e = .returned (.int .i64 r) ∧ Drawn0 w w' := by
 have H : (sleuthref12_Sum.l0 k a0 4294967295 0) = some r := h
 clear h
 have H' := a_ H
 clear H
 go_enter Tryz.func37, Tryz.ntmps37
 go_wp2
 go_loopg [3, 4] k (fun kq v3 v4 w' => ∃ (x3 : Int) (x0 : Int), v3 = .int .u32 x3 ∧ v4 = .int .i64 x0 ∧ Aside0 (sleuthref12_Sum.l0 kq a0 x3 x0 = some r) ∧ Aside0 (kq ≤ k) ∧ Drawn0 w w')
 case atStart => exact ⟨(4294967295), (0), hW_, hW_, H', ⟨Nat.le_refl _⟩, by repeat (first | exact Drawn0.refl _ | apply Drawn0.step)⟩
 case round =>
  clear H'
  obtain ⟨x3, x0, rfl, rfl, HA, HK1, ⟨m1, rfl⟩⟩ := hrel
  cases gk with
  | zero => exact absurd HA.out (by simp [sleuthref12_Sum.l0])
  | succ k1 =>
   have H := HA.out
   clear HA
   simp only [sleuthref12_Sum.l0] at H
   by_cases c2 : x0 < (a0.size : Int)
   case neg =>
    rw [if_neg c2] at H
    have c2b0 : decide (x0 < (a0.size : Int)) = false := decide_eq_false c2
    clear c2
    obtain rfl := Option.some.inj H
    go_wp2
    go_ret
    exact ⟨by first | rfl | (simp; done) | (simp [*]; done), by repeat (first | exact Drawn0.refl _ | apply Drawn0.step)⟩

   rw [if_pos c2] at H
   have c2b0 : decide (x0 < (a0.size : Int)) = true := decide_eq_true c2
   clear c2
   replace H := ifI_ H; obtain ⟨c3, H⟩ := H
   have c3b0 : decide (0 ≤ x0) = true := decide_eq_true c3
   clear c3
   have H' := a_ H
   clear H
   have p4 : 0 ≤ (x0 : Int) := of_decide_eq_true hA_
   have q4 : x0 < (a0.size : Int) := of_decide_eq_true hA_
   have h0 := bt_at a0 x0
   replace p4 := eq_true p4
   replace q4 := eq_true q4
   go_wp2
   go_loopg [3, 5] k1 (fun kq v3 v5 w' => ∃ (x1 : Int) (x2 : Int), v3 = .int .u32 x1 ∧ v5 = .int .i64 x2 ∧ Aside0 (sleuthref12_Sum.l1 kq a0 x1 x0 x2 = some r) ∧ Aside0 (kq ≤ k1) ∧ Drawn0 w w')
   case atStart => exact ⟨(Go.bits .xor .u32 x3 ((bt a0 x0) % 4294967296)), (0), hW_, hW_, H', ⟨Nat.le_refl _⟩, by repeat (first | exact Drawn0.refl _ | apply Drawn0.step)⟩
   case round =>
    clear H'
    try clear c2
    try clear c2b0
    try clear p2
    try clear c3
    try clear c3b0
    try clear p4
    try clear q4
    try clear h0
    try clear p4
    try clear q4
    obtain ⟨x1, x2, rfl, rfl, HA, HK2, ⟨m2, rfl⟩⟩ := hrel
    cases gk with
    | zero => exact absurd HA.out (by simp [sleuthref12_Sum.l1])
    | succ k2 =>
     have H := HA.out
     clear HA
     simp only [sleuthref12_Sum.l1] at H
     by_cases c5 : x2 < 8
     case neg =>
      rw [if_neg c5] at H
      have c5b0 : decide (x2 < 8) = false := decide_eq_false c5
      clear c5
      have H' := a_ H
      clear H
      go_wp2
      go_roundg k2
      case measure => have := HK1.out; have := HK2.out; omega
      case rel => exact ⟨(x1), (wrap64 (x0 + 1)), hW_, hW_, H', ⟨by have := HK1.out; have := HK2.out; omega⟩, by repeat (first | exact Drawn0.refl _ | apply Drawn0.step)⟩
     rw [if_pos c5] at H
     have c5b0 : decide (x2 < 8) = true := decide_eq_true c5
     clear c5
     by_cases c6 : (Go.bits .and .u32 x1 1) = 1
     case neg =>
      rw [if_neg c6] at H
      have c6b0 : ((Go.bits .and .u32 x1 1) == 1) = false := beq_eq_false_iff_ne.mpr c6
      have c6b1 : ((Go.bits .and .u32 x1 1) != 1) = true := bne_iff_ne.mpr c6
      have H' := a_ H
      clear H
      go_wp2
      go_roundg k2
      case measure => have := HK1.out; have := HK2.out; omega
      case rel => exact ⟨(x1 / 2), (wrap64 (x2 + 1)), hW_, hW_, H', ⟨by have := HK1.out; have := HK2.out; omega⟩, by repeat (first | exact Drawn0.refl _ | apply Drawn0.step)⟩
     rw [if_pos c6] at H
     have c6b0 : ((Go.bits .and .u32 x1 1) == 1) = true := beq_iff_eq.mpr c6
     have c6b1 : ((Go.bits .and .u32 x1 1) != 1) = false := bne_eq_false_iff_eq.mpr c6
     clear c6
     have H' := a_ H
     clear H
     go_wp2
     go_roundg k2
     case measure => have := HK1.out; have := HK2.out; omega
     case rel => exact ⟨(Go.bits .xor .u32 (x1 / 2) 3988292384), (wrap64 (x2 + 1)), hW_, hW_, H', ⟨by have := HK1.out; have := HK2.out; omega⟩, by repeat (first | exact Drawn0.refl _ | apply Drawn0.step)⟩
def sleuthref12_PutFrame.f (k : Nat) (a0 : ByteArray) : Option (ByteArray × Int) := if (a0.size : Int) > 8192 then (some ((⟨#[]⟩ : ByteArray), 1600)) else ((sleuthref12_sized.f k a0).bind fun t291 => ((sleuthref12_Sum.f k t291).bind fun t292 => ((sleuthref12_low.f k t292 4).bind fun t293 => (if t291.size + t293.size ≤ 9223372036854775807 then (some (t291 ++ t293, 0)) else (none)))))
theorem sleuthref12_PutFrame.calls (k : Nat) (a0 : ByteArray) (r1 : ByteArray) (r2 : Int) (w : World) (h : sleuthref12_PutFrame.f k a0 = some (r1, r2)) :
 Calls Tryz.prog 17 #[.string a0] w fun e w' => e = .returned (.tuple #[.string r1, .int .i64 r2]) ∧ Below w.heap.size w w' := by
 have HB := a_ (Below.refl w.heap.size w)
 have H := h; unfold sleuthref12_PutFrame.f at H
 clear h
 by_cases c2 : (a0.size : Int) > 8192
 case pos =>
  rw [if_pos c2] at H
  have c2b0 : decide (8192 < (a0.size : Int)) = true := decide_eq_true c2
  have c2b1 : decide (8192 < a0.size) = true := decide_eq_true (by omega)
  clear c2
  simp only [Option.some.injEq, Prod.mk.injEq] at H
  obtain ⟨rfl, rfl⟩ := H
  go_enter Tryz.func17, Tryz.ntmps17
  go_wp2
  go_ret2
  exact ⟨hV_, hC_⟩
 rw [if_neg c2] at H
 have c2b0 : decide (8192 < (a0.size : Int)) = false := decide_eq_false c2
 have c2b1 : decide (8192 < a0.size) = false := decide_eq_false (by omega)
 clear c2
 replace H := Option.bind_eq_some_iff.mp H
 obtain ⟨t0, A30, H⟩ := H
 try dsimp only at H
 have A3 := a_ A30
 clear A30
 replace H := Option.bind_eq_some_iff.mp H
 obtain ⟨t1, A40, H⟩ := H
 try dsimp only at H
 have A4 := a_ A40
 clear A40
 replace H := Option.bind_eq_some_iff.mp H
 obtain ⟨t2, A50, H⟩ := H
 try dsimp only at H
 have A5 := a_ A50
 clear A50
 replace H := ifI_ H; obtain ⟨c6, H⟩ := H
 have c6b0 := eq_true c6
 have c6b1 : decide (t0.size + t2.size ≤ 9223372036854775807) = true := decide_eq_true c6
 try have c6b2 : (9223372036854775807 < t0.size + t2.size) = False := eq_false (Nat.not_lt.2 c6)
 simp only [Option.some.injEq, Prod.mk.injEq] at H
 obtain ⟨rfl, rfl⟩ := H
 go_enter Tryz.func17, Tryz.ntmps17
 go_wp2_with (first | ((with_reducible refine gate_callee (f := 36) rfl ?_); refine goesL_ (some 9) rfl rfl Tryz.func36 (by kernel_rfl) rfl #[.string a0] rfl hL_ ?_; (with_reducible refine (sleuthref12_sized.calls k a0 t0 _ A3.out).mono ?_); rintro e w7 ⟨rfl, hb⟩; refine ⟨_, rfl, ?_⟩; replace HB := a_ (below_step hB_ hb); (try clear hb); (try clear hb2); (try clear hk); (try clear hi)) | ((with_reducible refine gate_callee (f := 37) rfl ?_); refine goesL_ _ rfl rfl Tryz.func37 (by kernel_rfl) rfl #[.string t0] rfl hL_ ?_; (with_reducible refine (sleuthref12_Sum.calls k t0 t1 _ A4.out).mono ?_); rintro e w' ⟨rfl, ⟨nd, rfl⟩⟩; refine ⟨_, rfl, ?_⟩) | ((with_reducible refine gate_callee (f := 35) rfl ?_); refine goesL_ (some 13) rfl rfl Tryz.func35 (by kernel_rfl) rfl #[.int .i64 t1, .int .i64 4] rfl hL_ ?_; (with_reducible refine (sleuthref12_low.calls k t1 4 t2 _ A5.out).mono ?_); rintro e w8 ⟨rfl, hb⟩; refine ⟨_, rfl, ?_⟩; replace HB := a_ (below_step hB_ hb); (try clear hb); (try clear hb2); (try clear hk); (try clear hi)))
 go_ret2
 exact ⟨hV_, hC_⟩
set_option maxHeartbeats 8000000
set_option maxRecDepth 100000
attribute [local go_sem] max2_int min2_int max_two min_two max_three min_three max_four min_four   -- for this text's walks alone
set_option linter.unusedVariables false
set_option linter.unusedSimpArgs false

def frame_Get.j0 : Nat → ByteArray → Int → Bool → Option (ByteArray × Int × Int)
 | 0, _, _, _ => none
 | k + 1, x0, x1, x26 => if x26 = true then (some ((⟨#[]⟩ : ByteArray), 0, 1600)) else (if 0 ≤ x1 then (if x1 < (x0.size : Int) then (if 0 ≤ (wrap64 (x1 + 1)) then (if (wrap64 (x1 + 1)) < (x0.size : Int) then (if (wrap64 ((wrap64 (bt x0 x1)) + (wrap64 (256 * (wrap64 (bt x0 (wrap64 (x1 + 1)))))))) > (wrap64 ((wrap64 ((wrap64 ((x0.size : Int) - x1)) - 2)) - 4)) then (some ((⟨#[]⟩ : ByteArray), 0, 1600)) else (if 0 ≤ (wrap64 (x1 + 2)) then (if (wrap64 (x1 + 2)) ≤ (wrap64 ((wrap64 (x1 + 2)) + (wrap64 ((wrap64 (bt x0 x1)) + (wrap64 (256 * (wrap64 (bt x0 (wrap64 (x1 + 1)))))))))) then (if (wrap64 ((wrap64 (x1 + 2)) + (wrap64 ((wrap64 (bt x0 x1)) + (wrap64 (256 * (wrap64 (bt x0 (wrap64 (x1 + 1)))))))))) ≤ (x0.size : Int) then ((frame_Put.f k (x0.extract ((wrap64 (x1 + 2)) : Int).toNat ((wrap64 ((wrap64 (x1 + 2)) + (wrap64 ((wrap64 (bt x0 x1)) + (wrap64 (256 * (wrap64 (bt x0 (wrap64 (x1 + 1)))))))))) : Int).toNat)).bind fun bt310 => (if bt310.2 = 0 then (if x1 ≤ (wrap64 ((wrap64 ((wrap64 (x1 + 2)) + (wrap64 ((wrap64 (bt x0 x1)) + (wrap64 (256 * (wrap64 (bt x0 (wrap64 (x1 + 1)))))))))) + 4)) then (if (wrap64 ((wrap64 ((wrap64 (x1 + 2)) + (wrap64 ((wrap64 (bt x0 x1)) + (wrap64 (256 * (wrap64 (bt x0 (wrap64 (x1 + 1)))))))))) + 4)) ≤ (x0.size : Int) then (if bt310.1.toList = (x0.extract (x1 : Int).toNat ((wrap64 ((wrap64 ((wrap64 (x1 + 2)) + (wrap64 ((wrap64 (bt x0 x1)) + (wrap64 (256 * (wrap64 (bt x0 (wrap64 (x1 + 1)))))))))) + 4)) : Int).toNat).toList then (some (x0.extract ((wrap64 (x1 + 2)) : Int).toNat ((wrap64 ((wrap64 (x1 + 2)) + (wrap64 ((wrap64 (bt x0 x1)) + (wrap64 (256 * (wrap64 (bt x0 (wrap64 (x1 + 1)))))))))) : Int).toNat, wrap64 ((wrap64 ((wrap64 (x1 + 2)) + (wrap64 ((wrap64 (bt x0 x1)) + (wrap64 (256 * (wrap64 (bt x0 (wrap64 (x1 + 1)))))))))) + 4), 0)) else (some ((⟨#[]⟩ : ByteArray), 0, 1600))) else (none)) else (none)) else (some ((⟨#[]⟩ : ByteArray), 0, 1600)))) else (none)) else (none)) else (none))) else (none)) else (none)) else (none)) else (none))
def frame_Get.f (k : Nat) (a0 : ByteArray) (a1 : Int) : Option (ByteArray × Int × Int) := if a1 < 0 then (frame_Get.j0 k a0 a1 true) else (if a1 > (a0.size : Int) then (frame_Get.j0 k a0 a1 true) else (frame_Get.j0 k a0 a1 (decide ((wrap64 ((a0.size : Int) - a1)) < 6))))
theorem frame_Get.mono_l : ∀ k, (∀ y0 y1 y2, LeO (frame_Get.j0 k y0 y1 y2) (frame_Get.j0 (k + 1) y0 y1 y2))
 | 0 => fun _ _ _ r h => by simp [frame_Get.j0] at h
 | k + 1 => by
  have ih0 := frame_Get.mono_l k
  · intro y0 y1 y2
    unfold frame_Get.j0
    repeat' first
    | (with_reducible exact ih0 _ _ _)
    | (with_reducible exact frame_Put.mono _ _)
    | (with_reducible exact LeO.refl _)
    | (with_reducible exact LeO.none _)
    | (with_reducible refine LeO.ite ?_ ?_)
    | (with_reducible refine LeO.bind ?_ (fun _ => ?_))
    | exact ih0 _ _ _
    | exact frame_Put.mono _ _
    | exact LeO.none _
    | refine LeO.ite ?_ ?_
    | refine LeO.bind ?_ (fun _ => ?_)
theorem frame_Get.mono : ∀ a0 a1 k, LeO (frame_Get.f k a0 a1) (frame_Get.f (k + 1) a0 a1) := by
 intro a0 a1 k
 have ih0 := frame_Get.mono_l k
 unfold frame_Get.f
 repeat' first
  | (with_reducible exact ih0 _ _ _)
  | (with_reducible exact frame_Put.mono _ _)
  | (with_reducible exact LeO.refl _)
  | (with_reducible exact LeO.none _)
  | (with_reducible refine LeO.ite ?_ ?_)
  | (with_reducible refine LeO.bind ?_ (fun _ => ?_))
  | exact ih0 _ _ _
  | exact frame_Put.mono _ _
  | exact LeO.none _
  | refine LeO.ite ?_ ?_
  | refine LeO.bind ?_ (fun _ => ?_)
theorem frame_Get.calls (k : Nat) (a0 : ByteArray) (a1 : Int) (r1 : ByteArray) (r2 : Int) (r3 : Int) (w : World) (h : frame_Get.f k a0 a1 = some (r1, r2, r3)) :
 Calls Tryz.prog 45 #[.string a0, .int .i64 a1] w fun e w' => e = .returned (.tuple #[.string r1, .int .i64 r2, .int .i64 r3]) ∧ Below w.heap.size w w' := by
 have HB := a_ (Below.refl w.heap.size w)
 have H := h; unfold frame_Get.f at H
 clear h
 have HC3 := a_ H
 clear H
 go_enter Tryz.func45, Tryz.ntmps45
 go_upto_region 1 with (fail)
 repeat (go_quiet (fail); go_upto_region 1 with (fail))
 go_cut [26] (fun v0 wc => ∃ (kq : Nat) (x0 : Bool), v0 = .bool x0 ∧ Aside0 (frame_Get.j0 kq a0 a1 x0 = some (r1, r2, r3)) ∧ Aside0 (kq ≤ k) ∧ Aside0 (Below w.heap.size w wc))
 case first =>
  have H := HC3.out
  clear HC3
  by_cases c4 : a1 < 0
  case pos =>
   rw [if_pos c4] at H
   have c4b0 : decide (a1 < 0) = true := decide_eq_true c4
   clear c4
   (first | rw [c4b0] | (simp only [i64_w, i32_w]; rw [c4b0]) | skip)
   have H' := a_ H
   clear H
   go_wp2
   repeat (go_quiet (fail); try go_wp2)
   go_meet
   case rel => exact ⟨_, (true), hW_, H', ⟨by first | omega | exact Nat.le_refl _⟩, ⟨hC_⟩⟩
  rw [if_neg c4] at H
  have c4b0 : decide (a1 < 0) = false := decide_eq_false c4
  clear c4
  (first | rw [c4b0] | (simp only [i64_w, i32_w]; rw [c4b0]) | skip)
  by_cases c5 : a1 > (a0.size : Int)
  case pos =>
   rw [if_pos c5] at H
   have c5b0 : decide ((a0.size : Int) < a1) = true := decide_eq_true c5
   clear c5
   have H' := a_ H
   clear H
   go_wp2
   repeat (go_quiet (fail); try go_wp2)
   go_meet
   case rel => exact ⟨_, (true), hW_, H', ⟨by first | omega | exact Nat.le_refl _⟩, ⟨hC_⟩⟩
  rw [if_neg c5] at H
  have c5b0 : decide ((a0.size : Int) < a1) = false := decide_eq_false c5
  clear c5
  have H' := a_ H
  clear H
  go_wp2
  repeat (go_quiet (fail); try go_wp2)
  go_meet
  case rel => exact ⟨_, (decide ((wrap64 ((a0.size : Int) - a1)) < 6)), hW_, H', ⟨by first | omega | exact Nat.le_refl _⟩, ⟨hC_⟩⟩
 case rest =>
  clear HC3
  try clear p2
  try clear c4
  try clear c4b0
  try clear c5
  try clear c5b0
  obtain ⟨kq, x0, rfl, HA, HJ2, HB⟩ := hcut
  cases kq with
  | zero => exact absurd HA.out (by simp [frame_Get.j0])
  | succ kj2 =>
   have H := HA.out
   clear HA
   simp only [frame_Get.j0] at H
   by_cases c6 : x0 = true
   case pos =>
    subst c6
    rw [if_pos rfl] at H
    simp only [Option.some.injEq, Prod.mk.injEq] at H
    obtain ⟨rfl, rfl, rfl⟩ := H
    go_wp2
    repeat (go_quiet (fail); try go_wp2)
    go_ret3
    exact ⟨hV_, hC_⟩
   replace c6 := Bool.eq_false_iff.mpr c6
   subst c6
   rw [if_neg (show ¬ (false = true) by decide)] at H
   replace H := ifI_ H; obtain ⟨c7, H⟩ := H
   have c7b0 : decide (0 ≤ a1) = true := decide_eq_true c7
   clear c7
   replace H := ifI_ H; obtain ⟨c8, H⟩ := H
   have c8b0 : decide (a1 < (a0.size : Int)) = true := decide_eq_true c8
   clear c8
   obtain ⟨ji10, hji10⟩ : ∃ j_ : Int, (wrap64 (a1 + 1)) = j_ := ⟨_, rfl⟩
   replace H : (if 0 ≤ (ji10) then (if (ji10) < (a0.size : Int) then (if (wrap64 ((wrap64 (bt a0 a1)) + (wrap64 (256 * (wrap64 (bt a0 (ji10))))))) > (wrap64 ((wrap64 ((wrap64 ((a0.size : Int) - a1)) - 2)) - 4)) then (some ((⟨#[]⟩ : ByteArray), 0, 1600)) else (if 0 ≤ (wrap64 (a1 + 2)) then (if (wrap64 (a1 + 2)) ≤ (wrap64 ((wrap64 (a1 + 2)) + (wrap64 ((wrap64 (bt a0 a1)) + (wrap64 (256 * (wrap64 (bt a0 (ji10))))))))) then (if (wrap64 ((wrap64 (a1 + 2)) + (wrap64 ((wrap64 (bt a0 a1)) + (wrap64 (256 * (wrap64 (bt a0 (ji10))))))))) ≤ (a0.size : Int) then ((frame_Put.f kj2 (a0.extract ((wrap64 (a1 + 2)) : Int).toNat ((wrap64 ((wrap64 (a1 + 2)) + (wrap64 ((wrap64 (bt a0 a1)) + (wrap64 (256 * (wrap64 (bt a0 (ji10))))))))) : Int).toNat)).bind fun bt310 => (if bt310.2 = 0 then (if a1 ≤ (wrap64 ((wrap64 ((wrap64 (a1 + 2)) + (wrap64 ((wrap64 (bt a0 a1)) + (wrap64 (256 * (wrap64 (bt a0 (ji10))))))))) + 4)) then (if (wrap64 ((wrap64 ((wrap64 (a1 + 2)) + (wrap64 ((wrap64 (bt a0 a1)) + (wrap64 (256 * (wrap64 (bt a0 (ji10))))))))) + 4)) ≤ (a0.size : Int) then (if bt310.1.toList = (a0.extract (a1 : Int).toNat ((wrap64 ((wrap64 ((wrap64 (a1 + 2)) + (wrap64 ((wrap64 (bt a0 a1)) + (wrap64 (256 * (wrap64 (bt a0 (ji10))))))))) + 4)) : Int).toNat).toList then (some (a0.extract ((wrap64 (a1 + 2)) : Int).toNat ((wrap64 ((wrap64 (a1 + 2)) + (wrap64 ((wrap64 (bt a0 a1)) + (wrap64 (256 * (wrap64 (bt a0 (ji10))))))))) : Int).toNat, wrap64 ((wrap64 ((wrap64 (a1 + 2)) + (wrap64 ((wrap64 (bt a0 a1)) + (wrap64 (256 * (wrap64 (bt a0 (ji10))))))))) + 4), 0)) else (some ((⟨#[]⟩ : ByteArray), 0, 1600))) else (none)) else (none)) else (some ((⟨#[]⟩ : ByteArray), 0, 1600)))) else (none)) else (none)) else (none))) else (none)) else (none)) = some (r1, r2, r3) := by first | (rw [hji10] at H; exact H) | (simp only [hji10] at H ⊢; exact H)
   have hji10w : (IntKind.i64.wrap (a1 + 1)) = ji10 := (i64_w _).trans hji10
   replace H := ifI_ H; obtain ⟨c11, H⟩ := H
   have c11b0 : decide (0 ≤ (ji10)) = true := decide_eq_true c11
   clear c11
   replace H := ifI_ H; obtain ⟨c12, H⟩ := H
   have c12b0 : decide ((ji10) < (a0.size : Int)) = true := decide_eq_true c12
   clear c12
   by_cases c14 : (wrap64 ((wrap64 (bt a0 a1)) + (wrap64 (256 * (wrap64 (bt a0 (ji10))))))) > (wrap64 ((wrap64 ((wrap64 ((a0.size : Int) - a1)) - 2)) - 4))
   case pos =>
    rw [if_pos c14] at H
    have c14b0 : decide ((wrap64 ((wrap64 ((wrap64 ((a0.size : Int) - a1)) - 2)) - 4)) < (wrap64 ((wrap64 (bt a0 a1)) + (wrap64 (256 * (wrap64 (bt a0 (ji10)))))))) = true := decide_eq_true c14
    clear c14
    simp only [Option.some.injEq, Prod.mk.injEq] at H
    obtain ⟨rfl, rfl, rfl⟩ := H
    have p9 : 0 ≤ (a1 : Int) := of_decide_eq_true hA_
    have q9 : a1 < (a0.size : Int) := of_decide_eq_true hA_
    have h0 := bt_at a0 a1
    replace p9 := eq_true p9
    replace q9 := eq_true q9
    have p13 : 0 ≤ ((ji10) : Int) := of_decide_eq_true hA_
    have q13 : (ji10) < (a0.size : Int) := of_decide_eq_true hA_
    have h1 := bt_at a0 (ji10)
    replace p13 := eq_true p13
    replace q13 := eq_true q13
    go_wp2
    repeat (go_quiet (fail); try go_wp2)
    go_ret3
    exact ⟨by first | rfl | (simp [errW_none, errW_some] <;> rfl) | (simp only [← hji10]; first | rfl | (simp [errW_none, errW_some] <;> rfl)) | (simp [*, errW_none, errW_some] <;> rfl), hC_⟩
   rw [if_neg c14] at H
   have c14b0 : decide ((wrap64 ((wrap64 ((wrap64 ((a0.size : Int) - a1)) - 2)) - 4)) < (wrap64 ((wrap64 (bt a0 a1)) + (wrap64 (256 * (wrap64 (bt a0 (ji10)))))))) = false := decide_eq_false c14
   clear c14
   obtain ⟨ji15, hji15⟩ : ∃ j_ : Int, (wrap64 (a1 + 2)) = j_ := ⟨_, rfl⟩
   replace H : (if 0 ≤ (ji15) then (if (ji15) ≤ (wrap64 ((ji15) + (wrap64 ((wrap64 (bt a0 a1)) + (wrap64 (256 * (wrap64 (bt a0 (ji10))))))))) then (if (wrap64 ((ji15) + (wrap64 ((wrap64 (bt a0 a1)) + (wrap64 (256 * (wrap64 (bt a0 (ji10))))))))) ≤ (a0.size : Int) then ((frame_Put.f kj2 (a0.extract ((ji15) : Int).toNat ((wrap64 ((ji15) + (wrap64 ((wrap64 (bt a0 a1)) + (wrap64 (256 * (wrap64 (bt a0 (ji10))))))))) : Int).toNat)).bind fun bt310 => (if bt310.2 = 0 then (if a1 ≤ (wrap64 ((wrap64 ((ji15) + (wrap64 ((wrap64 (bt a0 a1)) + (wrap64 (256 * (wrap64 (bt a0 (ji10))))))))) + 4)) then (if (wrap64 ((wrap64 ((ji15) + (wrap64 ((wrap64 (bt a0 a1)) + (wrap64 (256 * (wrap64 (bt a0 (ji10))))))))) + 4)) ≤ (a0.size : Int) then (if bt310.1.toList = (a0.extract (a1 : Int).toNat ((wrap64 ((wrap64 ((ji15) + (wrap64 ((wrap64 (bt a0 a1)) + (wrap64 (256 * (wrap64 (bt a0 (ji10))))))))) + 4)) : Int).toNat).toList then (some (a0.extract ((ji15) : Int).toNat ((wrap64 ((ji15) + (wrap64 ((wrap64 (bt a0 a1)) + (wrap64 (256 * (wrap64 (bt a0 (ji10))))))))) : Int).toNat, wrap64 ((wrap64 ((ji15) + (wrap64 ((wrap64 (bt a0 a1)) + (wrap64 (256 * (wrap64 (bt a0 (ji10))))))))) + 4), 0)) else (some ((⟨#[]⟩ : ByteArray), 0, 1600))) else (none)) else (none)) else (some ((⟨#[]⟩ : ByteArray), 0, 1600)))) else (none)) else (none)) else (none)) = some (r1, r2, r3) := by first | (rw [hji15] at H; exact H) | (simp only [hji15] at H ⊢; exact H)
   have hji15w : (IntKind.i64.wrap (a1 + 2)) = ji15 := (i64_w _).trans hji15
   replace H := ifI_ H; obtain ⟨c16, H⟩ := H
   have c16b0 := eq_true c16
   have c16b1 : decide (0 ≤ (ji15)) = true := decide_eq_true c16
   clear c16
   replace H := ifI_ H; obtain ⟨c17, H⟩ := H
   have c17b0 := eq_true c17
   have c17b1 : decide ((ji15) ≤ (wrap64 ((ji15) + (wrap64 ((wrap64 (bt a0 a1)) + (wrap64 (256 * (wrap64 (bt a0 (ji10)))))))))) = true := decide_eq_true c17
   replace H := ifI_ H; obtain ⟨c18, H⟩ := H
   have c18b0 := eq_true c18
   have c18b1 : decide ((wrap64 ((ji15) + (wrap64 ((wrap64 (bt a0 a1)) + (wrap64 (256 * (wrap64 (bt a0 (ji10))))))))) ≤ (a0.size : Int)) = true := decide_eq_true c18
   replace H := Option.bind_eq_some_iff.mp H
   obtain ⟨⟨t0, t1⟩, A190, H⟩ := H
   try dsimp only at H
   have A19 := a_ A190
   clear A190
   by_cases c20 : t1 = 0
   case neg =>
    rw [if_neg c20] at H
    have c20b0 : (t1 == 0) = false := beq_eq_false_iff_ne.mpr c20
    have c20b1 : (t1 != 0) = true := bne_iff_ne.mpr c20
    simp only [Option.some.injEq, Prod.mk.injEq] at H
    obtain ⟨rfl, rfl, rfl⟩ := H
    have p9 : 0 ≤ (a1 : Int) := of_decide_eq_true hA_
    have q9 : a1 < (a0.size : Int) := of_decide_eq_true hA_
    have h0 := bt_at a0 a1
    replace p9 := eq_true p9
    replace q9 := eq_true q9
    have p13 : 0 ≤ ((ji10) : Int) := of_decide_eq_true hA_
    have q13 : (ji10) < (a0.size : Int) := of_decide_eq_true hA_
    have h1 := bt_at a0 (ji10)
    replace p13 := eq_true p13
    replace q13 := eq_true q13
    go_wp2_with (first | (go_at_call 20; (with_reducible refine (frame_Put.calls kj2 (a0.extract ((ji15) : Int).toNat ((wrap64 ((ji15) + (wrap64 ((wrap64 (bt a0 a1)) + (wrap64 (256 * (wrap64 (bt a0 (ji10))))))))) : Int).toNat) t0 t1 _ A19.out).mono ?_); rintro e w0 ⟨rfl, hb⟩; replace HB := a_ (below_step hB_ hb); (try clear hb); (try clear hb2); (try clear hk); (try clear hi)))
    repeat (go_quiet (first | (go_at_call 20; (with_reducible refine (frame_Put.calls kj2 (a0.extract ((ji15) : Int).toNat ((wrap64 ((ji15) + (wrap64 ((wrap64 (bt a0 a1)) + (wrap64 (256 * (wrap64 (bt a0 (ji10))))))))) : Int).toNat) t0 t1 _ A19.out).mono ?_); rintro e w0 ⟨rfl, hb⟩; replace HB := a_ (below_step hB_ hb); (try clear hb); (try clear hb2); (try clear hk); (try clear hi))); try go_wp2_with (first | (go_at_call 20; (with_reducible refine (frame_Put.calls kj2 (a0.extract ((ji15) : Int).toNat ((wrap64 ((ji15) + (wrap64 ((wrap64 (bt a0 a1)) + (wrap64 (256 * (wrap64 (bt a0 (ji10))))))))) : Int).toNat) t0 t1 _ A19.out).mono ?_); rintro e w0 ⟨rfl, hb⟩; replace HB := a_ (below_step hB_ hb); (try clear hb); (try clear hb2); (try clear hk); (try clear hi))))
    go_ret3
    exact ⟨by first | rfl | (simp [errW_none, errW_some] <;> rfl) | (simp only [← hji10, ← hji15]; first | rfl | (simp [errW_none, errW_some] <;> rfl)) | (simp [*, errW_none, errW_some] <;> rfl), hC_⟩
   rw [if_pos c20] at H
   have c20b0 : (t1 == 0) = true := beq_iff_eq.mpr c20
   have c20b1 : (t1 != 0) = false := bne_eq_false_iff_eq.mpr c20
   clear c20
   have c21b0 := eq_true (of_decide_eq_true hA_ : 0 ≤ a1)
   replace H := ifI_ H; obtain ⟨c22, H⟩ := H
   have c22b0 := eq_true c22
   have c22b1 : decide (a1 ≤ (wrap64 ((wrap64 ((ji15) + (wrap64 ((wrap64 (bt a0 a1)) + (wrap64 (256 * (wrap64 (bt a0 (ji10))))))))) + 4))) = true := decide_eq_true c22
   replace H := ifI_ H; obtain ⟨c23, H⟩ := H
   have c23b0 := eq_true c23
   have c23b1 : decide ((wrap64 ((wrap64 ((ji15) + (wrap64 ((wrap64 (bt a0 a1)) + (wrap64 (256 * (wrap64 (bt a0 (ji10))))))))) + 4)) ≤ (a0.size : Int)) = true := decide_eq_true c23
   by_cases c24 : t0.toList = (a0.extract (a1 : Int).toNat ((wrap64 ((wrap64 ((ji15) + (wrap64 ((wrap64 (bt a0 a1)) + (wrap64 (256 * (wrap64 (bt a0 (ji10))))))))) + 4)) : Int).toNat).toList
   case neg =>
    rw [if_neg c24] at H
    have c24b0 : (t0.toList == (a0.extract (a1 : Int).toNat ((wrap64 ((wrap64 ((ji15) + (wrap64 ((wrap64 (bt a0 a1)) + (wrap64 (256 * (wrap64 (bt a0 (ji10))))))))) + 4)) : Int).toNat).toList) = false := beq_eq_false_iff_ne.mpr c24
    have c24b1 : (t0.toList != (a0.extract (a1 : Int).toNat ((wrap64 ((wrap64 ((ji15) + (wrap64 ((wrap64 (bt a0 a1)) + (wrap64 (256 * (wrap64 (bt a0 (ji10))))))))) + 4)) : Int).toNat).toList) = true := bne_iff_ne.mpr c24
    (try (have c24b0w := c24b0; try (rw [show wrap64 (bt a0 a1) = (bt a0 a1) from by unfold wrap64; omega] at c24b0w); try (rw [show wrap64 (bt a0 (ji10)) = (bt a0 (ji10)) from by unfold wrap64; omega] at c24b0w); try (rw [show wrap64 (256 * (wrap64 (bt a0 (ji10)))) = (256 * (wrap64 (bt a0 (ji10)))) from by unfold wrap64; omega] at c24b0w); try (rw [show wrap64 ((wrap64 (bt a0 a1)) + (wrap64 (256 * (wrap64 (bt a0 (ji10)))))) = ((wrap64 (bt a0 a1)) + (wrap64 (256 * (wrap64 (bt a0 (ji10)))))) from by unfold wrap64; omega] at c24b0w); try (rw [show wrap64 ((ji15) + (wrap64 ((wrap64 (bt a0 a1)) + (wrap64 (256 * (wrap64 (bt a0 (ji10)))))))) = ((ji15) + (wrap64 ((wrap64 (bt a0 a1)) + (wrap64 (256 * (wrap64 (bt a0 (ji10)))))))) from by unfold wrap64; omega] at c24b0w); try (rw [show wrap64 ((wrap64 ((ji15) + (wrap64 ((wrap64 (bt a0 a1)) + (wrap64 (256 * (wrap64 (bt a0 (ji10))))))))) + 4) = ((wrap64 ((ji15) + (wrap64 ((wrap64 (bt a0 a1)) + (wrap64 (256 * (wrap64 (bt a0 (ji10))))))))) + 4) from by unfold wrap64; omega] at c24b0w)))
    (try (have c24b1w := c24b1; try (rw [show wrap64 (bt a0 a1) = (bt a0 a1) from by unfold wrap64; omega] at c24b1w); try (rw [show wrap64 (bt a0 (ji10)) = (bt a0 (ji10)) from by unfold wrap64; omega] at c24b1w); try (rw [show wrap64 (256 * (wrap64 (bt a0 (ji10)))) = (256 * (wrap64 (bt a0 (ji10)))) from by unfold wrap64; omega] at c24b1w); try (rw [show wrap64 ((wrap64 (bt a0 a1)) + (wrap64 (256 * (wrap64 (bt a0 (ji10)))))) = ((wrap64 (bt a0 a1)) + (wrap64 (256 * (wrap64 (bt a0 (ji10)))))) from by unfold wrap64; omega] at c24b1w); try (rw [show wrap64 ((ji15) + (wrap64 ((wrap64 (bt a0 a1)) + (wrap64 (256 * (wrap64 (bt a0 (ji10)))))))) = ((ji15) + (wrap64 ((wrap64 (bt a0 a1)) + (wrap64 (256 * (wrap64 (bt a0 (ji10)))))))) from by unfold wrap64; omega] at c24b1w); try (rw [show wrap64 ((wrap64 ((ji15) + (wrap64 ((wrap64 (bt a0 a1)) + (wrap64 (256 * (wrap64 (bt a0 (ji10))))))))) + 4) = ((wrap64 ((ji15) + (wrap64 ((wrap64 (bt a0 a1)) + (wrap64 (256 * (wrap64 (bt a0 (ji10))))))))) + 4) from by unfold wrap64; omega] at c24b1w)))
    simp only [Option.some.injEq, Prod.mk.injEq] at H
    obtain ⟨rfl, rfl, rfl⟩ := H
    have p9 : 0 ≤ (a1 : Int) := of_decide_eq_true hA_
    have q9 : a1 < (a0.size : Int) := of_decide_eq_true hA_
    have h0 := bt_at a0 a1
    replace p9 := eq_true p9
    replace q9 := eq_true q9
    have p13 : 0 ≤ ((ji10) : Int) := of_decide_eq_true hA_
    have q13 : (ji10) < (a0.size : Int) := of_decide_eq_true hA_
    have h1 := bt_at a0 (ji10)
    replace p13 := eq_true p13
    replace q13 := eq_true q13
    go_wp2_with (first | (go_at_call 20; (with_reducible refine (frame_Put.calls kj2 (a0.extract ((ji15) : Int).toNat ((wrap64 ((ji15) + (wrap64 ((wrap64 (bt a0 a1)) + (wrap64 (256 * (wrap64 (bt a0 (ji10))))))))) : Int).toNat) t0 t1 _ A19.out).mono ?_); rintro e w1 ⟨rfl, hb⟩; replace HB := a_ (below_step hB_ hb); (try clear hb); (try clear hb2); (try clear hk); (try clear hi)))
    repeat (go_quiet (first | (go_at_call 20; (with_reducible refine (frame_Put.calls kj2 (a0.extract ((ji15) : Int).toNat ((wrap64 ((ji15) + (wrap64 ((wrap64 (bt a0 a1)) + (wrap64 (256 * (wrap64 (bt a0 (ji10))))))))) : Int).toNat) t0 t1 _ A19.out).mono ?_); rintro e w1 ⟨rfl, hb⟩; replace HB := a_ (below_step hB_ hb); (try clear hb); (try clear hb2); (try clear hk); (try clear hi))); try go_wp2_with (first | (go_at_call 20; (with_reducible refine (frame_Put.calls kj2 (a0.extract ((ji15) : Int).toNat ((wrap64 ((ji15) + (wrap64 ((wrap64 (bt a0 a1)) + (wrap64 (256 * (wrap64 (bt a0 (ji10))))))))) : Int).toNat) t0 t1 _ A19.out).mono ?_); rintro e w1 ⟨rfl, hb⟩; replace HB := a_ (below_step hB_ hb); (try clear hb); (try clear hb2); (try clear hk); (try clear hi))))
    go_ret3
    exact ⟨by first | rfl | (simp [errW_none, errW_some] <;> rfl) | (simp only [← hji10, ← hji15]; first | rfl | (simp [errW_none, errW_some] <;> rfl)) | (simp [*, errW_none, errW_some] <;> rfl), hC_⟩
   rw [if_pos c24] at H
   have c24b0 : (t0.toList == (a0.extract (a1 : Int).toNat ((wrap64 ((wrap64 ((ji15) + (wrap64 ((wrap64 (bt a0 a1)) + (wrap64 (256 * (wrap64 (bt a0 (ji10))))))))) + 4)) : Int).toNat).toList) = true := beq_iff_eq.mpr c24
   have c24b1 : (t0.toList != (a0.extract (a1 : Int).toNat ((wrap64 ((wrap64 ((ji15) + (wrap64 ((wrap64 (bt a0 a1)) + (wrap64 (256 * (wrap64 (bt a0 (ji10))))))))) + 4)) : Int).toNat).toList) = false := bne_eq_false_iff_eq.mpr c24
   (try (have c24b0w := c24b0; try (rw [show wrap64 (bt a0 a1) = (bt a0 a1) from by unfold wrap64; omega] at c24b0w); try (rw [show wrap64 (bt a0 (ji10)) = (bt a0 (ji10)) from by unfold wrap64; omega] at c24b0w); try (rw [show wrap64 (256 * (wrap64 (bt a0 (ji10)))) = (256 * (wrap64 (bt a0 (ji10)))) from by unfold wrap64; omega] at c24b0w); try (rw [show wrap64 ((wrap64 (bt a0 a1)) + (wrap64 (256 * (wrap64 (bt a0 (ji10)))))) = ((wrap64 (bt a0 a1)) + (wrap64 (256 * (wrap64 (bt a0 (ji10)))))) from by unfold wrap64; omega] at c24b0w); try (rw [show wrap64 ((ji15) + (wrap64 ((wrap64 (bt a0 a1)) + (wrap64 (256 * (wrap64 (bt a0 (ji10)))))))) = ((ji15) + (wrap64 ((wrap64 (bt a0 a1)) + (wrap64 (256 * (wrap64 (bt a0 (ji10)))))))) from by unfold wrap64; omega] at c24b0w); try (rw [show wrap64 ((wrap64 ((ji15) + (wrap64 ((wrap64 (bt a0 a1)) + (wrap64 (256 * (wrap64 (bt a0 (ji10))))))))) + 4) = ((wrap64 ((ji15) + (wrap64 ((wrap64 (bt a0 a1)) + (wrap64 (256 * (wrap64 (bt a0 (ji10))))))))) + 4) from by unfold wrap64; omega] at c24b0w)))
   (try (have c24b1w := c24b1; try (rw [show wrap64 (bt a0 a1) = (bt a0 a1) from by unfold wrap64; omega] at c24b1w); try (rw [show wrap64 (bt a0 (ji10)) = (bt a0 (ji10)) from by unfold wrap64; omega] at c24b1w); try (rw [show wrap64 (256 * (wrap64 (bt a0 (ji10)))) = (256 * (wrap64 (bt a0 (ji10)))) from by unfold wrap64; omega] at c24b1w); try (rw [show wrap64 ((wrap64 (bt a0 a1)) + (wrap64 (256 * (wrap64 (bt a0 (ji10)))))) = ((wrap64 (bt a0 a1)) + (wrap64 (256 * (wrap64 (bt a0 (ji10)))))) from by unfold wrap64; omega] at c24b1w); try (rw [show wrap64 ((ji15) + (wrap64 ((wrap64 (bt a0 a1)) + (wrap64 (256 * (wrap64 (bt a0 (ji10)))))))) = ((ji15) + (wrap64 ((wrap64 (bt a0 a1)) + (wrap64 (256 * (wrap64 (bt a0 (ji10)))))))) from by unfold wrap64; omega] at c24b1w); try (rw [show wrap64 ((wrap64 ((ji15) + (wrap64 ((wrap64 (bt a0 a1)) + (wrap64 (256 * (wrap64 (bt a0 (ji10))))))))) + 4) = ((wrap64 ((ji15) + (wrap64 ((wrap64 (bt a0 a1)) + (wrap64 (256 * (wrap64 (bt a0 (ji10))))))))) + 4) from by unfold wrap64; omega] at c24b1w)))
   clear c24
   simp only [Option.some.injEq, Prod.mk.injEq] at H
   obtain ⟨rfl, rfl, rfl⟩ := H
   have p9 : 0 ≤ (a1 : Int) := of_decide_eq_true hA_
   have q9 : a1 < (a0.size : Int) := of_decide_eq_true hA_
   have h0 := bt_at a0 a1
   replace p9 := eq_true p9
   replace q9 := eq_true q9
   have p13 : 0 ≤ ((ji10) : Int) := of_decide_eq_true hA_
   have q13 : (ji10) < (a0.size : Int) := of_decide_eq_true hA_
   have h1 := bt_at a0 (ji10)
   replace p13 := eq_true p13
   replace q13 := eq_true q13
   go_wp2_with (first | (go_at_call 20; (with_reducible refine (frame_Put.calls kj2 (a0.extract ((ji15) : Int).toNat ((wrap64 ((ji15) + (wrap64 ((wrap64 (bt a0 a1)) + (wrap64 (256 * (wrap64 (bt a0 (ji10))))))))) : Int).toNat) t0 t1 _ A19.out).mono ?_); rintro e w2 ⟨rfl, hb⟩; replace HB := a_ (below_step hB_ hb); (try clear hb); (try clear hb2); (try clear hk); (try clear hi)))
   repeat (go_quiet (first | (go_at_call 20; (with_reducible refine (frame_Put.calls kj2 (a0.extract ((ji15) : Int).toNat ((wrap64 ((ji15) + (wrap64 ((wrap64 (bt a0 a1)) + (wrap64 (256 * (wrap64 (bt a0 (ji10))))))))) : Int).toNat) t0 t1 _ A19.out).mono ?_); rintro e w2 ⟨rfl, hb⟩; replace HB := a_ (below_step hB_ hb); (try clear hb); (try clear hb2); (try clear hk); (try clear hi))); try go_wp2_with (first | (go_at_call 20; (with_reducible refine (frame_Put.calls kj2 (a0.extract ((ji15) : Int).toNat ((wrap64 ((ji15) + (wrap64 ((wrap64 (bt a0 a1)) + (wrap64 (256 * (wrap64 (bt a0 (ji10))))))))) : Int).toNat) t0 t1 _ A19.out).mono ?_); rintro e w2 ⟨rfl, hb⟩; replace HB := a_ (below_step hB_ hb); (try clear hb); (try clear hb2); (try clear hk); (try clear hi))))
   go_ret3
   exact ⟨by first | rfl | (simp [errW_none, errW_some] <;> rfl) | (simp only [← hji10, ← hji15]; first | rfl | (simp [errW_none, errW_some] <;> rfl)) | (simp [*, errW_none, errW_some] <;> rfl), hC_⟩
set_option maxHeartbeats 8000000
set_option maxRecDepth 100000
attribute [local go_sem] max2_int min2_int max_two min_two max_three min_three max_four min_four   -- for this text's walks alone
set_option linter.unusedVariables false
set_option linter.unusedSimpArgs false

mutual
def sleuthref12_GetFrame.j0 : Nat → ByteArray → Int → Bool → Option (ByteArray × Int × Int)
 | 0, _, _, _ => none
 | k + 1, x0, x1, x25 => if x25 = true then (some ((⟨#[]⟩ : ByteArray), 0, 1600)) else (if 0 ≤ x1 then (if x1 < (x0.size : Int) then (if 0 ≤ (wrap64 (x1 + 1)) then (if (wrap64 (x1 + 1)) < (x0.size : Int) then (if (wrap64 ((wrap64 (bt x0 x1)) + (wrap64 (256 * (wrap64 (bt x0 (wrap64 (x1 + 1)))))))) > 8192 then (sleuthref12_GetFrame.j1 k x0 x1 (wrap64 ((wrap64 (bt x0 x1)) + (wrap64 (256 * (wrap64 (bt x0 (wrap64 (x1 + 1)))))))) true) else (sleuthref12_GetFrame.j1 k x0 x1 (wrap64 ((wrap64 (bt x0 x1)) + (wrap64 (256 * (wrap64 (bt x0 (wrap64 (x1 + 1)))))))) (decide ((wrap64 ((x0.size : Int) - x1)) < (wrap64 (6 + (wrap64 ((wrap64 (bt x0 x1)) + (wrap64 (256 * (wrap64 (bt x0 (wrap64 (x1 + 1)))))))))))))) else (none)) else (none)) else (none)) else (none))
def sleuthref12_GetFrame.j1 : Nat → ByteArray → Int → Int → Bool → Option (ByteArray × Int × Int)
 | 0, _, _, _, _ => none
 | k + 1, x0, x1, x7, x47 => if x47 = true then (some ((⟨#[]⟩ : ByteArray), 0, 1600)) else (if 0 ≤ (wrap64 (x1 + 2)) then (if (wrap64 (x1 + 2)) ≤ (wrap64 ((wrap64 (x1 + 2)) + x7)) then (if (wrap64 ((wrap64 (x1 + 2)) + x7)) ≤ (x0.size : Int) then ((sleuthref12_PutFrame.f k (x0.extract ((wrap64 (x1 + 2)) : Int).toNat ((wrap64 ((wrap64 (x1 + 2)) + x7)) : Int).toNat)).bind fun bt312 => (if 0 ≤ x1 then (if x1 ≤ (wrap64 ((wrap64 (x1 + 6)) + x7)) then (if (wrap64 ((wrap64 (x1 + 6)) + x7)) ≤ (x0.size : Int) then (if bt312.1.toList = (x0.extract (x1 : Int).toNat ((wrap64 ((wrap64 (x1 + 6)) + x7)) : Int).toNat).toList then (some (x0.extract ((wrap64 (x1 + 2)) : Int).toNat ((wrap64 ((wrap64 (x1 + 2)) + x7)) : Int).toNat, wrap64 ((wrap64 (x1 + 6)) + x7), 0)) else (some ((⟨#[]⟩ : ByteArray), 0, 1600))) else (none)) else (none)) else (none))) else (none)) else (none)) else (none))
end
def sleuthref12_GetFrame.f (k : Nat) (a0 : ByteArray) (a1 : Int) : Option (ByteArray × Int × Int) := if a1 < 0 then (sleuthref12_GetFrame.j0 k a0 a1 true) else (if a1 > (a0.size : Int) then (sleuthref12_GetFrame.j0 k a0 a1 true) else (sleuthref12_GetFrame.j0 k a0 a1 (decide ((wrap64 ((a0.size : Int) - a1)) < 6))))
theorem sleuthref12_GetFrame.calls (k : Nat) (a0 : ByteArray) (a1 : Int) (r1 : ByteArray) (r2 : Int) (r3 : Int) (w : World) (h : sleuthref12_GetFrame.f k a0 a1 = some (r1, r2, r3)) :
 Calls Tryz.prog 28 #[.string a0, .int .i64 a1] w fun e w' => e = .returned (.tuple #[.string r1, .int .i64 r2, .int .i64 r3]) ∧ Below w.heap.size w w' := by
 have HB := a_ (Below.refl w.heap.size w)
 have H := h; unfold sleuthref12_GetFrame.f at H
 clear h
 have HC3 := a_ H
 clear H
 go_enter Tryz.func28, Tryz.ntmps28
 go_upto_region 1 with (fail)
 repeat (go_quiet (fail); go_upto_region 1 with (fail))
 go_cut [25] (fun v0 wc => ∃ (kq : Nat) (x0 : Bool), v0 = .bool x0 ∧ Aside0 (sleuthref12_GetFrame.j0 kq a0 a1 x0 = some (r1, r2, r3)) ∧ Aside0 (kq ≤ k) ∧ Aside0 (Below w.heap.size w wc))
 case first =>
  have H := HC3.out
  clear HC3
  by_cases c4 : a1 < 0
  case pos =>
   rw [if_pos c4] at H
   have c4b0 : decide (a1 < 0) = true := decide_eq_true c4
   clear c4
   (first | rw [c4b0] | (simp only [i64_w, i32_w]; rw [c4b0]) | skip)
   have H' := a_ H
   clear H
   go_wp2
   repeat (go_quiet (fail); try go_wp2)
   go_meet
   case rel => exact ⟨_, (true), hW_, H', ⟨by first | omega | exact Nat.le_refl _⟩, ⟨hC_⟩⟩
  rw [if_neg c4] at H
  have c4b0 : decide (a1 < 0) = false := decide_eq_false c4
  clear c4
  (first | rw [c4b0] | (simp only [i64_w, i32_w]; rw [c4b0]) | skip)
  by_cases c5 : a1 > (a0.size : Int)
  case pos =>
   rw [if_pos c5] at H
   have c5b0 : decide ((a0.size : Int) < a1) = true := decide_eq_true c5
   clear c5
   have H' := a_ H
   clear H
   go_wp2
   repeat (go_quiet (fail); try go_wp2)
   go_meet
   case rel => exact ⟨_, (true), hW_, H', ⟨by first | omega | exact Nat.le_refl _⟩, ⟨hC_⟩⟩
  rw [if_neg c5] at H
  have c5b0 : decide ((a0.size : Int) < a1) = false := decide_eq_false c5
  clear c5
  have H' := a_ H
  clear H
  go_wp2
  repeat (go_quiet (fail); try go_wp2)
  go_meet
  case rel => exact ⟨_, (decide ((wrap64 ((a0.size : Int) - a1)) < 6)), hW_, H', ⟨by first | omega | exact Nat.le_refl _⟩, ⟨hC_⟩⟩
 case rest =>
  clear HC3
  try clear c2
  try clear p2
  try clear c4
  try clear c4b0
  try clear c5
  try clear c5b0
  obtain ⟨kq, x0, rfl, HA, HJ2, HB⟩ := hcut
  cases kq with
  | zero => exact absurd HA.out (by simp [sleuthref12_GetFrame.j0])
  | succ kj2 =>
   have H := HA.out
   clear HA
   simp only [sleuthref12_GetFrame.j0] at H
   by_cases c6 : x0 = true
   case pos =>
    subst c6
    rw [if_pos rfl] at H
    simp only [Option.some.injEq, Prod.mk.injEq] at H
    obtain ⟨rfl, rfl, rfl⟩ := H
    go_wp2
    repeat (go_quiet (fail); try go_wp2)
    go_ret3
    exact ⟨hV_, hC_⟩
   replace c6 := Bool.eq_false_iff.mpr c6
   subst c6
   rw [if_neg (show ¬ (false = true) by decide)] at H
   replace H := ifI_ H; obtain ⟨c7, H⟩ := H
   have c7b0 : decide (0 ≤ a1) = true := decide_eq_true c7
   clear c7
   replace H := ifI_ H; obtain ⟨c8, H⟩ := H
   have c8b0 : decide (a1 < (a0.size : Int)) = true := decide_eq_true c8
   clear c8
   obtain ⟨ji10, hji10⟩ : ∃ j_ : Int, (wrap64 (a1 + 1)) = j_ := ⟨_, rfl⟩
   replace H : (if 0 ≤ (ji10) then (if (ji10) < (a0.size : Int) then (if (wrap64 ((wrap64 (bt a0 a1)) + (wrap64 (256 * (wrap64 (bt a0 (ji10))))))) > 8192 then (sleuthref12_GetFrame.j1 kj2 a0 a1 (wrap64 ((wrap64 (bt a0 a1)) + (wrap64 (256 * (wrap64 (bt a0 (ji10))))))) true) else (sleuthref12_GetFrame.j1 kj2 a0 a1 (wrap64 ((wrap64 (bt a0 a1)) + (wrap64 (256 * (wrap64 (bt a0 (ji10))))))) (decide ((wrap64 ((a0.size : Int) - a1)) < (wrap64 (6 + (wrap64 ((wrap64 (bt a0 a1)) + (wrap64 (256 * (wrap64 (bt a0 (ji10))))))))))))) else (none)) else (none)) = some (r1, r2, r3) := by first | (rw [hji10] at H; exact H) | (simp only [hji10] at H ⊢; exact H)
   have hji10w : (IntKind.i64.wrap (a1 + 1)) = ji10 := (i64_w _).trans hji10
   replace H := ifI_ H; obtain ⟨c11, H⟩ := H
   have c11b0 : decide (0 ≤ (ji10)) = true := decide_eq_true c11
   clear c11
   replace H := ifI_ H; obtain ⟨c12, H⟩ := H
   have c12b0 : decide ((ji10) < (a0.size : Int)) = true := decide_eq_true c12
   clear c12
   have HC14 := a_ H
   clear H
   have p9 : 0 ≤ (a1 : Int) := of_decide_eq_true hA_
   have q9 : a1 < (a0.size : Int) := of_decide_eq_true hA_
   have h0 := bt_at a0 a1
   replace p9 := eq_true p9
   replace q9 := eq_true q9
   have p13 : 0 ≤ ((ji10) : Int) := of_decide_eq_true hA_
   have q13 : (ji10) < (a0.size : Int) := of_decide_eq_true hA_
   have h1 := bt_at a0 (ji10)
   replace p13 := eq_true p13
   replace q13 := eq_true q13
   go_upto_region 4 with (fail)
   repeat (go_quiet (fail); go_upto_region 4 with (fail))
   go_cut [47] (fun v1 wc => ∃ (kq : Nat) (x1 : Bool), v1 = .bool x1 ∧ Aside0 (sleuthref12_GetFrame.j1 kq a0 a1 (wrap64 ((wrap64 (bt a0 a1)) + (wrap64 (256 * (wrap64 (bt a0 (ji10))))))) x1 = some (r1, r2, r3)) ∧ Aside0 (kq ≤ kj2) ∧ Aside0 (Below w.heap.size w wc))
   case first =>
    have H := HC14.out
    clear HC14
    by_cases c15 : (wrap64 ((wrap64 (bt a0 a1)) + (wrap64 (256 * (wrap64 (bt a0 (ji10))))))) > 8192
    case pos =>
     rw [if_pos c15] at H
     have c15b0 : decide (8192 < (wrap64 ((wrap64 (bt a0 a1)) + (wrap64 (256 * (wrap64 (bt a0 (ji10)))))))) = true := decide_eq_true c15
     (try (have c15b0w := c15b0; try (rw [show wrap64 (bt a0 a1) = (bt a0 a1) from by unfold wrap64; omega] at c15b0w); try (rw [show wrap64 (bt a0 (ji10)) = (bt a0 (ji10)) from by unfold wrap64; omega] at c15b0w); try (rw [show wrap64 (256 * (wrap64 (bt a0 (ji10)))) = (256 * (wrap64 (bt a0 (ji10)))) from by unfold wrap64; omega] at c15b0w); try (rw [show wrap64 ((wrap64 (bt a0 a1)) + (wrap64 (256 * (wrap64 (bt a0 (ji10)))))) = ((wrap64 (bt a0 a1)) + (wrap64 (256 * (wrap64 (bt a0 (ji10)))))) from by unfold wrap64; omega] at c15b0w)))
     clear c15
     (first | rw [c15b0] | (simp only [i64_w, i32_w]; rw [c15b0]) | skip)
     have H' := a_ H
     clear H
     go_wp2
     repeat (go_quiet (fail); try go_wp2)
     go_meet
     case rel => exact ⟨_, (true), hW_, H', ⟨by have := HJ2.out; first | omega | exact Nat.le_refl _⟩, ⟨hC_⟩⟩
    rw [if_neg c15] at H
    have c15b0 : decide (8192 < (wrap64 ((wrap64 (bt a0 a1)) + (wrap64 (256 * (wrap64 (bt a0 (ji10)))))))) = false := decide_eq_false c15
    (try (have c15b0w := c15b0; try (rw [show wrap64 (bt a0 a1) = (bt a0 a1) from by unfold wrap64; omega] at c15b0w); try (rw [show wrap64 (bt a0 (ji10)) = (bt a0 (ji10)) from by unfold wrap64; omega] at c15b0w); try (rw [show wrap64 (256 * (wrap64 (bt a0 (ji10)))) = (256 * (wrap64 (bt a0 (ji10)))) from by unfold wrap64; omega] at c15b0w); try (rw [show wrap64 ((wrap64 (bt a0 a1)) + (wrap64 (256 * (wrap64 (bt a0 (ji10)))))) = ((wrap64 (bt a0 a1)) + (wrap64 (256 * (wrap64 (bt a0 (ji10)))))) from by unfold wrap64; omega] at c15b0w)))
    clear c15
    (first | rw [c15b0] | (simp only [i64_w, i32_w]; rw [c15b0]) | skip)
    have H' := a_ H
    clear H
    go_wp2
    repeat (go_quiet (fail); try go_wp2)
    go_meet
    case rel => exact ⟨_, (decide ((wrap64 ((a0.size : Int) - a1)) < (wrap64 (6 + (wrap64 ((wrap64 (bt a0 a1)) + (wrap64 (256 * (wrap64 (bt a0 (ji10))))))))))), (by first | rfl | (simp; done) | (simp only [← hji10] <;> (first | rfl | simp)) | (simp [*]; done)), H', ⟨by have := HJ2.out; first | omega | exact Nat.le_refl _⟩, ⟨hC_⟩⟩
   case rest =>
    clear HC14
    try clear c1
    try clear p1
    try clear q1
    try clear h2
    try clear c2
    try clear p2
    try clear c4
    try clear c4b0
    try clear c5
    try clear c5b0
    try clear c6
    try clear p6
    try clear c7
    try clear c7b0
    try clear c8
    try clear c8b0
    try clear p9
    try clear q9
    try clear h0
    try clear c11
    try clear c11b0
    try clear c12
    try clear c12b0
    try clear p13
    try clear q13
    try clear h1
    try clear c15
    try clear c15b0
    try clear hji10
    try clear hji10w
    try clear p13
    try clear p2
    try clear p9
    try clear q13
    try clear q9
    obtain ⟨kq, x1, rfl, HA, HJ13, HB⟩ := hcut
    cases kq with
    | zero => exact absurd HA.out (by simp [sleuthref12_GetFrame.j1])
    | succ kj13 =>
     have H := HA.out
     clear HA
     simp only [sleuthref12_GetFrame.j1] at H
     by_cases c16 : x1 = true
     case pos =>
      subst c16
      rw [if_pos rfl] at H
      simp only [Option.some.injEq, Prod.mk.injEq] at H
      obtain ⟨rfl, rfl, rfl⟩ := H
      go_wp2
      repeat (go_quiet (fail); try go_wp2)
      go_ret3
      exact ⟨by first | rfl | (simp [errW_none, errW_some] <;> rfl) | (simp only [← hji10]; first | rfl | (simp [errW_none, errW_some] <;> rfl)) | (simp [*, errW_none, errW_some] <;> rfl), hC_⟩
     replace c16 := Bool.eq_false_iff.mpr c16
     subst c16
     rw [if_neg (show ¬ (false = true) by decide)] at H
     obtain ⟨ji17, hji17⟩ : ∃ j_ : Int, (wrap64 (a1 + 2)) = j_ := ⟨_, rfl⟩
     replace H : (if 0 ≤ (ji17) then (if (ji17) ≤ (wrap64 ((ji17) + (wrap64 ((wrap64 (bt a0 a1)) + (wrap64 (256 * (wrap64 (bt a0 (ji10))))))))) then (if (wrap64 ((ji17) + (wrap64 ((wrap64 (bt a0 a1)) + (wrap64 (256 * (wrap64 (bt a0 (ji10))))))))) ≤ (a0.size : Int) then ((sleuthref12_PutFrame.f kj13 (a0.extract ((ji17) : Int).toNat ((wrap64 ((ji17) + (wrap64 ((wrap64 (bt a0 a1)) + (wrap64 (256 * (wrap64 (bt a0 (ji10))))))))) : Int).toNat)).bind fun bt312 => (if 0 ≤ a1 then (if a1 ≤ (wrap64 ((wrap64 (a1 + 6)) + (wrap64 ((wrap64 (bt a0 a1)) + (wrap64 (256 * (wrap64 (bt a0 (ji10))))))))) then (if (wrap64 ((wrap64 (a1 + 6)) + (wrap64 ((wrap64 (bt a0 a1)) + (wrap64 (256 * (wrap64 (bt a0 (ji10))))))))) ≤ (a0.size : Int) then (if bt312.1.toList = (a0.extract (a1 : Int).toNat ((wrap64 ((wrap64 (a1 + 6)) + (wrap64 ((wrap64 (bt a0 a1)) + (wrap64 (256 * (wrap64 (bt a0 (ji10))))))))) : Int).toNat).toList then (some (a0.extract ((ji17) : Int).toNat ((wrap64 ((ji17) + (wrap64 ((wrap64 (bt a0 a1)) + (wrap64 (256 * (wrap64 (bt a0 (ji10))))))))) : Int).toNat, wrap64 ((wrap64 (a1 + 6)) + (wrap64 ((wrap64 (bt a0 a1)) + (wrap64 (256 * (wrap64 (bt a0 (ji10)))))))), 0)) else (some ((⟨#[]⟩ : ByteArray), 0, 1600))) else (none)) else (none)) else (none))) else (none)) else (none)) else (none)) = some (r1, r2, r3) := by first | (rw [hji17] at H; exact H) | (simp only [hji17] at H ⊢; exact H)
     have hji17w : (IntKind.i64.wrap (a1 + 2)) = ji17 := (i64_w _).trans hji17
     replace H := ifI_ H; obtain ⟨c18, H⟩ := H
     have c18b0 := eq_true c18
     have c18b1 : decide (0 ≤ (ji17)) = true := decide_eq_true c18
     clear c18
     replace H := ifI_ H; obtain ⟨c19, H⟩ := H
     have c19b0 := eq_true c19
     have c19b1 : decide ((ji17) ≤ (wrap64 ((ji17) + (wrap64 ((wrap64 (bt a0 a1)) + (wrap64 (256 * (wrap64 (bt a0 (ji10)))))))))) = true := decide_eq_true c19
     replace H := ifI_ H; obtain ⟨c20, H⟩ := H
     have c20b0 := eq_true c20
     have c20b1 : decide ((wrap64 ((ji17) + (wrap64 ((wrap64 (bt a0 a1)) + (wrap64 (256 * (wrap64 (bt a0 (ji10))))))))) ≤ (a0.size : Int)) = true := decide_eq_true c20
     replace H := Option.bind_eq_some_iff.mp H
     obtain ⟨⟨t0, t1⟩, A210, H⟩ := H
     try dsimp only at H
     have A21 := a_ A210
     clear A210
     replace H := ifI_ H; obtain ⟨c22, H⟩ := H
     have c22b0 := eq_true c22
     have c22b1 : decide (0 ≤ a1) = true := decide_eq_true c22
     clear c22
     replace H := ifI_ H; obtain ⟨c23, H⟩ := H
     have c23b0 := eq_true c23
     have c23b1 : decide (a1 ≤ (wrap64 ((wrap64 (a1 + 6)) + (wrap64 ((wrap64 (bt a0 a1)) + (wrap64 (256 * (wrap64 (bt a0 (ji10)))))))))) = true := decide_eq_true c23
     replace H := ifI_ H; obtain ⟨c24, H⟩ := H
     have c24b0 := eq_true c24
     have c24b1 : decide ((wrap64 ((wrap64 (a1 + 6)) + (wrap64 ((wrap64 (bt a0 a1)) + (wrap64 (256 * (wrap64 (bt a0 (ji10))))))))) ≤ (a0.size : Int)) = true := decide_eq_true c24
     by_cases c25 : t0.toList = (a0.extract (a1 : Int).toNat ((wrap64 ((wrap64 (a1 + 6)) + (wrap64 ((wrap64 (bt a0 a1)) + (wrap64 (256 * (wrap64 (bt a0 (ji10))))))))) : Int).toNat).toList
     case neg =>
      rw [if_neg c25] at H
      have c25b0 : (t0.toList == (a0.extract (a1 : Int).toNat ((wrap64 ((wrap64 (a1 + 6)) + (wrap64 ((wrap64 (bt a0 a1)) + (wrap64 (256 * (wrap64 (bt a0 (ji10))))))))) : Int).toNat).toList) = false := beq_eq_false_iff_ne.mpr c25
      have c25b1 : (t0.toList != (a0.extract (a1 : Int).toNat ((wrap64 ((wrap64 (a1 + 6)) + (wrap64 ((wrap64 (bt a0 a1)) + (wrap64 (256 * (wrap64 (bt a0 (ji10))))))))) : Int).toNat).toList) = true := bne_iff_ne.mpr c25
      (try (have c25b0w := c25b0; try (rw [show wrap64 (a1 + 6) = (a1 + 6) from by unfold wrap64; omega] at c25b0w); try (rw [show wrap64 (bt a0 a1) = (bt a0 a1) from by unfold wrap64; omega] at c25b0w); try (rw [show wrap64 (bt a0 (ji10)) = (bt a0 (ji10)) from by unfold wrap64; omega] at c25b0w); try (rw [show wrap64 (256 * (wrap64 (bt a0 (ji10)))) = (256 * (wrap64 (bt a0 (ji10)))) from by unfold wrap64; omega] at c25b0w); try (rw [show wrap64 ((wrap64 (bt a0 a1)) + (wrap64 (256 * (wrap64 (bt a0 (ji10)))))) = ((wrap64 (bt a0 a1)) + (wrap64 (256 * (wrap64 (bt a0 (ji10)))))) from by unfold wrap64; omega] at c25b0w); try (rw [show wrap64 ((wrap64 (a1 + 6)) + (wrap64 ((wrap64 (bt a0 a1)) + (wrap64 (256 * (wrap64 (bt a0 (ji10)))))))) = ((wrap64 (a1 + 6)) + (wrap64 ((wrap64 (bt a0 a1)) + (wrap64 (256 * (wrap64 (bt a0 (ji10)))))))) from by unfold wrap64; omega] at c25b0w)))
      (try (have c25b1w := c25b1; try (rw [show wrap64 (a1 + 6) = (a1 + 6) from by unfold wrap64; omega] at c25b1w); try (rw [show wrap64 (bt a0 a1) = (bt a0 a1) from by unfold wrap64; omega] at c25b1w); try (rw [show wrap64 (bt a0 (ji10)) = (bt a0 (ji10)) from by unfold wrap64; omega] at c25b1w); try (rw [show wrap64 (256 * (wrap64 (bt a0 (ji10)))) = (256 * (wrap64 (bt a0 (ji10)))) from by unfold wrap64; omega] at c25b1w); try (rw [show wrap64 ((wrap64 (bt a0 a1)) + (wrap64 (256 * (wrap64 (bt a0 (ji10)))))) = ((wrap64 (bt a0 a1)) + (wrap64 (256 * (wrap64 (bt a0 (ji10)))))) from by unfold wrap64; omega] at c25b1w); try (rw [show wrap64 ((wrap64 (a1 + 6)) + (wrap64 ((wrap64 (bt a0 a1)) + (wrap64 (256 * (wrap64 (bt a0 (ji10)))))))) = ((wrap64 (a1 + 6)) + (wrap64 ((wrap64 (bt a0 a1)) + (wrap64 (256 * (wrap64 (bt a0 (ji10)))))))) from by unfold wrap64; omega] at c25b1w)))
      simp only [Option.some.injEq, Prod.mk.injEq] at H
      obtain ⟨rfl, rfl, rfl⟩ := H
      go_wp2_with (first | (go_at_call 17; (with_reducible refine (sleuthref12_PutFrame.calls kj13 (a0.extract ((ji17) : Int).toNat ((wrap64 ((ji17) + (wrap64 ((wrap64 (bt a0 a1)) + (wrap64 (256 * (wrap64 (bt a0 (ji10))))))))) : Int).toNat) t0 t1 _ A21.out).mono ?_); rintro e w0 ⟨rfl, hb⟩; replace HB := a_ (below_step hB_ hb); (try clear hb); (try clear hb2); (try clear hk); (try clear hi)))
      repeat (go_quiet (first | (go_at_call 17; (with_reducible refine (sleuthref12_PutFrame.calls kj13 (a0.extract ((ji17) : Int).toNat ((wrap64 ((ji17) + (wrap64 ((wrap64 (bt a0 a1)) + (wrap64 (256 * (wrap64 (bt a0 (ji10))))))))) : Int).toNat) t0 t1 _ A21.out).mono ?_); rintro e w0 ⟨rfl, hb⟩; replace HB := a_ (below_step hB_ hb); (try clear hb); (try clear hb2); (try clear hk); (try clear hi))); try go_wp2_with (first | (go_at_call 17; (with_reducible refine (sleuthref12_PutFrame.calls kj13 (a0.extract ((ji17) : Int).toNat ((wrap64 ((ji17) + (wrap64 ((wrap64 (bt a0 a1)) + (wrap64 (256 * (wrap64 (bt a0 (ji10))))))))) : Int).toNat) t0 t1 _ A21.out).mono ?_); rintro e w0 ⟨rfl, hb⟩; replace HB := a_ (below_step hB_ hb); (try clear hb); (try clear hb2); (try clear hk); (try clear hi))))
      go_ret3
      exact ⟨by first | rfl | (simp [errW_none, errW_some] <;> rfl) | (simp only [← hji10, ← hji17]; first | rfl | (simp [errW_none, errW_some] <;> rfl)) | (simp [*, errW_none, errW_some] <;> rfl), hC_⟩
     rw [if_pos c25] at H
     have c25b0 : (t0.toList == (a0.extract (a1 : Int).toNat ((wrap64 ((wrap64 (a1 + 6)) + (wrap64 ((wrap64 (bt a0 a1)) + (wrap64 (256 * (wrap64 (bt a0 (ji10))))))))) : Int).toNat).toList) = true := beq_iff_eq.mpr c25
     have c25b1 : (t0.toList != (a0.extract (a1 : Int).toNat ((wrap64 ((wrap64 (a1 + 6)) + (wrap64 ((wrap64 (bt a0 a1)) + (wrap64 (256 * (wrap64 (bt a0 (ji10))))))))) : Int).toNat).toList) = false := bne_eq_false_iff_eq.mpr c25
     (try (have c25b0w := c25b0; try (rw [show wrap64 (a1 + 6) = (a1 + 6) from by unfold wrap64; omega] at c25b0w); try (rw [show wrap64 (bt a0 a1) = (bt a0 a1) from by unfold wrap64; omega] at c25b0w); try (rw [show wrap64 (bt a0 (ji10)) = (bt a0 (ji10)) from by unfold wrap64; omega] at c25b0w); try (rw [show wrap64 (256 * (wrap64 (bt a0 (ji10)))) = (256 * (wrap64 (bt a0 (ji10)))) from by unfold wrap64; omega] at c25b0w); try (rw [show wrap64 ((wrap64 (bt a0 a1)) + (wrap64 (256 * (wrap64 (bt a0 (ji10)))))) = ((wrap64 (bt a0 a1)) + (wrap64 (256 * (wrap64 (bt a0 (ji10)))))) from by unfold wrap64; omega] at c25b0w); try (rw [show wrap64 ((wrap64 (a1 + 6)) + (wrap64 ((wrap64 (bt a0 a1)) + (wrap64 (256 * (wrap64 (bt a0 (ji10)))))))) = ((wrap64 (a1 + 6)) + (wrap64 ((wrap64 (bt a0 a1)) + (wrap64 (256 * (wrap64 (bt a0 (ji10)))))))) from by unfold wrap64; omega] at c25b0w)))
     (try (have c25b1w := c25b1; try (rw [show wrap64 (a1 + 6) = (a1 + 6) from by unfold wrap64; omega] at c25b1w); try (rw [show wrap64 (bt a0 a1) = (bt a0 a1) from by unfold wrap64; omega] at c25b1w); try (rw [show wrap64 (bt a0 (ji10)) = (bt a0 (ji10)) from by unfold wrap64; omega] at c25b1w); try (rw [show wrap64 (256 * (wrap64 (bt a0 (ji10)))) = (256 * (wrap64 (bt a0 (ji10)))) from by unfold wrap64; omega] at c25b1w); try (rw [show wrap64 ((wrap64 (bt a0 a1)) + (wrap64 (256 * (wrap64 (bt a0 (ji10)))))) = ((wrap64 (bt a0 a1)) + (wrap64 (256 * (wrap64 (bt a0 (ji10)))))) from by unfold wrap64; omega] at c25b1w); try (rw [show wrap64 ((wrap64 (a1 + 6)) + (wrap64 ((wrap64 (bt a0 a1)) + (wrap64 (256 * (wrap64 (bt a0 (ji10)))))))) = ((wrap64 (a1 + 6)) + (wrap64 ((wrap64 (bt a0 a1)) + (wrap64 (256 * (wrap64 (bt a0 (ji10)))))))) from by unfold wrap64; omega] at c25b1w)))
     clear c25
     simp only [Option.some.injEq, Prod.mk.injEq] at H
     obtain ⟨rfl, rfl, rfl⟩ := H
     go_wp2_with (first | (go_at_call 17; (with_reducible refine (sleuthref12_PutFrame.calls kj13 (a0.extract ((ji17) : Int).toNat ((wrap64 ((ji17) + (wrap64 ((wrap64 (bt a0 a1)) + (wrap64 (256 * (wrap64 (bt a0 (ji10))))))))) : Int).toNat) t0 t1 _ A21.out).mono ?_); rintro e w1 ⟨rfl, hb⟩; replace HB := a_ (below_step hB_ hb); (try clear hb); (try clear hb2); (try clear hk); (try clear hi)))
     repeat (go_quiet (first | (go_at_call 17; (with_reducible refine (sleuthref12_PutFrame.calls kj13 (a0.extract ((ji17) : Int).toNat ((wrap64 ((ji17) + (wrap64 ((wrap64 (bt a0 a1)) + (wrap64 (256 * (wrap64 (bt a0 (ji10))))))))) : Int).toNat) t0 t1 _ A21.out).mono ?_); rintro e w1 ⟨rfl, hb⟩; replace HB := a_ (below_step hB_ hb); (try clear hb); (try clear hb2); (try clear hk); (try clear hi))); try go_wp2_with (first | (go_at_call 17; (with_reducible refine (sleuthref12_PutFrame.calls kj13 (a0.extract ((ji17) : Int).toNat ((wrap64 ((ji17) + (wrap64 ((wrap64 (bt a0 a1)) + (wrap64 (256 * (wrap64 (bt a0 (ji10))))))))) : Int).toNat) t0 t1 _ A21.out).mono ?_); rintro e w1 ⟨rfl, hb⟩; replace HB := a_ (below_step hB_ hb); (try clear hb); (try clear hb2); (try clear hk); (try clear hi))))
     go_ret3
     exact ⟨by first | rfl | (simp [errW_none, errW_some] <;> rfl) | (simp only [← hji10, ← hji17]; first | rfl | (simp [errW_none, errW_some] <;> rfl)) | (simp [*, errW_none, errW_some] <;> rfl), hC_⟩
end Go.Proofs.YtnhmmbgnaogokaaGreatDoor.G
end
section
namespace Go.Proofs.YtnhmmbgnaogokaaGreatDoor.G
open Go.RowKit Go.Proofs.YtnhmmbgnaogokaaGreatDoorW.PrintWords Go.Proofs.YtnhmmbgnaogokaaGreatDoorW.PrintLast Go.Proofs.YtnhmmbgnaogokaaGreatDoorW.PrintMore
set_option linter.unusedVariables false
set_option linter.unusedSimpArgs false
def bitI (x : Int) : Int := if (Go.bits .and .u32 x 1) = 1 then Go.bits .xor .u32 (x / 2) 3988292384 else x / 2
def bitsI : Nat → Int → Int
  | 0, x => x
  | n + 1, x => bitsI n (bitI x)
def byteI (x c : Int) : Int := bitsI 8 (Go.bits .xor .u32 x (c % 4294967296))
def crcI (l : List Int) : Int := Go.bits .xor .u32 4294967295 (l.foldl byteI 4294967295)

theorem bits_u32 (op : BinOp) (x y : Int) : 0 ≤ Go.bits op .u32 x y ∧ Go.bits op .u32 x y < 4294967296 := by
  unfold Go.bits
  split <;> simp only [IntKind.wrap_u32] <;> omega
theorem sum_l1 (s : ByteArray) (n0 i : Int) (r : Int) (n : Nat) : ∀ (j x : Int), j + n = 8 → 0 ≤ j → Ev (fun k => frame_sum.l0 k s (bitsI n x) n0 (wrap64 (i + 1))) r → Ev (fun k => frame_sum.l1 k s x n0 i j) r := by
  induction n with
  | zero =>
    intro j x hj h0 h
    refine Ev.step (fun k => ?_) h
    simp only [frame_sum.l1]
    rw [if_neg (by omega)]
    rfl
  | succ n ih =>
    intro j x hj h0 h
    have hw : wrap64 (j + 1) = j + 1 := w64 (by omega) (by omega)
    by_cases c : (Go.bits .and .u32 x 1) = 1
    · refine Ev.step (f := fun k => frame_sum.l1 k s (Go.bits .xor .u32 (x / 2) 3988292384) n0 i (j + 1)) (fun k => ?_) (ih _ _ (by omega) (by omega) ?_)
      · simp only [frame_sum.l1]
        rw [if_pos (by omega), if_pos c, hw]
      · have e : bitI x = Go.bits .xor .u32 (x / 2) 3988292384 := by unfold bitI; rw [if_pos c]
        rw [← e]; exact h
    · refine Ev.step (f := fun k => frame_sum.l1 k s (x / 2) n0 i (j + 1)) (fun k => ?_) (ih _ _ (by omega) (by omega) ?_)
      · simp only [frame_sum.l1]
        rw [if_pos (by omega), if_neg c, hw]
      · have e : bitI x = x / 2 := by unfold bitI; rw [if_neg c]
        rw [← e]; exact h
theorem sum_l0 (s : ByteArray) (hs : s.size ≤ 9223372036854775806) (n : Nat) : ∀ (i : Nat) (x : Int), i + n = s.size → Ev (fun k => frame_sum.l0 k s x (s.size : Int) (i : Int)) (Go.bits .xor .u32 4294967295 (((bytesOf s).drop i).foldl byteI x)) := by
  induction n with
  | zero =>
    intro i x hi
    refine Ev.step (f := fun _ => some (Go.bits .xor .u32 4294967295 x)) (fun k => ?_) ?_
    · simp only [frame_sum.l0]
      rw [if_neg (by omega)]
    · rw [List.drop_eq_nil_of_le (by rw [bytesOf_length]; omega)]
      exact Ev.now _
  | succ n ih =>
    intro i x hi
    refine Ev.step (f := fun k => frame_sum.l1 k s (Go.bits .xor .u32 x ((bt s (i : Int)) % 4294967296)) (s.size : Int) (i : Int) 0) (fun k => ?_) ?_
    · simp only [frame_sum.l0]
      rw [if_pos (by omega), if_pos (by omega), if_pos (by omega)]
    · refine sum_l1 s _ _ _ 8 0 _ (by omega) (by omega) ?_
      rw [bytesOf_drop s i (by omega), List.foldl_cons]
      have hw : wrap64 ((i : Int) + 1) = ((i + 1 : Nat) : Int) := by rw [w64 (by omega) (by omega)]; omega
      rw [hw]
      exact ih (i + 1) _ (by omega)
theorem sum_ev (s : ByteArray) (hs : s.size ≤ 9223372036854775806) : Ev (fun k => frame_sum.f k s) (crcI (bytesOf s)) := by
  have h := sum_l0 s hs s.size 0 4294967295 (by omega)
  exact h
theorem Sum_l1 (s : ByteArray) (i : Int) (r : Int) (n : Nat) : ∀ (j x : Int), j + n = 8 → 0 ≤ j → Ev (fun k => sleuthref12_Sum.l0 k s (bitsI n x) (wrap64 (i + 1))) r → Ev (fun k => sleuthref12_Sum.l1 k s x i j) r := by
  induction n with
  | zero =>
    intro j x hj h0 h
    refine Ev.step (fun k => ?_) h
    simp only [sleuthref12_Sum.l1]
    rw [if_neg (by omega)]
    rfl
  | succ n ih =>
    intro j x hj h0 h
    have hw : wrap64 (j + 1) = j + 1 := w64 (by omega) (by omega)
    by_cases c : (Go.bits .and .u32 x 1) = 1
    · refine Ev.step (f := fun k => sleuthref12_Sum.l1 k s (Go.bits .xor .u32 (x / 2) 3988292384) i (j + 1)) (fun k => ?_) (ih _ _ (by omega) (by omega) ?_)
      · simp only [sleuthref12_Sum.l1]
        rw [if_pos (by omega), if_pos c, hw]
      · have e : bitI x = Go.bits .xor .u32 (x / 2) 3988292384 := by unfold bitI; rw [if_pos c]
        rw [← e]; exact h
    · refine Ev.step (f := fun k => sleuthref12_Sum.l1 k s (x / 2) i (j + 1)) (fun k => ?_) (ih _ _ (by omega) (by omega) ?_)
      · simp only [sleuthref12_Sum.l1]
        rw [if_pos (by omega), if_neg c, hw]
      · have e : bitI x = x / 2 := by unfold bitI; rw [if_neg c]
        rw [← e]; exact h
theorem Sum_l0 (s : ByteArray) (hs : s.size ≤ 9223372036854775806) (n : Nat) : ∀ (i : Nat) (x : Int), i + n = s.size → Ev (fun k => sleuthref12_Sum.l0 k s x (i : Int)) (Go.bits .xor .u32 4294967295 (((bytesOf s).drop i).foldl byteI x)) := by
  induction n with
  | zero =>
    intro i x hi
    have hb : ∀ y : Int, wrap64 (Go.bits .xor .u32 4294967295 y) = Go.bits .xor .u32 4294967295 y := by
      intro y
      have := bits_u32 .xor 4294967295 y
      exact w64 (by omega) (by omega)
    refine Ev.step (f := fun _ => some (Go.bits .xor .u32 4294967295 x)) (fun k => ?_) ?_
    · simp only [sleuthref12_Sum.l0]
      rw [if_neg (by omega), hb]
    · rw [List.drop_eq_nil_of_le (by rw [bytesOf_length]; omega)]
      exact Ev.now _
  | succ n ih =>
    intro i x hi
    refine Ev.step (f := fun k => sleuthref12_Sum.l1 k s (Go.bits .xor .u32 x ((bt s (i : Int)) % 4294967296)) (i : Int) 0) (fun k => ?_) ?_
    · simp only [sleuthref12_Sum.l0]
      rw [if_pos (by omega), if_pos (by omega)]
    · refine Sum_l1 s _ _ 8 0 _ (by omega) (by omega) ?_
      rw [bytesOf_drop s i (by omega), List.foldl_cons]
      have hw : wrap64 ((i : Int) + 1) = ((i + 1 : Nat) : Int) := by rw [w64 (by omega) (by omega)]; omega
      rw [hw]
      exact ih (i + 1) _ (by omega)
theorem Sum_ev (s : ByteArray) (hs : s.size ≤ 9223372036854775806) : Ev (fun k => sleuthref12_Sum.f k s) (crcI (bytesOf s)) :=
  Sum_l0 s hs s.size 0 4294967295 (by omega)
theorem crc_range (l : List Int) : 0 ≤ crcI l ∧ crcI l < 4294967296 := bits_u32 _ _ _

/-! numbers as bytes -/
theorem low_l0 (m : Nat) (hm : m ≤ 1000) (n : Nat) : ∀ (x : Int) (l : List Int) (j : Int), j + n = m → 0 ≤ j → l.length = j → Ev (fun k => frame_low.l0 k x l (m : Int) j) (l ++ lowL n x) := by
  induction n with
  | zero =>
    intro x l j hj h0 hl
    refine Ev.step (f := fun _ => some l) (fun k => ?_) (by simp only [lowL, List.append_nil]; exact Ev.now _)
    simp only [frame_low.l0]
    rw [if_neg (by omega)]
  | succ n ih =>
    intro x l j hj h0 hl
    have hw : wrap64 (j + 1) = j + 1 := w64 (by omega) (by omega)
    refine Ev.step (f := fun k => frame_low.l0 k (x / 256) (l ++ [x % 256]) (m : Int) (j + 1)) (fun k => ?_) ?_
    · simp only [frame_low.l0]
      rw [if_pos (by omega), if_pos (by omega), hw]
    · have := ih (x / 256) (l ++ [x % 256]) (j + 1) (by omega) (by omega) (by simp only [List.length_append, List.length_singleton]; omega)
      simp only [List.append_assoc, List.singleton_append] at this
      exact this
theorem low_ev (x : Int) (m : Nat) (hm : m ≤ 1000) : Ev (fun k => frame_low.f k x (m : Int)) (lowL m x) := by
  have := low_l0 m hm m x [] 0 (by omega) (by omega) rfl
  exact this
/-! a frame -/
def headL (s : ByteArray) : List Int := lowL 2 ((s.size : Int) % 4294967296) ++ bytesOf s
def frameOf (s : ByteArray) : ByteArray := strOfNums (headL s ++ lowL 4 (crcI (headL s)))
def putF (s : ByteArray) : ByteArray × Int := if (s.size : Int) > 8192 then (⟨#[]⟩, 1600) else (frameOf s, 0)
theorem headL_range (s : ByteArray) : ∀ x ∈ headL s, 0 ≤ x ∧ x < 256 := by
  intro x hx
  rcases List.mem_append.1 hx with h | h
  · exact lowL_range _ _ _ h
  · exact bytesOf_range _ _ h
theorem headL_length (s : ByteArray) : (headL s).length = 2 + s.size := by
  unfold headL
  rw [List.length_append, lowL_length, bytesOf_length]
theorem put_ev (s : ByteArray) : Ev (fun k => frame_Put.f k s) (putF s) := by
  by_cases c : (s.size : Int) > 8192
  · refine Ev.congr (fun k => ?_) (Ev.now _)
    unfold frame_Put.f putF
    rw [if_pos c, if_pos c]
  · have h1 := low_ev (((s.size : Int)) % 4294967296) 2 (by omega)
    have h2 : Ev (fun k => frame_sum.f k (strOfNums (headL s))) (crcI (headL s)) := by
      have := sum_ev (strOfNums (headL s)) (by rw [size_strOfNums, headL_length]; omega)
      rwa [bytesOf_strOfNums _ (headL_range s)] at this
    have h3 := low_ev (crcI (headL s)) 4 (by omega)
    refine Ev.congr (f := fun k => (frame_low.f k (((s.size : Int)) % 4294967296) 2).bind fun t104 => (if t104.length + s.size < 140737488355328 then ((some (t104 ++ bytesOf s : List Int)).bind fun y107 => ((frame_sum.f k (strOfNums y107)).bind fun t110 => ((frame_low.f k t110 4).bind fun t111 => (if y107.length + t111.length < 140737488355328 then (some (strOfNums (y107 ++ t111), 0)) else (none))))) else (none))) (fun k => ?_) ?_
    · unfold frame_Put.f
      rw [if_neg c]
    · refine Ev.bind h1 ?_
      have e2 : (lowL 2 ((s.size : Int) % 4294967296)).length + s.size < 140737488355328 := by rw [lowL_length]; omega
      simp only [if_pos e2, Option.bind_some]
      refine Ev.bind h2 (Ev.bind h3 ?_)
      rw [if_pos (by rw [lowL_length]; have := headL_length s; unfold headL at this; omega)]
      unfold putF
      rw [if_neg c]
      exact Ev.now _
theorem refPut_ev (s : ByteArray) : Ev (fun k => sleuthref12_PutFrame.f k s) (putF s) := by
  by_cases c : (s.size : Int) > 8192
  · refine Ev.congr (fun k => ?_) (Ev.now _)
    unfold sleuthref12_PutFrame.f putF
    rw [if_pos c, if_pos c]
  · have e : strOfNums (lowL 2 (s.size : Int)) ++ s = strOfNums (headL s) := by
      unfold headL
      rw [strOfNums_append, strOfNums_bytesOf, Int.emod_eq_of_lt (by omega) (by omega)]
    have h1 := sized_ev s (by omega)
    rw [e] at h1
    have h2 : Ev (fun k => sleuthref12_Sum.f k (strOfNums (headL s))) (crcI (headL s)) := by
      have := Sum_ev (strOfNums (headL s)) (by rw [size_strOfNums, headL_length]; omega)
      rwa [bytesOf_strOfNums _ (headL_range s)] at this
    have h3 := refLow_ev (crcI (headL s)) 4 (by omega)
    refine Ev.congr (f := fun k => (sleuthref12_sized.f k s).bind fun t122 => ((sleuthref12_Sum.f k t122).bind fun t123 => ((sleuthref12_low.f k t123 4).bind fun t124 => (if t122.size + t124.size ≤ 9223372036854775807 then (some (t122 ++ t124, 0)) else (none))))) (fun k => ?_) ?_
    · unfold sleuthref12_PutFrame.f
      rw [if_neg c]
    · refine Ev.bind h1 (Ev.bind h2 (Ev.bind h3 ?_))
      rw [if_pos (by rw [size_strOfNums, size_strOfNums, lowL_length, headL_length]; omega)]
      unfold putF
      rw [if_neg c, ← strOfNums_append]
      exact Ev.now _

/-! a frame is taken -/
def badF : ByteArray × Int × Int := (⟨#[]⟩, 0, 1600)
def manyAt (t : ByteArray) (at_ : Int) : Int := bt t at_ + 256 * bt t (at_ + 1)
def partOf (t : ByteArray) (at_ : Int) : ByteArray := t.extract (at_ + 2).toNat (at_ + 2 + manyAt t at_).toNat
def wholeOf (t : ByteArray) (at_ : Int) : ByteArray := t.extract at_.toNat (at_ + 6 + manyAt t at_).toNat
def getF (t : ByteArray) (at_ : Int) : ByteArray × Int × Int :=
  if at_ < 0 ∨ at_ > (t.size : Int) ∨ (t.size : Int) - at_ < 6 then badF
  else if manyAt t at_ > (t.size : Int) - at_ - 6 ∨ manyAt t at_ > 8192 then badF
  else if frameOf (partOf t at_) = wholeOf t at_ then (partOf t at_, at_ + 6 + manyAt t at_, 0) else badF
theorem get_bad (t : ByteArray) (at_ : Int) : Ev (fun k => frame_Get.j0 k t at_ true) badF := by
  refine Ev.step (f := fun _ => some badF) (fun k => ?_) (Ev.now _)
  simp only [frame_Get.j0]
  rfl
theorem refGet_bad (t : ByteArray) (at_ : Int) : Ev (fun k => sleuthref12_GetFrame.j0 k t at_ true) badF := by
  refine Ev.step (f := fun _ => some badF) (fun k => ?_) (Ev.now _)
  simp only [sleuthref12_GetFrame.j0]
  rfl
theorem refGet_bad1 (t : ByteArray) (at_ m : Int) : Ev (fun k => sleuthref12_GetFrame.j1 k t at_ m true) badF := by
  refine Ev.step (f := fun _ => some badF) (fun k => ?_) (Ev.now _)
  simp only [sleuthref12_GetFrame.j1]
  rfl
theorem putF_snd (s : ByteArray) : (putF s).2 = if (s.size : Int) > 8192 then 1600 else 0 := by unfold putF; split <;> rfl
theorem get_ev (t : ByteArray) (at_ : Int) (ht : t.size ≤ 4611686018427387904) (h0 : -9223372036854775808 ≤ at_) (h1 : at_ ≤ 9223372036854775807) : Ev (fun k => frame_Get.f k t at_) (getF t at_) := by
  by_cases c1 : at_ < 0
  · refine Ev.congr (fun k => ?_) (show Ev (fun k => frame_Get.j0 k t at_ true) (getF t at_) from ?_)
    · unfold frame_Get.f; rw [if_pos c1]
    · unfold getF; rw [if_pos (.inl c1)]; exact get_bad t at_
  by_cases c2 : at_ > (t.size : Int)
  · refine Ev.congr (fun k => ?_) (show Ev (fun k => frame_Get.j0 k t at_ true) (getF t at_) from ?_)
    · unfold frame_Get.f; rw [if_neg c1, if_pos c2]
    · unfold getF; rw [if_pos (.inr (.inl c2))]; exact get_bad t at_
  have hS1 : wrap64 ((t.size : Int) - at_) = (t.size : Int) - at_ := w64 (by omega) (by omega)
  by_cases c3 : (t.size : Int) - at_ < 6
  · refine Ev.congr (fun k => ?_) (show Ev (fun k => frame_Get.j0 k t at_ true) (getF t at_) from ?_)
    · unfold frame_Get.f; rw [if_neg c1, if_neg c2, hS1, decide_eq_true c3]
    · unfold getF; rw [if_pos (.inr (.inr c3))]; exact get_bad t at_
  refine Ev.congr (f := fun k => frame_Get.j0 k t at_ false) (fun k => ?_) ?_
  · unfold frame_Get.f; rw [if_neg c1, if_neg c2, hS1, decide_eq_false c3]
  have b0 := bt_range t at_
  have b1 := bt_range t (at_ + 1)
  have hW1 : wrap64 (at_ + 1) = at_ + 1 := w64 (by omega) (by omega)
  have hW2 : wrap64 (at_ + 2) = at_ + 2 := w64 (by omega) (by omega)
  have hB0 : wrap64 (bt t at_) = bt t at_ := w64 (by omega) (by omega)
  have hB1 : wrap64 (bt t (at_ + 1)) = bt t (at_ + 1) := w64 (by omega) (by omega)
  have hM1 : wrap64 (256 * bt t (at_ + 1)) = 256 * bt t (at_ + 1) := w64 (by omega) (by omega)
  have hmb : 0 ≤ manyAt t at_ ∧ manyAt t at_ ≤ 65535 := by unfold manyAt; omega
  have hM : wrap64 (manyAt t at_) = manyAt t at_ := w64 (by omega) (by omega)
  have hS2 : wrap64 ((t.size : Int) - at_ - 2) = (t.size : Int) - at_ - 2 := w64 (by omega) (by omega)
  have hS3 : wrap64 ((t.size : Int) - at_ - 2 - 4) = (t.size : Int) - at_ - 2 - 4 := w64 (by omega) (by omega)
  have hE : wrap64 (at_ + 2 + manyAt t at_) = at_ + 2 + manyAt t at_ := w64 (by omega) (by omega)
  have hE4 : wrap64 (at_ + 2 + manyAt t at_ + 4) = at_ + 2 + manyAt t at_ + 4 := w64 (by omega) (by omega)
  have hg : getF t at_ = if manyAt t at_ > (t.size : Int) - at_ - 6 ∨ manyAt t at_ > 8192 then badF
      else if frameOf (partOf t at_) = wholeOf t at_ then (partOf t at_, at_ + 6 + manyAt t at_, 0) else badF := by
    unfold getF; rw [if_neg (by omega)]
  have hm : bt t at_ + 256 * bt t (at_ + 1) = manyAt t at_ := rfl
  rw [hg]
  by_cases c4 : manyAt t at_ > (t.size : Int) - at_ - 2 - 4
  · refine Ev.step (f := fun _ => some badF) (fun k => ?_) ?_
    · simp only [frame_Get.j0, hW1, hW2, hB0, hB1, hM1, hM, hS1, hS2, hS3, hE, hE4, hm]
      rw [if_neg (by decide), if_pos (by omega), if_pos (by omega), if_pos (by omega), if_pos (by omega), if_pos c4]
      rfl
    · rw [if_pos (.inl (by omega))]; exact Ev.now _
  refine Ev.step (f := fun k => (frame_Put.f k (partOf t at_)).bind fun b => if b.2 = 0 then (if b.1.toList = (wholeOf t at_).toList then some (partOf t at_, at_ + 6 + manyAt t at_, 0) else some badF) else some badF) (fun k => ?_) ?_
  · have e6 : at_ + 2 + manyAt t at_ + 4 = at_ + 6 + manyAt t at_ := by omega
    simp only [frame_Get.j0, hW1, hW2, hB0, hB1, hM1, hM, hS1, hS2, hS3, hE, hE4, hm]
    rw [if_neg (by decide), if_pos (by omega), if_pos (by omega), if_pos (by omega), if_pos (by omega), if_neg c4, if_pos (by omega), if_pos (by omega), if_pos (by omega)]
    have hA : at_ ≤ at_ + 6 + manyAt t at_ := by omega
    have hA2 : at_ + 6 + manyAt t at_ ≤ (t.size : Int) := by omega
    simp only [e6, if_pos hA, if_pos hA2]
    rfl
  · refine Ev.bind (put_ev (partOf t at_)) ?_
    have hs : ((partOf t at_).size : Int) = manyAt t at_ := by
      unfold partOf
      rw [size_extract _ _ _ (by omega)]
      omega
    by_cases c5 : manyAt t at_ > 8192
    · rw [if_pos (show manyAt t at_ > (t.size : Int) - at_ - 6 ∨ manyAt t at_ > 8192 from .inr c5)]
      have e : (putF (partOf t at_)).2 = 1600 := by rw [putF_snd, hs, if_pos c5]
      rw [e, if_neg (by decide)]
      exact Ev.now _
    · rw [if_neg (show ¬ (manyAt t at_ > (t.size : Int) - at_ - 6 ∨ manyAt t at_ > 8192) from by omega)]
      have e : putF (partOf t at_) = (frameOf (partOf t at_), 0) := by unfold putF; rw [hs, if_neg c5]
      rw [e, if_pos rfl]
      by_cases c6 : frameOf (partOf t at_) = wholeOf t at_
      · rw [if_pos c6, if_pos (toList_inj.2 c6)]; exact Ev.now _
      · rw [if_neg c6, if_neg (fun h => c6 (toList_inj.1 h))]; exact Ev.now _
theorem refGet_ev (t : ByteArray) (at_ : Int) (ht : t.size ≤ 4611686018427387904) (h0 : -9223372036854775808 ≤ at_) (h1 : at_ ≤ 9223372036854775807) : Ev (fun k => sleuthref12_GetFrame.f k t at_) (getF t at_) := by
  by_cases c1 : at_ < 0
  · refine Ev.congr (fun k => ?_) (show Ev (fun k => sleuthref12_GetFrame.j0 k t at_ true) (getF t at_) from ?_)
    · unfold sleuthref12_GetFrame.f; rw [if_pos c1]
    · unfold getF; rw [if_pos (.inl c1)]; exact refGet_bad t at_
  by_cases c2 : at_ > (t.size : Int)
  · refine Ev.congr (fun k => ?_) (show Ev (fun k => sleuthref12_GetFrame.j0 k t at_ true) (getF t at_) from ?_)
    · unfold sleuthref12_GetFrame.f; rw [if_neg c1, if_pos c2]
    · unfold getF; rw [if_pos (.inr (.inl c2))]; exact refGet_bad t at_
  have hS1 : wrap64 ((t.size : Int) - at_) = (t.size : Int) - at_ := w64 (by omega) (by omega)
  by_cases c3 : (t.size : Int) - at_ < 6
  · refine Ev.congr (fun k => ?_) (show Ev (fun k => sleuthref12_GetFrame.j0 k t at_ true) (getF t at_) from ?_)
    · unfold sleuthref12_GetFrame.f; rw [if_neg c1, if_neg c2, hS1, decide_eq_true c3]
    · unfold getF; rw [if_pos (.inr (.inr c3))]; exact refGet_bad t at_
  refine Ev.congr (f := fun k => sleuthref12_GetFrame.j0 k t at_ false) (fun k => ?_) ?_
  · unfold sleuthref12_GetFrame.f; rw [if_neg c1, if_neg c2, hS1, decide_eq_false c3]
  have b0 := bt_range t at_
  have b1 := bt_range t (at_ + 1)
  have hW1 : wrap64 (at_ + 1) = at_ + 1 := w64 (by omega) (by omega)
  have hW2 : wrap64 (at_ + 2) = at_ + 2 := w64 (by omega) (by omega)
  have hW6 : wrap64 (at_ + 6) = at_ + 6 := w64 (by omega) (by omega)
  have hB0 : wrap64 (bt t at_) = bt t at_ := w64 (by omega) (by omega)
  have hB1 : wrap64 (bt t (at_ + 1)) = bt t (at_ + 1) := w64 (by omega) (by omega)
  have hM1 : wrap64 (256 * bt t (at_ + 1)) = 256 * bt t (at_ + 1) := w64 (by omega) (by omega)
  have hmb : 0 ≤ manyAt t at_ ∧ manyAt t at_ ≤ 65535 := by unfold manyAt; omega
  have hM : wrap64 (manyAt t at_) = manyAt t at_ := w64 (by omega) (by omega)
  have h6 : wrap64 (6 + manyAt t at_) = 6 + manyAt t at_ := w64 (by omega) (by omega)
  have hE : wrap64 (at_ + 2 + manyAt t at_) = at_ + 2 + manyAt t at_ := w64 (by omega) (by omega)
  have hE6 : wrap64 (at_ + 6 + manyAt t at_) = at_ + 6 + manyAt t at_ := w64 (by omega) (by omega)
  have hg : getF t at_ = if manyAt t at_ > (t.size : Int) - at_ - 6 ∨ manyAt t at_ > 8192 then badF
      else if frameOf (partOf t at_) = wholeOf t at_ then (partOf t at_, at_ + 6 + manyAt t at_, 0) else badF := by
    unfold getF; rw [if_neg (by omega)]
  have hm : bt t at_ + 256 * bt t (at_ + 1) = manyAt t at_ := rfl
  rw [hg]
  by_cases c5 : manyAt t at_ > 8192
  · rw [if_pos (.inr c5)]
    refine Ev.step (f := fun k => sleuthref12_GetFrame.j1 k t at_ (manyAt t at_) true) (fun k => ?_) (refGet_bad1 _ _ _)
    simp only [sleuthref12_GetFrame.j0, hW1, hB0, hB1, hM1, hM, hS1, h6, hm]
    rw [if_neg (by decide), if_pos (by omega), if_pos (by omega), if_pos (by omega), if_pos (by omega), if_pos c5]
  by_cases c4 : manyAt t at_ > (t.size : Int) - at_ - 6
  · rw [if_pos (.inl c4)]
    refine Ev.step (f := fun k => sleuthref12_GetFrame.j1 k t at_ (manyAt t at_) true) (fun k => ?_) (refGet_bad1 _ _ _)
    simp only [sleuthref12_GetFrame.j0, hW1, hB0, hB1, hM1, hM, hS1, h6, hm]
    rw [if_neg (by decide), if_pos (by omega), if_pos (by omega), if_pos (by omega), if_pos (by omega), if_neg c5, decide_eq_true (by omega)]
  rw [if_neg (by omega)]
  refine Ev.step (f := fun k => sleuthref12_GetFrame.j1 k t at_ (manyAt t at_) false) (fun k => ?_) ?_
  · simp only [sleuthref12_GetFrame.j0, hW1, hB0, hB1, hM1, hM, hS1, h6, hm]
    rw [if_neg (by decide), if_pos (by omega), if_pos (by omega), if_pos (by omega), if_pos (by omega), if_neg c5, decide_eq_false (by omega)]
  have hs : ((partOf t at_).size : Int) = manyAt t at_ := by
    unfold partOf
    rw [size_extract _ _ _ (by omega)]
    omega
  refine Ev.step (f := fun k => (sleuthref12_PutFrame.f k (partOf t at_)).bind fun b => if b.1.toList = (wholeOf t at_).toList then some (partOf t at_, at_ + 6 + manyAt t at_, 0) else some badF) (fun k => ?_) ?_
  · simp only [sleuthref12_GetFrame.j1, hW2, hW6, hE, hE6]
    have hA : at_ ≤ at_ + 6 + manyAt t at_ := by omega
    have hA2 : at_ + 6 + manyAt t at_ ≤ (t.size : Int) := by omega
    have hA3 : 0 ≤ at_ := by omega
    rw [if_neg (by decide), if_pos (by omega), if_pos (by omega), if_pos (by omega)]
    simp only [if_pos hA, if_pos hA2, if_pos hA3]
    rfl
  · refine Ev.bind (refPut_ev (partOf t at_)) ?_
    have e : putF (partOf t at_) = (frameOf (partOf t at_), 0) := by unfold putF; rw [hs, if_neg c5]
    rw [e]
    by_cases c6 : frameOf (partOf t at_) = wholeOf t at_
    · rw [if_pos c6, if_pos (toList_inj.2 c6)]; exact Ev.now _
    · rw [if_neg c6, if_neg (fun h => c6 (toList_inj.1 h))]; exact Ev.now _
/-! a frame, wherever it stands, is taken -/
theorem frame_bytes (s : ByteArray) : bytesOf (frameOf s) = headL s ++ lowL 4 (crcI (headL s)) := by
  unfold frameOf
  refine bytesOf_strOfNums _ (fun x hx => ?_)
  rcases List.mem_append.1 hx with h | h
  · exact headL_range _ _ h
  · exact lowL_range _ _ _ h
theorem frame_size (s : ByteArray) : (frameOf s).size = 6 + s.size := by
  rw [← bytesOf_length, frame_bytes, List.length_append, lowL_length, headL_length]
  omega
theorem get_frame (a s b : ByteArray) (hs : s.size ≤ 8192) : getF ((a ++ frameOf s) ++ b) (a.size : Int) = (s, (a.size : Int) + (frameOf s).size, 0) := by
  have hB : bytesOf ((a ++ frameOf s) ++ b) = bytesOf a ++ (headL s ++ lowL 4 (crcI (headL s)) ++ bytesOf b) := by
    rw [bytesOf_append, bytesOf_append, frame_bytes, List.append_assoc, List.append_assoc]
  have hz : ((a ++ frameOf s) ++ b).size = a.size + (6 + s.size) + b.size := by
    rw [ByteArray.size_append, ByteArray.size_append, frame_size]
  have hh : headL s = [(s.size : Int) % 4294967296 % 256, (s.size : Int) % 4294967296 / 256 % 256] ++ bytesOf s := rfl
  have h0 : bt ((a ++ frameOf s) ++ b) (a.size : Int) = (s.size : Int) % 256 := by
    rw [bt_get, hB, List.getD_eq_getElem?_getD, List.getElem?_append_right (by rw [bytesOf_length]; omega), bytesOf_length, Nat.sub_self, hh]
    simp only [List.cons_append, List.getElem?_cons_zero, Option.getD_some]
    omega
  have h1 : bt ((a ++ frameOf s) ++ b) ((a.size : Int) + 1) = (s.size : Int) / 256 := by
    have e : ((a.size : Int) + 1) = ((a.size + 1 : Nat) : Int) := by omega
    rw [e, bt_get, hB, List.getD_eq_getElem?_getD, List.getElem?_append_right (by rw [bytesOf_length]; omega), bytesOf_length, show a.size + 1 - a.size = 1 from by omega, hh]
    simp only [List.cons_append, List.getElem?_cons_succ, List.getElem?_cons_zero, Option.getD_some]
    omega
  have hm : manyAt ((a ++ frameOf s) ++ b) (a.size : Int) = (s.size : Int) := by
    unfold manyAt; rw [h0, h1]; omega
  have hp : partOf ((a ++ frameOf s) ++ b) (a.size : Int) = s := by
    apply bytesOf_inj
    unfold partOf
    rw [hm, bytesOf_extract, hB]
    have e1 : ((a.size : Int) + 2).toNat = (bytesOf a).length + 2 := by rw [bytesOf_length]; omega
    have e2 : ((a.size : Int) + 2 + (s.size : Int)).toNat = (bytesOf a).length + (2 + s.size) := by rw [bytesOf_length]; omega
    rw [e1, e2, List.take_length_add_append, List.drop_length_add_append, hh, List.append_assoc, List.append_assoc]
    rw [show 2 + s.size = ([(s.size : Int) % 4294967296 % 256, (s.size : Int) % 4294967296 / 256 % 256]).length + s.size from by simp]
    rw [List.take_length_add_append]
    rw [show (2 : Nat) = ([(s.size : Int) % 4294967296 % 256, (s.size : Int) % 4294967296 / 256 % 256]).length from rfl]
    rw [List.drop_left, List.take_append_of_le_length (by rw [bytesOf_length]; omega), List.take_of_length_le (by rw [bytesOf_length]; omega)]
  have hw : wholeOf ((a ++ frameOf s) ++ b) (a.size : Int) = frameOf s := by
    apply bytesOf_inj
    unfold wholeOf
    rw [hm, bytesOf_extract, bytesOf_append, bytesOf_append, List.append_assoc]
    have e1 : ((a.size : Int)).toNat = (bytesOf a).length := by rw [bytesOf_length]; omega
    have e2 : ((a.size : Int) + 6 + (s.size : Int)).toNat = (bytesOf a).length + (bytesOf (frameOf s)).length := by rw [bytesOf_length, bytesOf_length, frame_size]; omega
    rw [e1, e2, List.take_length_add_append, List.drop_left, List.take_left]
  unfold getF
  rw [hz, hm, hp, hw, if_neg (by omega), if_neg (by omega), if_pos rfl, frame_size]
  congr 2
  omega

theorem evp {α : Type} {c : Prop} [Decidable c] {f g : Nat → Option α} {r : α} (hc : c) (h : Ev f r) : Ev (fun n => if c then f n else g n) r :=
  Ev.congr (fun k => if_pos hc) h
theorem evn {α : Type} {c : Prop} [Decidable c] {f g : Nat → Option α} {r : α} (hc : ¬ c) (h : Ev g r) : Ev (fun n => if c then f n else g n) r :=
  Ev.congr (fun k => if_neg hc) h
theorem putF_small (s : ByteArray) (h : s.size ≤ 8192) : putF s = (frameOf s, 0) := by unfold putF; rw [if_neg (by omega)]
theorem putF_great (s : ByteArray) (h : 8192 < s.size) : putF s = (⟨#[]⟩, 1600) := by unfold putF; rw [if_pos (by omega)]
theorem get_frame0 (s : ByteArray) (hs : s.size ≤ 8192) : getF (frameOf s) 0 = (s, ((frameOf s).size : Int), 0) := by
  have h := get_frame ⟨#[]⟩ s ⟨#[]⟩ hs
  have e1 : (⟨#[]⟩ : ByteArray) ++ frameOf s ++ ⟨#[]⟩ = frameOf s := by
    apply bytesOf_inj
    rw [bytesOf_append, bytesOf_append]
    show [] ++ bytesOf (frameOf s) ++ [] = _
    simp
  rw [e1] at h
  have e2 : (((⟨#[]⟩ : ByteArray).size : Nat) : Int) = 0 := rfl
  rw [e2, Int.zero_add] at h
  exact h
theorem frame_prefix (a b : ByteArray) (ha : a.size ≤ 8192) (hb : b.size ≤ 8192) (n : Nat) (hn : n = min (frameOf a).size (frameOf b).size) (h : (frameOf a).extract 0 n = (frameOf b).extract 0 n) : a = b := by
  have za := frame_size a
  have zb := frame_size b
  have h' : ((bytesOf (frameOf a)).take n) = ((bytesOf (frameOf b)).take n) := by
    have := congrArg bytesOf h
    rw [bytesOf_extract, bytesOf_extract] at this
    simpa using this
  have hha : headL a = [(a.size : Int) % 4294967296 % 256, (a.size : Int) % 4294967296 / 256 % 256] ++ bytesOf a := rfl
  have hhb : headL b = [(b.size : Int) % 4294967296 % 256, (b.size : Int) % 4294967296 / 256 % 256] ++ bytesOf b := rfl
  have e0 := congrArg (fun l => l[0]?) h'
  have e1 := congrArg (fun l => l[1]?) h'
  simp only [List.getElem?_take_of_lt (show 0 < n by omega), List.getElem?_take_of_lt (show 1 < n by omega), frame_bytes, hha, hhb, List.cons_append, List.getElem?_cons_zero, List.getElem?_cons_succ, Option.some.injEq] at e0 e1
  have es : a.size = b.size := by omega
  have e : frameOf a = frameOf b := by
    apply bytesOf_inj
    rw [List.take_of_length_le (by rw [bytesOf_length]; omega), List.take_of_length_le (by rw [bytesOf_length]; omega)] at h'
    exact h'
  have ga := get_frame0 a ha
  have gb := get_frame0 b hb
  rw [e, gb] at ga
  exact (Prod.mk.inj ga).1.symm
end Go.Proofs.YtnhmmbgnaogokaaGreatDoor.G
end
section
namespace Go.Proofs.YtnhmmbgnaogokaaGreatDoor.G
open Go.RowKit Go.Proofs.YtnhmmbgnaogokaaGreatDoorW.PrintWords Go.Proofs.YtnhmmbgnaogokaaGreatDoorW.PrintLast Go.Proofs.YtnhmmbgnaogokaaGreatDoorW.PrintMore
set_option maxHeartbeats 8000000
set_option maxRecDepth 100000
attribute [local go_sem] max2_int min2_int max_two min_two max_three min_three max_four min_four   -- for this text's walks alone
set_option linter.unusedVariables false
set_option linter.unusedSimpArgs false

mutual
def sleuthref12_PutRecord.j0 : Nat → Bool → Int → Int → List ByteArray → ByteArray → Option (ByteArray × Int)
 | 0, _, _, _, _, _ => none
 | k + 1, x14, x283000, x283001, x283002, x283003 => if x14 = true then (some ((⟨#[]⟩ : ByteArray), 1500)) else ((sleuthref12_low.f k x283000 1).bind fun t285 => ((sleuthref12_low.f k (wrap64 (x283001 + 1)) 2).bind fun t286 => (if t285.size + t286.size ≤ 9223372036854775807 then ((sleuthref12_low.f k (x283002.length : Int) 1).bind fun t287 => (if (t285 ++ t286).size + t287.size ≤ 9223372036854775807 then (sleuthref12_PutRecord.l0 k ((t285 ++ t286) ++ t287) 0 x283000 x283001 x283002 x283003) else (none))) else (none))))
def sleuthref12_PutRecord.l0 : Nat → ByteArray → Int → Int → Int → List ByteArray → ByteArray → Option (ByteArray × Int)
 | 0, _, _, _, _, _, _ => none
 | k + 1, x4, x5, x283000, x283001, x283002, x283003 => if x5 < (x283002.length : Int) then (if 0 ≤ x5 then ((sleuthref12_sized.f k (rdOf ByteArray.empty x283002 x5)).bind fun t289 => (if x4.size + t289.size ≤ 9223372036854775807 then (sleuthref12_PutRecord.l0 k (x4 ++ t289) (wrap64 (x5 + 1)) x283000 x283001 x283002 x283003) else (none))) else (none)) else ((sleuthref12_sized.f k x283003).bind fun t290 => (if x4.size + t290.size ≤ 9223372036854775807 then (some (x4 ++ t290, 0)) else (none)))
end
def sleuthref12_PutRecord.f (k : Nat) (a0_0 : Int) (a0_1 : Int) (l0_2 : List ByteArray) (a0_3 : ByteArray) : Option (ByteArray × Int) := (sleuthref12_texts.f k a0_0 a0_1 l0_2 a0_3).bind fun t283 => (if t283 = true then ((sleuthref12_upTo.f a0_1 (-1) 511).bind fun t284 => (sleuthref12_PutRecord.j0 k (!t284) a0_0 a0_1 l0_2 a0_3)) else (sleuthref12_PutRecord.j0 k true a0_0 a0_1 l0_2 a0_3))
def sleuthref12_PutRecord.T3 : Bool × List (List Nat × List Nat) := (true, [([], []), ([0], [0]), ([1], [1]), ([], []), ([3], [3]), ([4], [4]), ([5, 2], [5]), ([2, 6], [2, 6]), ([], []), ([8], [8]), ([9], [9]), ([10, 6], [10]), ([7, 11], [7, 11]), ([12, 11, 0, 1, 2, 3, 4, 5, 6, 7, 8, 9, 10, 11, 12], [12])])
def sleuthref12_PutRecord.B3 : List Nat := [0, 1, 3, 0, 8, 24, 63, 127, 0, 256, 768, 1919, 4095, 8191]
theorem sleuthref12_PutRecord.tab3 : rtab .any (opsOf Tryz.f15 3) = sleuthref12_PutRecord.T3 := by kernel_rfl
theorem sleuthref12_PutRecord.bits3 : waitsOk sleuthref12_PutRecord.T3.2 sleuthref12_PutRecord.B3 = true := by kernel_rfl
theorem sleuthref12_PutRecord.calls (k : Nat) (a0_0 : Int) (a0_1 : Int) (A0_2 : Option Addr) (c0_2 : Nat) (l0_2 : List ByteArray) (a0_3 : ByteArray) (r1 : ByteArray) (r2 : Int) (w : World) (hr0_2 : Kd.C Kd.string w A0_2 l0_2.length l0_2) (hc0_2 : l0_2.length ≤ c0_2) (h : sleuthref12_PutRecord.f k a0_0 a0_1 l0_2 a0_3 = some (r1, r2)) :
 Calls Tryz.prog 15 #[.agg #[.int .i64 a0_0, .int .i64 a0_1, .slice A0_2 l0_2.length c0_2, .string a0_3]] w fun e w' => e = .returned (.tuple #[.string r1, .int .i64 r2]) ∧ Below w.heap.size w w' := by
 have hu41 := Tryz.underlying41
 have HR0_2 := a_ hr0_2
 have HC0_2 := a_ hc0_2
 clear hr0_2 hc0_2
 have HB := a_ (Below.refl w.heap.size w)
 have H := h; unfold sleuthref12_PutRecord.f at H
 clear h
 have HC2 := a_ H
 clear H
 go_enter Tryz.func15, Tryz.ntmps15
 go_upto_region 1 with (first | ((with_reducible refine gate_dst (N := 1) rfl ?_); refine boxE_ 1 #[.int .i64 a0_0, .int .i64 a0_1, .slice A0_2 l0_2.length c0_2, .string a0_3] 41 ?_; intro g0 hg w3 hbox hb; have B0 := a_ (hbox); have E0 := a_ ((gE_ hg : w.heap.size ≤ g0)); replace HB := a_ (below_step hB_ hb); clear hb hbox hg))
 (try simp only [Act.put, List.setIfInBounds_toArray, List.set_cons_zero, List.set_cons_succ])
 go_cut [14] (fun v0 wc => ∃ (kq : Nat) (x2 : Bool), v0 = .bool x2 ∧ Aside0 (sleuthref12_PutRecord.j0 kq x2 a0_0 a0_1 l0_2 a0_3 = some (r1, r2)) ∧ Aside0 (kq ≤ k) ∧ Aside0 (wc.heap[g0]? = some (.cells #[.int .i64 a0_0, .int .i64 a0_1, (.slice A0_2 l0_2.length c0_2), .string a0_3] 41 (0, 0))) ∧ Aside0 (Below w.heap.size w wc))
 case first =>
  have H := HC2.out
  clear HC2
  replace H := Option.bind_eq_some_iff.mp H
  obtain ⟨t6, A40, H⟩ := H
  try dsimp only at H
  have A4 := a_ A40
  clear A40
  by_cases c5 : t6 = true
  case neg =>
   replace c5 := Bool.eq_false_iff.mpr c5
   subst c5
   rw [if_neg (show ¬ (false = true) by decide)] at H
   have H' := a_ H
   clear H
   obtain ⟨z0, z1, z2, z3, f0, f1, f2, f3⟩ := bx4_ B0.out
   go_wp2_with (first | ((with_reducible refine gate_callee (f := 33) rfl ?_); refine goesL_ (some 7) rfl rfl Tryz.func33 (by kernel_rfl) rfl #[.agg #[.int .i64 a0_0, .int .i64 a0_1, .slice A0_2 l0_2.length c0_2, .string a0_3]] rfl hL_ ?_; (with_reducible refine (sleuthref12_texts.calls k a0_0 a0_1 _ _ l0_2 a0_3 false _ ?s1 ?s2 A4.out).mono ?_); (case s1 => exact cB_ HR0_2.out); (case s2 => exact HC0_2.out); rintro e w0 ⟨rfl, hb⟩; refine ⟨_, rfl, ?_⟩; replace B0 := a_ (bB_ B0.out hb); replace HB := a_ (below_step hC_ hb); (try clear hb); (try clear hb2); (try clear hk); (try clear hi)))
   go_meet
   case rel => exact ⟨_, (true), hW_, H', ⟨by first | omega | exact Nat.le_refl _⟩, ⟨(hK_ B0.out)⟩, ⟨hC_⟩⟩
  subst c5
  rw [if_pos rfl] at H
  replace H := Option.bind_eq_some_iff.mp H
  obtain ⟨t5, A60, H⟩ := H
  try dsimp only at H
  have A6 := a_ A60
  clear A60
  have H' := a_ H
  clear H
  obtain ⟨z4, z5, z6, z7, f4, f5, f6, f7⟩ := bx4_ B0.out
  go_wp2_with (first | ((with_reducible refine gate_callee (f := 33) rfl ?_); refine goesL_ _ rfl rfl Tryz.func33 (by kernel_rfl) rfl #[.agg #[.int .i64 a0_0, .int .i64 a0_1, .slice A0_2 l0_2.length c0_2, .string a0_3]] rfl hL_ ?_; (with_reducible refine (sleuthref12_texts.calls k a0_0 a0_1 _ _ l0_2 a0_3 true _ ?s1 ?s2 A4.out).mono ?_); (case s1 => exact cB_ HR0_2.out); (case s2 => exact HC0_2.out); rintro e w8 ⟨rfl, hb⟩; refine ⟨_, rfl, ?_⟩; replace B0 := a_ (bB_ B0.out hb); replace HB := a_ (below_step hC_ hb); (try clear hb); (try clear hb2); (try clear hk); (try clear hi); obtain ⟨z8, z9, z10, z11, f8, f9, f10, f11⟩ := bx4_ B0.out) | (go_at_call 34; (with_reducible refine (sleuthref12_upTo.calls a0_1 (-1) 511 t5 _ A6.out).mono ?_); rintro e w' ⟨rfl, ⟨nd, rfl⟩⟩))
  go_meet
  case rel => exact ⟨_, (!t5), hW_, H', ⟨by first | omega | exact Nat.le_refl _⟩, ⟨(hK_ B0.out)⟩, ⟨hC_⟩⟩
 case rest =>
  clear HC2
  try clear c1
  try clear p2
  try clear c3
  try clear c5
  try clear z0
  try clear z1
  try clear z2
  try clear z3
  try clear z4
  try clear z5
  try clear z6
  try clear z7
  try clear z8
  try clear z9
  try clear z10
  try clear z11
  try clear f0
  try clear f1
  try clear f2
  try clear f3
  try clear f4
  try clear f5
  try clear f6
  try clear f7
  try clear f8
  try clear f9
  try clear f10
  try clear f11
  obtain ⟨kq, x2, rfl, HA, HJ1, B0, HB⟩ := hcut
  cases kq with
  | zero => exact absurd HA.out (by simp [sleuthref12_PutRecord.j0])
  | succ kj1 =>
   have H := HA.out
   clear HA
   simp only [sleuthref12_PutRecord.j0] at H
   by_cases c12 : x2 = true
   case pos =>
    subst c12
    rw [if_pos rfl] at H
    simp only [Option.some.injEq, Prod.mk.injEq] at H
    obtain ⟨rfl, rfl⟩ := H
    go_wp2
    go_ret2
    exact ⟨hV_, hC_⟩
   replace c12 := Bool.eq_false_iff.mpr c12
   subst c12
   rw [if_neg (show ¬ (false = true) by decide)] at H
   replace H := Option.bind_eq_some_iff.mp H
   obtain ⟨t0, A130, H⟩ := H
   try dsimp only at H
   have A13 := a_ A130
   clear A130
   replace H := Option.bind_eq_some_iff.mp H
   obtain ⟨t1, A140, H⟩ := H
   try dsimp only at H
   have A14 := a_ A140
   clear A140
   replace H := ifI_ H; obtain ⟨c15, H⟩ := H
   have c15b0 := eq_true c15
   have c15b1 : decide (t0.size + t1.size ≤ 9223372036854775807) = true := decide_eq_true c15
   try have c15b2 : (9223372036854775807 < t0.size + t1.size) = False := eq_false (Nat.not_lt.2 c15)
   replace H := Option.bind_eq_some_iff.mp H
   obtain ⟨t2, A160, H⟩ := H
   try dsimp only at H
   have A16 := a_ A160
   clear A160
   replace H := ifI_ H; obtain ⟨c17, H⟩ := H
   have c17b0 := eq_true c17
   have c17b1 : decide ((t0 ++ t1).size + t2.size ≤ 9223372036854775807) = true := decide_eq_true c17
   try have c17b2 : (9223372036854775807 < (t0 ++ t1).size + t2.size) = False := eq_false (Nat.not_lt.2 c17)
   try have c17b3 : (9223372036854775807 < t0.size + t1.size + t2.size) = False := eq_false (Nat.not_lt.2 (by have h_ := c17; simp only [ByteArray.size_append, ByteArray.size_extract, Nat.min_self] at h_; omega))
   have H' := a_ H
   clear H
   try go_wp2
   replace B0 := a_ (blk_drew B0.out)
   replace HB := a_ (below_drew1 HB.out)
   refine start_ (n := 14) (S := fun w' => w'.cell? ⟨g0, 0, none⟩ = some (.int .i64 a0_0) ∧ w'.cell? ⟨g0, 1, none⟩ = some (.int .i64 a0_1) ∧ w'.cell? ⟨g0, 2, none⟩ = some (.slice A0_2 l0_2.length c0_2) ∧ w'.cell? ⟨g0, 3, none⟩ = some (.string a0_3)) (ds := []) #[false, false, false, false, false, false, false, false, false, false, false, false, false, false] (by kernel_rfl) rfl rfl ⟨(blk_cell B0.out 0).trans rfl, (blk_cell B0.out 1).trans rfl, (blk_cell B0.out 2).trans rfl, (blk_cell B0.out 3).trans rfl⟩ (fun hHeld => ?_); refine with_tabW sleuthref12_PutRecord.tab3 sleuthref12_PutRecord.bits3 (fun HT_ HW_ => ?_)
   generalize wc.drew = w1 at B0 HB hHeld ⊢
   refine pB_ 0 15 HT_.out ?_
   refine pB_ 3 18 HT_.out ?_
   refine pB_ 8 23 HT_.out ?_
   refine tB_ 1 16 HT_.out HW_.out hHeld ?_
   refine tB_ 4 19 HT_.out HW_.out hHeld ?_
   refine pB_ 5 20 HT_.out ?_
   refine tB_ 9 24 HT_.out HW_.out hHeld ?_
   refine pB_ 10 25 HT_.out ?_
   refine one_ (i := 2) (N := some 17) #[true, true, true, true, true, true, false, false, true, true, true, false, false, false] rfl rfl (one_of HT_.out (by kernel_rfl)) (by decide) (fun K hK => ?_)
   refine goes_ Tryz.func35 (by kernel_rfl) rfl #[.int .i64 a0_0, .int .i64 1] (by rfl) rfl rfl hL_ ?_
   with_reducible refine (sleuthref12_low.calls kj1 a0_0 1 t0 _ A13.out).mono ?_
   rintro e w2 ⟨rfl, hb⟩
   refine ⟨_, rfl, ?_⟩
   replace B0 := a_ (bB_ B0.out hb)
   replace HB := a_ (below_step hC_ hb)
   (try clear hb)
   (try clear hb2)
   (try clear hk)
   (try clear hi)
   refine hK.out _ _ ⟨(blk_cell B0.out 0).trans rfl, (blk_cell B0.out 1).trans rfl, (blk_cell B0.out 2).trans rfl, (blk_cell B0.out 3).trans rfl⟩ (fun hHeld => ?_)
   clear hK K
   refine norm_ (a' := ?_) ?_ ?_
   rotate_left
   · show Act.put _ (some 17) _ = _
     simp only [Act.put, List.setIfInBounds_toArray, List.set_cons_zero, List.set_cons_succ, i64_w, i32_w]
     rfl
   refine one_ (i := 6) (N := some 21) #[true, true, true, true, true, true, true, false, true, true, true, false, false, false] rfl rfl (one_of HT_.out (by kernel_rfl)) (by decide) (fun K hK => ?_)
   refine goes_ Tryz.func35 (by kernel_rfl) rfl #[.int .i64 (wrap64 (a0_1 + 1)), .int .i64 2] (by rfl) rfl rfl hL_ ?_
   with_reducible refine (sleuthref12_low.calls kj1 (wrap64 (a0_1 + 1)) 2 t1 _ A14.out).mono ?_
   rintro e w4 ⟨rfl, hb⟩
   refine ⟨_, rfl, ?_⟩
   replace B0 := a_ (bB_ B0.out hb)
   replace HB := a_ (below_step hC_ hb)
   (try clear hb)
   (try clear hb2)
   (try clear hk)
   (try clear hi)
   refine hK.out _ _ ⟨(blk_cell B0.out 0).trans rfl, (blk_cell B0.out 1).trans rfl, (blk_cell B0.out 2).trans rfl, (blk_cell B0.out 3).trans rfl⟩ (fun hHeld => ?_)
   clear hK K
   refine norm_ (a' := ?_) ?_ ?_
   rotate_left
   · show Act.put _ (some 21) _ = _
     simp only [Act.put, List.setIfInBounds_toArray, List.set_cons_zero, List.set_cons_succ, i64_w, i32_w]
     rfl
   refine pB_ 7 22 HT_.out ?_
   refine one_ (i := 11) (N := some 26) #[true, true, true, true, true, true, true, true, true, true, true, true, false, false] rfl rfl (one_of HT_.out (by kernel_rfl)) (by decide) (fun K hK => ?_)
   refine goes_ Tryz.func35 (by kernel_rfl) rfl #[.int .i64 (l0_2.length : Int), .int .i64 1] (by rfl) rfl rfl hL_ ?_
   with_reducible refine (sleuthref12_low.calls kj1 (l0_2.length : Int) 1 t2 _ A16.out).mono ?_
   rintro e w5 ⟨rfl, hb⟩
   refine ⟨_, rfl, ?_⟩
   replace B0 := a_ (bB_ B0.out hb)
   replace HB := a_ (below_step hC_ hb)
   (try clear hb)
   (try clear hb2)
   (try clear hk)
   (try clear hi)
   refine hK.out _ _ ⟨(blk_cell B0.out 0).trans rfl, (blk_cell B0.out 1).trans rfl, (blk_cell B0.out 2).trans rfl, (blk_cell B0.out 3).trans rfl⟩ (fun hHeld => ?_)
   clear hK K
   refine norm_ (a' := ?_) ?_ ?_
   rotate_left
   · show Act.put _ (some 26) _ = _
     simp only [Act.put, List.setIfInBounds_toArray, List.set_cons_zero, List.set_cons_succ, i64_w, i32_w]
     rfl
   refine pB_ 12 27 HT_.out ?_
   refine pB_ 13 4 HT_.out ?_
   refine done_ (done_of HT_.out (by kernel_rfl)) ?_
   try go_wp2
   go_loopg [4, 5] kj1 (fun kq v4 v5 w' => ∃ (x1 : ByteArray) (x0 : Int), v4 = .string x1 ∧ v5 = .int .i64 x0 ∧ Aside0 (sleuthref12_PutRecord.l0 kq x1 x0 a0_0 a0_1 l0_2 a0_3 = some (r1, r2)) ∧ Aside0 (kq ≤ kj1) ∧ Aside0 (w'.heap[g0]? = some (.cells #[.int .i64 a0_0, .int .i64 a0_1, (.slice A0_2 l0_2.length c0_2), .string a0_3] 41 (0, 0))) ∧ Aside0 (Below w.heap.size w w'))
   case atStart => exact ⟨((t0 ++ t1) ++ t2), (0), hW_, hW_, H', ⟨Nat.le_refl _⟩, ⟨(hK_ B0.out)⟩, ⟨hC_⟩⟩
   case round =>
    clear H'
    try clear c1
    try clear p2
    try clear c3
    try clear c5
    try clear p6
    try clear c12
    try clear c15
    try clear c15b0
    try clear c15b1
    try clear c15b2
    try clear c17
    try clear c17b0
    try clear c17b1
    try clear c17b2
    try clear z0
    try clear z1
    try clear z2
    try clear z3
    try clear z4
    try clear z5
    try clear z6
    try clear z7
    try clear z8
    try clear z9
    try clear z10
    try clear z11
    try clear f0
    try clear f1
    try clear f2
    try clear f3
    try clear f4
    try clear f5
    try clear f6
    try clear f7
    try clear f8
    try clear f9
    try clear f10
    try clear f11
    try clear p2
    obtain ⟨x1, x0, rfl, rfl, HA, HK2, B0, HB⟩ := hrel
    cases gk with
    | zero => exact absurd HA.out (by simp [sleuthref12_PutRecord.l0])
    | succ k2 =>
     have H := HA.out
     clear HA
     simp only [sleuthref12_PutRecord.l0] at H
     by_cases c22 : x0 < (l0_2.length : Int)
     case neg =>
      rw [if_neg c22] at H
      have c22b0 : decide (x0 < (l0_2.length : Int)) = false := decide_eq_false c22
      clear c22
      replace H := Option.bind_eq_some_iff.mp H
      obtain ⟨t4, A280, H⟩ := H
      try dsimp only at H
      have A28 := a_ A280
      clear A280
      replace H := ifI_ H; obtain ⟨c29, H⟩ := H
      have c29b0 := eq_true c29
      have c29b1 : decide (x1.size + t4.size ≤ 9223372036854775807) = true := decide_eq_true c29
      try have c29b2 : (9223372036854775807 < x1.size + t4.size) = False := eq_false (Nat.not_lt.2 c29)
      simp only [Option.some.injEq, Prod.mk.injEq] at H
      obtain ⟨rfl, rfl⟩ := H
      obtain ⟨z12, z13, z14, z15, f12, f13, f14, f15⟩ := bx4_ B0.out
      go_wp2_with (first | ((with_reducible refine gate_callee (f := 36) rfl ?_); refine goesL_ (some 46) rfl rfl Tryz.func36 (by kernel_rfl) rfl #[.string a0_3] rfl hL_ ?_; (with_reducible refine (sleuthref12_sized.calls k2 a0_3 t4 _ A28.out).mono ?_); rintro e w6 ⟨rfl, hb⟩; refine ⟨_, rfl, ?_⟩; replace B0 := a_ (bB_ B0.out hb); replace HB := a_ (below_step hC_ hb); (try clear hb); (try clear hb2); (try clear hk); (try clear hi)))
      go_ret2
      exact ⟨hV_, hC_⟩
     rw [if_pos c22] at H
     have c22b0 : decide (x0 < (l0_2.length : Int)) = true := decide_eq_true c22
     clear c22
     replace H := ifI_ H; obtain ⟨c23, H⟩ := H
     have c23b0 : decide (0 ≤ x0) = true := decide_eq_true c23
     clear c23
     replace H := Option.bind_eq_some_iff.mp H
     obtain ⟨t3, A240, H⟩ := H
     try dsimp only at H
     have A24 := a_ A240
     clear A240
     replace H := ifI_ H; obtain ⟨c25, H⟩ := H
     have c25b0 := eq_true c25
     have c25b1 : decide (x1.size + t3.size ≤ 9223372036854775807) = true := decide_eq_true c25
     try have c25b2 : (9223372036854775807 < x1.size + t3.size) = False := eq_false (Nat.not_lt.2 c25)
     have H' := a_ H
     clear H
     obtain ⟨z16, z17, z18, z19, f16, f17, f18, f19⟩ := bx4_ B0.out
     have p288 : 0 ≤ (x0 : Int) := of_decide_eq_true hA_
     have q288 : x0 < (l0_2.length : Int) := of_decide_eq_true hA_
     obtain ⟨d0, e288, h0⟩ := Kd.at_string HR0_2.out x0 p288 q288
     cases e288
     replace h0 := cl_ HB.out h0
     replace p288 := eq_true p288
     replace q288 := eq_true q288
     go_wp2_with (first | ((with_reducible refine gate_callee (f := 36) rfl ?_); refine goesL_ (some 41) rfl rfl Tryz.func36 (by kernel_rfl) rfl #[.string (rdOf ByteArray.empty l0_2 x0)] rfl hL_ ?_; (with_reducible refine (sleuthref12_sized.calls k2 (rdOf ByteArray.empty l0_2 x0) t3 _ A24.out).mono ?_); rintro e w7 ⟨rfl, hb⟩; refine ⟨_, rfl, ?_⟩; replace B0 := a_ (bB_ B0.out hb); replace HB := a_ (below_step hC_ hb); (try clear hb); (try clear hb2); (try clear hk); (try clear hi)))
     go_roundg k2
     case measure => have := HJ1.out; have := HK2.out; omega
     case rel => exact ⟨(x1 ++ t3), (wrap64 (x0 + 1)), hW_, hW_, H', ⟨by have := HJ1.out; have := HK2.out; omega⟩, ⟨(hK_ B0.out)⟩, ⟨hC_⟩⟩
end Go.Proofs.YtnhmmbgnaogokaaGreatDoor.G
end
