-- Laid by the session's own driver gp.py over the kit's printer. Not trusted: Lean checks it.
import Derived.Test.YtljlmkbcichlpaaDoorTHead
import Derived.Test.YtljlmkbcichlpaaDoorG0
namespace Go.Proofs.YtljlmkbcichlpaaDoor.G
open Go.RowKit Go.Proofs.YtljlmkbcichlpaaDoorW.PrintWords Go.Proofs.YtljlmkbcichlpaaDoorW.PrintLast Go.Proofs.YtljlmkbcichlpaaDoorW.PrintMore
set_option maxHeartbeats 8000000
set_option maxRecDepth 100000
attribute [local go_sem] max2_int min2_int max_two min_two max_three min_three max_four min_four   -- for this text's walks alone
set_option linter.unusedVariables false
set_option linter.unusedSimpArgs false

def sleuthlaw0_SameTexts.l0 : Nat → List ByteArray → List ByteArray → Int → Option (Bool)
 | 0, _, _, _ => none
 | k + 1, x0, x1, x5 => if x5 < (x0.length : Int) then (if 0 ≤ x5 then (if x5 < (x1.length : Int) then (if (rdOf ByteArray.empty x0 x5).toList = (rdOf ByteArray.empty x1 x5).toList then (sleuthlaw0_SameTexts.l0 k x0 x1 (wrap64 (x5 + 1))) else (some false)) else (none)) else (none)) else (some true)
def sleuthlaw0_SameTexts.f (k : Nat) (l0 : List ByteArray) (l1 : List ByteArray) : Option (Bool) := if (l0.length : Int) = (l1.length : Int) then (sleuthlaw0_SameTexts.l0 k l0 l1 0) else (some false)
theorem sleuthlaw0_SameTexts.calls (k : Nat) (A0 : Option Addr) (c0 : Nat) (l0 : List ByteArray) (A1 : Option Addr) (c1 : Nat) (l1 : List ByteArray) (r : Bool) (w : World) (hr0 : Kd.C Kd.string w A0 l0.length l0) (hc0 : l0.length ≤ c0) (hr1 : Kd.C Kd.string w A1 l1.length l1) (hc1 : l1.length ≤ c1) (h : sleuthlaw0_SameTexts.f k l0 l1 = some r) :
 Calls Tryd.prog 10 #[.slice A0 l0.length c0, .slice A1 l1.length c1] w fun e w' => e = .returned (.bool r) ∧ Drawn0 w w' := by
 have HR0 := a_ hr0
 have HC0 := a_ hc0
 clear hr0 hc0
 have HR1 := a_ hr1
 have HC1 := a_ hc1
 clear hr1 hc1
 have H := h; unfold sleuthlaw0_SameTexts.f at H
 clear h
 by_cases c3 : (l0.length : Int) = (l1.length : Int)
 case neg =>
  rw [if_neg c3] at H
  have c3b0 : ((l0.length : Int) == (l1.length : Int)) = false := beq_eq_false_iff_ne.mpr c3
  have c3b1 : ((l0.length : Int) != (l1.length : Int)) = true := bne_iff_ne.mpr c3
  have c3b2 : (l0.length == l1.length) = false := by first | simpa using c3 | (simp at c3 ⊢; omega)
  obtain rfl := Option.some.inj H
  go_enter Tryd.func10, Tryd.ntmps10
  go_wp2
  repeat (go_quiet (fail); try go_wp2)
  go_ret
  exact ⟨by first | rfl | (simp; done) | (simp [*]; done), by repeat (first | exact Drawn0.refl _ | apply Drawn0.step)⟩

 rw [if_pos c3] at H
 have c3b0 : ((l0.length : Int) == (l1.length : Int)) = true := beq_iff_eq.mpr c3
 have c3b1 : ((l0.length : Int) != (l1.length : Int)) = false := bne_eq_false_iff_eq.mpr c3
 have c3b2 : (l0.length == l1.length) = true := by first | simpa using c3 | (simp at c3 ⊢; omega)
 clear c3
 have H' := a_ H
 clear H
 go_enter Tryd.func10, Tryd.ntmps10
 go_wp2
 repeat (go_quiet (fail); try go_wp2)
 go_loopg [5] k (fun kq v5 w' => ∃ (x0 : Int), v5 = .int .i64 x0 ∧ Aside0 (sleuthlaw0_SameTexts.l0 kq l0 l1 x0 = some r) ∧ Aside0 (kq ≤ k) ∧ Drawn0 w w')
 case atStart => exact ⟨(0), hW_, H', ⟨Nat.le_refl _⟩, by repeat (first | exact Drawn0.refl _ | apply Drawn0.step)⟩
 case round =>
  clear H'
  try clear c1
  try clear p2
  try clear c3
  try clear c3b0
  try clear c3b1
  try clear c3b2
  obtain ⟨x0, rfl, HA, HK1, ⟨m1, rfl⟩⟩ := hrel
  cases gk with
  | zero => exact absurd HA.out (by simp [sleuthlaw0_SameTexts.l0])
  | succ k1 =>
   have H := HA.out
   clear HA
   simp only [sleuthlaw0_SameTexts.l0] at H
   by_cases c4 : x0 < (l0.length : Int)
   case neg =>
    rw [if_neg c4] at H
    have c4b0 : decide (x0 < (l0.length : Int)) = false := decide_eq_false c4
    clear c4
    obtain rfl := Option.some.inj H
    go_wp2
    repeat (go_quiet (fail); try go_wp2)
    go_ret
    exact ⟨by first | rfl | (simp; done) | (simp [*]; done), by repeat (first | exact Drawn0.refl _ | apply Drawn0.step)⟩
   rw [if_pos c4] at H
   have c4b0 : decide (x0 < (l0.length : Int)) = true := decide_eq_true c4
   clear c4
   replace H := ifI_ H; obtain ⟨c5, H⟩ := H
   have c5b0 : decide (0 ≤ x0) = true := decide_eq_true c5
   clear c5
   replace H := ifI_ H; obtain ⟨c6, H⟩ := H
   have c6b0 : decide (x0 < (l1.length : Int)) = true := decide_eq_true c6
   clear c6
   by_cases c7 : (rdOf ByteArray.empty l0 x0).toList = (rdOf ByteArray.empty l1 x0).toList
   case neg =>
    rw [if_neg c7] at H
    have c7b0 : ((rdOf ByteArray.empty l0 x0).toList == (rdOf ByteArray.empty l1 x0).toList) = false := beq_eq_false_iff_ne.mpr c7
    have c7b1 : ((rdOf ByteArray.empty l0 x0).toList != (rdOf ByteArray.empty l1 x0).toList) = true := bne_iff_ne.mpr c7
    obtain rfl := Option.some.inj H
    have p107 : 0 ≤ (x0 : Int) := of_decide_eq_true hA_
    have q107 : x0 < (l0.length : Int) := of_decide_eq_true hA_
    obtain ⟨d0, e107, h0⟩ := Kd.at_string HR0.out x0 p107 q107
    cases e107
    replace p107 := eq_true p107
    replace q107 := eq_true q107
    have p108 : 0 ≤ (x0 : Int) := of_decide_eq_true hA_
    have q108 : x0 < (l1.length : Int) := of_decide_eq_true hA_
    obtain ⟨d1, e108, h1⟩ := Kd.at_string HR1.out x0 p108 q108
    cases e108
    replace p108 := eq_true p108
    replace q108 := eq_true q108
    go_wp2
    repeat (go_quiet (fail); try go_wp2)
    go_ret
    exact ⟨by first | rfl | (simp; done) | (simp [*]; done), by repeat (first | exact Drawn0.refl _ | apply Drawn0.step)⟩
   rw [if_pos c7] at H
   have c7b0 : ((rdOf ByteArray.empty l0 x0).toList == (rdOf ByteArray.empty l1 x0).toList) = true := beq_iff_eq.mpr c7
   have c7b1 : ((rdOf ByteArray.empty l0 x0).toList != (rdOf ByteArray.empty l1 x0).toList) = false := bne_eq_false_iff_eq.mpr c7
   clear c7
   have H' := a_ H
   clear H
   have p107 : 0 ≤ (x0 : Int) := of_decide_eq_true hA_
   have q107 : x0 < (l0.length : Int) := of_decide_eq_true hA_
   obtain ⟨d0, e107, h0⟩ := Kd.at_string HR0.out x0 p107 q107
   cases e107
   replace p107 := eq_true p107
   replace q107 := eq_true q107
   have p108 : 0 ≤ (x0 : Int) := of_decide_eq_true hA_
   have q108 : x0 < (l1.length : Int) := of_decide_eq_true hA_
   obtain ⟨d1, e108, h1⟩ := Kd.at_string HR1.out x0 p108 q108
   cases e108
   replace p108 := eq_true p108
   replace q108 := eq_true q108
   go_wp2
   repeat (go_quiet (fail); try go_wp2)
   go_roundg k1
   case measure => have := HK1.out; omega
   case rel => exact ⟨(wrap64 (x0 + 1)), hW_, H', ⟨by have := HK1.out; omega⟩, by repeat (first | exact Drawn0.refl _ | apply Drawn0.step)⟩
def sleuthlaw0_Num.f (a0 : Int) : Option (Int) := some a0
theorem sleuthlaw0_Num.calls (a0 : Int) (r : Int) (w : World) (h : sleuthlaw0_Num.f a0 = some r) :
 Calls Tryd.prog 11 #[.int .i64 a0] w fun e w' => e = .returned (.int .i64 r) ∧ Drawn0 w w' := by
 have H : (some a0) = some r := h
 clear h
 obtain rfl := Option.some.inj H
 go_enter Tryd.func11, Tryd.ntmps11
 go_wp2
 go_ret
 exact ⟨by first | rfl | (simp; done) | (simp [*]; done), by repeat (first | exact Drawn0.refl _ | apply Drawn0.step)⟩

def sleuthlaw0_SpoilTexts.l0 : Nat → List ByteArray → Int → Option (List ByteArray)
 | 0, _, _ => none
 | k + 1, x0, x2 => if x2 < (x0.length : Int) then (if 0 ≤ x2 then (if 1 + (rdOf ByteArray.empty x0 x2).size ≤ 9223372036854775807 then (sleuthlaw0_SpoilTexts.l0 k (x0.set (x2 : Int).toNat ((⟨#[126]⟩ : ByteArray) ++ (rdOf ByteArray.empty x0 x2))) (wrap64 (x2 + 1))) else (none)) else (none)) else (some x0)
def sleuthlaw0_SpoilTexts.f (k : Nat) (l0 : List ByteArray) : Option (List ByteArray) := sleuthlaw0_SpoilTexts.l0 k l0 0
theorem sleuthlaw0_SpoilTexts.calls (k : Nat) (P0_ : Nat → Prop) (u9000_ : Value) (l0 : List ByteArray) (r : List ByteArray) (w0 w : World) (hB : Below w0.heap.size w0 w) (ho0 : Kd.R Kd.string 9 w w0.heap.size P0_ u9000_ l0) (h : sleuthlaw0_SpoilTexts.f k l0 = some r) :
 Calls Tryd.prog 12 #[u9000_] w fun e w' => e = .returned (.tuple #[]) ∧ Kd.R Kd.string 9 w' w0.heap.size (fun k_ => (P0_ k_ ∨ w.heap.size ≤ k_)) u9000_ r ∧ Below w0.heap.size w0 w' ∧ Kept w w' (fun k_ => P0_ k_) := by
 have P0 := a_ (show Kd.R Kd.string 9 w w0.heap.size (fun k_ => (P0_ k_ ∨ w.heap.size ≤ k_)) u9000_ l0 from Kd.R_mono ho0 (fun k_ hk => (.inl hk)))
 have HK := a_ (Kept.refl w (fun k_ => P0_ k_))
 have HW0 := a_ hB.size
 have HB := a_ hB
 clear hB
 have H : (sleuthlaw0_SpoilTexts.l0 k l0 0) = some r := h
 clear h
 have H' := a_ H
 clear H
 go_enter Tryd.func12, Tryd.ntmps12
 go_wp2
 go_loopg [2] k (fun kq v2 w' => ∃ (x1 : List ByteArray) (x0 : Int), v2 = .int .i64 x0 ∧ Aside0 (sleuthlaw0_SpoilTexts.l0 kq x1 x0 = some r) ∧ Aside0 (kq ≤ k) ∧ Aside0 (Kd.R Kd.string 9 w' w0.heap.size (fun k_ => (P0_ k_ ∨ w.heap.size ≤ k_)) u9000_ x1) ∧ Aside0 (Kept w w' (fun k_ => P0_ k_)) ∧ Aside0 (Below w0.heap.size w0 w'))
 case atStart => exact ⟨(l0), (0), hW_, H', ⟨Nat.le_refl _⟩, ⟨hR_ P0.out⟩, ⟨by repeat (first | (with_reducible first | exact HK.out | apply Kept.alloc | apply Kept.drewN | apply Kept.drew) | exact HK.out)⟩, ⟨hC_⟩⟩
 case round =>
  clear H'
  try clear c1
  obtain ⟨x1, x0, rfl, HA, HK1, O0, HK, HB⟩ := hrel
  cases gk with
  | zero => exact absurd HA.out (by simp [sleuthlaw0_SpoilTexts.l0])
  | succ k1 =>
   have H := HA.out
   clear HA
   simp only [sleuthlaw0_SpoilTexts.l0] at H
   by_cases c2 : x0 < (x1.length : Int)
   case neg =>
    rw [if_neg c2] at H
    have c2b0 : decide (x0 < (x1.length : Int)) = false := decide_eq_false c2
    clear c2
    obtain rfl := Option.some.inj H
    obtain ⟨a0, o1, e1⟩ := Kd.R_slice O0.out
    subst e1
    go_wp2
    first | go_end0 | ((try simp only [Exit.inBlock, Exit.then]); refine bodyPost_ret (results_none rfl _ _ _) rfl ?_)
    exact ⟨hV_, hR_ O0.out, hC_, by repeat (first | (with_reducible first | exact HK.out | apply Kept.alloc | apply Kept.drewN | apply Kept.drew) | exact HK.out)⟩

   rw [if_pos c2] at H
   have c2b0 : decide (x0 < (x1.length : Int)) = true := decide_eq_true c2
   clear c2
   replace H := ifI_ H; obtain ⟨c3, H⟩ := H
   have c3b0 : decide (0 ≤ x0) = true := decide_eq_true c3
   clear c3
   replace H := ifI_ H; obtain ⟨c4, H⟩ := H
   have c4b0 := eq_true c4
   have c4b1 : decide (1 + (rdOf ByteArray.empty x1 x0).size ≤ 9223372036854775807) = true := decide_eq_true c4
   try have c4b2 : (9223372036854775807 < 1 + (rdOf ByteArray.empty x1 x0).size) = False := eq_false (Nat.not_lt.2 c4)
   obtain ⟨y0, i0⟩ : ∃ y_ : List ByteArray, y_ = (x1.set (x0 : Int).toNat ((⟨#[126]⟩ : ByteArray) ++ (rdOf ByteArray.empty x1 x0))) := ⟨_, rfl⟩
   replace H : (sleuthlaw0_SpoilTexts.l0 k1 y0 (wrap64 (x0 + 1))) = some r := by first | (rw [i0]; with_reducible exact H) | (have H2_ := (Option.bind_some _ _).symm.trans H; rw [i0]; with_reducible exact H2_) | (have H2_ := (Option.bind_some _ _).symm.trans H; with_reducible exact H2_) | with_reducible exact H | (rw [i0]; exact H) | exact H
   have Y0 := a_ i0
   clear i0
   have H' := a_ H
   clear H
   obtain ⟨a1, o0, e2⟩ := Kd.R_slice O0.out
   subst e2
   have p109 : 0 ≤ (x0 : Int) := of_decide_eq_true hA_
   have q109 : x0 < (x1.length : Int) := of_decide_eq_true hA_
   obtain ⟨d0, e109, h0⟩ := Kd.at_string (Kd.R_reads' O0.out).2.2 x0 p109 q109
   cases e109
   replace p109 := eq_true p109
   replace q109 := eq_true q109
   have p5 : 0 ≤ (x0 : Int) := of_decide_eq_true hA_
   have q5 : (x0 : Int) < ((x1.length : Int) : Int) := of_decide_eq_true hA_
   obtain ⟨j0, o2, e0, g0, gl5, cl5, HG5⟩ := Kd.R_form O0.out (by omega)
   (first | cases e0 | (injection e0 with ea_ en_ ec_; (first | subst ea_ | (injection ea_ with ea_; subst ea_)); subst ec_; clear en_))
   have J0 := a_ g0
   have K0 := a_ HG5
   clear g0 gl5 HG5
   have HMgo5 := a_ (show (P0_ j0 ∨ w.heap.size ≤ j0) from (O0.out.1 _ rfl))
   (first | simp only [add_plain] at h0 | skip)
   obtain ⟨h1, hf5_0⟩ := Kd.R_celln (⟨#[]⟩ : ByteArray) O0.out (x0 : Int) p5 q5
   replace p5 := eq_true p5
   replace q5 := eq_true q5
   have HP7 := Kd.R_putg O0.out (x0 : Int) ((⟨#[126]⟩ : ByteArray) ++ (rdOf ByteArray.empty x1 x0))
   go_wp2_with (first | ((with_reducible refine gate_store (t := 9) (p := 16) rfl ?_); refine store_event (t := 9) (p := 16) (v := ?vo_w8) (w1 := (wr.setCell ⟨j0, (x0 : Int).toNat, none⟩ (.string ((⟨#[126]⟩ : ByteArray) ++ (rdOf ByteArray.empty x1 x0))))) ?hg ?ho ?hn ?hr ?_; (case ho => rfl); (case hg => rfl); (case hn => rfl); (case hr => first | (go_simp; done) | (go_simp; rfl)); intro w8 hw; have hg : wr.grownBy w8 (some j0) := (by rw [hw]; exact HP7.2); have hp_ : Kd.R Kd.string 9 w8 w0.heap.size (fun k_ => (P0_ k_ ∨ w.heap.size ≤ k_)) (.slice (some ⟨j0, 0, none⟩) x1.length o0) y0 := (by rw [hw, Y0.out]; exact HP7.1); clear HP7; replace HB := a_ ((by rw [hw]; exact below_set (HB.out) J0.out : Below w0.heap.size w0 w8)); replace HK := a_ (Kept.of_grown (S := (fun k_ => P0_ k_)) hg (by repeat (first | (with_reducible first | exact HK.out | apply Kept.alloc | apply Kept.drewN | apply Kept.drew) | exact HK.out)) (fun k_ e_ => (O0.out.1 k_ e_))); replace O0 := a_ (hp_); clear hg hw hp_))
   go_roundg k1
   case measure => have := HK1.out; omega
   case rel => exact ⟨(y0), (wrap64 (x0 + 1)), hW_, H', ⟨by have := HK1.out; omega⟩, ⟨hR_ O0.out⟩, ⟨by repeat (first | (with_reducible first | exact HK.out | apply Kept.alloc | apply Kept.drewN | apply Kept.drew) | exact HK.out)⟩, ⟨hC_⟩⟩
end Go.Proofs.YtljlmkbcichlpaaDoor.G
