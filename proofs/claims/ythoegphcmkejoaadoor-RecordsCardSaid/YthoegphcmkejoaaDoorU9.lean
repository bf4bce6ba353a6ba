/- Parts of this proof, one behind the other: G27, G28, RecWake. -/
import Derived.Test.YthoegphcmkejoaaDoorU2
import Derived.Test.YthoegphcmkejoaaDoorG0
import Derived.Test.YthoegphcmkejoaaDoorU8
section
namespace Go.Proofs.YthoegphcmkejoaaDoor.G
open Go.RowKit Go.Proofs.YthoegphcmkejoaaDoorW.PrintWords Go.Proofs.YthoegphcmkejoaaDoorW.PrintLast Go.Proofs.YthoegphcmkejoaaDoorW.PrintMore
set_option maxHeartbeats 8000000
set_option maxRecDepth 100000
attribute [local go_sem] max2_int min2_int max_two min_two max_three min_three max_four min_four   -- for this text's walks alone
set_option linter.unusedVariables false
set_option linter.unusedSimpArgs false

def sleuthlaw0_SpoilTexts.l0 : Nat → List ByteArray → Int → Option (List ByteArray)
 | 0, _, _ => none
 | k + 1, x0, x2 => if x2 < (x0.length : Int) then (if 0 ≤ x2 then (if 1 + (rdOf ByteArray.empty x0 x2).size ≤ 9223372036854775807 then (sleuthlaw0_SpoilTexts.l0 k (x0.set (x2 : Int).toNat ((⟨#[126]⟩ : ByteArray) ++ (rdOf ByteArray.empty x0 x2))) (wrap64 (x2 + 1))) else (none)) else (none)) else (some x0)
def sleuthlaw0_SpoilTexts.f (k : Nat) (l0 : List ByteArray) : Option (List ByteArray) := sleuthlaw0_SpoilTexts.l0 k l0 0
theorem sleuthlaw0_SpoilTexts.calls (k : Nat) (P0_ : Nat → Prop) (u9000_ : Value) (l0 : List ByteArray) (r : List ByteArray) (w0 w : World) (hB : Below w0.heap.size w0 w) (ho0 : Kd.R Kd.string 9 w w0.heap.size P0_ u9000_ l0) (h : sleuthlaw0_SpoilTexts.f k l0 = some r) :
 Calls Tryd.prog 14 #[u9000_] w fun e w' => e = .returned (.tuple #[]) ∧ Kd.R Kd.string 9 w' w0.heap.size (fun k_ => (P0_ k_ ∨ w.heap.size ≤ k_)) u9000_ r ∧ Below w0.heap.size w0 w' ∧ Kept w w' (fun k_ => P0_ k_) := by
 have P0 := a_ (show Kd.R Kd.string 9 w w0.heap.size (fun k_ => (P0_ k_ ∨ w.heap.size ≤ k_)) u9000_ l0 from Kd.R_mono ho0 (fun k_ hk => (.inl hk)))
 have HK := a_ (Kept.refl w (fun k_ => P0_ k_))
 have HW0 := a_ hB.size
 have HB := a_ hB
 clear hB
 have H : (sleuthlaw0_SpoilTexts.l0 k l0 0) = some r := h
 clear h
 have H' := a_ H
 clear H
 go_enter Tryd.func14, Tryd.ntmps14
 go_wp2
 go_loopg [2] k (fun kq v2 w' => ∃ (x1 : List ByteArray) (x0 : Int), v2 = .int .i64 x0 ∧ Aside0 (sleuthlaw0_SpoilTexts.l0 kq x1 x0 = some r) ∧ Aside0 (kq ≤ k) ∧ Aside0 (Kd.R Kd.string 9 w' w0.heap.size (fun k_ => (P0_ k_ ∨ w.heap.size ≤ k_)) u9000_ x1) ∧ Aside0 (Kept w w' (fun k_ => P0_ k_)) ∧ Aside0 (Below w0.heap.size w0 w'))
 case atStart => exact ⟨(l0), (0), hW_, H', ⟨Nat.le_refl _⟩, ⟨hR_ P0.out⟩, ⟨by repeat (first | (with_reducible first | exact HK.out | apply Kept.alloc | apply Kept.drewN | apply Kept.drew) | exact HK.out)⟩, ⟨hC_⟩⟩
 case round =>
  clear H'
  try clear c1
  obtain ⟨x1, x0, rfl, HA, HK1, O0, HK, HB⟩ := hrel
  cases gk with
  | zero => exact absurd HA.out (by simp [sleuthlaw0_SpoilTexts.l0])
  | succ k1 =>
   have H := HA.out
   clear HA
   simp only [sleuthlaw0_SpoilTexts.l0] at H
   by_cases c2 : x0 < (x1.length : Int)
   case neg =>
    rw [if_neg c2] at H
    have c2b0 : decide (x0 < (x1.length : Int)) = false := decide_eq_false c2
    clear c2
    obtain rfl := Option.some.inj H
    obtain ⟨a0, o1, e1⟩ := Kd.R_slice O0.out
    subst e1
    go_wp2
    first | go_end0 | ((try simp only [Exit.inBlock, Exit.then]); refine bodyPost_ret (results_none rfl _ _ _) rfl ?_)
    exact ⟨hV_, hR_ O0.out, hC_, by repeat (first | (with_reducible first | exact HK.out | apply Kept.alloc | apply Kept.drewN | apply Kept.drew) | exact HK.out)⟩

   rw [if_pos c2] at H
   have c2b0 : decide (x0 < (x1.length : Int)) = true := decide_eq_true c2
   clear c2
   replace H := ifI_ H; obtain ⟨c3, H⟩ := H
   have c3b0 : decide (0 ≤ x0) = true := decide_eq_true c3
   clear c3
   replace H := ifI_ H; obtain ⟨c4, H⟩ := H
   have c4b0 := eq_true c4
   have c4b1 : decide (1 + (rdOf ByteArray.empty x1 x0).size ≤ 9223372036854775807) = true := decide_eq_true c4
   try have c4b2 : (9223372036854775807 < 1 + (rdOf ByteArray.empty x1 x0).size) = False := eq_false (Nat.not_lt.2 c4)
   obtain ⟨y0, i0⟩ : ∃ y_ : List ByteArray, y_ = (x1.set (x0 : Int).toNat ((⟨#[126]⟩ : ByteArray) ++ (rdOf ByteArray.empty x1 x0))) := ⟨_, rfl⟩
   replace H : (sleuthlaw0_SpoilTexts.l0 k1 y0 (wrap64 (x0 + 1))) = some r := by first | (rw [i0]; with_reducible exact H) | (have H2_ := (Option.bind_some _ _).symm.trans H; rw [i0]; with_reducible exact H2_) | (have H2_ := (Option.bind_some _ _).symm.trans H; with_reducible exact H2_) | with_reducible exact H | (rw [i0]; exact H) | exact H
   have Y0 := a_ i0
   clear i0
   have H' := a_ H
   clear H
   obtain ⟨a1, o0, e2⟩ := Kd.R_slice O0.out
   subst e2
   have p287 : 0 ≤ (x0 : Int) := of_decide_eq_true hA_
   have q287 : x0 < (x1.length : Int) := of_decide_eq_true hA_
   obtain ⟨d0, e287, h0⟩ := Kd.at_string (Kd.R_reads' O0.out).2.2 x0 p287 q287
   cases e287
   replace p287 := eq_true p287
   replace q287 := eq_true q287
   have p5 : 0 ≤ (x0 : Int) := of_decide_eq_true hA_
   have q5 : (x0 : Int) < ((x1.length : Int) : Int) := of_decide_eq_true hA_
   obtain ⟨j0, o2, e0, g0, gl5, cl5, HG5⟩ := Kd.R_form O0.out (by omega)
   (first | cases e0 | (injection e0 with ea_ en_ ec_; (first | subst ea_ | (injection ea_ with ea_; subst ea_)); subst ec_; clear en_))
   have J0 := a_ g0
   have K0 := a_ HG5
   clear g0 gl5 HG5
   have HMgo5 := a_ (show (P0_ j0 ∨ w.heap.size ≤ j0) from (O0.out.1 _ rfl))
   (first | simp only [add_plain] at h0 | skip)
   obtain ⟨h1, hf5_0⟩ := Kd.R_celln (⟨#[]⟩ : ByteArray) O0.out (x0 : Int) p5 q5
   replace p5 := eq_true p5
   replace q5 := eq_true q5
   have HP7 := Kd.R_putg O0.out (x0 : Int) ((⟨#[126]⟩ : ByteArray) ++ (rdOf ByteArray.empty x1 x0))
   go_wp2_with (first | ((with_reducible refine gate_store (t := 9) (p := 16) rfl ?_); refine store_event (t := 9) (p := 16) (v := ?vo_w8) (w1 := (wr.setCell ⟨j0, (x0 : Int).toNat, none⟩ (.string ((⟨#[126]⟩ : ByteArray) ++ (rdOf ByteArray.empty x1 x0))))) ?hg ?ho ?hn ?hr ?_; (case ho => rfl); (case hg => rfl); (case hn => rfl); (case hr => first | (go_simp; done) | (go_simp; rfl)); intro w8 hw; have hg : wr.grownBy w8 (some j0) := (by rw [hw]; exact HP7.2); have hp_ : Kd.R Kd.string 9 w8 w0.heap.size (fun k_ => (P0_ k_ ∨ w.heap.size ≤ k_)) (.slice (some ⟨j0, 0, none⟩) x1.length o0) y0 := (by rw [hw, Y0.out]; exact HP7.1); clear HP7; replace HB := a_ ((by rw [hw]; exact below_set (HB.out) J0.out : Below w0.heap.size w0 w8)); replace HK := a_ (Kept.of_grown (S := (fun k_ => P0_ k_)) hg (by repeat (first | (with_reducible first | exact HK.out | apply Kept.alloc | apply Kept.drewN | apply Kept.drew) | exact HK.out)) (fun k_ e_ => (O0.out.1 k_ e_))); replace O0 := a_ (hp_); clear hg hw hp_))
   go_roundg k1
   case measure => have := HK1.out; omega
   case rel => exact ⟨(y0), (wrap64 (x0 + 1)), hW_, H', ⟨by have := HK1.out; omega⟩, ⟨hR_ O0.out⟩, ⟨by repeat (first | (with_reducible first | exact HK.out | apply Kept.alloc | apply Kept.drewN | apply Kept.drew) | exact HK.out)⟩, ⟨hC_⟩⟩
def sleuthlaw15_some.f  : Option ((List (S24))) := some (([(⟨0, (-1), ([] : List ByteArray), (⟨#[57]⟩ : ByteArray)⟩ : S24), (⟨1, 0, (([(⟨#[64, 55, 40, 95, 32, 52, 41]⟩ : ByteArray), (⟨#[53]⟩ : ByteArray)] : List ByteArray)), (⟨#[57]⟩ : ByteArray)⟩ : S24), (⟨2, 0, ([] : List ByteArray), (⟨#[33]⟩ : ByteArray)⟩ : S24), (⟨1, 1, (([(⟨#[49]⟩ : ByteArray), (⟨#[95]⟩ : ByteArray)] : List ByteArray)), (⟨#[95]⟩ : ByteArray)⟩ : S24), (⟨1, 2, (([(⟨#[49]⟩ : ByteArray), (⟨#[95]⟩ : ByteArray)] : List ByteArray)), (⟨#[95]⟩ : ByteArray)⟩ : S24)] : List (S24)))
theorem sleuthlaw15_some.calls  (r : List (S24)) (w : World) (h : sleuthlaw15_some.f  = some r) :
 Calls Tryd.prog 16 #[] w fun e w' => ∃ v0_ : Value, e = .returned (v0_) ∧ Kd.N k24 24 w' w.heap.size (fun k_ => (w.heap.size ≤ k_)) v0_ r ∧ Below w.heap.size w w' := by
 have hu24 := Tryd.underlying24
 have HB := a_ (Below.refl w.heap.size w)
 have H := h; unfold sleuthlaw15_some.f at H
 clear h
 obtain ⟨y0, i0⟩ : ∃ y_ : List ByteArray, y_ = (([(⟨#[64, 55, 40, 95, 32, 52, 41]⟩ : ByteArray), (⟨#[53]⟩ : ByteArray)] : List ByteArray)) := ⟨_, rfl⟩
 replace H : (some (([(⟨0, (-1), ([] : List ByteArray), (⟨#[57]⟩ : ByteArray)⟩ : S24), (⟨1, 0, y0, (⟨#[57]⟩ : ByteArray)⟩ : S24), (⟨2, 0, ([] : List ByteArray), (⟨#[33]⟩ : ByteArray)⟩ : S24), (⟨1, 1, (([(⟨#[49]⟩ : ByteArray), (⟨#[95]⟩ : ByteArray)] : List ByteArray)), (⟨#[95]⟩ : ByteArray)⟩ : S24), (⟨1, 2, (([(⟨#[49]⟩ : ByteArray), (⟨#[95]⟩ : ByteArray)] : List ByteArray)), (⟨#[95]⟩ : ByteArray)⟩ : S24)] : List (S24)))) = some r := by first | (rw [i0]; with_reducible exact H) | (have H2_ := (Option.bind_some _ _).symm.trans H; rw [i0]; with_reducible exact H2_) | (have H2_ := (Option.bind_some _ _).symm.trans H; with_reducible exact H2_) | with_reducible exact H | (rw [i0]; exact H) | exact H
 have Y0 := a_ i0
 clear i0
 obtain ⟨y1, i1⟩ : ∃ y_ : List ByteArray, y_ = (([(⟨#[49]⟩ : ByteArray), (⟨#[95]⟩ : ByteArray)] : List ByteArray)) := ⟨_, rfl⟩
 replace H : (some (([(⟨0, (-1), ([] : List ByteArray), (⟨#[57]⟩ : ByteArray)⟩ : S24), (⟨1, 0, y0, (⟨#[57]⟩ : ByteArray)⟩ : S24), (⟨2, 0, ([] : List ByteArray), (⟨#[33]⟩ : ByteArray)⟩ : S24), (⟨1, 1, y1, (⟨#[95]⟩ : ByteArray)⟩ : S24), (⟨1, 2, (([(⟨#[49]⟩ : ByteArray), (⟨#[95]⟩ : ByteArray)] : List ByteArray)), (⟨#[95]⟩ : ByteArray)⟩ : S24)] : List (S24)))) = some r := by first | (rw [i1]; with_reducible exact H) | (have H2_ := (Option.bind_some _ _).symm.trans H; rw [i1]; with_reducible exact H2_) | (have H2_ := (Option.bind_some _ _).symm.trans H; with_reducible exact H2_) | with_reducible exact H | (rw [i1]; exact H) | exact H
 have Y1 := a_ i1
 clear i1
 obtain ⟨y2, i2⟩ : ∃ y_ : List ByteArray, y_ = (([(⟨#[49]⟩ : ByteArray), (⟨#[95]⟩ : ByteArray)] : List ByteArray)) := ⟨_, rfl⟩
 replace H : (some (([(⟨0, (-1), ([] : List ByteArray), (⟨#[57]⟩ : ByteArray)⟩ : S24), (⟨1, 0, y0, (⟨#[57]⟩ : ByteArray)⟩ : S24), (⟨2, 0, ([] : List ByteArray), (⟨#[33]⟩ : ByteArray)⟩ : S24), (⟨1, 1, y1, (⟨#[95]⟩ : ByteArray)⟩ : S24), (⟨1, 2, y2, (⟨#[95]⟩ : ByteArray)⟩ : S24)] : List (S24)))) = some r := by first | (rw [i2]; with_reducible exact H) | (have H2_ := (Option.bind_some _ _).symm.trans H; rw [i2]; with_reducible exact H2_) | (have H2_ := (Option.bind_some _ _).symm.trans H; with_reducible exact H2_) | with_reducible exact H | (rw [i2]; exact H) | exact H
 have Y2 := a_ i2
 clear i2
 obtain ⟨y3, i3⟩ : ∃ y_ : List (S24), y_ = (([(⟨0, (-1), ([] : List ByteArray), (⟨#[57]⟩ : ByteArray)⟩ : S24), (⟨1, 0, y0, (⟨#[57]⟩ : ByteArray)⟩ : S24), (⟨2, 0, ([] : List ByteArray), (⟨#[33]⟩ : ByteArray)⟩ : S24), (⟨1, 1, y1, (⟨#[95]⟩ : ByteArray)⟩ : S24), (⟨1, 2, y2, (⟨#[95]⟩ : ByteArray)⟩ : S24)] : List (S24))) := ⟨_, rfl⟩
 replace H : (some y3) = some r := by first | (rw [i3]; with_reducible exact H) | (have H2_ := (Option.bind_some _ _).symm.trans H; rw [i3]; with_reducible exact H2_) | (have H2_ := (Option.bind_some _ _).symm.trans H; with_reducible exact H2_) | with_reducible exact H | (rw [i3]; exact H) | exact H
 have Y3 := a_ i3
 clear i3
 obtain rfl := Option.some.inj H
 go_enter Tryd.func16, Tryd.ntmps16
 go_wp2_with (first | ((with_reducible refine gate_dst (N := 2) rfl ?_); refine Kd.R_lit Kd.string _ 9 ?hg (N := 2) ?hd (xs := ([(⟨#[64, 55, 40, 95, 32, 52, 41]⟩ : ByteArray), (⟨#[53]⟩ : ByteArray)] : List ByteArray)) (inner := [.string (⟨#[64, 55, 40, 95, 32, 52, 41]⟩ : ByteArray), .string (⟨#[53]⟩ : ByteArray)]) (ok := fun _ => True) (okp := fun _ => True) ?hr ?hp (fun _ hk => hk) trivial (Below.refl _ _) (Nat.le_refl _) (by simp) ?_; (case hd => rfl); (case hg => rfl); (case hr => first | (go_simp; done) | (go_simp; rfl)); (case hp => exact (Reps.one (show Kd.M Kd.string _ _ _ (⟨#[64, 55, 40, 95, 32, 52, 41]⟩ : ByteArray) [.string (⟨#[64, 55, 40, 95, 32, 52, 41]⟩ : ByteArray)] from rfl) (Reps.one (show Kd.M Kd.string _ _ _ (⟨#[53]⟩ : ByteArray) [.string (⟨#[53]⟩ : ByteArray)] from rfl) (Reps.none _ _)))); intro v0 w1 ho2 hb hg_ hnew_; clear hg_ hnew_; (first | rw [← Y0.out] at ho2 | (simp only [Int.reduceToNat] at ho2; rw [← Y0.out] at ho2)); have P0 := a_ (Kd.R_lower (Kd.R_newM (M := fun k_ => (w.heap.size ≤ k_)) ho2 hS_ (fun k_ h_ => h_)) hS_); replace HB := a_ (below_step hB_ hb); clear hb ho2; obtain ⟨a0, o0, e0⟩ := Kd.R_slice P0.out; subst e0) | ((with_reducible refine gate_dst (N := 5) rfl ?_); refine Kd.R_lit Kd.string _ 9 ?hg (N := 5) ?hd (xs := ([(⟨#[49]⟩ : ByteArray), (⟨#[95]⟩ : ByteArray)] : List ByteArray)) (inner := [.string (⟨#[49]⟩ : ByteArray), .string (⟨#[95]⟩ : ByteArray)]) (ok := fun _ => True) (okp := fun _ => True) ?hr ?hp (fun _ hk => hk) trivial (Below.refl _ _) (Nat.le_refl _) (by simp) ?_; (case hd => rfl); (case hg => rfl); (case hr => first | (go_simp; done) | (go_simp; rfl)); (case hp => exact (Reps.one (show Kd.M Kd.string _ _ _ (⟨#[49]⟩ : ByteArray) [.string (⟨#[49]⟩ : ByteArray)] from rfl) (Reps.one (show Kd.M Kd.string _ _ _ (⟨#[95]⟩ : ByteArray) [.string (⟨#[95]⟩ : ByteArray)] from rfl) (Reps.none _ _)))); intro v1 w4 ho5 hb hg_ hnew_; clear hg_ hnew_; (first | rw [← Y1.out] at ho5 | (simp only [Int.reduceToNat] at ho5; rw [← Y1.out] at ho5)); have P1 := a_ (Kd.R_lower (Kd.R_new' (Kd.R_newM (M := fun k_ => (w.heap.size ≤ k_)) ho5 hS_ (fun k_ h_ => h_)) (Kd.R_lt (hR_ P0.out))) hS_); replace P0 := a_ (Kd.R_elder' (hR_ P0.out) (Kd.R_base ho5) hb); replace HB := a_ (below_step hB_ hb); clear hb ho5; obtain ⟨a1, o1, e1⟩ := Kd.R_slice P1.out; subst e1) | ((with_reducible refine gate_dst (N := 7) rfl ?_); refine Kd.R_lit Kd.string _ 9 ?hg (N := 7) ?hd (xs := ([(⟨#[49]⟩ : ByteArray), (⟨#[95]⟩ : ByteArray)] : List ByteArray)) (inner := [.string (⟨#[49]⟩ : ByteArray), .string (⟨#[95]⟩ : ByteArray)]) (ok := fun _ => True) (okp := fun _ => True) ?hr ?hp (fun _ hk => hk) trivial (Below.refl _ _) (Nat.le_refl _) (by simp) ?_; (case hd => rfl); (case hg => rfl); (case hr => first | (go_simp; done) | (go_simp; rfl)); (case hp => exact (Reps.one (show Kd.M Kd.string _ _ _ (⟨#[49]⟩ : ByteArray) [.string (⟨#[49]⟩ : ByteArray)] from rfl) (Reps.one (show Kd.M Kd.string _ _ _ (⟨#[95]⟩ : ByteArray) [.string (⟨#[95]⟩ : ByteArray)] from rfl) (Reps.none _ _)))); intro v2 w7 ho8 hb hg_ hnew_; clear hg_ hnew_; (first | rw [← Y2.out] at ho8 | (simp only [Int.reduceToNat] at ho8; rw [← Y2.out] at ho8)); have P2 := a_ (Kd.R_lower (Kd.R_new' (Kd.R_new' (Kd.R_newM (M := fun k_ => (w.heap.size ≤ k_)) ho8 hS_ (fun k_ h_ => h_)) (Kd.R_lt (hR_ P0.out))) (Kd.R_lt (hR_ P1.out))) hS_); replace P0 := a_ (Kd.R_elder' (hR_ P0.out) (Kd.R_base ho8) hb); replace P1 := a_ (Kd.R_elder' (hR_ P1.out) (Kd.R_base ho8) hb); replace HB := a_ (below_step hB_ hb); clear hb ho8; obtain ⟨a2, o2, e2⟩ := Kd.R_slice P2.out; subst e2) | ((with_reducible refine gate_dst (N := 9) rfl ?_); refine Kd.N_lit k24 _ 24 ?hg (N' := 9) ?hd (xs := ([(⟨0, (-1), ([] : List ByteArray), (⟨#[57]⟩ : ByteArray)⟩ : S24), (⟨1, 0, y0, (⟨#[57]⟩ : ByteArray)⟩ : S24), (⟨2, 0, ([] : List ByteArray), (⟨#[33]⟩ : ByteArray)⟩ : S24), (⟨1, 1, y1, (⟨#[95]⟩ : ByteArray)⟩ : S24), (⟨1, 2, y2, (⟨#[95]⟩ : ByteArray)⟩ : S24)] : List (S24))) (inner := [.int .i64 0, .int .i64 (-1), .slice none 0 0, .string (⟨#[57]⟩ : ByteArray), .int .i64 1, .int .i64 0, .slice a0 y0.length o0, .string (⟨#[57]⟩ : ByteArray), .int .i64 2, .int .i64 0, .slice none 0 0, .string (⟨#[33]⟩ : ByteArray), .int .i64 1, .int .i64 1, .slice a1 y1.length o1, .string (⟨#[95]⟩ : ByteArray), .int .i64 1, .int .i64 2, .slice a2 y2.length o2, .string (⟨#[95]⟩ : ByteArray)]) (ok := (fun k_ => (w.heap.size ≤ k_))) (okp := (fun k_ => (w.heap.size ≤ k_))) ?hr ?hp (fun _ hk => hk) ((show ∀ k_, w7.heap.size ≤ k_ → (fun k_ => (w.heap.size ≤ k_)) k_ from fun k_ hk => (Nat.le_trans hS_ hk)) _ (Nat.le_refl _)) (Below.refl _ _) (Nat.le_refl _) (by simp) ?_; (case hd => rfl); (case hg => rfl); (case hr => first | (go_simp; done) | (go_simp; rfl)); (case hp => exact (Reps.c4 (show Kd.FK k24 _ _ (⟨0, (-1), ([] : List ByteArray), (⟨#[57]⟩ : ByteArray)⟩ : S24) [.int .i64 0, .int .i64 (-1), .slice none 0 0, .string (⟨#[57]⟩ : ByteArray)] from (k24_mkF _ _ (⟨0, (-1), ([] : List ByteArray), (⟨#[57]⟩ : ByteArray)⟩ : S24) (Nat.le_refl _) (Kd.F_nil _ _ _))) (Reps.c4 (show Kd.FK k24 _ _ (⟨1, 0, y0, (⟨#[57]⟩ : ByteArray)⟩ : S24) [.int .i64 1, .int .i64 0, .slice a0 y0.length o0, .string (⟨#[57]⟩ : ByteArray)] from (k24_mkF _ _ (⟨1, 0, y0, (⟨#[57]⟩ : ByteArray)⟩ : S24) (Kd.R_reads' (Kd.R_mono (ok' := (fun k_ => (w.heap.size ≤ k_))) (P0.out) (fun k_ hk => hk.1.1.1))).2.1 (Kd.R_F (Kd.R_mono (ok' := (fun k_ => (w.heap.size ≤ k_))) (P0.out) (fun k_ hk => hk.1.1.1))))) (Reps.c4 (show Kd.FK k24 _ _ (⟨2, 0, ([] : List ByteArray), (⟨#[33]⟩ : ByteArray)⟩ : S24) [.int .i64 2, .int .i64 0, .slice none 0 0, .string (⟨#[33]⟩ : ByteArray)] from (k24_mkF _ _ (⟨2, 0, ([] : List ByteArray), (⟨#[33]⟩ : ByteArray)⟩ : S24) (Nat.le_refl _) (Kd.F_nil _ _ _))) (Reps.c4 (show Kd.FK k24 _ _ (⟨1, 1, y1, (⟨#[95]⟩ : ByteArray)⟩ : S24) [.int .i64 1, .int .i64 1, .slice a1 y1.length o1, .string (⟨#[95]⟩ : ByteArray)] from (k24_mkF _ _ (⟨1, 1, y1, (⟨#[95]⟩ : ByteArray)⟩ : S24) (Kd.R_reads' (Kd.R_mono (ok' := (fun k_ => (w.heap.size ≤ k_))) (P1.out) (fun k_ hk => hk.1.1.1))).2.1 (Kd.R_F (Kd.R_mono (ok' := (fun k_ => (w.heap.size ≤ k_))) (P1.out) (fun k_ hk => hk.1.1.1))))) (Reps.c4 (show Kd.FK k24 _ _ (⟨1, 2, y2, (⟨#[95]⟩ : ByteArray)⟩ : S24) [.int .i64 1, .int .i64 2, .slice a2 y2.length o2, .string (⟨#[95]⟩ : ByteArray)] from (k24_mkF _ _ (⟨1, 2, y2, (⟨#[95]⟩ : ByteArray)⟩ : S24) (Kd.R_reads' (Kd.R_mono (ok' := (fun k_ => (w.heap.size ≤ k_))) (P2.out) (fun k_ hk => hk.1.1.1))).2.1 (Kd.R_F (Kd.R_mono (ok' := (fun k_ => (w.heap.size ≤ k_))) (P2.out) (fun k_ hk => hk.1.1.1))))) (Reps.none _ _))))))); intro v3 w0 ho11 hb hg_ hnew_; clear hg_ hnew_; (first | rw [← Y3.out] at ho11 | (simp only [Int.reduceToNat] at ho11; rw [← Y3.out] at ho11)); have P3 := a_ (Kd.N_lower ho11 hS_); replace HB := a_ (below_step hB_ hb); clear P0 P1 P2; clear hb ho11))
 go_ret
 exact ⟨_, hV_, hN_ P3.out, hC_⟩

set_option maxHeartbeats 8000000
set_option maxRecDepth 100000
attribute [local go_sem] max2_int min2_int max_two min_two max_three min_three max_four min_four   -- for this text's walks alone
set_option linter.unusedVariables false
set_option linter.unusedSimpArgs false

def sleuthlaw15_awake.f (k : Nat) : Option Bool := (sleuthlaw15_some.f).bind fun la => if 3 < (la.length : Int) then (record_Put.f k (rd_T24 la 3).f0 (rd_T24 la 3).f1 (rd_T24 la 3).f2 (rd_T24 la 3).f3).bind fun p => (record_Get.f k p.1).bind fun x => (record_Put.f k 0 0 ([] : List ByteArray) (⟨#[]⟩ : ByteArray)).bind fun q => (record_Get.f k (⟨#[]⟩ : ByteArray)).bind fun z =>
 if p.1.toList = ([1, 2, 0, 2, 1, 0, 49, 1, 0, 95, 1, 0, 95] : List UInt8) then (sleuthlaw0_Num.f p.2).bind fun t1 => if t1 = 0 then (sleuthlaw15_some.f).bind fun lb => if 3 < (lb.length : Int) then (sleuthlaw0_SameNode.f k x.1 x.2.1 x.2.2.1 x.2.2.2.1 (rd_T24 lb 3).f0 (rd_T24 lb 3).f1 (rd_T24 lb 3).f2 (rd_T24 lb 3).f3).bind fun t2 => if t2 = true then (sleuthlaw0_Num.f x.2.2.2.2).bind fun t3 => if t3 = 0 then (sleuthlaw0_Num.f q.2).bind fun t4 => if t4 = 1500 then (sleuthlaw0_Num.f z.2.2.2.2).bind fun t5 => some (t5 == 1500) else none else none else none else none else none else none else none
def sleuthlaw15_awake.T5 : Bool × List (List Nat × List Nat) := (true, [([], []), ([0], [0]), ([1], [1]), ([2], [2]), ([3, 2, 2], [2, 3]), ([4, 2], [2, 4]), ([2, 5], [2, 5]), ([6, 4], [6]), ([7], [7]), ([7, 7], [7]), ([9, 7], [7, 9]), ([10, 7], [7, 10]), ([8, 11, 9, 7], [7, 8, 11]), ([7, 12], [7, 12]), ([13, 12], [13]), ([14], [14]), ([15, 14, 14], [14, 15]), ([16, 14], [14, 16]), ([14, 17], [14, 17]), ([18, 16], [18]), ([19], [19]), ([20, 19, 19], [19, 20]), ([21, 19], [19, 21]), ([19, 22], [19, 22]), ([23, 21], [23]), ([24], [24]), ([25, 24, 24], [24, 25]), ([26, 24], [24, 26]), ([24, 27], [24, 27]), ([28, 26, 0, 1, 2, 3, 4, 5, 6, 7, 8, 9, 10, 11, 12, 13, 14, 15, 16, 17, 18, 19, 20, 21, 22, 23, 24, 25, 26, 27, 28], [28])])
def sleuthlaw15_awake.B5 : List Nat := [0, 1, 3, 7, 15, 31, 63, 127, 255, 255, 767, 1791, 4095, 8191, 16383, 32767, 65535, 131071, 262143, 524287, 1048575, 2097151, 4194303, 8388607, 16777215, 33554431, 67108863, 134217727, 268435455, 536870911]
theorem sleuthlaw15_awake.tab5 : rtab .any (opsOf Tryd.f15 5) = sleuthlaw15_awake.T5 := by kernel_rfl
theorem sleuthlaw15_awake.bits5 : waitsOk sleuthlaw15_awake.T5.2 sleuthlaw15_awake.B5 = true := by kernel_rfl
theorem sleuthlaw15_awake.calls (k : Nat) (r : Bool) (w : World) (h : sleuthlaw15_awake.f k = some r) (hG : GOK w) :
 Calls Tryd.prog 15 #[] w fun e w' => e = .returned (.bool r) ∧ Below w.heap.size w w' := by
 have hu := Tryd.underlying24
 have HB := a_ (Below.refl w.heap.size w)
 have HX := a_ (Below.refl w.heap.size w)
 unfold sleuthlaw15_awake.f at h
 obtain ⟨la, B0_, h⟩ := Option.bind_eq_some_iff.mp h
 (try dsimp only at h)
 have B0 := a_ B0_
 clear B0_
 by_cases cA : 3 < (la.length : Int)
 case neg => rw [if_neg cA] at h; cases h
 rw [if_pos cA] at h
 obtain ⟨⟨p, e1⟩, B1_, h⟩ := Option.bind_eq_some_iff.mp h
 (try dsimp only at h)
 have B1 := a_ B1_
 clear B1_
 obtain ⟨⟨x0, x1, x2, x3, e2⟩, B2_, h⟩ := Option.bind_eq_some_iff.mp h
 (try dsimp only at h)
 have B2 := a_ B2_
 clear B2_
 obtain ⟨⟨q, e3⟩, B3_, h⟩ := Option.bind_eq_some_iff.mp h
 (try dsimp only at h)
 have B3 := a_ B3_
 clear B3_
 obtain ⟨⟨z0, z1, z2, z3, e4⟩, B4_, h⟩ := Option.bind_eq_some_iff.mp h
 (try dsimp only at h)
 have B4 := a_ B4_
 clear B4_
 by_cases cP : p.toList = ([1, 2, 0, 2, 1, 0, 49, 1, 0, 95, 1, 0, 95] : List UInt8)
 case neg => rw [if_neg cP] at h; cases h
 rw [if_pos cP] at h
 obtain ⟨t1, B5_, h⟩ := Option.bind_eq_some_iff.mp h
 (try dsimp only at h)
 have B5 := a_ B5_
 clear B5_
 by_cases c1 : t1 = 0
 case neg => rw [if_neg c1] at h; cases h
 rw [if_pos c1] at h
 obtain ⟨lb, B6_, h⟩ := Option.bind_eq_some_iff.mp h
 (try dsimp only at h)
 have B6 := a_ B6_
 clear B6_
 by_cases cB : 3 < (lb.length : Int)
 case neg => rw [if_neg cB] at h; cases h
 rw [if_pos cB] at h
 obtain ⟨t2, B7_, h⟩ := Option.bind_eq_some_iff.mp h
 (try dsimp only at h)
 have B7 := a_ B7_
 clear B7_
 by_cases c2 : t2 = true
 case neg => rw [if_neg c2] at h; cases h
 rw [if_pos c2] at h
 obtain ⟨t3, B8_, h⟩ := Option.bind_eq_some_iff.mp h
 (try dsimp only at h)
 have B8 := a_ B8_
 clear B8_
 by_cases c3 : t3 = 0
 case neg => rw [if_neg c3] at h; cases h
 rw [if_pos c3] at h
 obtain ⟨t4, B9_, h⟩ := Option.bind_eq_some_iff.mp h
 (try dsimp only at h)
 have B9 := a_ B9_
 clear B9_
 by_cases c4 : t4 = 1500
 case neg => rw [if_neg c4] at h; cases h
 rw [if_pos c4] at h
 obtain ⟨t5, B10_, h⟩ := Option.bind_eq_some_iff.mp h
 (try dsimp only at h)
 have B10 := a_ B10_
 clear B10_
 obtain rfl := Option.some.inj h
 subst c2
 clear h
 have cPa : (p.toList == ([1, 2, 0, 2, 1, 0, 49, 1, 0, 95, 1, 0, 95] : List UInt8)) = true := beq_iff_eq.mpr cP
 have c1a : (t1 == 0) = true := beq_iff_eq.mpr c1
 have c3a : (t3 == 0) = true := beq_iff_eq.mpr c3
 have c4a : (t4 == 1500) = true := beq_iff_eq.mpr c4
 have HcA := a_ cA
 have HcB := a_ cB
 clear cP c1 c3 c4 cA cB
 go_enter Tryd.func15, Tryd.ntmps15
 go_upto_region 5 with (first
  | ((with_reducible refine gate_callee (f := 16) rfl ?_); refine goesL_ _ rfl rfl Tryd.func16 (by kernel_rfl) rfl #[] rfl hL_ ?_; (with_reducible refine (sleuthlaw15_some.calls la _ B0.out).mono ?_); rintro e wc1 ⟨v0_, rfl, hn0, hb⟩; refine ⟨_, rfl, ?_⟩; have hs_ := below_step hC_ hb; obtain ⟨Ala, cla, rfl⟩ := Kd.N_slice hn0; have HOla := a_ (Kd.N_reads' hn0).2.2; have HCla := a_ (Kd.N_reads' hn0).2.1; replace HX := a_ (below_step HX.out hs_); replace HB := a_ (Below.refl wc1.heap.size wc1); clear hs_ hb hn0; obtain ⟨adA, AA, cA, edA, hxA0, hxA1, hxA2, hxA3, hlenA, hrowA⟩ := at_T24 HOla.out 3 (by omega) HcA.out; cases edA; (try simp only [show (3 : Int).toNat = 3 from rfl, Nat.reduceMul] at hxA0 hxA1 hxA2 hxA3); simp only [Addr.add, eq_false (show ¬ ((12 : Nat) = 0) by decide), if_false, eq_false (show ¬ ((1 : Nat) = 0) by decide), eq_false (show ¬ ((2 : Nat) = 0) by decide), eq_false (show ¬ ((3 : Nat) = 0) by decide)] at hxA0 hxA1 hxA2 hxA3; have HLenA := a_ hlenA; have HRowA := a_ hrowA; have hqA := eq_true HcA.out; clear hlenA hrowA)
  | ((with_reducible refine gate_callee (f := 8) rfl ?_); refine goesL_ _ rfl rfl Tryd.func8 (by kernel_rfl) rfl #[.agg #[.int .i64 (rd_T24 la 3).f0, .int .i64 (rd_T24 la 3).f1, .slice AA (rd_T24 la 3).f2.length cA, .string (rd_T24 la 3).f3]] rfl hL_ ?_; (refine (record_Put.calls k (rd_T24 la 3).f0 (rd_T24 la 3).f1 _ _ (rd_T24 la 3).f2 (rd_T24 la 3).f3 p e1 _ ?s1 ?s2 B1.out (GOK.below hG (below_step HX.out hC_))).mono ?_); (case s1 => exact (Kd.C_below HRowA.out hC_)); (case s2 => exact HLenA.out); rintro e wc2 ⟨rfl, hb⟩; refine ⟨_, rfl, ?_⟩; have hs_ := below_step hC_ hb; replace HOla := a_ (Kd.C_below HOla.out hs_); replace HX := a_ (below_step HX.out hs_); replace HB := a_ (Below.refl wc2.heap.size wc2); clear hs_ hb)
  | ((with_reducible refine gate_callee (f := 10) rfl ?_); refine goesL_ _ rfl rfl Tryd.func10 (by kernel_rfl) rfl #[.string p] rfl hL_ ?_; (with_reducible refine (record_Get.calls k p x0 x1 x2 x3 e2 _ B2.out (GOK.below hG (below_step HX.out hC_))).mono ?_); rintro e wc3 ⟨v0_, rfl, hr0, hb⟩; refine ⟨_, rfl, ?_⟩; have hs_ := below_step hC_ hb; obtain ⟨Ax, cx, rfl⟩ := Kd.R_slice hr0; have HOx2 := a_ (Kd.R_reads' hr0).2.2; have HCx2 := a_ (Kd.R_reads' hr0).2.1; replace HOla := a_ (Kd.C_below HOla.out hs_); replace HX := a_ (below_step HX.out hs_); replace HB := a_ (Below.refl wc3.heap.size wc3); clear hs_ hb hr0)
  | ((with_reducible refine gate_dst (N := 3) rfl ?_); refine boxE_ 3 #[.int .i64 0, .int .i64 0, .slice none 0 0, .string ⟨#[]⟩] 24 ?_; intro g1 hg wb3 hbox hb; have E0 := a_ (gE_ hg : wc3.heap.size ≤ g1); have BK3 := a_ hbox; (try clear z4 f4 z5 f5 z6 f6 z7 f7); obtain ⟨z4, z5, z6, z7, f4, f5, f6, f7⟩ := bx4_ BK3.out; have hs_ := below_step hC_ hb; replace HB := a_ hs_; clear hs_ hb hbox hg)
  | ((with_reducible refine gate_callee (f := 8) rfl ?_); refine goesL_ _ rfl rfl Tryd.func8 (by kernel_rfl) rfl #[.agg #[.int .i64 0, .int .i64 0, .slice none 0 0, .string ⟨#[]⟩]] rfl hL_ ?_; (refine (record_Put.calls k 0 0 none 0 ([] : List ByteArray) (⟨#[]⟩ : ByteArray) q e3 _ ?s1 ?s2 B3.out (GOK.below hG (below_step HX.out hC_))).mono ?_); (case s1 => exact Kd.C_nil _ _); (case s2 => exact Nat.le_refl _); rintro e wc4 ⟨rfl, hb⟩; refine ⟨_, rfl, ?_⟩; have hs_ := below_step hC_ hb; replace HOla := a_ (Kd.C_below HOla.out hs_); replace HOx2 := a_ (Kd.C_below HOx2.out hs_); replace BK3 := a_ (blk_below (g := g1) (o := .cells #[.int .i64 x0, .int .i64 x1, .slice Ax x2.length cx, .string x3] 24 (0, 0)) (by (with_reducible repeat (first | refine blk_drewN ?_ _ | refine blk_drew ?_ | refine blk_alloc ?_ _)); exact (bP_ (bP_ (bP_ (bP_ (hK_ BK3.out)))))) hb); replace HX := a_ (below_step HX.out hs_); replace HB := a_ (Below.refl wc4.heap.size wc4); clear hs_ hb; (try clear z4 f4 z5 f5 z6 f6 z7 f7); obtain ⟨z4, z5, z6, z7, f4, f5, f6, f7⟩ := bx4_ BK3.out)
  | ((with_reducible refine gate_callee (f := 10) rfl ?_); refine goesL_ _ rfl rfl Tryd.func10 (by kernel_rfl) rfl #[.string ⟨#[]⟩] rfl hL_ ?_; (with_reducible refine (record_Get.calls k (⟨#[]⟩ : ByteArray) z0 z1 z2 z3 e4 _ B4.out (GOK.below hG (below_step HX.out hC_))).mono ?_); rintro e wc5 ⟨v0_, rfl, hr0, hb⟩; refine ⟨_, rfl, ?_⟩; have hs_ := below_step hC_ hb; obtain ⟨Az, cz, rfl⟩ := Kd.R_slice hr0; have HOz2 := a_ (Kd.R_reads' hr0).2.2; have HCz2 := a_ (Kd.R_reads' hr0).2.1; replace HOla := a_ (Kd.C_below HOla.out hs_); replace HOx2 := a_ (Kd.C_below HOx2.out hs_); replace BK3 := a_ (blk_below BK3.out hs_); replace HX := a_ (below_step HX.out hs_); replace HB := a_ (Below.refl wc5.heap.size wc5); clear hs_ hb hr0; (try clear z4 f4 z5 f5 z6 f6 z7 f7); obtain ⟨z4, z5, z6, z7, f4, f5, f6, f7⟩ := bx4_ BK3.out)
  | ((with_reducible refine gate_dst (N := 7) rfl ?_); refine boxE_ 7 #[.int .i64 0, .int .i64 0, .slice none 0 0, .string ⟨#[]⟩] 24 ?_; intro g0 hg wb7 hbox hb; have E1 := a_ (gE_ hg : wc5.heap.size ≤ g0); have m0 := (bL_ BK3.out hg : g1 ≠ g0); have m1 := (bG_ BK3.out hg : g0 ≠ g1); have BK7 := a_ hbox; (try clear z4 f4 z5 f5 z6 f6 z7 f7); obtain ⟨z4, z5, z6, z7, f4, f5, f6, f7⟩ := bx4_ (bB_ BK3.out hb); (try clear z8 f8 z9 f9 z10 f10 z11 f11); obtain ⟨z8, z9, z10, z11, f8, f9, f10, f11⟩ := bx4_ BK7.out; have hs_ := below_step hC_ hb; replace HB := a_ hs_; clear hs_ hb hbox hg))
 have hs_ : Below wc5.heap.size wc5 ((((wb7.setCell ⟨g0, 0, none⟩ (.int .i64 z0)).setCell ⟨g0, 1, none⟩ (.int .i64 z1)).setCell ⟨g0, 2, none⟩ (.slice Az z2.length cz)).setCell ⟨g0, 3, none⟩ (.string z3)) := hC_
 replace HOla := a_ (Kd.C_below HOla.out hs_)
 replace HOx2 := a_ (Kd.C_below HOx2.out hs_)
 replace HOz2 := a_ (Kd.C_below HOz2.out hs_)
 replace BK3 := a_ (blk_below BK3.out hs_)
 replace BK7 := a_ (show ((((wb7.setCell ⟨g0, 0, none⟩ (.int .i64 z0)).setCell ⟨g0, 1, none⟩ (.int .i64 z1)).setCell ⟨g0, 2, none⟩ (.slice Az z2.length cz)).setCell ⟨g0, 3, none⟩ (.string z3)).heap[g0]? = some (.cells #[.int .i64 z0, .int .i64 z1, .slice Az z2.length cz, .string z3] 24 (0, 0)) from (bP_ (bP_ (bP_ (bP_ (hK_ BK7.out))))))
 replace HX := a_ (below_step HX.out hs_)
 clear hs_ HB
 have HB := a_ (Below.refl ((((wb7.setCell ⟨g0, 0, none⟩ (.int .i64 z0)).setCell ⟨g0, 1, none⟩ (.int .i64 z1)).setCell ⟨g0, 2, none⟩ (.slice Az z2.length cz)).setCell ⟨g0, 3, none⟩ (.string z3)).heap.size ((((wb7.setCell ⟨g0, 0, none⟩ (.int .i64 z0)).setCell ⟨g0, 1, none⟩ (.int .i64 z1)).setCell ⟨g0, 2, none⟩ (.slice Az z2.length cz)).setCell ⟨g0, 3, none⟩ (.string z3)))
 generalize ((((wb7.setCell ⟨g0, 0, none⟩ (.int .i64 z0)).setCell ⟨g0, 1, none⟩ (.int .i64 z1)).setCell ⟨g0, 2, none⟩ (.slice Az z2.length cz)).setCell ⟨g0, 3, none⟩ (.string z3)) = wr6 at HOla HOx2 HOz2 BK3 BK7 HX HB ⊢
 refine start_ (n := 30) (S := fun w' => w'.cell? ⟨g1, 0, none⟩ = some (.int .i64 x0) ∧ w'.cell? ⟨g1, 1, none⟩ = some (.int .i64 x1) ∧ w'.cell? ⟨g1, 2, none⟩ = some (.slice Ax x2.length cx) ∧ w'.cell? ⟨g1, 3, none⟩ = some (.string x3) ∧ w'.cell? ⟨g0, 0, none⟩ = some (.int .i64 z0) ∧ w'.cell? ⟨g0, 1, none⟩ = some (.int .i64 z1) ∧ w'.cell? ⟨g0, 2, none⟩ = some (.slice Az z2.length cz) ∧ w'.cell? ⟨g0, 3, none⟩ = some (.string z3)) (ds := []) #[false, false, false, false, false, false, false, false, false, false, false, false, false, false, false, false, false, false, false, false, false, false, false, false, false, false, false, false, false, false] (by kernel_rfl) rfl rfl ⟨(blk_cell BK3.out 0).trans rfl, (blk_cell BK3.out 1).trans rfl, (blk_cell BK3.out 2).trans rfl, (blk_cell BK3.out 3).trans rfl, (blk_cell BK7.out 0).trans rfl, (blk_cell BK7.out 1).trans rfl, (blk_cell BK7.out 2).trans rfl, (blk_cell BK7.out 3).trans rfl⟩ (fun hHeld => ?_)
 refine with_tabW sleuthlaw15_awake.tab5 sleuthlaw15_awake.bits5 (fun HT_ HW_ => ?_)
 refine pB_ 0 30 HT_.out ?_
 refine pB_ 1 31 HT_.out ?_
 refine pB_ 2 32 HT_.out ?_
 refine pB_ 3 33 HT_.out ?_
 refine one_ (i := 4) (N := some 34) #[true, true, true, true, true, false, false, false, false, false, false, false, false, false, false, false, false, false, false, false, false, false, false, false, false, false, false, false, false, false] rfl rfl (one_of HT_.out (by kernel_rfl)) (by decide) (fun K hK => ?_)
 refine goes_ Tryd.func12 (by kernel_rfl) rfl #[.int .i64 e1] (by rfl) rfl rfl hL_ ?_
 with_reducible refine (sleuthlaw0_Num.calls e1 t1 _ B5.out).mono ?_
 rintro e w' ⟨rfl, ⟨nq_, rfl⟩⟩
 refine ⟨_, rfl, ?_⟩
 refine hK.out _ _ ⟨(blk_cell BK3.out 0).trans rfl, (blk_cell BK3.out 1).trans rfl, (blk_cell BK3.out 2).trans rfl, (blk_cell BK3.out 3).trans rfl, (blk_cell BK7.out 0).trans rfl, (blk_cell BK7.out 1).trans rfl, (blk_cell BK7.out 2).trans rfl, (blk_cell BK7.out 3).trans rfl⟩ (fun hHeld => ?_)
 clear hK K
 refine norm_ (a' := ?_) ?_ ?_
 rotate_left
 · show Act.put _ (some 34) _ = _
   simp only [Act.put, List.setIfInBounds_toArray, List.set_cons_zero, List.set_cons_succ, i64_w, i32_w]
   rfl
 refine pB_ 5 35 HT_.out ?_
 refine pB_ 6 36 HT_.out ?_
 refine pB_ 7 37 HT_.out ?_
 refine tB_ 8 38 HT_.out HW_.out hHeld ?_
 refine one_ (i := 9) (N := some 39) #[true, true, true, true, true, true, true, true, true, true, false, false, false, false, false, false, false, false, false, false, false, false, false, false, false, false, false, false, false, false] rfl rfl (one_of HT_.out (by kernel_rfl)) (by decide) (fun K hK => ?_)
 refine goes_ Tryd.func16 (by kernel_rfl) rfl #[] (by rfl) rfl rfl hL_ ?_
 (with_reducible refine (sleuthlaw15_some.calls lb _ B6.out).mono ?_)
 rintro e wc7 ⟨v0_, rfl, hn0, hb⟩
 refine ⟨_, rfl, ?_⟩
 have hs_ := below_step hC_ hb
 obtain ⟨Alb, clb, rfl⟩ := Kd.N_slice hn0
 have HOlb := a_ (Kd.N_reads' hn0).2.2
 have HClb := a_ (Kd.N_reads' hn0).2.1
 replace HOla := a_ (Kd.C_below HOla.out hs_)
 replace HOx2 := a_ (Kd.C_below HOx2.out hs_)
 replace HOz2 := a_ (Kd.C_below HOz2.out hs_)
 replace BK3 := a_ (blk_below BK3.out hs_)
 replace BK7 := a_ (blk_below BK7.out hs_)
 replace HX := a_ (below_step HX.out hs_)
 replace HB := a_ (Below.refl wc7.heap.size wc7)
 clear hs_ hb hn0
 obtain ⟨adB, AB, cB, edB, hxB0, hxB1, hxB2, hxB3, hlenB, hrowB⟩ := at_T24 HOlb.out 3 (by omega) HcB.out
 cases edB
 (try simp only [show (3 : Int).toNat = 3 from rfl, Nat.reduceMul] at hxB0 hxB1 hxB2 hxB3)
 simp only [Addr.add, eq_false (show ¬ ((12 : Nat) = 0) by decide), if_false, eq_false (show ¬ ((1 : Nat) = 0) by decide), eq_false (show ¬ ((2 : Nat) = 0) by decide), eq_false (show ¬ ((3 : Nat) = 0) by decide)] at hxB0 hxB1 hxB2 hxB3
 have HLenB := a_ hlenB
 have HRowB := a_ hrowB
 have hqB := eq_true HcB.out
 clear hlenB hrowB
 refine hK.out _ _ ⟨(blk_cell BK3.out 0).trans rfl, (blk_cell BK3.out 1).trans rfl, (blk_cell BK3.out 2).trans rfl, (blk_cell BK3.out 3).trans rfl, (blk_cell BK7.out 0).trans rfl, (blk_cell BK7.out 1).trans rfl, (blk_cell BK7.out 2).trans rfl, (blk_cell BK7.out 3).trans rfl⟩ (fun hHeld => ?_)
 clear hK K
 refine norm_ (a' := ?_) ?_ ?_
 rotate_left
 · show Act.put _ (some 39) _ = _
   simp only [Act.put, List.setIfInBounds_toArray, List.set_cons_zero, List.set_cons_succ, i64_w, i32_w]
   rfl
 refine pB_ 10 40 HT_.out ?_
 refine one_ (i := 11) (N := some 41) #[true, true, true, true, true, true, true, true, true, true, true, true, false, false, false, false, false, false, false, false, false, false, false, false, false, false, false, false, false, false] rfl rfl (one_of HT_.out (by kernel_rfl)) (by decide) (fun K hK => ?_)
 refine value_ (w1 := ?_) (v := ?_) (by rfl) rfl ?_ ?_
 rotate_left 2
 · go_simp
   constructor
   · rfl
   · rfl
 refine hK.out _ _ ⟨(blk_cell BK3.out 0).trans rfl, (blk_cell BK3.out 1).trans rfl, (blk_cell BK3.out 2).trans rfl, (blk_cell BK3.out 3).trans rfl, (blk_cell BK7.out 0).trans rfl, (blk_cell BK7.out 1).trans rfl, (blk_cell BK7.out 2).trans rfl, (blk_cell BK7.out 3).trans rfl⟩ (fun hHeld => ?_)
 clear hK K
 refine norm_ (a' := ?_) ?_ ?_
 rotate_left
 · show Act.put _ (some 41) _ = _
   simp only [Act.put, List.setIfInBounds_toArray, List.set_cons_zero, List.set_cons_succ, i64_w, i32_w]
   rfl
 refine one_ (i := 12) (N := some 42) #[true, true, true, true, true, true, true, true, true, true, true, true, true, false, false, false, false, false, false, false, false, false, false, false, false, false, false, false, false, false] rfl rfl (one_of HT_.out (by kernel_rfl)) (by decide) (fun K hK => ?_)
 refine goes_ Tryd.func13 (by kernel_rfl) rfl #[.agg #[.int .i64 x0, .int .i64 x1, .slice Ax x2.length cx, .string x3], .agg #[.int .i64 (rd_T24 lb 3).f0, .int .i64 (rd_T24 lb 3).f1, .slice AB (rd_T24 lb 3).f2.length cB, .string (rd_T24 lb 3).f3]] (by rfl) rfl rfl hL_ ?_
 (with_reducible refine (sleuthlaw0_SameNode.calls k x0 x1 _ _ x2 x3 (rd_T24 lb 3).f0 (rd_T24 lb 3).f1 _ _ (rd_T24 lb 3).f2 (rd_T24 lb 3).f3 true _ ?s1 ?s2 ?s3 ?s4 B7.out).mono ?_)
 (case s1 => exact (Kd.C_below HOx2.out hC_))
 (case s2 => exact HCx2.out)
 (case s3 => exact (Kd.C_below HRowB.out hC_))
 (case s4 => exact HLenB.out)
 rintro e wc8 ⟨rfl, hb⟩
 refine ⟨_, rfl, ?_⟩
 have hs_ := below_step hC_ hb
 replace HOla := a_ (Kd.C_below HOla.out hs_)
 replace HOx2 := a_ (Kd.C_below HOx2.out hs_)
 replace HOz2 := a_ (Kd.C_below HOz2.out hs_)
 replace HOlb := a_ (Kd.C_below HOlb.out hs_)
 replace BK3 := a_ (blk_below BK3.out hs_)
 replace BK7 := a_ (blk_below BK7.out hs_)
 replace HX := a_ (below_step HX.out hs_)
 replace HB := a_ (Below.refl wc8.heap.size wc8)
 clear hs_ hb
 refine hK.out _ _ ⟨(blk_cell BK3.out 0).trans rfl, (blk_cell BK3.out 1).trans rfl, (blk_cell BK3.out 2).trans rfl, (blk_cell BK3.out 3).trans rfl, (blk_cell BK7.out 0).trans rfl, (blk_cell BK7.out 1).trans rfl, (blk_cell BK7.out 2).trans rfl, (blk_cell BK7.out 3).trans rfl⟩ (fun hHeld => ?_)
 clear hK K
 refine norm_ (a' := ?_) ?_ ?_
 rotate_left
 · show Act.put _ (some 42) _ = _
   simp only [Act.put, List.setIfInBounds_toArray, List.set_cons_zero, List.set_cons_succ, i64_w, i32_w]
   rfl
 refine pB_ 13 43 HT_.out ?_
 refine pB_ 14 44 HT_.out ?_
 refine pB_ 15 45 HT_.out ?_
 refine one_ (i := 16) (N := some 46) #[true, true, true, true, true, true, true, true, true, true, true, true, true, true, true, true, true, false, false, false, false, false, false, false, false, false, false, false, false, false] rfl rfl (one_of HT_.out (by kernel_rfl)) (by decide) (fun K hK => ?_)
 refine goes_ Tryd.func12 (by kernel_rfl) rfl #[.int .i64 e2] (by rfl) rfl rfl hL_ ?_
 with_reducible refine (sleuthlaw0_Num.calls e2 t3 _ B8.out).mono ?_
 rintro e w' ⟨rfl, ⟨nq_, rfl⟩⟩
 refine ⟨_, rfl, ?_⟩
 refine hK.out _ _ ⟨(blk_cell BK3.out 0).trans rfl, (blk_cell BK3.out 1).trans rfl, (blk_cell BK3.out 2).trans rfl, (blk_cell BK3.out 3).trans rfl, (blk_cell BK7.out 0).trans rfl, (blk_cell BK7.out 1).trans rfl, (blk_cell BK7.out 2).trans rfl, (blk_cell BK7.out 3).trans rfl⟩ (fun hHeld => ?_)
 clear hK K
 refine norm_ (a' := ?_) ?_ ?_
 rotate_left
 · show Act.put _ (some 46) _ = _
   simp only [Act.put, List.setIfInBounds_toArray, List.set_cons_zero, List.set_cons_succ, i64_w, i32_w]
   rfl
 refine pB_ 17 47 HT_.out ?_
 refine pB_ 18 48 HT_.out ?_
 refine pB_ 19 49 HT_.out ?_
 refine pB_ 20 50 HT_.out ?_
 refine one_ (i := 21) (N := some 51) #[true, true, true, true, true, true, true, true, true, true, true, true, true, true, true, true, true, true, true, true, true, true, false, false, false, false, false, false, false, false] rfl rfl (one_of HT_.out (by kernel_rfl)) (by decide) (fun K hK => ?_)
 refine goes_ Tryd.func12 (by kernel_rfl) rfl #[.int .i64 e3] (by rfl) rfl rfl hL_ ?_
 with_reducible refine (sleuthlaw0_Num.calls e3 t4 _ B9.out).mono ?_
 rintro e w' ⟨rfl, ⟨nq_, rfl⟩⟩
 refine ⟨_, rfl, ?_⟩
 refine hK.out _ _ ⟨(blk_cell BK3.out 0).trans rfl, (blk_cell BK3.out 1).trans rfl, (blk_cell BK3.out 2).trans rfl, (blk_cell BK3.out 3).trans rfl, (blk_cell BK7.out 0).trans rfl, (blk_cell BK7.out 1).trans rfl, (blk_cell BK7.out 2).trans rfl, (blk_cell BK7.out 3).trans rfl⟩ (fun hHeld => ?_)
 clear hK K
 refine norm_ (a' := ?_) ?_ ?_
 rotate_left
 · show Act.put _ (some 51) _ = _
   simp only [Act.put, List.setIfInBounds_toArray, List.set_cons_zero, List.set_cons_succ, i64_w, i32_w]
   rfl
 refine pB_ 22 52 HT_.out ?_
 refine pB_ 23 53 HT_.out ?_
 refine pB_ 24 54 HT_.out ?_
 refine pB_ 25 55 HT_.out ?_
 refine one_ (i := 26) (N := some 56) #[true, true, true, true, true, true, true, true, true, true, true, true, true, true, true, true, true, true, true, true, true, true, true, true, true, true, true, false, false, false] rfl rfl (one_of HT_.out (by kernel_rfl)) (by decide) (fun K hK => ?_)
 refine goes_ Tryd.func12 (by kernel_rfl) rfl #[.int .i64 e4] (by rfl) rfl rfl hL_ ?_
 with_reducible refine (sleuthlaw0_Num.calls e4 t5 _ B10.out).mono ?_
 rintro e w' ⟨rfl, ⟨nq_, rfl⟩⟩
 refine ⟨_, rfl, ?_⟩
 refine hK.out _ _ ⟨(blk_cell BK3.out 0).trans rfl, (blk_cell BK3.out 1).trans rfl, (blk_cell BK3.out 2).trans rfl, (blk_cell BK3.out 3).trans rfl, (blk_cell BK7.out 0).trans rfl, (blk_cell BK7.out 1).trans rfl, (blk_cell BK7.out 2).trans rfl, (blk_cell BK7.out 3).trans rfl⟩ (fun hHeld => ?_)
 clear hK K
 refine norm_ (a' := ?_) ?_ ?_
 rotate_left
 · show Act.put _ (some 56) _ = _
   simp only [Act.put, List.setIfInBounds_toArray, List.set_cons_zero, List.set_cons_succ, i64_w, i32_w]
   rfl
 refine pB_ 27 57 HT_.out ?_
 refine pB_ 28 58 HT_.out ?_
 refine pB_ 29 0 HT_.out ?_
 refine done_ (done_of HT_.out (by kernel_rfl)) ?_
 (try clear z4 f4 z5 f5 z6 f6 z7 f7)
 obtain ⟨z4, z5, z6, z7, f4, f5, f6, f7⟩ := bx4_ BK3.out
 (try clear z8 f8 z9 f9 z10 f10 z11 f11)
 obtain ⟨z8, z9, z10, z11, f8, f9, f10, f11⟩ := bx4_ BK7.out
 try go_wp2
 go_ret
 exact ⟨hV_, below_step HX.out hC_⟩

end Go.Proofs.YthoegphcmkejoaaDoor.G
end
section
namespace Go.Proofs.YthoegphcmkejoaaDoor.G
open Go.RowKit Go.Proofs.YthoegphcmkejoaaDoorW.PrintWords Go.Proofs.YthoegphcmkejoaaDoorW.PrintLast Go.Proofs.YthoegphcmkejoaaDoorW.PrintMore
set_option linter.unusedVariables false
set_option linter.unusedSimpArgs false
def recSome : List Nd := [(⟨0, (-1), ([] : List ByteArray), (⟨#[57]⟩ : ByteArray)⟩ : Nd), (⟨1, 0, (([(⟨#[64, 55, 40, 95, 32, 52, 41]⟩ : ByteArray), (⟨#[53]⟩ : ByteArray)] : List ByteArray)), (⟨#[57]⟩ : ByteArray)⟩ : Nd), (⟨2, 0, ([] : List ByteArray), (⟨#[33]⟩ : ByteArray)⟩ : Nd), (⟨1, 1, (([(⟨#[49]⟩ : ByteArray), (⟨#[95]⟩ : ByteArray)] : List ByteArray)), (⟨#[95]⟩ : ByteArray)⟩ : Nd), (⟨1, 2, (([(⟨#[49]⟩ : ByteArray), (⟨#[95]⟩ : ByteArray)] : List ByteArray)), (⟨#[95]⟩ : ByteArray)⟩ : Nd)]
theorem recSome_eq : sleuthlaw15_some.f = some recSome := rfl
def rec3 : Nd := ⟨1, 1, [(⟨#[49]⟩ : ByteArray), (⟨#[95]⟩ : ByteArray)], (⟨#[95]⟩ : ByteArray)⟩
def rec3B : ByteArray := ⟨#[1, 2, 0, 2, 1, 0, 49, 1, 0, 95, 1, 0, 95]⟩
def recNil : Nd := ⟨0, 0, [], (⟨#[]⟩ : ByteArray)⟩
theorem rec3_put : putR rec3 = (rec3B, 0) := by kernel_rfl
theorem rec3_get : getR rec3B = (rec3, 0) := getR_of (by kernel_rfl) (by kernel_rfl)
theorem recNil_put : putR recNil = (⟨#[]⟩, 1500) := by kernel_rfl
theorem recNil_get : getR (⟨#[]⟩ : ByteArray) = (recNil, 1500) := by kernel_rfl
theorem awakeRec_ev : Ev (fun k => sleuthlaw15_awake.f k) true := by
  unfold sleuthlaw15_awake.f
  have hlt : (3 : Int) < (recSome.length : Int) := by decide
  simp only [recSome_eq, Option.bind_some, if_pos hlt]
  have p1 := putRec_ev rec3 (by decide) (by decide)
  have p2 := getRec_ev rec3B
  have p3 := putRec_ev recNil (by decide) (by decide)
  have p4 := getRec_ev (⟨#[]⟩ : ByteArray)
  rw [rec3_put] at p1
  rw [rec3_get] at p2
  rw [recNil_put] at p3
  rw [recNil_get] at p4
  have hb : rec3B.toList = ([1, 2, 0, 2, 1, 0, 49, 1, 0, 95, 1, 0, 95] : List UInt8) := toList_eq _
  refine Ev.bind p1 (Ev.bind p2 (Ev.bind p3 (Ev.bind p4 ?_)))
  simp only [hb, if_pos, sleuthlaw0_Num.f, Option.bind_some, flatR]
  refine Ev.bind (sameNode_ev rec3 (by decide)) ?_
  simp only [if_pos, BEq.rfl]
  exact Ev.now _
/-! what a row knows of one node -/
def fine1 (x : Nd) : Prop := (Lit.int .i64 x.f0).wf = true ∧ (Lit.int .i64 x.f1).wf = true ∧ (x.f2.length * 16 ≤ 140737488351232 ∧ ∀ s ∈ x.f2, s.size ≤ 140737488351232) ∧ x.f3.size ≤ 140737488351232
end Go.Proofs.YthoegphcmkejoaaDoor.G
end
