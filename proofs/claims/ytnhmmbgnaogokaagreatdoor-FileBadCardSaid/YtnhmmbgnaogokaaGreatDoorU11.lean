/- Parts of this proof, one behind the other: TNodes, G41, FileWake. -/
import Derived.Test.YtnhmmbgnaogokaaGreatDoorU7
import Derived.Test.YtnhmmbgnaogokaaGreatDoorU10
import Derived.Test.YtnhmmbgnaogokaaGreatDoorU2
import Derived.Test.YtnhmmbgnaogokaaGreatDoorG0
section
namespace Go.Proofs.YtnhmmbgnaogokaaGreatDoor.G
open Go.RowKit Go.Proofs.YtnhmmbgnaogokaaGreatDoorW.PrintWords Go.Proofs.YtnhmmbgnaogokaaGreatDoorW.PrintLast Go.Proofs.YtnhmmbgnaogokaaGreatDoorW.PrintMore
set_option linter.unusedVariables false
set_option linter.unusedSimpArgs false
def fineN (l : List Nd) : Prop := l.length * 56 ≤ 140737488351232 ∧ ∀ x ∈ l, (Lit.int .i64 x.f0).wf = true ∧ (Lit.int .i64 x.f1).wf = true ∧ (x.f2.length * 16 ≤ 140737488351232 ∧ ∀ s ∈ x.f2, s.size ≤ 140737488351232) ∧ x.f3.size ≤ 140737488351232
theorem fineN.ok {l : List Nd} (h : fineN l) : okN l := ⟨by have := h.1; omega, fun x hx => by have := (h.2 x hx).2.2.1.1; omega⟩
theorem copy_l0 (ns : List Nd) (hok : okN ns) : ∀ (n i : Nat), i + n = ns.length → Ev (fun k => sleuthlaw0_CopyNodes.l0 k ns (ns.take i) (i : Int)) ns := by
  intro n
  induction n with
  | zero =>
    intro i hi
    refine Ev.step (f := fun _ => some ns) (fun k => ?_) (Ev.now _)
    simp only [sleuthlaw0_CopyNodes.l0]
    rw [if_neg (by omega), List.take_of_length_le (by omega)]
  | succ n ih =>
    intro i hi
    have hlt : i < ns.length := by omega
    have hl := hok.1
    have hw : wrap64 ((i : Int) + 1) = ((i + 1 : Nat) : Int) := by rw [w64 (by omega) (by omega)]; omega
    refine Ev.step (f := fun k => sleuthlaw0_CopyNodes.l0 k ns (ns.take (i + 1)) ((i + 1 : Nat) : Int)) (fun k => ?_) (ih (i + 1) (by omega))
    have hat := hok.at (i : Int)
    simp only [sleuthlaw0_CopyNodes.l0, Option.bind_some, List.nil_append]
    rw [if_pos (by omega), if_pos (by omega), if_pos (show ([] : List ByteArray).length + (rn ns (i : Int)).f2.length < 8796093022208 by rw [List.length_nil]; omega), if_pos (by rw [List.length_take]; omega), hw]
    have : (ns.take i ++ [(⟨(rn ns (i : Int)).f0, (rn ns (i : Int)).f1, (rn ns (i : Int)).f2, (rn ns (i : Int)).f3⟩ : Nd)]) = ns.take (i + 1) := by
      rw [List.take_succ_eq_append_getElem hlt, rn_eq ns i hlt]
    rw [this]
theorem copy_ev (ns : List Nd) (hok : okN ns) : Ev (fun k => sleuthlaw0_CopyNodes.f k ns) ns := copy_l0 ns hok ns.length 0 (by omega)
theorem num_ev (x : Int) : Ev (fun _ => sleuthlaw0_Num.f x) x := Ev.now _
theorem sameTexts_l0 (a : List ByteArray) (ha : a.length ≤ 9223372036854775806) : ∀ (n i : Nat), i + n = a.length → Ev (fun k => sleuthlaw0_SameTexts.l0 k a a (i : Int)) true := by
  intro n
  induction n with
  | zero =>
    intro i hi
    refine Ev.step (f := fun _ => some true) (fun k => ?_) (Ev.now _)
    rw [sleuthlaw0_SameTexts.l0, if_neg (by omega)]
  | succ n ih =>
    intro i hi
    have hw : wrap64 ((i : Int) + 1) = ((i + 1 : Nat) : Int) := by rw [w64 (by omega) (by omega)]; omega
    refine Ev.step (f := fun k => sleuthlaw0_SameTexts.l0 k a a ((i + 1 : Nat) : Int)) (fun k => ?_) (ih (i + 1) (by omega))
    rw [sleuthlaw0_SameTexts.l0, if_pos (by omega), if_pos (by omega), if_pos (by omega), if_pos rfl, hw]
theorem sameTexts_ev (a : List ByteArray) (ha : a.length ≤ 9223372036854775806) : Ev (fun k => sleuthlaw0_SameTexts.f k a a) true := by
  unfold sleuthlaw0_SameTexts.f
  simp only [if_pos]
  exact sameTexts_l0 a ha a.length 0 (by omega)
theorem sameNode_ev (x : Nd) (hx : x.f2.length ≤ 9223372036854775806) : Ev (fun k => sleuthlaw0_SameNode.f k x.f0 x.f1 x.f2 x.f3 x.f0 x.f1 x.f2 x.f3) true := by
  unfold sleuthlaw0_SameNode.f
  simp only [if_pos]
  refine Ev.bind (sameTexts_ev _ hx) ?_
  simp only [if_pos, beq_self_eq_true]
  exact Ev.now _
theorem sameNodes_l0 (a : List Nd) (ha : okN a) : ∀ (n i : Nat), i + n = a.length → Ev (fun k => sleuthlaw0_SameNodes.l0 k a a (i : Int)) true := by
  intro n
  have hl := ha.1
  induction n with
  | zero =>
    intro i hi
    refine Ev.step (f := fun _ => some true) (fun k => ?_) (Ev.now _)
    simp only [sleuthlaw0_SameNodes.l0]
    rw [if_neg (by omega)]
  | succ n ih =>
    intro i hi
    have hw : wrap64 ((i : Int) + 1) = ((i + 1 : Nat) : Int) := by rw [w64 (by omega) (by omega)]; omega
    refine Ev.step (f := fun k => (sleuthlaw0_SameNode.f k (rn a (i : Int)).f0 (rn a (i : Int)).f1 (rn a (i : Int)).f2 (rn a (i : Int)).f3 (rn a (i : Int)).f0 (rn a (i : Int)).f1 (rn a (i : Int)).f2 (rn a (i : Int)).f3).bind fun t => if t = true then sleuthlaw0_SameNodes.l0 k a a ((i + 1 : Nat) : Int) else some false) (fun k => ?_) ?_
    · rw [sleuthlaw0_SameNodes.l0, if_pos (by omega), if_pos (by omega), if_pos (by omega), hw]
    · refine Ev.bind (sameNode_ev (rn a (i : Int)) (Nat.le_trans (ha.at _) (by omega))) ?_
      simp only [if_pos]
      exact ih (i + 1) (by omega)
theorem sameNodes_ev (a : List Nd) (ha : okN a) : Ev (fun k => sleuthlaw0_SameNodes.f k a a) true := by
  unfold sleuthlaw0_SameNodes.f
  simp only [if_pos]
  exact sameNodes_l0 a ha a.length 0 (by omega)
end Go.Proofs.YtnhmmbgnaogokaaGreatDoor.G
end
section
namespace Go.Proofs.YtnhmmbgnaogokaaGreatDoor.G
open Go.RowKit Go.Proofs.YtnhmmbgnaogokaaGreatDoorW.PrintWords Go.Proofs.YtnhmmbgnaogokaaGreatDoorW.PrintLast Go.Proofs.YtnhmmbgnaogokaaGreatDoorW.PrintMore
set_option maxHeartbeats 8000000
set_option maxRecDepth 100000
attribute [local go_sem] max2_int min2_int max_two min_two max_three min_three max_four min_four   -- for this text's walks alone
set_option linter.unusedVariables false
set_option linter.unusedSimpArgs false

def sleuthlaw17_some.f  : Option ((List (S41))) := some (([(⟨0, (-1), ([] : List ByteArray), (⟨#[57]⟩ : ByteArray)⟩ : S41), (⟨1, 0, (([(⟨#[64, 55, 40, 95, 32, 52, 41]⟩ : ByteArray), (⟨#[53]⟩ : ByteArray)] : List ByteArray)), (⟨#[57]⟩ : ByteArray)⟩ : S41), (⟨2, 0, ([] : List ByteArray), (⟨#[33]⟩ : ByteArray)⟩ : S41), (⟨1, 1, (([(⟨#[49]⟩ : ByteArray), (⟨#[95]⟩ : ByteArray)] : List ByteArray)), (⟨#[95]⟩ : ByteArray)⟩ : S41), (⟨1, 2, (([(⟨#[49]⟩ : ByteArray), (⟨#[95]⟩ : ByteArray)] : List ByteArray)), (⟨#[95]⟩ : ByteArray)⟩ : S41)] : List (S41)))
theorem sleuthlaw17_some.calls  (r : List (S41)) (w : World) (h : sleuthlaw17_some.f  = some r) :
 Calls Tryz.prog 16 #[] w fun e w' => ∃ v0_ : Value, e = .returned (v0_) ∧ Kd.N k41 41 w' w.heap.size (fun k_ => (w.heap.size ≤ k_)) v0_ r ∧ Below w.heap.size w w' := by
 have hu41 := Tryz.underlying41
 have HB := a_ (Below.refl w.heap.size w)
 have H := h; unfold sleuthlaw17_some.f at H
 clear h
 obtain ⟨y0, i0⟩ : ∃ y_ : List ByteArray, y_ = (([(⟨#[64, 55, 40, 95, 32, 52, 41]⟩ : ByteArray), (⟨#[53]⟩ : ByteArray)] : List ByteArray)) := ⟨_, rfl⟩
 replace H : (some (([(⟨0, (-1), ([] : List ByteArray), (⟨#[57]⟩ : ByteArray)⟩ : S41), (⟨1, 0, y0, (⟨#[57]⟩ : ByteArray)⟩ : S41), (⟨2, 0, ([] : List ByteArray), (⟨#[33]⟩ : ByteArray)⟩ : S41), (⟨1, 1, (([(⟨#[49]⟩ : ByteArray), (⟨#[95]⟩ : ByteArray)] : List ByteArray)), (⟨#[95]⟩ : ByteArray)⟩ : S41), (⟨1, 2, (([(⟨#[49]⟩ : ByteArray), (⟨#[95]⟩ : ByteArray)] : List ByteArray)), (⟨#[95]⟩ : ByteArray)⟩ : S41)] : List (S41)))) = some r := by first | (rw [i0]; with_reducible exact H) | (have H2_ := (Option.bind_some _ _).symm.trans H; rw [i0]; with_reducible exact H2_) | (have H2_ := (Option.bind_some _ _).symm.trans H; with_reducible exact H2_) | with_reducible exact H | (rw [i0]; exact H) | exact H
 have Y0 := a_ i0
 clear i0
 obtain ⟨y1, i1⟩ : ∃ y_ : List ByteArray, y_ = (([(⟨#[49]⟩ : ByteArray), (⟨#[95]⟩ : ByteArray)] : List ByteArray)) := ⟨_, rfl⟩
 replace H : (some (([(⟨0, (-1), ([] : List ByteArray), (⟨#[57]⟩ : ByteArray)⟩ : S41), (⟨1, 0, y0, (⟨#[57]⟩ : ByteArray)⟩ : S41), (⟨2, 0, ([] : List ByteArray), (⟨#[33]⟩ : ByteArray)⟩ : S41), (⟨1, 1, y1, (⟨#[95]⟩ : ByteArray)⟩ : S41), (⟨1, 2, (([(⟨#[49]⟩ : ByteArray), (⟨#[95]⟩ : ByteArray)] : List ByteArray)), (⟨#[95]⟩ : ByteArray)⟩ : S41)] : List (S41)))) = some r := by first | (rw [i1]; with_reducible exact H) | (have H2_ := (Option.bind_some _ _).symm.trans H; rw [i1]; with_reducible exact H2_) | (have H2_ := (Option.bind_some _ _).symm.trans H; with_reducible exact H2_) | with_reducible exact H | (rw [i1]; exact H) | exact H
 have Y1 := a_ i1
 clear i1
 obtain ⟨y2, i2⟩ : ∃ y_ : List ByteArray, y_ = (([(⟨#[49]⟩ : ByteArray), (⟨#[95]⟩ : ByteArray)] : List ByteArray)) := ⟨_, rfl⟩
 replace H : (some (([(⟨0, (-1), ([] : List ByteArray), (⟨#[57]⟩ : ByteArray)⟩ : S41), (⟨1, 0, y0, (⟨#[57]⟩ : ByteArray)⟩ : S41), (⟨2, 0, ([] : List ByteArray), (⟨#[33]⟩ : ByteArray)⟩ : S41), (⟨1, 1, y1, (⟨#[95]⟩ : ByteArray)⟩ : S41), (⟨1, 2, y2, (⟨#[95]⟩ : ByteArray)⟩ : S41)] : List (S41)))) = some r := by first | (rw [i2]; with_reducible exact H) | (have H2_ := (Option.bind_some _ _).symm.trans H; rw [i2]; with_reducible exact H2_) | (have H2_ := (Option.bind_some _ _).symm.trans H; with_reducible exact H2_) | with_reducible exact H | (rw [i2]; exact H) | exact H
 have Y2 := a_ i2
 clear i2
 obtain ⟨y3, i3⟩ : ∃ y_ : List (S41), y_ = (([(⟨0, (-1), ([] : List ByteArray), (⟨#[57]⟩ : ByteArray)⟩ : S41), (⟨1, 0, y0, (⟨#[57]⟩ : ByteArray)⟩ : S41), (⟨2, 0, ([] : List ByteArray), (⟨#[33]⟩ : ByteArray)⟩ : S41), (⟨1, 1, y1, (⟨#[95]⟩ : ByteArray)⟩ : S41), (⟨1, 2, y2, (⟨#[95]⟩ : ByteArray)⟩ : S41)] : List (S41))) := ⟨_, rfl⟩
 replace H : (some y3) = some r := by first | (rw [i3]; with_reducible exact H) | (have H2_ := (Option.bind_some _ _).symm.trans H; rw [i3]; with_reducible exact H2_) | (have H2_ := (Option.bind_some _ _).symm.trans H; with_reducible exact H2_) | with_reducible exact H | (rw [i3]; exact H) | exact H
 have Y3 := a_ i3
 clear i3
 obtain rfl := Option.some.inj H
 go_enter Tryz.func16, Tryz.ntmps16
 go_wp2_with (first | ((with_reducible refine gate_dst (N := 2) rfl ?_); refine Kd.R_lit Kd.string _ 9 ?hg (N := 2) ?hd (xs := ([(⟨#[64, 55, 40, 95, 32, 52, 41]⟩ : ByteArray), (⟨#[53]⟩ : ByteArray)] : List ByteArray)) (inner := [.string (⟨#[64, 55, 40, 95, 32, 52, 41]⟩ : ByteArray), .string (⟨#[53]⟩ : ByteArray)]) (ok := fun _ => True) (okp := fun _ => True) ?hr ?hp (fun _ hk => hk) trivial (Below.refl _ _) (Nat.le_refl _) (by simp) ?_; (case hd => rfl); (case hg => rfl); (case hr => first | (go_simp; done) | (go_simp; rfl)); (case hp => exact (Reps.one (show Kd.M Kd.string _ _ _ (⟨#[64, 55, 40, 95, 32, 52, 41]⟩ : ByteArray) [.string (⟨#[64, 55, 40, 95, 32, 52, 41]⟩ : ByteArray)] from rfl) (Reps.one (show Kd.M Kd.string _ _ _ (⟨#[53]⟩ : ByteArray) [.string (⟨#[53]⟩ : ByteArray)] from rfl) (Reps.none _ _)))); intro v0 w1 ho2 hb hg_ hnew_; clear hg_ hnew_; (first | rw [← Y0.out] at ho2 | (simp only [Int.reduceToNat] at ho2; rw [← Y0.out] at ho2)); have P0 := a_ (Kd.R_lower (Kd.R_newM (M := fun k_ => (w.heap.size ≤ k_)) ho2 hS_ (fun k_ h_ => h_)) hS_); replace HB := a_ (below_step hB_ hb); clear hb ho2; obtain ⟨a0, o0, e0⟩ := Kd.R_slice P0.out; subst e0) | ((with_reducible refine gate_dst (N := 5) rfl ?_); refine Kd.R_lit Kd.string _ 9 ?hg (N := 5) ?hd (xs := ([(⟨#[49]⟩ : ByteArray), (⟨#[95]⟩ : ByteArray)] : List ByteArray)) (inner := [.string (⟨#[49]⟩ : ByteArray), .string (⟨#[95]⟩ : ByteArray)]) (ok := fun _ => True) (okp := fun _ => True) ?hr ?hp (fun _ hk => hk) trivial (Below.refl _ _) (Nat.le_refl _) (by simp) ?_; (case hd => rfl); (case hg => rfl); (case hr => first | (go_simp; done) | (go_simp; rfl)); (case hp => exact (Reps.one (show Kd.M Kd.string _ _ _ (⟨#[49]⟩ : ByteArray) [.string (⟨#[49]⟩ : ByteArray)] from rfl) (Reps.one (show Kd.M Kd.string _ _ _ (⟨#[95]⟩ : ByteArray) [.string (⟨#[95]⟩ : ByteArray)] from rfl) (Reps.none _ _)))); intro v1 w4 ho5 hb hg_ hnew_; clear hg_ hnew_; (first | rw [← Y1.out] at ho5 | (simp only [Int.reduceToNat] at ho5; rw [← Y1.out] at ho5)); have P1 := a_ (Kd.R_lower (Kd.R_new' (Kd.R_newM (M := fun k_ => (w.heap.size ≤ k_)) ho5 hS_ (fun k_ h_ => h_)) (Kd.R_lt (hR_ P0.out))) hS_); replace P0 := a_ (Kd.R_elder' (hR_ P0.out) (Kd.R_base ho5) hb); replace HB := a_ (below_step hB_ hb); clear hb ho5; obtain ⟨a1, o1, e1⟩ := Kd.R_slice P1.out; subst e1) | ((with_reducible refine gate_dst (N := 7) rfl ?_); refine Kd.R_lit Kd.string _ 9 ?hg (N := 7) ?hd (xs := ([(⟨#[49]⟩ : ByteArray), (⟨#[95]⟩ : ByteArray)] : List ByteArray)) (inner := [.string (⟨#[49]⟩ : ByteArray), .string (⟨#[95]⟩ : ByteArray)]) (ok := fun _ => True) (okp := fun _ => True) ?hr ?hp (fun _ hk => hk) trivial (Below.refl _ _) (Nat.le_refl _) (by simp) ?_; (case hd => rfl); (case hg => rfl); (case hr => first | (go_simp; done) | (go_simp; rfl)); (case hp => exact (Reps.one (show Kd.M Kd.string _ _ _ (⟨#[49]⟩ : ByteArray) [.string (⟨#[49]⟩ : ByteArray)] from rfl) (Reps.one (show Kd.M Kd.string _ _ _ (⟨#[95]⟩ : ByteArray) [.string (⟨#[95]⟩ : ByteArray)] from rfl) (Reps.none _ _)))); intro v2 w7 ho8 hb hg_ hnew_; clear hg_ hnew_; (first | rw [← Y2.out] at ho8 | (simp only [Int.reduceToNat] at ho8; rw [← Y2.out] at ho8)); have P2 := a_ (Kd.R_lower (Kd.R_new' (Kd.R_new' (Kd.R_newM (M := fun k_ => (w.heap.size ≤ k_)) ho8 hS_ (fun k_ h_ => h_)) (Kd.R_lt (hR_ P0.out))) (Kd.R_lt (hR_ P1.out))) hS_); replace P0 := a_ (Kd.R_elder' (hR_ P0.out) (Kd.R_base ho8) hb); replace P1 := a_ (Kd.R_elder' (hR_ P1.out) (Kd.R_base ho8) hb); replace HB := a_ (below_step hB_ hb); clear hb ho8; obtain ⟨a2, o2, e2⟩ := Kd.R_slice P2.out; subst e2) | ((with_reducible refine gate_dst (N := 9) rfl ?_); refine Kd.N_lit k41 _ 41 ?hg (N' := 9) ?hd (xs := ([(⟨0, (-1), ([] : List ByteArray), (⟨#[57]⟩ : ByteArray)⟩ : S41), (⟨1, 0, y0, (⟨#[57]⟩ : ByteArray)⟩ : S41), (⟨2, 0, ([] : List ByteArray), (⟨#[33]⟩ : ByteArray)⟩ : S41), (⟨1, 1, y1, (⟨#[95]⟩ : ByteArray)⟩ : S41), (⟨1, 2, y2, (⟨#[95]⟩ : ByteArray)⟩ : S41)] : List (S41))) (inner := [.int .i64 0, .int .i64 (-1), .slice none 0 0, .string (⟨#[57]⟩ : ByteArray), .int .i64 1, .int .i64 0, .slice a0 y0.length o0, .string (⟨#[57]⟩ : ByteArray), .int .i64 2, .int .i64 0, .slice none 0 0, .string (⟨#[33]⟩ : ByteArray), .int .i64 1, .int .i64 1, .slice a1 y1.length o1, .string (⟨#[95]⟩ : ByteArray), .int .i64 1, .int .i64 2, .slice a2 y2.length o2, .string (⟨#[95]⟩ : ByteArray)]) (ok := (fun k_ => (w.heap.size ≤ k_))) (okp := (fun k_ => (w.heap.size ≤ k_))) ?hr ?hp (fun _ hk => hk) ((show ∀ k_, w7.heap.size ≤ k_ → (fun k_ => (w.heap.size ≤ k_)) k_ from fun k_ hk => (Nat.le_trans hS_ hk)) _ (Nat.le_refl _)) (Below.refl _ _) (Nat.le_refl _) (by simp) ?_; (case hd => rfl); (case hg => rfl); (case hr => first | (go_simp; done) | (go_simp; rfl)); (case hp => exact (Reps.c4 (show Kd.FK k41 _ _ (⟨0, (-1), ([] : List ByteArray), (⟨#[57]⟩ : ByteArray)⟩ : S41) [.int .i64 0, .int .i64 (-1), .slice none 0 0, .string (⟨#[57]⟩ : ByteArray)] from (k41_mkF _ _ (⟨0, (-1), ([] : List ByteArray), (⟨#[57]⟩ : ByteArray)⟩ : S41) (Nat.le_refl _) (Kd.F_nil _ _ _))) (Reps.c4 (show Kd.FK k41 _ _ (⟨1, 0, y0, (⟨#[57]⟩ : ByteArray)⟩ : S41) [.int .i64 1, .int .i64 0, .slice a0 y0.length o0, .string (⟨#[57]⟩ : ByteArray)] from (k41_mkF _ _ (⟨1, 0, y0, (⟨#[57]⟩ : ByteArray)⟩ : S41) (Kd.R_reads' (Kd.R_mono (ok' := (fun k_ => (w.heap.size ≤ k_))) (P0.out) (fun k_ hk => hk.1.1.1))).2.1 (Kd.R_F (Kd.R_mono (ok' := (fun k_ => (w.heap.size ≤ k_))) (P0.out) (fun k_ hk => hk.1.1.1))))) (Reps.c4 (show Kd.FK k41 _ _ (⟨2, 0, ([] : List ByteArray), (⟨#[33]⟩ : ByteArray)⟩ : S41) [.int .i64 2, .int .i64 0, .slice none 0 0, .string (⟨#[33]⟩ : ByteArray)] from (k41_mkF _ _ (⟨2, 0, ([] : List ByteArray), (⟨#[33]⟩ : ByteArray)⟩ : S41) (Nat.le_refl _) (Kd.F_nil _ _ _))) (Reps.c4 (show Kd.FK k41 _ _ (⟨1, 1, y1, (⟨#[95]⟩ : ByteArray)⟩ : S41) [.int .i64 1, .int .i64 1, .slice a1 y1.length o1, .string (⟨#[95]⟩ : ByteArray)] from (k41_mkF _ _ (⟨1, 1, y1, (⟨#[95]⟩ : ByteArray)⟩ : S41) (Kd.R_reads' (Kd.R_mono (ok' := (fun k_ => (w.heap.size ≤ k_))) (P1.out) (fun k_ hk => hk.1.1.1))).2.1 (Kd.R_F (Kd.R_mono (ok' := (fun k_ => (w.heap.size ≤ k_))) (P1.out) (fun k_ hk => hk.1.1.1))))) (Reps.c4 (show Kd.FK k41 _ _ (⟨1, 2, y2, (⟨#[95]⟩ : ByteArray)⟩ : S41) [.int .i64 1, .int .i64 2, .slice a2 y2.length o2, .string (⟨#[95]⟩ : ByteArray)] from (k41_mkF _ _ (⟨1, 2, y2, (⟨#[95]⟩ : ByteArray)⟩ : S41) (Kd.R_reads' (Kd.R_mono (ok' := (fun k_ => (w.heap.size ≤ k_))) (P2.out) (fun k_ hk => hk.1.1.1))).2.1 (Kd.R_F (Kd.R_mono (ok' := (fun k_ => (w.heap.size ≤ k_))) (P2.out) (fun k_ hk => hk.1.1.1))))) (Reps.none _ _))))))); intro v3 w0 ho11 hb hg_ hnew_; clear hg_ hnew_; (first | rw [← Y3.out] at ho11 | (simp only [Int.reduceToNat] at ho11; rw [← Y3.out] at ho11)); have P3 := a_ (Kd.N_lower ho11 hS_); replace HB := a_ (below_step hB_ hb); clear P0 P1 P2; clear hb ho11))
 go_ret
 exact ⟨_, hV_, hN_ P3.out, hC_⟩

def sleuthlaw17_awake.f (k : Nat)  : Option (Bool) := (sleuthlaw17_some.f).bind fun t354 => ((file_Text.f k t354).bind fun bt357 => (if bt357.1.size + 1 ≤ 9223372036854775807 then ((file_Load.f k (bt357.1 ++ (⟨#[120]⟩ : ByteArray))).bind fun bt359 => ((file_Load.f k (⟨#[]⟩ : ByteArray)).bind fun bt363 => ((file_Text.f k ([] : List (S41))).bind fun bt367 => ((sleuthlaw0_Num.f bt357.2).bind fun t369 => (if t369 = 0 then ((sleuthlaw17_some.f).bind fun t370 => ((sleuthlaw0_SameNodes.f k bt359.1 t370).bind fun t373 => (if t373 = true then (if bt359.2 = (bt357.1.size : Int) then (if (bt363.1.length : Int) = 0 then (if bt363.2 = 0 then ((sleuthlaw0_Num.f bt367.2).bind fun t374 => (some (t374 == 1700))) else (none)) else (none)) else (none)) else (none)))) else (none)))))) else (none)))
theorem sleuthlaw17_awake.calls (k : Nat)  (r : Bool) (w : World) (h : sleuthlaw17_awake.f k  = some r) (hG : GOK w) :
 Calls Tryz.prog 13 #[] w fun e w' => e = .returned (.bool r) ∧ Below w.heap.size w w' := by
 have HB := a_ (Below.refl w.heap.size w)
 have H := h; unfold sleuthlaw17_awake.f at H
 clear h
 replace H := Option.bind_eq_some_iff.mp H
 obtain ⟨t2, A10, H⟩ := H
 try dsimp only at H
 have A1 := a_ A10
 clear A10
 replace H := Option.bind_eq_some_iff.mp H
 obtain ⟨⟨t0, t6⟩, A20, H⟩ := H
 try dsimp only at H
 have A2 := a_ A20
 clear A20
 replace H := ifI_ H; obtain ⟨c3, H⟩ := H
 have c3b0 := eq_true c3
 have c3b1 : decide (t0.size + 1 ≤ 9223372036854775807) = true := decide_eq_true c3
 try have c3b2 : (9223372036854775807 < t0.size + 1) = False := eq_false (Nat.not_lt.2 c3)
 replace H := Option.bind_eq_some_iff.mp H
 obtain ⟨⟨t7, t3⟩, A40, H⟩ := H
 try dsimp only at H
 have A4 := a_ A40
 clear A40
 replace H := Option.bind_eq_some_iff.mp H
 obtain ⟨⟨t1, t4⟩, A50, H⟩ := H
 try dsimp only at H
 have A5 := a_ A50
 clear A50
 replace H := Option.bind_eq_some_iff.mp H
 obtain ⟨⟨t10, t8⟩, A60, H⟩ := H
 try dsimp only at H
 have A6 := a_ A60
 clear A60
 replace H := Option.bind_eq_some_iff.mp H
 obtain ⟨t5, A70, H⟩ := H
 try dsimp only at H
 have A7 := a_ A70
 clear A70
 by_cases c8 : t5 = 0
 case neg =>
  rw [if_neg c8] at H
  have c8b0 : (t5 == 0) = false := beq_eq_false_iff_ne.mpr c8
  have c8b1 : (t5 != 0) = true := bne_iff_ne.mpr c8
  cases H
 rw [if_pos c8] at H
 have c8b0 : (t5 == 0) = true := beq_iff_eq.mpr c8
 have c8b1 : (t5 != 0) = false := bne_eq_false_iff_eq.mpr c8
 clear c8
 replace H := Option.bind_eq_some_iff.mp H
 obtain ⟨t9, A90, H⟩ := H
 try dsimp only at H
 have A9 := a_ A90
 clear A90
 replace H := Option.bind_eq_some_iff.mp H
 obtain ⟨t11, A100, H⟩ := H
 try dsimp only at H
 have A10 := a_ A100
 clear A100
 by_cases c11 : t11 = true
 case neg =>
  replace c11 := Bool.eq_false_iff.mpr c11
  subst c11
  rw [if_neg (show ¬ (false = true) by decide)] at H
  cases H
 subst c11
 rw [if_pos rfl] at H
 by_cases c12 : t3 = (t0.size : Int)
 case neg =>
  rw [if_neg c12] at H
  have c12b0 : (t3 == (t0.size : Int)) = false := beq_eq_false_iff_ne.mpr c12
  have c12b1 : (t3 != (t0.size : Int)) = true := bne_iff_ne.mpr c12
  cases H
 rw [if_pos c12] at H
 have c12b0 : (t3 == (t0.size : Int)) = true := beq_iff_eq.mpr c12
 have c12b1 : (t3 != (t0.size : Int)) = false := bne_eq_false_iff_eq.mpr c12
 clear c12
 by_cases c13 : (t1.length : Int) = 0
 case neg =>
  rw [if_neg c13] at H
  have c13b0 : ((t1.length : Int) == 0) = false := beq_eq_false_iff_ne.mpr c13
  have c13b1 : ((t1.length : Int) != 0) = true := bne_iff_ne.mpr c13
  have c13b2 : ¬ (t1 = []) := fun h_ => c13 (by rw [h_]; rfl)
  cases H
 rw [if_pos c13] at H
 have c13b0 : ((t1.length : Int) == 0) = true := beq_iff_eq.mpr c13
 have c13b1 : ((t1.length : Int) != 0) = false := bne_eq_false_iff_eq.mpr c13
 clear c13
 by_cases c14 : t4 = 0
 case neg =>
  rw [if_neg c14] at H
  have c14b0 : (t4 == 0) = false := beq_eq_false_iff_ne.mpr c14
  have c14b1 : (t4 != 0) = true := bne_iff_ne.mpr c14
  cases H
 rw [if_pos c14] at H
 have c14b0 : (t4 == 0) = true := beq_iff_eq.mpr c14
 have c14b1 : (t4 != 0) = false := bne_eq_false_iff_eq.mpr c14
 clear c14
 replace H := Option.bind_eq_some_iff.mp H
 obtain ⟨t12, A150, H⟩ := H
 try dsimp only at H
 have A15 := a_ A150
 clear A150
 obtain rfl := Option.some.inj H
 go_enter Tryz.func13, Tryz.ntmps13
 go_wp2_with (first | ((with_reducible refine gate_callee (f := 16) rfl ?_); refine goesL_ (some 10) rfl rfl Tryz.func16 (by kernel_rfl) rfl #[] rfl hL_ ?_; (with_reducible refine (sleuthlaw17_some.calls  t2 _ A1.out).mono ?_); rintro e w0 ⟨v2, rfl, ho0, hb⟩; refine ⟨_, rfl, ?_⟩; have P0 := a_ (Kd.N_lower (Kd.N_mono (ok' := fun k_ => True) ho0 (fun k_ hk_ => trivial)) hS_); replace HB := a_ (below_step hB_ hb); (try clear hb); (try clear hb2); (try clear hk); (try clear hi); (try clear ho0); obtain ⟨a0, o0, e0⟩ := Kd.N_slice P0.out; subst e0) | ((with_reducible refine gate_callee (f := 6) rfl ?_); refine goesL_ (some 11) rfl rfl Tryz.func6 (by kernel_rfl) rfl #[.slice a0 t2.length o0] rfl hL_ ?_; (with_reducible refine (file_Text.calls k _ _ t2 t0 t6 _ ?s1 ?s2 A2.out hG_).mono ?_); (case s1 => repeat (first | exact (Kd.N_reads' P0.out).2.2 | (with_reducible refine Kd.C_alloc ?_ _) | (with_reducible refine Kd.C_drewN ?_ _) | (with_reducible refine Kd.C_drew ?_))); (case s2 => exact (Kd.N_reads' P0.out).2.1); rintro e w1 ⟨rfl, hb⟩; refine ⟨_, rfl, ?_⟩; replace P0 := a_ (Kd.N_below (hN_ P0.out) hb); replace HB := a_ (below_step hB_ hb); (try clear hb); (try clear hb2); (try clear hk); (try clear hi)) | ((with_reducible refine gate_callee (f := 8) rfl ?_); refine goesL_ (some 17) rfl rfl Tryz.func8 (by kernel_rfl) rfl #[.string (t0 ++ (⟨#[120]⟩ : ByteArray))] rfl hL_ ?_; (with_reducible refine (file_Load.calls k (t0 ++ (⟨#[120]⟩ : ByteArray)) t7 t3 _ A4.out hG_).mono ?_); rintro e w2 ⟨v0, rfl, ho0, hb⟩; refine ⟨_, rfl, ?_⟩; have P1 := a_ (Kd.N_lower (Kd.N_mono (ok' := fun k_ => some k_ ≠ (.slice a0 t2.length o0 : Value).ownBlock) (Kd.S_N (Kd.S_bound ho0)) (fun k_ hk_ => (Kd.fresh' (Kd.N_lt (hN_ P0.out)) k_ hk_.2.1))) hS_); replace P0 := a_ (Kd.N_elder' (hN_ P0.out) (Kd.N_base (Kd.R_N (Kd.S_R ho0))) hb); replace HB := a_ (below_step hB_ hb); (try clear hb); (try clear hb2); (try clear hk); (try clear hi); (try clear ho0)) | ((with_reducible refine gate_callee (f := 8) rfl ?_); refine goesL_ (some 21) rfl rfl Tryz.func8 (by kernel_rfl) rfl #[.string (⟨#[]⟩ : ByteArray)] rfl hL_ ?_; (with_reducible refine (file_Load.calls k (⟨#[]⟩ : ByteArray) t1 t4 _ A5.out hG_).mono ?_); rintro e w3 ⟨v1, rfl, ho0, hb⟩; refine ⟨_, rfl, ?_⟩; have P2 := a_ (Kd.N_lower (Kd.N_mono (ok' := fun k_ => some k_ ≠ (.slice a0 t2.length o0 : Value).ownBlock ∧ some k_ ≠ (v0 : Value).ownBlock) (Kd.S_N (Kd.S_bound ho0)) (fun k_ hk_ => ⟨(Kd.fresh' (Kd.N_lt (hN_ P0.out)) k_ hk_.2.1), (Kd.fresh' (Kd.N_lt (hN_ P1.out)) k_ hk_.2.1)⟩)) hS_); replace P0 := a_ (Kd.N_elder' (hN_ P0.out) (Kd.N_base (Kd.R_N (Kd.S_R ho0))) hb); replace P1 := a_ (Kd.N_elder' (hN_ P1.out) (Kd.N_base (Kd.R_N (Kd.S_R ho0))) hb); replace HB := a_ (below_step hB_ hb); (try clear hb); (try clear hb2); (try clear hk); (try clear hi); (try clear ho0)) | ((with_reducible refine gate_callee (f := 6) rfl ?_); refine goesL_ (some 25) rfl rfl Tryz.func6 (by kernel_rfl) rfl #[.slice none 0 0] rfl hL_ ?_; (refine (file_Text.calls k _ _ ([] : List (S41)) t10 t8 _ ?s1 ?s2 A6.out hG_).mono ?_); (case s1 => exact Kd.C_nil _ _); (case s2 => exact Nat.le_refl _); rintro e w4 ⟨rfl, hb⟩; refine ⟨_, rfl, ?_⟩; replace P0 := a_ (Kd.N_below (hN_ P0.out) hb); replace P1 := a_ (Kd.N_below (hN_ P1.out) hb); replace P2 := a_ (Kd.N_below (hN_ P2.out) hb); replace HB := a_ (below_step hB_ hb); (try clear hb); (try clear hb2); (try clear hk); (try clear hi)) | ((with_reducible refine gate_callee (f := 10) rfl ?_); refine goesL_ _ rfl rfl Tryz.func10 (by kernel_rfl) rfl #[.int .i64 t6] rfl hL_ ?_; (with_reducible refine (sleuthlaw0_Num.calls t6 t5 _ A7.out).mono ?_); rintro e w' ⟨rfl, ⟨nd, rfl⟩⟩; refine ⟨_, rfl, ?_⟩) | (go_at_call 16; (with_reducible refine (sleuthlaw17_some.calls  t9 _ A9.out).mono ?_); rintro e w5 ⟨v3, rfl, ho0, hb⟩; have P3 := a_ (Kd.N_lower (Kd.N_mono (ok' := fun k_ => some k_ ≠ (.slice a0 t2.length o0 : Value).ownBlock ∧ some k_ ≠ (v0 : Value).ownBlock ∧ some k_ ≠ (v1 : Value).ownBlock) ho0 (fun k_ hk_ => ⟨(Kd.fresh' (Kd.N_lt (hN_ P0.out)) k_ hk_), (Kd.fresh' (Kd.N_lt (hN_ P1.out)) k_ hk_), (Kd.fresh' (Kd.N_lt (hN_ P2.out)) k_ hk_)⟩)) hS_); replace P0 := a_ (Kd.N_elder' (hN_ P0.out) (Kd.N_base ho0) hb); replace P1 := a_ (Kd.N_elder' (hN_ P1.out) (Kd.N_base ho0) hb); replace P2 := a_ (Kd.N_elder' (hN_ P2.out) (Kd.N_base ho0) hb); replace HB := a_ (below_step hB_ hb); (try clear hb); (try clear hb2); (try clear hk); (try clear hi); (try clear ho0); obtain ⟨a1, o1, e1⟩ := Kd.N_slice P1.out; subst e1; obtain ⟨a2, o2, e2⟩ := Kd.N_slice P3.out; subst e2) | (go_at_call 11; (with_reducible refine (sleuthlaw0_SameNodes.calls k _ _ t7 _ _ t9 true _ ?s1 ?s2 ?s3 ?s4 A10.out).mono ?_); (case s1 => repeat (first | exact (Kd.N_reads' P1.out).2.2 | (with_reducible refine Kd.C_alloc ?_ _) | (with_reducible refine Kd.C_drewN ?_ _) | (with_reducible refine Kd.C_drew ?_))); (case s2 => exact (Kd.N_reads' P1.out).2.1); (case s3 => repeat (first | exact (Kd.N_reads' P3.out).2.2 | (with_reducible refine Kd.C_alloc ?_ _) | (with_reducible refine Kd.C_drewN ?_ _) | (with_reducible refine Kd.C_drew ?_))); (case s4 => exact (Kd.N_reads' P3.out).2.1); rintro e w6 ⟨rfl, hb⟩; replace P0 := a_ (Kd.N_below (hN_ P0.out) hb); replace P1 := a_ (Kd.N_below (hN_ P1.out) hb); replace P2 := a_ (Kd.N_below (hN_ P2.out) hb); replace P3 := a_ (Kd.N_below (hN_ P3.out) hb); replace HB := a_ (below_step hB_ hb); (try clear hb); (try clear hb2); (try clear hk); (try clear hi); obtain ⟨a3, o3, e3⟩ := Kd.N_slice P2.out; subst e3) | (go_at_call 10; (with_reducible refine (sleuthlaw0_Num.calls t8 t12 _ A15.out).mono ?_); rintro e w' ⟨rfl, ⟨nd, rfl⟩⟩))
 go_ret
 exact ⟨hV_, hC_⟩
end Go.Proofs.YtnhmmbgnaogokaaGreatDoor.G
end
section
namespace Go.Proofs.YtnhmmbgnaogokaaGreatDoor.G
open Go.RowKit Go.Proofs.YtnhmmbgnaogokaaGreatDoorW.PrintWords Go.Proofs.YtnhmmbgnaogokaaGreatDoorW.PrintLast Go.Proofs.YtnhmmbgnaogokaaGreatDoorW.PrintMore
set_option linter.unusedVariables false
set_option linter.unusedSimpArgs false
def some17 : List Nd := [(⟨0, (-1), ([] : List ByteArray), (⟨#[57]⟩ : ByteArray)⟩ : Nd), (⟨1, 0, (([(⟨#[64, 55, 40, 95, 32, 52, 41]⟩ : ByteArray), (⟨#[53]⟩ : ByteArray)] : List ByteArray)), (⟨#[57]⟩ : ByteArray)⟩ : Nd), (⟨2, 0, ([] : List ByteArray), (⟨#[33]⟩ : ByteArray)⟩ : Nd), (⟨1, 1, (([(⟨#[49]⟩ : ByteArray), (⟨#[95]⟩ : ByteArray)] : List ByteArray)), (⟨#[95]⟩ : ByteArray)⟩ : Nd), (⟨1, 2, (([(⟨#[49]⟩ : ByteArray), (⟨#[95]⟩ : ByteArray)] : List ByteArray)), (⟨#[95]⟩ : ByteArray)⟩ : Nd)]
theorem some17_eq : sleuthlaw17_some.f = some some17 := rfl
theorem some17_may : mayT some17 = true := by kernel_rfl
theorem valid_ok {xs : List Nd} (h : validS xs) : okN xs := by
  refine ⟨by have := valid_len h; omega, fun x hx => ?_⟩
  obtain ⟨i, hi, rfl⟩ := List.getElem_of_mem hx
  have := (eqS_spec (recS_spec (recS_of_next (h i hi))).1).2.2.1
  omega
theorem fileB_size {xs : List Nd} (h : ∀ x ∈ xs, recS x = true) : (fileB xs).size ≤ 8198 * xs.length := by
  induction xs with
  | nil => exact Nat.le_refl _
  | cons x xs ih =>
    rw [fileB, ByteArray.size_append, frec_size, List.length_cons]
    have h1 := recOf_size (h x List.mem_cons_self)
    have h2 := ih (fun y hy => h y (List.mem_cons_of_mem _ hy))
    omega
theorem valid_rec {xs : List Nd} (h : validS xs) : ∀ x ∈ xs, recS x = true := fun x hx => by
  obtain ⟨i, hi, rfl⟩ := List.getElem_of_mem hx
  exact recS_of_next (h i hi)
theorem cutT_le {s : ByteArray} (h : s.size ≤ 65536) : cutT s = s := by
  unfold cutT
  rw [Nat.min_eq_left h, ByteArray.extract_zero_size]
theorem cut_pre (s : ByteArray) : ∃ r, s = cutT s ++ r := ⟨_, split_at s (min s.size 65536) s.size (by omega) (Nat.le_refl _)⟩
theorem ext_pre (a b : ByteArray) : (a ++ b).extract 0 a.size = a := by
  apply bytesOf_inj
  rw [bytesOf_extract, bytesOf_append, List.drop_zero, List.take_append_of_le_length (by rw [bytesOf_length]; omega), List.take_of_length_le (by rw [bytesOf_length]; omega)]
theorem textS_ok {ns : List Nd} (h : mayT ns = true) (hs : (fileB ns).size ≤ 65536) : textS ns = (fileB ns, 0) := by
  unfold textS
  rw [if_pos h, if_neg (by omega)]
theorem textS_cases (ns : List Nd) : (mayT ns = true ∧ (fileB ns).size ≤ 65536 ∧ textS ns = (fileB ns, 0)) ∨ textS ns = (⟨#[]⟩, 1700) := by
  unfold textS
  by_cases c : mayT ns = true
  · rw [if_pos c]
    by_cases c2 : 65536 < (fileB ns).size
    · rw [if_pos c2]; exact .inr rfl
    · rw [if_neg c2]; exact .inl ⟨c, by omega, rfl⟩
  · rw [if_neg c]; exact .inr rfl
theorem load_short {ys : List Nd} {r : ByteArray} (hv : validS ys) (hr : r.size < 6) (hs : (fileB ys ++ r).size ≤ 65536) : loadT (fileB ys ++ r) = (ys, ((fileB ys).size : Int)) := by
  unfold loadT
  rw [cutT_le hs]
  exact loadS_eq hv rfl (stepF_short (by rw [ByteArray.size_append]; omega))
theorem empty_app (s : ByteArray) : s = s ++ (⟨#[]⟩ : ByteArray) := (app_nil s).symm
theorem load_file {ys : List Nd} (hv : validS ys) (hs : (fileB ys).size ≤ 65536) : loadT (fileB ys) = (ys, ((fileB ys).size : Int)) := by
  have := load_short (r := ⟨#[]⟩) hv (by decide) (by rw [app_nil]; exact hs)
  rwa [app_nil] at this
theorem awake17_ev : Ev (fun k => sleuthlaw17_awake.f k) true := by
  unfold sleuthlaw17_awake.f
  have hv := ((mayT_iff some17).1 some17_may).2
  have hz : (fileB some17).size ≤ 40990 := fileB_size (valid_rec hv)
  have e1 := text_ev some17
  rw [textS_ok some17_may (by omega)] at e1
  have e2 := load_ev (fileB some17 ++ (⟨#[120]⟩ : ByteArray))
  rw [load_short hv (by decide) (by rw [ByteArray.size_append]; show _ + 1 ≤ _; omega)] at e2
  have e3 := load_ev (⟨#[]⟩ : ByteArray)
  rw [show loadT (⟨#[]⟩ : ByteArray) = ([], 0) from load_file (ys := []) valid_nil (by decide)] at e3
  have e4 := text_ev []
  have h4 : textS [] = (⟨#[]⟩, 1700) := by unfold textS; rw [if_neg (by decide)]
  rw [h4] at e4
  simp only [some17_eq, Option.bind_some]
  refine Ev.bind e1 ?_
  have c1 : (fileB some17).size + 1 ≤ 9223372036854775807 := by omega
  simp only [if_pos c1]
  refine Ev.bind e2 (Ev.bind e3 (Ev.bind e4 ?_))
  simp only [sleuthlaw0_Num.f, Option.bind_some, if_pos]
  refine Ev.bind (sameNodes_ev some17 (valid_ok hv)) ?_
  simp only [if_pos, List.length_nil, Int.natCast_zero, BEq.rfl]
  exact Ev.now _
end Go.Proofs.YtnhmmbgnaogokaaGreatDoor.G
end
