-- Laid by the session's own driver gp.py over the kit's printer. Not trusted: Lean checks it.
import Derived.Test.YtifhpkakdlfgnaaGreatDoorU2
import Derived.Test.YtifhpkakdlfgnaaGreatDoorG0
import Derived.Test.YtifhpkakdlfgnaaGreatDoorU8
namespace Go.Proofs.YtifhpkakdlfgnaaGreatDoor.G
open Go.RowKit Go.Proofs.YtifhpkakdlfgnaaGreatDoorW.PrintWords Go.Proofs.YtifhpkakdlfgnaaGreatDoorW.PrintLast Go.Proofs.YtifhpkakdlfgnaaGreatDoorW.PrintMore
set_option maxHeartbeats 8000000
set_option maxRecDepth 100000
attribute [local go_sem] max2_int min2_int max_two min_two max_three min_three max_four min_four   -- for this text's walks alone
set_option linter.unusedVariables false
set_option linter.unusedSimpArgs false

theorem w64L {x : Int} (h0 : -9223372036854775808 ≤ x) (h1 : x < 9223372036854775808) : wrap64 x = x := by unfold wrap64; omega
theorem Kd.C_take2 {w : World} {A : Option Addr} {l : List Int} (h : Kd.C (Kd.int .i64) w A l.length l) (m : Nat) (hm : m ≤ l.length) : Kd.C (Kd.int .i64) w A m (l.take m) :=
 Kd.C_of_reads (d := 0) (h1 := fun _ => rfl) ((Kd.reads_of_C h).take_ m hm)
def sleuthlaw0_LendInts.f (l0 : List Int) : Option (List Int) := (sleuthlaw0_CopyInts.f l0).bind fun t => if t.length = l0.length then (if t.length + 2 < 17592186044416 then some t else none) else none
theorem sleuthlaw0_LendInts.calls (A0 : Option Addr) (c0 : Nat) (l0 : List Int) (r : List Int) (w : World) (hr0 : Kd.C (Kd.int .i64) w A0 l0.length l0) (hc0 : l0.length ≤ c0) (h : sleuthlaw0_LendInts.f l0 = some r) :
 Calls Tryz.prog 5 #[.slice A0 l0.length c0] w fun e w' => ∃ A c, e = .returned (.slice A r.length c) ∧ Kd.C (Kd.int .i64) w' A r.length r ∧ Kd.C (Kd.int .i64) w' A (r ++ [-7777, -8888]).length (r ++ [-7777, -8888]) ∧ (r ++ [-7777, -8888]).length ≤ c ∧ Below w.heap.size w w' := by
 have HR0 := a_ hr0
 have HC0 := a_ hc0
 clear hr0 hc0
 have HB := a_ (Below.refl w.heap.size w)
 unfold sleuthlaw0_LendInts.f at h
 obtain ⟨t0, A20, h⟩ := Option.bind_eq_some_iff.mp h
 have A2 := a_ A20
 clear A20
 by_cases cl : t0.length = l0.length
 case neg => rw [if_neg cl] at h; cases h
 rw [if_pos cl] at h
 have hLen := a_ cl
 clear cl
 by_cases cm : t0.length + 2 < 17592186044416
 case neg => rw [if_neg cm] at h; cases h
 rw [if_pos cm] at h
 obtain rfl := Option.some.inj h
 clear h
 obtain ⟨y0, i0⟩ : ∃ y_ : List Int, y_ = (([(-7777), (-8888)] : List Int)) := ⟨_, rfl⟩
 have Y1 := a_ i0
 have LMc3 : Aside0 (t0.length + y0.length < 17592186044416) := a_ (by rw [i0]; exact cm)
 clear i0
 obtain ⟨y1, i1⟩ : ∃ y_ : List Int, y_ = (t0 ++ y0) := ⟨_, rfl⟩
 have Y0 := a_ i1
 have hln := congrArg List.length i1
 rw [List.length_append] at hln
 clear i1 cm
 have c4b0 := eq_true (show 0 ≤ (l0.length : Int) by omega)
 have c4b1 : decide (0 ≤ (l0.length : Int)) = true := decide_eq_true (by omega)
 have c5b0 := eq_true (show (l0.length : Int) ≤ (y1.length : Int) by have := hLen.out; omega)
 have c5b1 : decide ((l0.length : Int) ≤ (y1.length : Int)) = true := decide_eq_true (by have := hLen.out; omega)
 clear hln
 go_enter Tryz.func5, Tryz.ntmps5
 go_wp2_with (first | ((with_reducible refine gate_callee (f := 12) rfl ?_); refine goesL_ (some 5) rfl rfl Tryz.func12 (by kernel_rfl) rfl #[.slice A0 l0.length c0] rfl hL_ ?_; (with_reducible refine (sleuthlaw0_CopyInts.calls _ _ l0 t0 _ ?s1 ?s2 A2.out).mono ?_); (case s1 => repeat (first | exact HR0.out | (with_reducible refine Kd.C_alloc ?_ _) | (with_reducible refine Kd.C_drewN ?_ _) | (with_reducible refine Kd.C_drew ?_))); (case s2 => exact HC0.out); rintro e w6 ⟨v0, rfl, ho0, hb⟩; refine ⟨_, rfl, ?_⟩; have P0 := a_ (Kd.R_lower ho0 hS_); replace HB := a_ (below_step hB_ hb); (try clear hb); (try clear hb2); (try clear hk); (try clear hi); (try clear ho0)) | ((with_reducible refine gate_dst (N := 6) rfl ?_); refine Kd.R_lit (Kd.int .i64) _ 3 ?hg (N := 6) ?hd (xs := ([(-7777), (-8888)] : List Int)) (inner := [.int .i64 (-7777), .int .i64 (-8888)]) (ok := fun _ => True) (okp := fun _ => True) ?hr ?hp (fun _ hk => hk) trivial (Below.refl _ _) (Nat.le_refl _) (by simp) ?_; (case hd => rfl); (case hg => rfl); (case hr => first | (go_simp; done) | (go_simp; rfl)); (case hp => exact (Reps.one (show Kd.M (Kd.int .i64) _ _ _ (-7777) [.int .i64 (-7777)] from rfl) (Reps.one (show Kd.M (Kd.int .i64) _ _ _ (-8888) [.int .i64 (-8888)] from rfl) (Reps.none _ _)))); intro v1 w7 ho8 hb hg_ hnew_; clear hg_ hnew_; (first | rw [← Y1.out] at ho8 | (simp only [Int.reduceToNat] at ho8; rw [← Y1.out] at ho8)); have P1 := a_ (Kd.R_lower (Kd.R_new' ho8 (Kd.R_lt (hR_ P0.out))) hS_); replace P0 := a_ (Kd.R_elder' (hR_ P0.out) (Kd.R_base ho8) hb); replace HB := a_ (below_step hB_ hb); clear hb ho8; obtain ⟨a1, o1, e0⟩ := Kd.R_slice P1.out; subst e0) | ((with_reducible refine gate_builtin (b := .append) (xs := #[.tmp 5, .tmp 6]) rfl ?_); at_builtin; refine Kd.R_append_rows (Kd.int .i64) (w0 := w) w.heap.size rfl (.tmp 5) (.tmp 6) 23 3 (.int .i64 0) 8 rfl Tryz.underlying23 info3 rfl (by decide) (by omega) v0 t0 y0 _ _ _ (fun k_ => some k_ ≠ (.slice a1 y0.length o1 : Value).ownBlock) (fun _ => False) rfl rfl ?aO ?aR (fun _ _ h => h) (fun _ h => h.elim) ?aF ?aB ?aS ?aL ?_; (case aR => exact cC_ (Kd.R_reads' P1.out).2.2); (case aB => exact hB_); (case aF => exact (fun k_ hk => Kd.fresh' (Kd.R_lt (hR_ P1.out)) k_ hk)); (case aO => exact (by (with_reducible repeat (first | apply Kd.R_alloc | apply Kd.R_drewN | apply Kd.R_drew)); exact Kd.R_mono P0.out (fun _ hk => hk.2))); (case aS => exact hS_); (case aL => have := LMc3.out; omega); intro v2 w9 ho hb hg hat; rw [← Y0.out] at ho; replace P1 := a_ (Kd.R_after (ok := (fun _ => True)) (hR_ P1.out) hg hat); replace HB := a_ (hb); have P2 := a_ (ho); clear P0; clear ho hb hg hat; obtain ⟨a0, o0, e1⟩ := Kd.R_slice P2.out; subst e1; have q12 : ((l0.length : Int) : Int) ≤ ((y1.length : Int) : Int) := of_decide_eq_true hA_; obtain ⟨i012, hi012, _, hsz12, _⟩ := info_parts info3; have hcut12 := cut_to (P := Tryz.prog) 23 3 .i64 Tryz.underlying23 hi012 a0 y1.length o0 (l0.length : Int) (of_decide_eq_true hA_) q12 (Kd.R_reads' P2.out).2.1; have i2 : t0.length = ((l0.length : Int) : Int).toNat := (by have := hLen.out; omega); rw [← i2] at hcut12; clear i2 hi012 hsz12; have hc12_ := a_ (Kd.R_reads' P2.out).2.1; have hr12_ := a_ (Kd.R_reads' P2.out).2.2; replace q12 := eq_true q12))
 go_ret
 refine ⟨a0, o0, hV_, ?_, ?_, ?_, hC_⟩
 · have z := Kd.C_take2 hr12_.out t0.length (by rw [Y0.out, List.length_append]; omega)
   rw [Y0.out, List.take_left] at z
   exact z
 · have z := hr12_.out
   rw [Y0.out, Y1.out] at z
   exact z
 · have z := hc12_.out
   rw [Y0.out, Y1.out] at z
   exact z
def sleuthlaw0_KeptInts.f (k : Nat) (l0 : List Int) (l1 : List Int) : Option Bool := (sleuthlaw0_SameInts.f k l0 l1).bind fun t => if t = true then (if l0.length = l1.length then (if l0.length + 2 < 17592186044416 then some true else none) else none) else none
theorem sleuthlaw0_KeptInts.calls (k : Nat) (A0 : Option Addr) (c0 : Nat) (l0 : List Int) (A1 : Option Addr) (c1 : Nat) (l1 : List Int) (r : Bool) (w : World) (hr0 : Kd.C (Kd.int .i64) w A0 l0.length l0) (hl0 : Kd.C (Kd.int .i64) w A0 (l0 ++ [-7777, -8888]).length (l0 ++ [-7777, -8888])) (hc0 : (l0 ++ [-7777, -8888]).length ≤ c0) (hr1 : Kd.C (Kd.int .i64) w A1 l1.length l1) (hc1 : l1.length ≤ c1) (h : sleuthlaw0_KeptInts.f k l0 l1 = some r) :
 Calls Tryz.prog 10 #[.slice A0 l0.length c0, .slice A1 l1.length c1] w fun e w' => e = .returned (.bool r) ∧ Drawn0 w w' := by
 unfold sleuthlaw0_KeptInts.f at h
 obtain ⟨t, A60, h⟩ := Option.bind_eq_some_iff.mp h
 by_cases ct : t = true
 case neg => rw [if_neg ct] at h; cases h
 rw [if_pos ct] at h
 subst ct
 have A6 := a_ A60
 clear A60
 by_cases cl : l0.length = l1.length
 case neg => rw [if_neg cl] at h; cases h
 rw [if_pos cl] at h
 by_cases cm : l0.length + 2 < 17592186044416
 case neg => rw [if_neg cm] at h; cases h
 rw [if_pos cm] at h
 obtain rfl := Option.some.inj h
 clear h
 have hcap : l0.length + 2 ≤ c0 := by have := hc0; rw [List.length_append] at this; exact this
 obtain ⟨L, hL⟩ : ∃ L : List Int, L = l0 ++ [-7777, -8888] := ⟨_, rfl⟩
 rw [← hL] at hl0 hc0
 have hLn : L.length = l0.length + 2 := by rw [hL, List.length_append]; rfl
 have HR0 := a_ hr0
 have HC0 : Aside0 (l0.length ≤ c0) := a_ (by omega)
 have HRL := a_ hl0
 have HR1 := a_ hr1
 have HC1 := a_ hc1
 clear hr0 hl0 hc0 hr1 hc1
 have e1 : rd L (l1.length : Int) = -7777 := by
  unfold rd
  rw [Int.toNat_natCast, hL, ← cl, List.getD_eq_getElem?_getD, List.getElem?_append_right (Nat.le_refl _), Nat.sub_self]; rfl
 obtain ⟨ji3, hji3⟩ : ∃ j_ : Int, (wrap64 ((l0.length : Int) + 2)) = j_ := ⟨_, rfl⟩
 have ej3 : ji3 = (L.length : Int) := by rw [← hji3, hLn, w64L (by omega) (by omega)]; omega
 have hji3w : (IntKind.i64.wrap ((l0.length : Int) + 2)) = ji3 := (i64_w _).trans hji3
 obtain ⟨ji11, hji11⟩ : ∃ j_ : Int, (wrap64 ((l1.length : Int) + 1)) = j_ := ⟨_, rfl⟩
 have ej11 : ji11 = ((l0.length + 1 : Nat) : Int) := by rw [← hji11, ← cl, w64L (by omega) (by omega)]; omega
 have hji11w : (IntKind.i64.wrap ((l1.length : Int) + 1)) = ji11 := (i64_w _).trans hji11
 have e2 : rd L ji11 = -8888 := by
  unfold rd
  rw [ej11, Int.toNat_natCast, hL, List.getD_eq_getElem?_getD, List.getElem?_append_right (by omega), Nat.add_sub_cancel_left]; rfl
 obtain ⟨i014, hi014, _, hsz14, _⟩ := info_parts info3
 have hcut14 : ∀ W : World, (Instr.slice 23 (.slice A0 l0.length c0) none (some (.int .i64 ji3)) none).run Tryz.prog W = .ok (.slice A0 L.length c0) W := by
  intro W
  have hu : Tryz.prog.underlying 23 = some (.slice (Tryz.prog.elem 23)) := by
   have hel : Tryz.prog.elem 23 = 3 := by simp [Program.elem, Tryz.underlying23]
   rw [hel]; exact Tryz.underlying23
  have hel : Tryz.prog.elem 23 = 3 := by simp [Program.elem, Tryz.underlying23]
  have ha : (A0.map fun x => x.add 0) = A0 := by cases A0 <;> simp [Addr.add]
  rw [run_slice_h W 23 A0 l0.length c0 hu .i64 ji3 (by omega) (by omega), hel, show L.length = ji3.toNat by omega]
  simp [sizeOf, typeInfo, hi014, sliced, Result.andThen, ha]
 clear hi014 hsz14
 have c10b0 : (rd L (l1.length : Int) == (-7777)) = true := beq_iff_eq.mpr e1
 have c14b0 : (rd L ji11 == (-8888)) = true := beq_iff_eq.mpr e2
 have c8b0 : decide (0 ≤ (l1.length : Int)) = true := decide_eq_true (by omega)
 have c8b1 : decide (0 ≤ l1.length) = true := decide_eq_true (by omega)
 have c9b0 : decide ((l1.length : Int) < (L.length : Int)) = true := decide_eq_true (by omega)
 have c9b1 : decide (l1.length < L.length) = true := decide_eq_true (by omega)
 have c12b0 : decide (0 ≤ ji11) = true := decide_eq_true (by omega)
 have c13b0 : decide (ji11 < (L.length : Int)) = true := decide_eq_true (by omega)
 have c4b0 := eq_true (show 0 ≤ ji3 by omega)
 have c4b1 : decide (0 ≤ ji3) = true := decide_eq_true (by omega)
 clear ej3 ej11 hLn hL hcap cl cm
 go_enter Tryz.func10, Tryz.ntmps10
 go_wp2_with (first | ((with_reducible refine gate_callee (f := 18) rfl ?_); refine goesL_ _ rfl rfl Tryz.func18 (by kernel_rfl) rfl #[.slice A0 l0.length c0, .slice A1 l1.length c1] rfl hL_ ?_; (with_reducible refine (sleuthlaw0_SameInts.calls k _ _ l0 _ _ l1 true _ ?s1 ?s2 ?s3 ?s4 A6.out).mono ?_); (case s1 => repeat (first | exact HR0.out | (with_reducible refine Kd.C_alloc ?_ _) | (with_reducible refine Kd.C_drewN ?_ _) | (with_reducible refine Kd.C_drew ?_))); (case s2 => exact HC0.out); (case s3 => repeat (first | exact HR1.out | (with_reducible refine Kd.C_alloc ?_ _) | (with_reducible refine Kd.C_drewN ?_ _) | (with_reducible refine Kd.C_drew ?_))); (case s4 => exact HC1.out); rintro e w' ⟨rfl, ⟨nd, rfl⟩⟩; refine ⟨_, rfl, ?_⟩; have p342 : 0 ≤ ((l1.length : Int) : Int) := of_decide_eq_true hA_; have q342 : (l1.length : Int) < (L.length : Int) := of_decide_eq_true hA_; obtain ⟨d0, e342, h0⟩ := Kd.at_int HRL.out (l1.length : Int) p342 q342; cases e342; (try simp only [Go.IntWalk.toNatUp] at h0); replace p342 := eq_true p342; replace q342 := eq_true q342; have p343 : 0 ≤ ((ji11) : Int) := of_decide_eq_true hA_; have q343 : (ji11) < (L.length : Int) := of_decide_eq_true hA_; obtain ⟨d1, e343, h1⟩ := Kd.at_int HRL.out (ji11) p343 q343; obtain rfl : d0 = d1 := (by injection e343); replace p343 := eq_true p343; replace q343 := eq_true q343))
 go_ret
 exact ⟨by first | rfl | (simp [e1, e2]; done) | (rw [c14b0]), by repeat (first | exact Drawn0.refl _ | apply Drawn0.step)⟩

end Go.Proofs.YtifhpkakdlfgnaaGreatDoor.G
