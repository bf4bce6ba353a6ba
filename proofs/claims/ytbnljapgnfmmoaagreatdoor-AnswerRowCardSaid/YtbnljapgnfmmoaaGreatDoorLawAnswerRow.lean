/- For every input the law AnswerRow of the given program returns true, panics nowhere, and leaves its arguments as they were, the listed variables of Go's library holding what the program's text lays in them: the card AnswerRowCardSaid, with no condition beside its own. -/
import Derived.Test.YtbnljapgnfmmoaaGreatDoorTie
import Derived.Test.YtbnljapgnfmmoaaGreatDoorCards
import Derived.Test.YtbnljapgnfmmoaaGreatDoorTOpen
import Derived.Test.YtbnljapgnfmmoaaGreatDoorAnsRowL
import Derived.WalkKit
import Derived.ProofKit
import Derived.OpenShut
import Derived.ShutString
import Derived.ChangeOld
import Derived.Below
import Derived.SizedLaws
import Derived.LaidMore
import Derived.Lay
import Derived.SevenTiedAt
import Derived.Stop.Joined
import Derived.Stop.LaidErr
import Derived.Lib.LaidTab
namespace Go.Proofs.YtbnljapgnfmmoaaGreatDoor.answerRow
open Go.ChangeShapes Go.WideShapes Go.ChangeAt Go.RowKit
open Go.ChangeMaps (open_string shut_string)
set_option linter.unusedVariables false
set_option maxRecDepth 100000
theorem laidOut : laidOutB Tryz.prog = true := by kernel_rfl
theorem own : ownKnob Tryz.prog.godebug = none := by kernel_rfl
theorem star : "*" ++ "errors.errorString" = "*errors.errorString" := by decide
theorem rowS (u : TypeId) (h : Tryz.prog.typeName? 3 u = some "*errors.errorString") : u = 157 :=
  typeName_ptr_named (nm := "errors.errorString") (by rw [star]; kernel_rfl) (by kernel_rfl) (by decide) u (by rw [star]; exact h)
theorem gok {W : World} (h : laidMetH Tryz.prog Rows.answerRowRow.laid W) : G.GOK W := by
  rw [MakeChecks.laidMetH_plain _ _ _ (by kernel_rfl)] at h
  have h0 : laidMet Tryz.prog [("math/bits.deBruijn32tab", Rows.laid_math_bits_deBruijn32tab), ("math/bits.deBruijn64tab", Rows.laid_math_bits_deBruijn64tab), ("internal/strconv.uint64pow10", Rows.laid_internal_strconv_uint64pow10), ("strconv.ErrRange", Rows.laid_strconv_ErrRange), ("strconv.ErrSyntax", Rows.laid_strconv_ErrSyntax)] W := h
  have h1 := h0.tail
  have h2 := h1.tail
  have h3 := h2.tail
  have h4 := h3.tail
  have e1 : Lib.TabIs Tryz.prog W "internal/strconv.uint64pow10" .u64 Lib.pow10Tab := Lib.tabIs_of_head (g := 3) (t := 161) (e := 143) (n := 20) (by kernel_rfl) (by kernel_rfl) (by kernel_rfl) (by kernel_rfl) (by kernel_rfl) (by kernel_rfl) h2
  obtain ⟨a2, s2, v2, _⟩ := laid_sentinel (g := 1) (ti := 120) (tp := 157) (te := 159) (ts := 9) h4 (by kernel_rfl) (by kernel_rfl) Tryz.underlying120 rowS Tryz.underlying157 Tryz.underlying159 rfl rfl Tryz.underlying9 (by kernel_rfl) (by kernel_rfl)
  obtain ⟨a3, s3, v3, _⟩ := laid_sentinel (g := 2) (ti := 120) (tp := 157) (te := 159) (ts := 9) h3 (by kernel_rfl) (by kernel_rfl) Tryz.underlying120 rowS Tryz.underlying157 Tryz.underlying159 rfl rfl Tryz.underlying9 (by kernel_rfl) (by kernel_rfl)
  exact ⟨e1, ⟨_, _, v2⟩, ⟨_, _, v3⟩⟩
theorem lifted (os : Os) (started : os.Started) (H : Type) (enc : TypeId × Value → H) :
    ReturnsInHanded {} Tryz.checked os 6 .any (fun w args => (Rows.answerRowSpec.pre enc Tryz.prog Tryz.f6 Rows.answerRowRow.domain false w args ∧ laidMetH Tryz.prog Rows.answerRowRow.laid w) ∧ sizedMet enc Tryz.prog Tryz.f6 (OpenSpec.ofChange Rows.answerRowSpec) false w args)
      (Rows.answerRowSpec.post enc Tryz.prog Tryz.f6 false true false false) := by
  refine returnsInHanded_of_change_and (C := Tryz.checked) (X := fun w _ => laidMetH Tryz.prog Rows.answerRowRow.laid w) (fun _ _ _ hh h => h.of_heap hh) own started (by kernel_rfl) Tryz.func6
    (ChangeSpec.witness_shaped (enc := enc) (C := Tryz.checked) (os := os) (X := fun w _ => laidMetH Tryz.prog Rows.answerRowRow.laid w) false (World.laidAll Tryz.prog os Rows.answerRowRow.laid) #[.slice none 0 0, .int .i64 0, .slice none 0 0] 8 (World.laidAll_os _ _ _)
      (World.shaped_of_ZipB (by kernel_rfl) (by kernel_rfl)) (by kernel_rfl) (by kernel_rfl) (by kernel_rfl)
      (by rw [MakeChecks.laidMetH_plain _ _ _ (by kernel_rfl)]; exact laidMet_laidAll _ (by kernel_rfl) (by kernel_rfl))) ?_
  intro W base args ds gs before hval0 hW hcnd hsz0 hL _
  have hsz : (DataW.weightsEach Tryz.prog (Tryz.f6.params.toList ++ Rows.answerRowSpec.plain.varTypes Tryz.prog) (ds ++ gs)).all (· ≤ reachBytes) = true := hsz0
  have hval : ∀ (j : Nat) t v, Tryz.f6.params[j]? = some t → args[j]? = some v → Value.okWide Tryz.prog W .any base t v := hval0
  have hW' := hW
  obtain ⟨p, q, hA0, hV, rfl, hfz, hnd⟩ := hW
  have hA : DataW.TrodAll enc Tryz.prog W 0 (fun _ => true) true Tryz.f6.params.toList args.toList ds p := hA0
  rw [Tryz.params6] at hA hval hsz
  obtain ⟨v0, vs0, d0, ds0, p0, q0, hargs, rfl, rfl, h0, r0⟩ := trodAll_cons hA
  obtain ⟨v1, vs1, d1, ds1, p1, q1, rfl, rfl, rfl, h1, r1⟩ := trodAll_cons r0
  obtain ⟨v2, vs2, d2, ds2, p2, q2, rfl, rfl, rfl, h2, r2⟩ := trodAll_cons r1
  obtain ⟨rfl, rfl, rfl⟩ := trodAll_nil r2
  obtain rfl : args = #[v0, v1, v2] := by cases args; simp_all
  obtain ⟨rfl, rfl⟩ := trodVars_none hV
  obtain ⟨A0, len0, c0, rfl⟩ := okWide_slice Tryz.underlying22 (hval 0 22 v0 rfl rfl)
  have k0 := h0
  have lt0 : ∀ x ∈ p0, x.block < W.heap.size := by obtain ⟨m, hm⟩ := k0; exact DataW.trod_lt m _ _ _ hm
  obtain ⟨l0, ⟨A0', c0', e0, hc0, hr0⟩, w0⟩ := G.opens_arg (G.opens_slice (B := 56) Tryz.underlying22 (by kernel_rfl) (show G.Opens Tryz.prog 66 G.k66 _ from G.opens_iso (b := fun x => (⟨x.1, x.2.1, x.2.2.1, x.2.2.2⟩ : G.S66)) (fun a => rfl) (G.opens_struct Tryz.underlying66 (by kernel_rfl) (G.opensF_cons rfl (G.opens_int Tryz.underlying3 (by kernel_rfl)) (G.opensF_cons rfl (G.opens_int Tryz.underlying3 (by kernel_rfl)) (G.opensF_cons rfl (G.opens_slice (B := 16) Tryz.underlying64 (by kernel_rfl) (G.opens_string Tryz.underlying9 (by kernel_rfl)) (by kernel_rfl)) (G.opensF_one rfl (G.opens_string Tryz.underlying9 (by kernel_rfl)))))))) (by kernel_rfl)) hsz (j := 0) (t := 22) rfl rfl h0
  injection (List.cons.inj (show [Value.slice A0 len0 c0] = [Value.slice A0' l0.length c0'] from e0)).1 with q1 q2 q3
  subst q1 q2 q3
  obtain ⟨a1, rfl, rfl, rfl, w1⟩ := open_int Tryz.underlying3 (hval 1 3 v1 rfl rfl) h1
  obtain ⟨A2, len2, c2, rfl⟩ := okWide_slice Tryz.underlying41 (hval 2 41 v2 rfl rfl)
  have k2 := h2
  have lt2 : ∀ x ∈ p2, x.block < W.heap.size := by obtain ⟨m, hm⟩ := k2; exact DataW.trod_lt m _ _ _ hm
  obtain ⟨l2, ⟨A2', c2', e2, hc2, hr2⟩, w2⟩ := G.opens_arg (G.opens_slice (B := 8) Tryz.underlying41 (by kernel_rfl) (G.opens_int Tryz.underlying3 (by kernel_rfl)) (by kernel_rfl)) hsz (j := 2) (t := 41) rfl rfl h2
  injection (List.cons.inj (show [Value.slice A2 len2 c2] = [Value.slice A2' l2.length c2'] from e2)).1 with q1 q2 q3
  subst q1 q2 q3
  clear hA0 hval0 hsz0 hsz
  obtain ⟨kk, hk⟩ := G.answerRow_pure l0 a1 l2 w0 w1 w2
  refine (G.sleuthlaw22_AnswerRow.calls kk A0 c0 l0 a1 A2 c2 l2 true W hr0 hc0 hr2 hc2 hk (gok hL)).mono fun e W' ⟨he, bel⟩ => ?_
  subst he
  exact ⟨_, rfl, _, _, _, [], _, [], hW', trodAll_mk1 (shut_bool Tryz.underlying4 _), (trodAll_cons_mk (Below.trod laidOut (by kernel_rfl) (of_decide_eq_true (by kernel_rfl)) k0 bel lt0) (trodAll_cons_mk (shut_int Tryz.underlying3 w1) (trodAll_cons_mk (Below.trod laidOut (by kernel_rfl) (of_decide_eq_true (by kernel_rfl)) k2 bel lt2) trodAll_mk0))), rfl, bel.frame _, fun h => by cases h⟩
theorem over : Rows.answerRowRow.holds Tryz.pinned (OpenSpec.ofChange Rows.answerRowSpec) :=
  OpenClaim.holds_of_wide 6 Tryz.f6 rfl rfl rfl rfl rfl rfl rfl ⟨rfl, rfl, rfl, rfl, rfl⟩ rfl rfl rfl rfl rfl (by kernel_rfl) Tryz.func6 (by kernel_rfl)
    (of_decide_eq_true (by kernel_rfl)) (by unfold Func.isWrapper; first | (rw [if_pos (by decide +kernel)]; kernel_rfl) | (rw [if_neg (by decide +kernel)]; exact ⟨rfl, rfl⟩))
    (fun os started H enc _ => lifted os started H enc)
theorem proved : Rows.AnswerRowCardSaid :=
  Claim7.holds_tied_plain_at .later [] [.data, .data, .data, .sentinel, .sentinel] true (true, "b2e4f8928a3575d6ae1c143891d4eef568f091977f2464a4ff66600294f266e0") true over (fun _ h => by cases h) (by kernel_rfl) (fun _ h => by cases h) answerRow_row_tie rfl ⟨rfl, rfl⟩ (by kernel_rfl) rfl
    (fun f fn hf hfn => by
      obtain rfl : f = 6 := Option.some.inj ((show Tryz.prog.funcNamed "sleuth/sleuthlaw22.AnswerRow" = some 6 by kernel_rfl).symm.trans hf) |>.symm
      obtain rfl : fn = Tryz.f6 := (Option.some.inj (Tryz.func6.symm.trans hfn)).symm
      exact ⟨by kernel_rfl, fun j t ht => by
        rw [Tryz.params6] at ht
        have hm : t ∈ ([22, 3, 41] : List TypeId) := by simpa using Array.mem_of_getElem? ht
        have hall : (([22, 3, 41] : List TypeId).all fun u => !Tryz.prog.wantsStandIn u) = true := by kernel_rfl
        exact (show Tryz.prog.wantsStandIn t = false by simpa using List.all_eq_true.1 hall t hm)⟩)
    (by kernel_rfl)
#print axioms proved
end Go.Proofs.YtbnljapgnfmmoaaGreatDoor.answerRow
namespace Go.Proofs.YtbnljapgnfmmoaaGreatDoor
/-- The card, under a short name, for the claim. -/
theorem answerRow_holds : Rows.AnswerRowCardSaid := answerRow.proved
end Go.Proofs.YtbnljapgnfmmoaaGreatDoor
