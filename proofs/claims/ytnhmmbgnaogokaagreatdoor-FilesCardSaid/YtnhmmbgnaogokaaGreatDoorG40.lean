-- Laid by the session's own driver gp.py over the kit's printer. Not trusted: Lean checks it.
import Derived.Test.YtnhmmbgnaogokaaGreatDoorU2
import Derived.Test.YtnhmmbgnaogokaaGreatDoorG0
import Derived.Test.YtnhmmbgnaogokaaGreatDoorG39
namespace Go.Proofs.YtnhmmbgnaogokaaGreatDoor.G
open Go.RowKit Go.Proofs.YtnhmmbgnaogokaaGreatDoorW.PrintWords Go.Proofs.YtnhmmbgnaogokaaGreatDoorW.PrintLast Go.Proofs.YtnhmmbgnaogokaaGreatDoorW.PrintMore
set_option maxHeartbeats 8000000
set_option maxRecDepth 100000
attribute [local go_sem] max2_int min2_int max_two min_two max_three min_three max_four min_four   -- for this text's walks alone
set_option linter.unusedVariables false
set_option linter.unusedSimpArgs false

theorem wsuccP (x : Int) (h0 : 0 ≤ x) (h1 : x ≤ 9223372036854775806) : wrap64 (x + 1) = x + 1 := by unfold wrap64; omega
def sn_ok (l0 : List S41) : Bool := decide (l0.length ≤ 9223372036854775806) && l0.all (fun x => decide (x.f2.length ≤ 9223372036854775806) && x.f2.all (fun s => decide (s.size ≤ 9223372036854775806)))
def sleuthlaw0_SpoilNodes.f (k : Nat) (l0 : List S41) : Option Unit := if sn_ok l0 = true then some () else none
theorem sn_ok_spec {l0 : List S41} (h : sn_ok l0 = true) : l0.length ≤ 9223372036854775806 ∧ ∀ x ∈ l0, x.f2.length ≤ 9223372036854775806 ∧ ∀ s ∈ x.f2, s.size ≤ 9223372036854775806 := by
 unfold sn_ok at h
 rw [Bool.and_eq_true] at h
 refine ⟨of_decide_eq_true h.1, fun x hx => ?_⟩
 have h1 := List.all_eq_true.1 h.2 x hx
 rw [Bool.and_eq_true] at h1
 exact ⟨of_decide_eq_true h1.1, fun s hs => of_decide_eq_true (List.all_eq_true.1 h1.2 s hs)⟩
theorem spt_l0 : ∀ (n i : Nat) (l : List ByteArray), i + n = l.length → l.length ≤ 9223372036854775806 → (∀ j s, i ≤ j → l[j]? = some s → s.size ≤ 9223372036854775806) → ∃ k r, sleuthlaw0_SpoilTexts.l0 k l (i : Int) = some r
 | 0, i, l, h, _, _ => ⟨1, l, by rw [sleuthlaw0_SpoilTexts.l0, if_neg (by omega)]⟩
 | n + 1, i, l, h, hl, hs => by
  have hi : i < l.length := by omega
  have e : rdOf ByteArray.empty l (i : Int) = l[i] := by unfold rdOf; rw [Int.toNat_natCast, List.getD_eq_getElem?_getD, List.getElem?_eq_getElem hi]; rfl
  obtain ⟨k, r, h1⟩ := spt_l0 n (i + 1) (l.set i ((⟨#[126]⟩ : ByteArray) ++ l[i])) (by rw [List.length_set]; omega) (by rw [List.length_set]; exact hl) (fun j s hj hjs => hs j s (by omega) (by rw [List.getElem?_set_ne (by omega)] at hjs; exact hjs))
  refine ⟨k + 1, r, ?_⟩
  have e1 : ((i + 1 : Nat) : Int) = (i : Int) + 1 := by omega
  rw [e1] at h1
  rw [sleuthlaw0_SpoilTexts.l0, if_pos (by omega), if_pos (by omega), e, if_pos (by have := hs i _ (Nat.le_refl _) (List.getElem?_eq_getElem hi); omega), Int.toNat_natCast, wsuccP _ (by omega) (by omega)]
  exact h1
theorem grown_of {w0 w w1 : World} {P : Nat → Prop} {row : Option Nat} (hB : Below w0.heap.size w0 w) (hB1 : Below w0.heap.size w0 w1) (hk : Kept w w1 P) (hP : ∀ k, P k → some k = row) : w.grownBy w1 row :=
 ⟨hB1.os.trans hB.os.symm, hB1.tape.trans hB.tape.symm, hB1.output.trans hB.output.symm, hk.1, fun k h1 h2 => hk.2 k h1 (fun h => h2 (hP k h))⟩
theorem sleuthlaw0_SpoilNodes.callsS (ok : Nat → Prop) (v : Value) (l0 : List S41) (w0 w : World) (hB : Below w0.heap.size w0 w) (hS : Kd.S k41 41 w w0.heap.size ok v l0) (hlen : l0.length ≤ 9223372036854775806) (hsz : ∀ x ∈ l0, x.f2.length ≤ 9223372036854775806 ∧ ∀ s ∈ x.f2, s.size ≤ 9223372036854775806) :
 Calls Tryz.prog 12 #[v] w fun e w' => e = .returned (.tuple #[]) ∧ Below w0.heap.size w0 w' ∧ Kept w w' ok := by
 have P1 := a_ hS
 have HB := a_ hB
 clear hB hS
 go_enter Tryz.func12, Tryz.ntmps12
 go_wp2
 go_loopg [2] (l0.length + 1) (fun kq v2 w' => ∃ (xs : List S41) (x : Int), v2 = .int .i64 x ∧ Aside0 ((kq : Int) + x = (l0.length : Int) + 1 ∧ 0 ≤ x ∧ x ≤ (l0.length : Int) ∧ xs.length = l0.length ∧ ∀ j : Nat, x.toNat ≤ j → xs[j]? = l0[j]?) ∧ Aside0 (Kd.S k41 41 w' w0.heap.size ok v xs) ∧ Aside0 (Kept w w' ok) ∧ Aside0 (Below w0.heap.size w0 w'))
 case atStart => exact ⟨l0, 0, rfl, ⟨by omega, by omega, by omega, rfl, fun _ _ => rfl⟩, P1, ⟨Kept.refl _ _⟩, HB⟩
 case round =>
  clear P1 HB
  obtain ⟨xs, x, rfl, HI, HO, HK, HB⟩ := hrel
  cases gk with
  | zero => exact absurd HI.out.1 (by have := HI.out.2.2.1; omega)
  | succ k1 =>
   by_cases c : x < (xs.length : Int)
   case neg =>
    have cb : decide (x < (xs.length : Int)) = false := decide_eq_false c
    clear c
    obtain ⟨Ao, co, eo⟩ := Kd.S_slice HO.out
    subst eo
    go_wp2
    first | go_end0 | ((try simp only [Exit.inBlock, Exit.then]); refine bodyPost_ret (results_none rfl _ _ _) rfl ?_)
    exact ⟨rfl, HB.out, HK.out⟩
   have h6 := HI.out.2.1
   have cb : decide (x < (xs.length : Int)) = true := decide_eq_true c
   have c0b : decide (0 ≤ x) = true := decide_eq_true (by omega)
   obtain ⟨g, cap, ev, hbg, hgl, cl, hgc⟩ := Kd.S_form HO.out (by omega)
   subst ev
   have GB := a_ hbg
   have GC := a_ hgc
   have GL := a_ hgl
   clear hbg hgc hgl
   obtain ⟨oki, c_, hcl, hM, hcc, hoki, hback⟩ := Kd.S_borrow HO.out z41 x (by omega) (by omega)
   obtain ⟨q, hq⟩ : ∃ q, q = xs.getD x.toNat z41 := ⟨_, rfl⟩
   rw [← hq] at hM
   obtain ⟨v2, rfl, hRow⟩ := k41_openM hM
   obtain ⟨A2, c2, e2⟩ := Kd.R_slice hRow
   subst e2
   have h7 : wr.cell? ⟨g, x.toNat * 4 + 2, none⟩ = some (.slice A2 q.f2.length c2) := by have h_ := hcc 2 _ rfl; rw [add_plain] at h_; exact h_
   have HBACK := a_ (@hback)
   have HROW := a_ hRow
   clear hcl hcc hM hback hRow
   have hel : q ∈ l0 := by
    rw [hq]
    obtain ⟨_, _, _, h3, h4⟩ := HI.out
    have hil : x.toNat < l0.length := by omega
    have h5 := h4 x.toNat (Nat.le_refl _)
    rw [List.getElem?_eq_getElem (by omega), List.getElem?_eq_getElem hil] at h5
    rw [List.getD_eq_getElem?_getD, List.getElem?_eq_getElem (by omega), Option.some.inj h5]
    exact List.getElem_mem hil
   obtain ⟨hz1, hz2⟩ := hsz _ hel
   obtain ⟨kt, r, ht⟩ := spt_l0 q.f2.length 0 q.f2 (by omega) hz1 (fun j s _ hjs => hz2 s (List.mem_of_getElem? hjs))
   have HT := a_ (show sleuthlaw0_SpoilTexts.f kt q.f2 = some r from ht)
   have p4 := eq_true h6
   have q4 := eq_true c
   clear ht hz1 hz2 hel c h6 hq
   go_wp2_with (first | ((with_reducible refine gate_callee (f := 32) rfl ?_); refine goesL_ (some 14) rfl rfl Tryz.func32 (by kernel_rfl) rfl #[.slice A2 q.f2.length c2] rfl hL_ ?_; (refine (sleuthlaw0_SpoilTexts.calls kt (fun k_ => some k_ = (.slice A2 q.f2.length c2 : Value).ownBlock) _ _ r w0 _ ?hb ?ho HT.out).mono ?_); (case hb => exact HB.out); (case ho => exact ⟨fun k_ h_ => h_.symm, HROW.out.2.imp_ (fun _ _ h_ => h_)⟩); rintro e w1 ⟨rfl, hr1, hb1, hk1⟩; refine ⟨_, rfl, ?_⟩; have HGR := a_ (grown_of HB.out hb1 hk1 (fun _ h_ => h_)); have P0 := a_ (HBACK.out HGR.out (fun k_ h_ => HROW.out.1 k_ h_) (k41_mkM w1 w0.heap.size oki (⟨q.f0, q.f1, r, q.f3⟩ : S41) (show Kd.string.R 9 w1 w0.heap.size oki (.slice A2 q.f2.length c2) r from ⟨HROW.out.1, hr1.2.imp_ (fun _ _ h_ => h_)⟩))); have HK1 := a_ (HK.out.then_ hk1 (fun k_ h_ => .inl (hoki k_ (HROW.out.1 k_ h_.symm)).1)); have HB1 := a_ hb1; clear HO HK HB HBACK HGR HROW hr1 hb1 hk1 h7; obtain ⟨ys, hys⟩ : ∃ ys, ys = xs.set x.toNat (⟨q.f0, q.f1, r, q.f3⟩ : S41) := ⟨_, rfl⟩; rw [← hys] at P0; have hyl : ys.length = xs.length := (by rw [hys]; exact List.length_set); have HXS := a_ (show Kd.S k41 41 w1 w0.heap.size (fun k_ => ok k_ ∧ ¬ (fun _ => False) k_) (.slice (some ⟨g, 0, none⟩) xs.length cap) ys from Kd.S_mono P0.out (fun _ h_ => ⟨h_, id⟩)); obtain ⟨oki1, c1, hcl1, hM1, hcc1, hfr1, hoki1, hH1⟩ := Kd.S_elem HXS.out z41 x (of_decide_eq_true c0b) (of_decide_eq_true cb); obtain ⟨q1, hq1⟩ : ∃ q1, q1 = ys.getD x.toNat z41 := ⟨_, rfl⟩; rw [← hq1] at hM1; clear hq1; obtain ⟨u2, rfl, hRow1⟩ := k41_openM hM1; have HP := Kd.S_seg (okg := fun _ => False) hH1 (of_decide_eq_true c0b) (of_decide_eq_true cb) (seg := [.int .i64 (Go.bits .xor .i64 q1.f0 90)]) (j := 0) (show 0 + 1 ≤ 4 from by decide) (x' := (⟨Go.bits .xor .i64 q1.f0 90, q1.f1, q1.f2, q1.f3⟩ : S41)) (k41_mkM w1 w0.heap.size oki1 _ hRow1) (fun _ h_ => .inl h_) (fun _ h_ => h_.elim); have h8 : w1.cell? ⟨g, x.toNat * 4, none⟩ = some (.int .i64 q1.f0) := hcc1 0 _ rfl; have hf1 : w1.frozen? ⟨g, x.toNat * 4, none⟩ = false := hfr1 0; have HH1 := a_ (And.intro hoki1 hM1); clear hcl1 hcc1 hfr1 hM1 hoki1 hH1 hRow1 HXS HH1) | ((with_reducible refine gate_store (t := 3) (p := 24) rfl ?_); refine store_event (t := 3) (p := 24) (v := ?vo_w7) (w1 := (w1.setCell ⟨g, x.toNat * 4, none⟩ (.int .i64 (Go.bits .xor .i64 q1.f0 90)))) ?hg ?ho ?hn ?hr ?_; (case ho => rfl); (case hg => rfl); (case hn => rfl); (case hr => first | (go_simp; done) | (go_simp; rfl)); intro w7 hw; have hg : w1.grownBy w7 (some g) := (by rw [hw]; exact HP.2); have P2 := a_ (show Kd.S k41 41 w7 w0.heap.size ok (.slice (some ⟨g, 0, none⟩) xs.length cap) (ys.set x.toNat (⟨Go.bits .xor .i64 q1.f0 90, q1.f1, q1.f2, q1.f3⟩ : S41)) from (by rw [hw]; exact HP.1)); have HB2 := a_ (by rw [hw]; exact below_set HB1.out GB.out : Below w0.heap.size w0 w7); have HK2 := a_ (Kept.of_grown (S := ok) hg HK1.out (fun k_ e_ => .inl (P0.out.choose_spec.1 k_ e_))); clear HP hg hw P0 HB1 HK1))
   go_roundg k1
   case measure => omega
   case rel =>
    obtain ⟨h1, h0, h2, h3, h4⟩ := HI.out
    have hi := of_decide_eq_true cb
    have hw : wrap64 (x + 1) = x + 1 := wsuccP _ (by omega) (by omega)
    refine ⟨_, x + 1, by rw [hw], ⟨by omega, by omega, by omega, by rw [List.length_set]; omega, fun j hj => ?_⟩, P2, HK2, HB2⟩
    rw [List.getElem?_set_ne (by omega), hys, List.getElem?_set_ne (by omega)]
    exact h4 j (by omega)
end Go.Proofs.YtnhmmbgnaogokaaGreatDoor.G
