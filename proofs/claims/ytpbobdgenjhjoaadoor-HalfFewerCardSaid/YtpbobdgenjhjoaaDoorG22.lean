-- Laid by the session's own driver gp.py over the kit's printer. Not trusted: Lean checks it.
import Derived.Test.YtpbobdgenjhjoaaDoorG0
namespace Go.Proofs.YtpbobdgenjhjoaaDoor.G
open Go.RowKit Go.Proofs.YtpbobdgenjhjoaaDoorW.PrintWords Go.Proofs.YtpbobdgenjhjoaaDoorW.PrintLast Go.Proofs.YtpbobdgenjhjoaaDoorW.PrintMore
attribute [local go_sem] max2_int min2_int max_two min_two max_three min_three max_four min_four   -- for this text's walks alone
set_option linter.unusedVariables false
set_option linter.unusedSimpArgs false

/-! ### tree_Sizes: function 50, given -/
/-- what the program does, from the last node on -/
def sizesL (ns : List S41) (c : Int → Int) : Nat → List Int → List Int
  | 0, o => o
  | n + 1, o =>
    let o1 := o.set n (wrap64 (rd o (n : Int) + c (n : Int)))
    sizesL ns c n (if 0 < n then o1.set ((rd_T41 ns (n : Int)).f1).toNat (wrap64 (rd o1 (rd_T41 ns (n : Int)).f1 + rd o1 (n : Int))) else o1)
def sizesP (ns : List S41) (c : Int → Int) : List Int := sizesL ns c ns.length (List.replicate ns.length 0)
theorem sizesL_len (ns : List S41) (c : Int → Int) : ∀ (n : Nat) (o : List Int), (sizesL ns c n o).length = o.length
  | 0, _ => rfl
  | n + 1, o => by
    rw [sizesL, sizesL_len ns c n]
    split <;> simp
theorem infoIntS : (Tryd.prog.info? 3).map (fun i => (i.zero, i.size, i.bytes)) = some (some (.int .i64 0), 1, 8) := by kernel_rfl
section
attribute [local go_sem] Oper.semAt_some
set_option maxRecDepth 100000 in
set_option maxHeartbeats 8000000 in
theorem tree_Sizes.in_ (n : Nat) (hn : 2 ≤ n) (g : Nat) (lb : Array Value) (eg : ∀ args w, (callFunc g args).run Tryd.prog w = .ok (.enter g args) w) (c : Int → Int) (A0 : Option Addr) (c0 : Nat) (l0 : List S41) (h512 : l0.length ≤ 512)
    (hP : ∀ i : Int, 0 ≤ i → i < (l0.length : Int) → ((0 ≤ (rd_T41 l0 i).f1 ∧ (rd_T41 l0 i).f1 < i) ∨ (i = 0 ∧ (rd_T41 l0 i).f1 = -1))) (w : World) (hC : Kd.C k41 w A0 l0.length l0)
    (hc : ∀ (i : Int) (W : World), 0 ≤ i → i < (l0.length : Int) → Below w.heap.size w W → Calls Tryd.prog g (#[.int .i64 i] ++ lb) W fun e W' => e = .returned (.int .i64 (c i)) ∧ ∃ m, W' = W.drewN m) :
    CallsIn Fence.wide n Tryd.prog 50 #[.slice A0 l0.length c0, .func (.func g) #[] lb] w fun e w' => ∃ v, e = .returned v ∧ (Kd.int .i64).R 3 w' w.heap.size (fun _ => True) v (sizesP l0 c) ∧ Below w.heap.size w w' := by
  have HC := Aside0.mk hC
  have HCC := Aside0.mk hc
  have HPP := Aside0.mk hP
  clear hC hc hP
  have ffg : Fence.wide.fn g := trivial
  have hmk := print_make_of (P := Tryd.prog) 23 3 (.int .i64 0) 8 Tryd.underlying23 infoIntS rfl (by omega) l0.length (by omega)
  have hmix : Tryd.prog.follows .mixedOrders = true := by kernel_rfl
  refine callsIn_of_wp Tryd.func50 rfl trivial ?_ rfl
  simp only [Tryd.ntmps50, List.size_toArray, List.length_cons, List.length_nil, Nat.reduceAdd, Nat.reduceSub, Array.replicate_succ, Array.replicate_zero, List.push_toArray, List.append_toArray, List.nil_append, List.cons_append]
  have HO := Aside0.mk (own_made_of (enc := Value.int .i64) (d := (0 : Int)) w w.heap.size 3 l0.length (Nat.le_refl _) (by omega))
  gi_wp2
  gi_loopw [6] (fun v wr => ∃ x : Int, v = .int .i64 x ∧ Aside0 (-1 ≤ x ∧ x < (l0.length : Int)) ∧ Aside0 (∃ o : List Int, o.length = l0.length ∧ wr.ownsRow w.heap.size 3 1 (.slice (some ⟨w.heap.size, 0, none⟩) l0.length l0.length) l0.length (encs (Value.int .i64) o) ∧ sizesL l0 c (x + 1).toNat o = sizesP l0 c) ∧ Aside0 (Below w.heap.size w wr))
    (fun v _ => (intOf v + 1).toNat)
  case atStart =>
    exact ⟨(l0.length : Int) - 1, by first | rfl | (congr 1; omega) | (simp; omega), ⟨by omega, by omega⟩, ⟨List.replicate l0.length 0, by simp, HO.out, by rw [show ((l0.length : Int) - 1 + 1).toNat = l0.length by omega]; rfl⟩, ⟨(Below.refl _ w).alloc (Nat.le_refl _) _⟩⟩
  case round =>
    obtain ⟨x, rfl, HX, HJ, HB⟩ := hrel
    clear hmk
    by_cases hx : 0 ≤ x
    · have hxb := decide_eq_true hx
      have hlt : x < (l0.length : Int) := HX.out.2
      obtain ⟨o, ho, hrow, hsz⟩ := HJ.out
      obtain ⟨hcx, hfx⟩ := own_at_of (d := (0 : Int)) hrow x hx hlt
      have HR := Aside0.mk (And.intro ho (And.intro hrow (And.intro hsz hx)))
      clear ho hrow hsz
      replace hlt := eq_true hlt
      replace hx := eq_true hx
      have HQ := Aside0.mk (fun k => HCC.out x (wr.drewN k) (of_eq_true hx) (of_eq_true hlt) (below_dn HB.out k))
      gi_wp2
      refine wpIn_region_head 9 rfl hmix (by kernel_rfl) ?_
      simp only [List.take_succ_cons, List.take_zero, List.drop_succ_cons, List.drop_zero]
      iterate 6 (quiet_step_in (fail))
      quiet_step_in (exact ⟨fun _ => by omega, CallsIn.quiet_of (callsIn_wide.2 (HQ.out _))⟩)
      iterate 2 (quiet_step_in (fail))
      refine wpQuietIn_nil ?_
      intro _ hw'
      obtain ⟨nq, hw''⟩ := hw'
      subst hw''
      by_cases hx1 : 0 < x
      · have hx1b := decide_eq_true hx1
        gi_wp2
        obtain ⟨ho, hrow, hsz, _⟩ := HR.out
        have hst := (own_store_of (enc := Value.int .i64) (W := wr.drewN nq) hrow x (wrap64 (rdOf 0 o x + c x))).1
        have hb2 : Below w.heap.size w ((wr.drewN nq).setCell ⟨w.heap.size, x.toNat, none⟩ (Value.int .i64 (wrap64 (rdOf 0 o x + c x)))) := (below_dn HB.out nq).setCell (p := ⟨w.heap.size, x.toNat, none⟩) (Nat.le_refl _) _
        obtain ⟨W2, hW2⟩ : ∃ W2, (wr.drewN nq).setCell ⟨w.heap.size, x.toNat, none⟩ (Value.int .i64 (wrap64 (rdOf 0 o x + c x))) = W2 := ⟨_, rfl⟩
        obtain ⟨o1, ho1⟩ : ∃ o1, o1 = o.set x.toNat (wrap64 (rdOf 0 o x + c x)) := ⟨_, rfl⟩
        rw [hW2] at hst hb2 ⊢
        rw [← ho1] at hst
        have hX := HR.out.2.2.2
        have hpx := HPP.out x hX (of_eq_true hlt)
        obtain ⟨ad, A2, c2, e0, g0, g1, g2, g3, hl2, hi2⟩ := at_T41 HC.out x hX (of_eq_true hlt)
        cases e0
        replace g1 := (hb2.cell (World.block_lt_of_cell? w _ g1)).trans g1
        have hp0 : 0 ≤ (rd_T41 l0 x).f1 := by omega
        have hp1 : (rd_T41 l0 x).f1 < (l0.length : Int) := by have := of_eq_true hlt; omega
        obtain ⟨hc1, hf1⟩ := own_at_of (d := (0 : Int)) hst x hX (of_eq_true hlt)
        obtain ⟨hc2, hf2⟩ := own_at_of (d := (0 : Int)) hst (rd_T41 l0 x).f1 hp0 hp1
        have HS := Aside0.mk (And.intro hst (And.intro hb2 (And.intro ho1 (And.intro hp0 (And.intro hp1 hx1)))))
        clear hst hb2 hW2 ho1 hpx g0 g2 g3 hl2 hi2 hcx hfx ho hrow hsz hX hx1 hx1b
        replace hp0 := eq_true hp0
        replace hp1 := eq_true hp1
        refine wpIn_region_head 14 rfl hmix (by kernel_rfl) ?_
        simp only [List.take_succ_cons, List.take_zero, List.drop_succ_cons, List.drop_zero]
        iterate 14 (quiet_step_in (fail))
        refine wpQuietIn_nil ?_
        intro _ hw'
        obtain ⟨nq2, hw''⟩ := hw'
        subst hw''
        gi_wp2
        obtain ⟨hst, hb2, ho1, hp0', hp1', hx1'⟩ := HS.out
        obtain ⟨ho, hrow, hsz, hX⟩ := HR.out
        have hw1 : wrap64 (x - 1) = x - 1 := by have := HX.out; unfold wrap64; omega
        rw [hw1]
        refine ⟨⟨x - 1, rfl, ⟨by omega, by have := HX.out; omega⟩, ⟨_, by rw [List.length_set, ho1, List.length_set]; exact ho, (own_store_of (enc := Value.int .i64) (W := W2.drewN nq2) hst (rd_T41 l0 x).f1 _).1, ?_⟩, ⟨(below_dn hb2 nq2).setCell (p := ⟨w.heap.size, (rd_T41 l0 x).f1.toNat, none⟩) (Nat.le_refl _) _⟩⟩, by simp only [intOf]; omega⟩
        rw [← hsz, show (x + 1).toNat = x.toNat + 1 by omega, show (x - 1 + 1).toNat = x.toNat by omega, sizesL]
        simp only [show ((x.toNat : Nat) : Int) = x by omega]
        rw [if_pos (show 0 < x.toNat by omega), ho1]
        rfl
      · have hx1b := decide_eq_false hx1
        gi_wp2
        obtain ⟨ho, hrow, hsz, hX⟩ := HR.out
        have hst := (own_store_of (enc := Value.int .i64) (W := wr.drewN nq) hrow x (wrap64 (rdOf 0 o x + c x))).1
        have hb2 : Below w.heap.size w ((wr.drewN nq).setCell ⟨w.heap.size, x.toNat, none⟩ (Value.int .i64 (wrap64 (rdOf 0 o x + c x)))) := (below_dn HB.out nq).setCell (p := ⟨w.heap.size, x.toNat, none⟩) (Nat.le_refl _) _
        obtain rfl : x = 0 := by omega
        rw [show wrap64 ((0 : Int) - 1) = -1 from by unfold wrap64; omega]
        refine ⟨⟨-1, rfl, ⟨by omega, by omega⟩, ⟨_, by simpa using ho, hst, ?_⟩, ⟨hb2⟩⟩, by decide⟩
        rw [← hsz]
        rfl
    · have hxb := decide_eq_false hx
      have HN := Aside0.mk hx
      clear hx
      gi_wp2
      go_ret
      obtain ⟨o, ho, hrow, hsz⟩ := HJ.out
      rw [show (x + 1).toNat = 0 by have := HX.out; have := HN.out; omega, sizesL] at hsz
      subst hsz
      exact ⟨_, rfl, Kd.R_of_own (by rw [ho]; exact hrow) (fun _ _ => trivial), HB.out⟩
end

end Go.Proofs.YtpbobdgenjhjoaaDoor.G
