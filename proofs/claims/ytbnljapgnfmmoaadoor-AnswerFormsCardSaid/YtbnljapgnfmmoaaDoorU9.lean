/- Parts of this proof, one behind the other: G26, G29, G30. -/
import Derived.Test.YtbnljapgnfmmoaaDoorG0
import Derived.Test.YtbnljapgnfmmoaaDoorU8
section
-- Laid by the session's own driver gp.py over the kit's printer. Not trusted: Lean checks it.
namespace Go.Proofs.YtbnljapgnfmmoaaDoor.G
open Go.RowKit Go.Proofs.YtbnljapgnfmmoaaDoorW.PrintWords Go.Proofs.YtbnljapgnfmmoaaDoorW.PrintLast Go.Proofs.YtbnljapgnfmmoaaDoorW.PrintMore
attribute [local go_sem] max2_int min2_int max_two min_two max_three min_three max_four min_four   -- for this text's walks alone
set_option linter.unusedVariables false
set_option linter.unusedSimpArgs false

/-! ### session_May: function 11, given -/
def session_May.l0 : Nat → List S41 → Int → List S29 → List Int → Int → Option Bool
  | 0, _, _, _, _, _ => none
  | k + 1, ns, wy, zs, ms, x => if x < (zs.length : Int) then (next_Ask.f k wy ns ms).bind fun b => if (!(b.1 == 0) || (!(b.2 == (rd_T29 zs x).f0))) = true then some false else (next_Mark.f (rd_T29 zs x).f1).bind fun t => if t = true then (if 0 ≤ (rd_T29 zs x).f0 ∧ (rd_T29 zs x).f0 < (ms.length : Int) then session_May.l0 k ns wy zs (ms.set (rd_T29 zs x).f0.toNat (rd_T29 zs x).f1) (wrap64 (x + 1)) else none) else some false else some true
def session_May.f (k : Nat) (l0_0 : List S41) (a0_1 : Int) (l0_2 : List S29) : Option Bool := (session_fresh.f k l0_0 a0_1).bind fun t => if t = true then session_May.l0 k l0_0 a0_1 l0_2 (List.replicate l0_0.length 0) 0 else some false
theorem session_May.mono_l : ∀ k, ∀ y0 y1 y2 y3 y4, LeO (session_May.l0 k y0 y1 y2 y3 y4) (session_May.l0 (k + 1) y0 y1 y2 y3 y4)
  | 0 => fun _ _ _ _ _ r h => by simp [session_May.l0] at h
  | k + 1 => by
    have ih0 := session_May.mono_l k
    intro y0 y1 y2 y3 y4
    unfold session_May.l0
    repeat' first
      | (with_reducible exact ih0 _ _ _ _ _)
      | (with_reducible exact next_Ask.mono _ _ _ _)
      | (with_reducible exact LeO.refl _)
      | (with_reducible exact LeO.none _)
      | (with_reducible refine LeO.ite ?_ ?_)
      | (with_reducible refine LeO.bind ?_ (fun _ => ?_))
      | exact next_Ask.mono _ _ _ _
      | exact LeO.none _
      | refine LeO.ite ?_ ?_
      | refine LeO.bind ?_ (fun _ => ?_)
theorem session_May.mono : ∀ a0 a1 a2 k, LeO (session_May.f k a0 a1 a2) (session_May.f (k + 1) a0 a1 a2) := by
  intro a0 a1 a2 k
  unfold session_May.f
  refine LeO.bind (session_fresh.mono _ _ _) (fun _ => ?_)
  exact LeO.ite (session_May.mono_l _ _ _ _ _ _) (LeO.refl _)
def session_May.T8 : Bool × List (List Nat × List Nat) := (true, [([], []), ([0], [0]), ([], []), ([2], [2]), ([], []), ([1, 3, 4], [1, 3, 4]), ([], []), ([5, 6], [5, 6]), ([7, 5], [7]), ([8], [8]), ([9, 8], [8, 9]), ([10, 8, 8], [8, 10]), ([11, 8], [8, 11]), ([8, 12], [8, 12])])
def session_May.B8 : List Nat := [0, 1, 0, 4, 0, 31, 0, 127, 255, 511, 1023, 2047, 4095, 8191]
theorem session_May.tab8 : rtab .any (opsOf Tryd.f11 8) = session_May.T8 := by kernel_rfl
theorem session_May.bits8 : waitsOk session_May.T8.2 session_May.B8 = true := by kernel_rfl
theorem wsuccM (x : Int) (h0 : 0 ≤ x) (h1 : x ≤ 9223372036854775806) : wrap64 (x + 1) = x + 1 := by unfold wrap64; omega
theorem eqAM (d : Nat) (w : World) (x0 y0 : Int) (x1 y1 : Int) :
    (Op.equalIn (d + 2) 45 (.agg #[.int .i64 x0, .int .i64 x1]) (.agg #[.int .i64 y0, .int .i64 y1])).run Tryd.prog w = .ok (x0 == y0 && (x1 == y1)) w := by
  refine eqA_of Tryd.underlying45 (by kernel_rfl) ?_
  refine eqf_cons (by rfl) (by go_simp; rfl) (by go_simp; rfl) (by go_simp) ?_
  exact eqf_last (by rfl) (by go_simp; rfl) (by go_simp; rfl) (by go_simp)
section
attribute [local go_sem high] eqAM
set_option maxHeartbeats 8000000 in
set_option maxRecDepth 100000 in
theorem session_May.calls (k : Nat) (A0_0 : Option Addr) (c0_0 : Nat) (l0_0 : List S41) (a0_1 : Int) (A0_2 : Option Addr) (c0_2 : Nat) (l0_2 : List S29) (r : Bool) (w : World) (hr0_0 : Kd.C k41 w A0_0 l0_0.length l0_0) (hc0_0 : l0_0.length ≤ c0_0) (hr0_2 : Kd.C k29 w A0_2 l0_2.length l0_2) (hc0_2 : l0_2.length ≤ c0_2) (h : session_May.f k l0_0 a0_1 l0_2 = some r) (hG : GOK w) :
    Calls Tryd.prog 11 #[.agg #[.slice A0_0 l0_0.length c0_0, .int .i64 a0_1, .slice A0_2 l0_2.length c0_2]] w fun e w' => e = .returned (.bool r) ∧ Below w.heap.size w w' := by
  have HR0 := Aside0.mk hr0_0
  have HC0 := Aside0.mk hc0_0
  have HR2 := Aside0.mk hr0_2
  have HG := Aside0.mk hG
  have HB := Aside0.mk (Below.refl w.heap.size w)
  have hu := Tryd.underlying27
  have hu1 := Tryd.underlying45
  have hu2 := Tryd.underlying29
  unfold session_May.f at h
  obtain ⟨t, A1, h⟩ := Option.bind_eq_some_iff.mp h
  have HF := Aside0.mk A1
  clear hr0_0 hc0_0 hr0_2 hc0_2 hG
  cases t with
  | false =>
    rw [if_neg Bool.false_ne_true] at h
    obtain rfl := Option.some.inj h
    clear h A1
    go_enter Tryd.func11, Tryd.ntmps11
    go_wp2_with (first
      | ((with_reducible refine gate_dst (N := 1) rfl ?_); refine boxE_ 1 #[.slice A0_0 l0_0.length c0_0, .int .i64 a0_1, .slice A0_2 l0_2.length c0_2] 27 ?_; intro gb1 hg w1 hbox hb; have GE1 := Aside0.mk (gE_ hg : w.heap.size ≤ gb1); have n0_ := Aside0.mk (below_step hB_ hb); clear HB; have HB := n0_; have BK1 := Aside0.mk hbox; clear n0_ hg hbox hb)
      | ((with_reducible refine gate_callee (f := 16) rfl ?_); refine goesL_ (some 7) rfl rfl Tryd.func16 (by kernel_rfl) rfl #[.pointer (some ⟨gb1, 0, none⟩)] rfl hL_ ?_; refine (session_fresh.calls k ⟨gb1, 0, none⟩ A0_0 c0_0 l0_0 a0_1 false _ (bc0_ BK1.out) (bc1_ BK1.out) (Kd.C_below HR0.out HB.out) HC0.out HF.out (GOK.below HG.out HB.out)).mono ?_; rintro e w2 ⟨rfl, hb⟩; refine ⟨_, rfl, ?_⟩; have n0_ := Aside0.mk (blk_below BK1.out hb); have n2_ := Aside0.mk (below_step HB.out hb); clear BK1 HB hb; have BK1 := n0_; have HB := n2_; clear n0_ n2_; obtain ⟨g0_, g1_, g2_, g3_, g4_, g5_⟩ := bx3_ BK1.out))
    go_ret
    exact ⟨rfl, HB.out⟩
  | true =>
    rw [if_pos rfl] at h
    have HN := Aside0.mk (session_fresh.true_spec A1)
    have H' := Aside0.mk h
    clear h A1
    go_enter Tryd.func11, Tryd.ntmps11
    go_wp2_with (first
      | ((with_reducible refine gate_dst (N := 1) rfl ?_); refine boxE_ 1 #[.slice A0_0 l0_0.length c0_0, .int .i64 a0_1, .slice A0_2 l0_2.length c0_2] 27 ?_; intro gb1 hg w1 hbox hb; have GE1 := Aside0.mk (gE_ hg : w.heap.size ≤ gb1); have n0_ := Aside0.mk (below_step hB_ hb); clear HB; have HB := n0_; have BK1 := Aside0.mk hbox; clear n0_ hg hbox hb)
      | ((with_reducible refine gate_callee (f := 16) rfl ?_); refine goesL_ (some 7) rfl rfl Tryd.func16 (by kernel_rfl) rfl #[.pointer (some ⟨gb1, 0, none⟩)] rfl hL_ ?_; refine (session_fresh.calls k ⟨gb1, 0, none⟩ A0_0 c0_0 l0_0 a0_1 true _ (bc0_ BK1.out) (bc1_ BK1.out) (Kd.C_below HR0.out HB.out) HC0.out HF.out (GOK.below HG.out HB.out)).mono ?_; rintro e w2 ⟨rfl, hb⟩; refine ⟨_, rfl, ?_⟩; have n0_ := Aside0.mk (blk_below BK1.out hb); have n2_ := Aside0.mk (below_step HB.out hb); clear BK1 HB hb; have BK1 := n0_; have HB := n2_; clear n0_ n2_; obtain ⟨g0_, g1_, g2_, g3_, g4_, g5_⟩ := bx3_ BK1.out)
      | ((with_reducible refine gate_dst (N := 12) rfl ?_); refine Kd.R_make (Kd.int .i64) _ 3 rfl (N := 12) rfl 30 _ _ rfl (l0_0.length : Int) rfl rfl Tryd.underlying30 (.int .i64 0) 8 info3 rfl (by decide) (by omega) 0 (ok := fun _ => True) (okp := fun _ => True) rfl (fun _ hk => hk) trivial (Int.natCast_nonneg _) (by have := HN.out; simp only [Int.toNat_natCast]; omega) (Below.refl _ _) (Nat.le_refl _) ?_; intro v12 w3 ho hb hg_ hnew_; rw [Int.toNat_natCast] at ho; have n0_ := Aside0.mk (Kd.R_lower ho HB.out.size); have n1_ := Aside0.mk (blk_below BK1.out hb); have n2_ := Aside0.mk (below_step HB.out hb); clear g0_ g1_ g2_ g3_ g4_ g5_ BK1 HB hg_ hnew_ hb ho; have HM := n0_; have BK1 := n1_; have HB := n2_; clear n0_ n1_ n2_; obtain ⟨g0_, g1_, g2_, g3_, g4_, g5_⟩ := bx3_ BK1.out))
    go_loopg [16] k (fun kq v w' => ∃ (ms : List Int) (x : Int), v = .int .i64 x ∧ Aside0 (session_May.l0 kq l0_0 a0_1 l0_2 ms x = some r) ∧ Aside0 (kq ≤ k) ∧ Aside0 (0 ≤ x) ∧ Aside0 (Kd.R (Kd.int .i64) 3 w' w.heap.size (fun _ => True) v12 ms) ∧ Aside0 (w'.heap[gb1]? = some (.cells #[.slice A0_0 l0_0.length c0_0, .int .i64 a0_1, .slice A0_2 l0_2.length c0_2] 27 (0, 0))) ∧ Aside0 (Below w.heap.size w w'))
    case atStart => exact ⟨_, 0, rfl, H', ⟨Nat.le_refl _⟩, ⟨by omega⟩, HM, BK1, HB⟩
    case round =>
      clear H' HB HM BK1 g0_ g1_ g2_ g3_ g4_ g5_
      obtain ⟨ms, x, rfl, HA, HK1, HX, HM, BK1, HB⟩ := hrel
      cases gk with
      | zero => exact absurd HA.out (by simp [session_May.l0])
      | succ k1 =>
        have H := HA.out
        clear HA
        simp only [session_May.l0] at H
        by_cases c : x < (l0_2.length : Int)
        case neg =>
          rw [if_neg c] at H
          have cb_ := decide_eq_false c
          obtain rfl := Option.some.inj H
          clear c H
          go_wp2
          go_ret
          exact ⟨rfl, HB.out⟩
        rw [if_pos c] at H
        have cb_ := decide_eq_true c
        obtain ⟨⟨b1, b2⟩, HA0, H⟩ := Option.bind_eq_some_iff.mp H
        have HA := Aside0.mk HA0
        clear HA0
        obtain ⟨ad, e0, hx0, hx1⟩ := at_T29 HR2.out x HX.out c
        cases e0
        replace hx0 := cl_ HB.out hx0
        replace hx1 := cl_ HB.out hx1
        have p_ := eq_true HX.out
        have q_ := eq_true c
        by_cases c2 : (!(b1 == 0) || (!(b2 == (rd_T29 l0_2 x).f0))) = true
        case pos =>
          rw [if_pos c2] at H
          obtain rfl := Option.some.inj H
          clear c H
          go_wp2_with (first
            | ((with_reducible refine gate_dst (N := 5) rfl ?_); refine boxE_ 5 #[.int .i64 0, .int .i64 0] 29 ?_; intro gb5 hg w5 hbox hb; have GE5 := Aside0.mk (gE_ hg : w.heap.size ≤ gb5); have NB15 := Aside0.mk (bL_ BK1.out hg : gb1 ≠ gb5); have n0_ := Aside0.mk (Kd.R_below (hR_ HM.out) hb); have n1_ := Aside0.mk (bB_ BK1.out hb); have n2_ := Aside0.mk (below_step hC_ hb); have BK5 := Aside0.mk hbox; clear HM BK1 HB hg hbox hb; have HM := n0_; have BK1 := n1_; have HB := n2_; clear n0_ n1_ n2_; obtain ⟨d0_, d1_, d2_, d3_⟩ := bx2_ BK5.out)
            | ((with_reducible refine gate_store (t := 29) (p := 5) rfl ?_); refine store_event (t := 29) (p := 5) (v := ?vo5) (w1 := ((w5.setCell ⟨gb5, 0, none⟩ (.int .i64 (rd_T29 l0_2 x).f0)).setCell ⟨gb5, 1, none⟩ (.int .i64 (rd_T29 l0_2 x).f1))) ?hg ?ho ?hn ?hr ?_; (case ho => rfl); (case hg => rfl); (case hn => rfl); (case hr => first | (go_simp; done) | (go_simp; rfl)); intro w6 hw; have n0_ := Aside0.mk (show w6.heap[gb5]? = some (.cells #[.int .i64 (rd_T29 l0_2 x).f0, .int .i64 (rd_T29 l0_2 x).f1] 29 (0, 0)) by rw [hw]; exact bP_ (bP_ (cs' := #[.int .i64 (rd_T29 l0_2 x).f0, .int .i64 0]) BK5.out)); have n1_ := Aside0.mk (show w6.heap[gb1]? = some (.cells #[.slice A0_0 l0_0.length c0_0, .int .i64 a0_1, .slice (some ad) l0_2.length c0_2] 27 (0, 0)) by rw [hw]; exact bF_ (bF_ BK1.out NB15.out) NB15.out); have n2_ := Aside0.mk (show Kd.R (Kd.int .i64) 3 w6 w.heap.size (fun _ => True) v12 ms by rw [hw]; exact Kd.R_mono (rF_ (rF_ (Kd.R_types HM.out BK5.out (by decide)))) (fun _ _ => trivial)); have n3_ := Aside0.mk (show Below w.heap.size w w6 by rw [hw]; exact below_set (below_set HB.out GE5.out) GE5.out); clear hw d0_ d1_ d2_ d3_ BK5 BK1 HM HB; have BK5 := n0_; have BK1 := n1_; have HM := n2_; have HB := n3_; clear n0_ n1_ n2_ n3_; obtain ⟨d0_, d1_, d2_, d3_⟩ := bx2_ BK5.out)
            | ((with_reducible refine gate_dst (N := 6) rfl ?_); refine boxE_ 6 #[.int .i64 0, .int .i64 0] 45 ?_; intro gb6 hg w7 hbox hb; have GE6 := Aside0.mk (gE_ hg : w.heap.size ≤ gb6); have NB16 := Aside0.mk (bL_ BK1.out hg : gb1 ≠ gb6); have NB56 := Aside0.mk (bL_ BK5.out hg : gb5 ≠ gb6); have n0_ := Aside0.mk (Kd.R_below (hR_ HM.out) hb); have n1_ := Aside0.mk (bB_ BK1.out hb); have n2_ := Aside0.mk (below_step hC_ hb); have n3_ := Aside0.mk (bB_ BK5.out hb); have BK6 := Aside0.mk hbox; clear d0_ d1_ d2_ d3_ HM BK1 HB BK5 hg hbox hb; have HM := n0_; have BK1 := n1_; have HB := n2_; have BK5 := n3_; clear n0_ n1_ n2_ n3_; obtain ⟨d0_, d1_, d2_, d3_⟩ := bx2_ BK6.out)
            | ((with_reducible refine gate_store (t := 45) (p := 6) rfl ?_); refine store_event (t := 45) (p := 6) (v := ?vo6) (w1 := ((w7.setCell ⟨gb6, 0, none⟩ (.int .i64 0)).setCell ⟨gb6, 1, none⟩ (.int .i64 (rd_T29 l0_2 x).f0))) ?hg ?ho ?hn ?hr ?_; (case ho => rfl); (case hg => rfl); (case hn => rfl); (case hr => first | (go_simp; done) | (go_simp; rfl)); intro w8 hw; have n0_ := Aside0.mk (show w8.heap[gb6]? = some (.cells #[.int .i64 0, .int .i64 (rd_T29 l0_2 x).f0] 45 (0, 0)) by rw [hw]; exact bP_ (bP_ (cs' := #[.int .i64 0, .int .i64 0]) BK6.out)); have n1_ := Aside0.mk (show w8.heap[gb1]? = some (.cells #[.slice A0_0 l0_0.length c0_0, .int .i64 a0_1, .slice (some ad) l0_2.length c0_2] 27 (0, 0)) by rw [hw]; exact bF_ (bF_ BK1.out NB16.out) NB16.out); have n2_ := Aside0.mk (show Kd.R (Kd.int .i64) 3 w8 w.heap.size (fun _ => True) v12 ms by rw [hw]; exact Kd.R_mono (rF_ (rF_ (Kd.R_types HM.out BK6.out (by decide)))) (fun _ _ => trivial)); have n3_ := Aside0.mk (show Below w.heap.size w w8 by rw [hw]; exact below_set (below_set HB.out GE6.out) GE6.out); have n4_ := Aside0.mk (show w8.heap[gb5]? = some (.cells #[.int .i64 (rd_T29 l0_2 x).f0, .int .i64 (rd_T29 l0_2 x).f1] 29 (0, 0)) by rw [hw]; exact bF_ (bF_ BK5.out NB56.out) NB56.out); clear hw d0_ d1_ d2_ d3_ BK6 BK1 HM HB BK5; have BK6 := n0_; have BK1 := n1_; have HM := n2_; have HB := n3_; have BK5 := n4_; clear n0_ n1_ n2_ n3_ n4_; obtain ⟨g0_, g1_, g2_, g3_, g4_, g5_⟩ := bx3_ BK1.out))
          clear g0_ g1_ g2_ g3_ g4_ g5_
          have n0_ := Aside0.mk (blk_drew BK1.out)
          have n1_ := Aside0.mk (blk_drew BK5.out)
          have n2_ := Aside0.mk (blk_drew BK6.out)
          have n3_ := Aside0.mk (Kd.R_drew HM.out)
          have n4_ := Aside0.mk (below_drew1 HB.out)
          clear BK1 BK5 BK6 HM HB
          have BK1 := n0_
          have BK5 := n1_
          have BK6 := n2_
          have HM := n3_
          have HB := n4_
          clear n0_ n1_ n2_ n3_ n4_
          obtain ⟨Am, cm, em⟩ := Kd.R_slice HM.out
          subst em
          refine start_ (n := 14) (S := fun w' => w'.cell? ⟨gb1, 0, none⟩ = some (.slice A0_0 l0_0.length c0_0) ∧ w'.cell? ⟨gb1, 1, none⟩ = some (.int .i64 a0_1) ∧ w'.cell? ⟨gb6, 0, none⟩ = some (.int .i64 0) ∧ w'.cell? ⟨gb6, 1, none⟩ = some (.int .i64 (rd_T29 l0_2 x).f0) ∧ w'.cell? ⟨gb5, 1, none⟩ = some (.int .i64 (rd_T29 l0_2 x).f1)) (ds := []) #[false, false, false, false, false, false, false, false, false, false, false, false, false, false] (by kernel_rfl) rfl rfl ⟨bc0_ BK1.out, bc1_ BK1.out, bc0_ BK6.out, bc1_ BK6.out, bc1_ BK5.out⟩ (fun hHeld => ?_)
          refine with_tabW session_May.tab8 session_May.bits8 (fun HT_ HW_ => ?_)
          generalize w8.drew = w9 at BK1 BK5 BK6 HM HB hHeld ⊢
          refine pA_ 0 23 #[true, false, false, false, false, false, false, false, false, false, false, false, false, false] HT_.out ?_
          refine pA_ 2 25 #[true, false, true, false, false, false, false, false, false, false, false, false, false, false] HT_.out ?_
          refine pA_ 4 27 #[true, false, true, false, true, false, false, false, false, false, false, false, false, false] HT_.out ?_
          refine tA_ 1 24 #[true, true, true, false, true, false, false, false, false, false, false, false, false, false] HT_.out HW_.out hHeld ?_
          refine tA_ 3 26 #[true, true, true, true, true, false, false, false, false, false, false, false, false, false] HT_.out HW_.out hHeld ?_
          refine tA_ 6 29 #[true, true, true, true, true, false, true, false, false, false, false, false, false, false] HT_.out HW_.out hHeld ?_
          refine one_ (i := 5) (N := some 28) #[true, true, true, true, true, true, true, false, false, false, false, false, false, false] rfl rfl (one_of HT_.out (by kernel_rfl)) (by decide) (fun K hK => ?_)
          refine goes_ Tryd.func17 (by kernel_rfl) rfl #[.int .i64 a0_1, .slice A0_0 l0_0.length c0_0, .slice Am ms.length cm] (by rfl) rfl rfl hL_ ?_
          refine (next_Ask.calls k1 a0_1 A0_0 c0_0 l0_0 Am cm ms b1 b2 _ (Kd.C_below HR0.out HB.out) HC0.out (Kd.R_reads' HM.out).2.2 (Kd.R_reads' HM.out).2.1 HA.out (GOK.below HG.out HB.out)).mono ?_
          rintro e w10 ⟨rfl, hb⟩
          refine ⟨_, rfl, ?_⟩
          have n0_ := Aside0.mk (blk_below BK1.out hb)
          have n1_ := Aside0.mk (blk_below BK5.out hb)
          have n2_ := Aside0.mk (blk_below BK6.out hb)
          have n3_ := Aside0.mk (Kd.R_below HM.out hb)
          have n4_ := Aside0.mk (below_step HB.out hb)
          clear BK1 BK5 BK6 HM HB
          have BK1 := n0_
          have BK5 := n1_
          have BK6 := n2_
          have HM := n3_
          have HB := n4_
          clear n0_ n1_ n2_ n3_ n4_
          clear hb
          refine hK.out _ _ ⟨bc0_ BK1.out, bc1_ BK1.out, bc0_ BK6.out, bc1_ BK6.out, bc1_ BK5.out⟩ (fun hHeld => ?_)
          clear hK K
          refine norm_ (a' := ?_) ?_ ?_
          rotate_left
          · show Act.put _ (some 28) _ = _
            simp only [Act.put, List.setIfInBounds_toArray, List.set_cons_zero, List.set_cons_succ, i64_w, i32_w]
            rfl
          refine pA_ 7 30 #[true, true, true, true, true, true, true, true, false, false, false, false, false, false] HT_.out ?_
          refine pA_ 8 31 #[true, true, true, true, true, true, true, true, true, false, false, false, false, false] HT_.out ?_
          refine pN_ 9 32 #[true, true, true, true, true, true, true, true, true, true, false, false, false, false] HT_.out ?_
          refine pN_ 10 33 #[true, true, true, true, true, true, true, true, true, true, true, false, false, false] HT_.out ?_
          refine pN_ 11 34 #[true, true, true, true, true, true, true, true, true, true, true, true, false, false] HT_.out ?_
          refine pN_ 12 35 #[true, true, true, true, true, true, true, true, true, true, true, true, true, false] HT_.out ?_
          refine pA_ 13 36 #[true, true, true, true, true, true, true, true, true, true, true, true, true, true] HT_.out ?_
          refine done_ (done_of HT_.out (by kernel_rfl)) ?_
          clear HT_ HW_ hHeld
          go_wp2
          go_ret
          exact ⟨rfl, HB.out⟩
        rw [if_neg c2] at H
        replace c2 : (!(b1 == 0) || (!(b2 == (rd_T29 l0_2 x).f0))) = false := by simpa using c2
        obtain ⟨t, HT0, H⟩ := Option.bind_eq_some_iff.mp H
        have HT2 := Aside0.mk HT0
        clear HT0
        cases t with
        | false =>
          rw [if_neg Bool.false_ne_true] at H
          obtain rfl := Option.some.inj H
          clear c H
          go_wp2_with (first
            | ((with_reducible refine gate_dst (N := 5) rfl ?_); refine boxE_ 5 #[.int .i64 0, .int .i64 0] 29 ?_; intro gb5 hg w5 hbox hb; have GE5 := Aside0.mk (gE_ hg : w.heap.size ≤ gb5); have NB15 := Aside0.mk (bL_ BK1.out hg : gb1 ≠ gb5); have n0_ := Aside0.mk (Kd.R_below (hR_ HM.out) hb); have n1_ := Aside0.mk (bB_ BK1.out hb); have n2_ := Aside0.mk (below_step hC_ hb); have BK5 := Aside0.mk hbox; clear HM BK1 HB hg hbox hb; have HM := n0_; have BK1 := n1_; have HB := n2_; clear n0_ n1_ n2_; obtain ⟨d0_, d1_, d2_, d3_⟩ := bx2_ BK5.out)
            | ((with_reducible refine gate_store (t := 29) (p := 5) rfl ?_); refine store_event (t := 29) (p := 5) (v := ?vo5) (w1 := ((w5.setCell ⟨gb5, 0, none⟩ (.int .i64 (rd_T29 l0_2 x).f0)).setCell ⟨gb5, 1, none⟩ (.int .i64 (rd_T29 l0_2 x).f1))) ?hg ?ho ?hn ?hr ?_; (case ho => rfl); (case hg => rfl); (case hn => rfl); (case hr => first | (go_simp; done) | (go_simp; rfl)); intro w6 hw; have n0_ := Aside0.mk (show w6.heap[gb5]? = some (.cells #[.int .i64 (rd_T29 l0_2 x).f0, .int .i64 (rd_T29 l0_2 x).f1] 29 (0, 0)) by rw [hw]; exact bP_ (bP_ (cs' := #[.int .i64 (rd_T29 l0_2 x).f0, .int .i64 0]) BK5.out)); have n1_ := Aside0.mk (show w6.heap[gb1]? = some (.cells #[.slice A0_0 l0_0.length c0_0, .int .i64 a0_1, .slice (some ad) l0_2.length c0_2] 27 (0, 0)) by rw [hw]; exact bF_ (bF_ BK1.out NB15.out) NB15.out); have n2_ := Aside0.mk (show Kd.R (Kd.int .i64) 3 w6 w.heap.size (fun _ => True) v12 ms by rw [hw]; exact Kd.R_mono (rF_ (rF_ (Kd.R_types HM.out BK5.out (by decide)))) (fun _ _ => trivial)); have n3_ := Aside0.mk (show Below w.heap.size w w6 by rw [hw]; exact below_set (below_set HB.out GE5.out) GE5.out); clear hw d0_ d1_ d2_ d3_ BK5 BK1 HM HB; have BK5 := n0_; have BK1 := n1_; have HM := n2_; have HB := n3_; clear n0_ n1_ n2_ n3_; obtain ⟨d0_, d1_, d2_, d3_⟩ := bx2_ BK5.out)
            | ((with_reducible refine gate_dst (N := 6) rfl ?_); refine boxE_ 6 #[.int .i64 0, .int .i64 0] 45 ?_; intro gb6 hg w7 hbox hb; have GE6 := Aside0.mk (gE_ hg : w.heap.size ≤ gb6); have NB16 := Aside0.mk (bL_ BK1.out hg : gb1 ≠ gb6); have NB56 := Aside0.mk (bL_ BK5.out hg : gb5 ≠ gb6); have n0_ := Aside0.mk (Kd.R_below (hR_ HM.out) hb); have n1_ := Aside0.mk (bB_ BK1.out hb); have n2_ := Aside0.mk (below_step hC_ hb); have n3_ := Aside0.mk (bB_ BK5.out hb); have BK6 := Aside0.mk hbox; clear d0_ d1_ d2_ d3_ HM BK1 HB BK5 hg hbox hb; have HM := n0_; have BK1 := n1_; have HB := n2_; have BK5 := n3_; clear n0_ n1_ n2_ n3_; obtain ⟨d0_, d1_, d2_, d3_⟩ := bx2_ BK6.out)
            | ((with_reducible refine gate_store (t := 45) (p := 6) rfl ?_); refine store_event (t := 45) (p := 6) (v := ?vo6) (w1 := ((w7.setCell ⟨gb6, 0, none⟩ (.int .i64 0)).setCell ⟨gb6, 1, none⟩ (.int .i64 (rd_T29 l0_2 x).f0))) ?hg ?ho ?hn ?hr ?_; (case ho => rfl); (case hg => rfl); (case hn => rfl); (case hr => first | (go_simp; done) | (go_simp; rfl)); intro w8 hw; have n0_ := Aside0.mk (show w8.heap[gb6]? = some (.cells #[.int .i64 0, .int .i64 (rd_T29 l0_2 x).f0] 45 (0, 0)) by rw [hw]; exact bP_ (bP_ (cs' := #[.int .i64 0, .int .i64 0]) BK6.out)); have n1_ := Aside0.mk (show w8.heap[gb1]? = some (.cells #[.slice A0_0 l0_0.length c0_0, .int .i64 a0_1, .slice (some ad) l0_2.length c0_2] 27 (0, 0)) by rw [hw]; exact bF_ (bF_ BK1.out NB16.out) NB16.out); have n2_ := Aside0.mk (show Kd.R (Kd.int .i64) 3 w8 w.heap.size (fun _ => True) v12 ms by rw [hw]; exact Kd.R_mono (rF_ (rF_ (Kd.R_types HM.out BK6.out (by decide)))) (fun _ _ => trivial)); have n3_ := Aside0.mk (show Below w.heap.size w w8 by rw [hw]; exact below_set (below_set HB.out GE6.out) GE6.out); have n4_ := Aside0.mk (show w8.heap[gb5]? = some (.cells #[.int .i64 (rd_T29 l0_2 x).f0, .int .i64 (rd_T29 l0_2 x).f1] 29 (0, 0)) by rw [hw]; exact bF_ (bF_ BK5.out NB56.out) NB56.out); clear hw d0_ d1_ d2_ d3_ BK6 BK1 HM HB BK5; have BK6 := n0_; have BK1 := n1_; have HM := n2_; have HB := n3_; have BK5 := n4_; clear n0_ n1_ n2_ n3_ n4_; obtain ⟨g0_, g1_, g2_, g3_, g4_, g5_⟩ := bx3_ BK1.out))
          clear g0_ g1_ g2_ g3_ g4_ g5_
          have n0_ := Aside0.mk (blk_drew BK1.out)
          have n1_ := Aside0.mk (blk_drew BK5.out)
          have n2_ := Aside0.mk (blk_drew BK6.out)
          have n3_ := Aside0.mk (Kd.R_drew HM.out)
          have n4_ := Aside0.mk (below_drew1 HB.out)
          clear BK1 BK5 BK6 HM HB
          have BK1 := n0_
          have BK5 := n1_
          have BK6 := n2_
          have HM := n3_
          have HB := n4_
          clear n0_ n1_ n2_ n3_ n4_
          obtain ⟨Am, cm, em⟩ := Kd.R_slice HM.out
          subst em
          refine start_ (n := 14) (S := fun w' => w'.cell? ⟨gb1, 0, none⟩ = some (.slice A0_0 l0_0.length c0_0) ∧ w'.cell? ⟨gb1, 1, none⟩ = some (.int .i64 a0_1) ∧ w'.cell? ⟨gb6, 0, none⟩ = some (.int .i64 0) ∧ w'.cell? ⟨gb6, 1, none⟩ = some (.int .i64 (rd_T29 l0_2 x).f0) ∧ w'.cell? ⟨gb5, 1, none⟩ = some (.int .i64 (rd_T29 l0_2 x).f1)) (ds := []) #[false, false, false, false, false, false, false, false, false, false, false, false, false, false] (by kernel_rfl) rfl rfl ⟨bc0_ BK1.out, bc1_ BK1.out, bc0_ BK6.out, bc1_ BK6.out, bc1_ BK5.out⟩ (fun hHeld => ?_)
          refine with_tabW session_May.tab8 session_May.bits8 (fun HT_ HW_ => ?_)
          generalize w8.drew = w9 at BK1 BK5 BK6 HM HB hHeld ⊢
          refine pA_ 0 23 #[true, false, false, false, false, false, false, false, false, false, false, false, false, false] HT_.out ?_
          refine pA_ 2 25 #[true, false, true, false, false, false, false, false, false, false, false, false, false, false] HT_.out ?_
          refine pA_ 4 27 #[true, false, true, false, true, false, false, false, false, false, false, false, false, false] HT_.out ?_
          refine tA_ 1 24 #[true, true, true, false, true, false, false, false, false, false, false, false, false, false] HT_.out HW_.out hHeld ?_
          refine tA_ 3 26 #[true, true, true, true, true, false, false, false, false, false, false, false, false, false] HT_.out HW_.out hHeld ?_
          refine tA_ 6 29 #[true, true, true, true, true, false, true, false, false, false, false, false, false, false] HT_.out HW_.out hHeld ?_
          refine one_ (i := 5) (N := some 28) #[true, true, true, true, true, true, true, false, false, false, false, false, false, false] rfl rfl (one_of HT_.out (by kernel_rfl)) (by decide) (fun K hK => ?_)
          refine goes_ Tryd.func17 (by kernel_rfl) rfl #[.int .i64 a0_1, .slice A0_0 l0_0.length c0_0, .slice Am ms.length cm] (by rfl) rfl rfl hL_ ?_
          refine (next_Ask.calls k1 a0_1 A0_0 c0_0 l0_0 Am cm ms b1 b2 _ (Kd.C_below HR0.out HB.out) HC0.out (Kd.R_reads' HM.out).2.2 (Kd.R_reads' HM.out).2.1 HA.out (GOK.below HG.out HB.out)).mono ?_
          rintro e w10 ⟨rfl, hb⟩
          refine ⟨_, rfl, ?_⟩
          have n0_ := Aside0.mk (blk_below BK1.out hb)
          have n1_ := Aside0.mk (blk_below BK5.out hb)
          have n2_ := Aside0.mk (blk_below BK6.out hb)
          have n3_ := Aside0.mk (Kd.R_below HM.out hb)
          have n4_ := Aside0.mk (below_step HB.out hb)
          clear BK1 BK5 BK6 HM HB
          have BK1 := n0_
          have BK5 := n1_
          have BK6 := n2_
          have HM := n3_
          have HB := n4_
          clear n0_ n1_ n2_ n3_ n4_
          clear hb
          refine hK.out _ _ ⟨bc0_ BK1.out, bc1_ BK1.out, bc0_ BK6.out, bc1_ BK6.out, bc1_ BK5.out⟩ (fun hHeld => ?_)
          clear hK K
          refine norm_ (a' := ?_) ?_ ?_
          rotate_left
          · show Act.put _ (some 28) _ = _
            simp only [Act.put, List.setIfInBounds_toArray, List.set_cons_zero, List.set_cons_succ, i64_w, i32_w]
            rfl
          refine pA_ 7 30 #[true, true, true, true, true, true, true, true, false, false, false, false, false, false] HT_.out ?_
          refine pA_ 8 31 #[true, true, true, true, true, true, true, true, true, false, false, false, false, false] HT_.out ?_
          refine pA_ 9 32 #[true, true, true, true, true, true, true, true, true, true, false, false, false, false] HT_.out ?_
          refine tA_ 10 33 #[true, true, true, true, true, true, true, true, true, true, true, false, false, false] HT_.out HW_.out hHeld ?_
          refine one_ (i := 11) (N := some 34) #[true, true, true, true, true, true, true, true, true, true, true, true, false, false] rfl rfl (one_of HT_.out (by kernel_rfl)) (by decide) (fun K hK => ?_)
          refine goes_ Tryd.func12 (by kernel_rfl) rfl #[.int .i64 (rd_T29 l0_2 x).f1] (by rfl) rfl rfl hL_ ?_
          refine (next_Mark.calls (rd_T29 l0_2 x).f1 false _ HT2.out).mono ?_
          rintro e w11 ⟨rfl, ⟨nd, rfl⟩⟩
          refine ⟨_, rfl, ?_⟩
          have n0_ := Aside0.mk (blk_drewN BK1.out nd)
          have n1_ := Aside0.mk (blk_drewN BK5.out nd)
          have n2_ := Aside0.mk (blk_drewN BK6.out nd)
          have n3_ := Aside0.mk (Kd.R_drewN HM.out nd)
          have n4_ := Aside0.mk (below_dn HB.out nd)
          clear BK1 BK5 BK6 HM HB
          have BK1 := n0_
          have BK5 := n1_
          have BK6 := n2_
          have HM := n3_
          have HB := n4_
          clear n0_ n1_ n2_ n3_ n4_
          refine hK.out _ _ ⟨bc0_ BK1.out, bc1_ BK1.out, bc0_ BK6.out, bc1_ BK6.out, bc1_ BK5.out⟩ (fun hHeld => ?_)
          clear hK K
          refine norm_ (a' := ?_) ?_ ?_
          rotate_left
          · show Act.put _ (some 34) _ = _
            simp only [Act.put, List.setIfInBounds_toArray, List.set_cons_zero, List.set_cons_succ, i64_w, i32_w]
            rfl
          generalize w10.drewN nd = w12 at BK1 BK5 BK6 HM HB hHeld ⊢
          refine pA_ 12 35 #[true, true, true, true, true, true, true, true, true, true, true, true, true, false] HT_.out ?_
          refine pA_ 13 36 #[true, true, true, true, true, true, true, true, true, true, true, true, true, true] HT_.out ?_
          refine done_ (done_of HT_.out (by kernel_rfl)) ?_
          clear HT_ HW_ hHeld
          go_wp2
          go_ret
          exact ⟨rfl, HB.out⟩
        | true =>
          rw [if_pos rfl] at H
          obtain ⟨hX2, H⟩ := ifI_ H
          have HX2 := Aside0.mk hX2
          have H' := Aside0.mk H
          have HCX := Aside0.mk c
          clear c H hX2
          go_wp2_with (first
            | ((with_reducible refine gate_dst (N := 5) rfl ?_); refine boxE_ 5 #[.int .i64 0, .int .i64 0] 29 ?_; intro gb5 hg w5 hbox hb; have GE5 := Aside0.mk (gE_ hg : w.heap.size ≤ gb5); have NB15 := Aside0.mk (bL_ BK1.out hg : gb1 ≠ gb5); have n0_ := Aside0.mk (Kd.R_below (hR_ HM.out) hb); have n1_ := Aside0.mk (bB_ BK1.out hb); have n2_ := Aside0.mk (below_step hC_ hb); have BK5 := Aside0.mk hbox; clear HM BK1 HB hg hbox hb; have HM := n0_; have BK1 := n1_; have HB := n2_; clear n0_ n1_ n2_; obtain ⟨d0_, d1_, d2_, d3_⟩ := bx2_ BK5.out)
            | ((with_reducible refine gate_store (t := 29) (p := 5) rfl ?_); refine store_event (t := 29) (p := 5) (v := ?vo5) (w1 := ((w5.setCell ⟨gb5, 0, none⟩ (.int .i64 (rd_T29 l0_2 x).f0)).setCell ⟨gb5, 1, none⟩ (.int .i64 (rd_T29 l0_2 x).f1))) ?hg ?ho ?hn ?hr ?_; (case ho => rfl); (case hg => rfl); (case hn => rfl); (case hr => first | (go_simp; done) | (go_simp; rfl)); intro w6 hw; have n0_ := Aside0.mk (show w6.heap[gb5]? = some (.cells #[.int .i64 (rd_T29 l0_2 x).f0, .int .i64 (rd_T29 l0_2 x).f1] 29 (0, 0)) by rw [hw]; exact bP_ (bP_ (cs' := #[.int .i64 (rd_T29 l0_2 x).f0, .int .i64 0]) BK5.out)); have n1_ := Aside0.mk (show w6.heap[gb1]? = some (.cells #[.slice A0_0 l0_0.length c0_0, .int .i64 a0_1, .slice (some ad) l0_2.length c0_2] 27 (0, 0)) by rw [hw]; exact bF_ (bF_ BK1.out NB15.out) NB15.out); have n2_ := Aside0.mk (show Kd.R (Kd.int .i64) 3 w6 w.heap.size (fun _ => True) v12 ms by rw [hw]; exact Kd.R_mono (rF_ (rF_ (Kd.R_types HM.out BK5.out (by decide)))) (fun _ _ => trivial)); have n3_ := Aside0.mk (show Below w.heap.size w w6 by rw [hw]; exact below_set (below_set HB.out GE5.out) GE5.out); clear hw d0_ d1_ d2_ d3_ BK5 BK1 HM HB; have BK5 := n0_; have BK1 := n1_; have HM := n2_; have HB := n3_; clear n0_ n1_ n2_ n3_; obtain ⟨d0_, d1_, d2_, d3_⟩ := bx2_ BK5.out)
            | ((with_reducible refine gate_dst (N := 6) rfl ?_); refine boxE_ 6 #[.int .i64 0, .int .i64 0] 45 ?_; intro gb6 hg w7 hbox hb; have GE6 := Aside0.mk (gE_ hg : w.heap.size ≤ gb6); have NB16 := Aside0.mk (bL_ BK1.out hg : gb1 ≠ gb6); have NB56 := Aside0.mk (bL_ BK5.out hg : gb5 ≠ gb6); have n0_ := Aside0.mk (Kd.R_below (hR_ HM.out) hb); have n1_ := Aside0.mk (bB_ BK1.out hb); have n2_ := Aside0.mk (below_step hC_ hb); have n3_ := Aside0.mk (bB_ BK5.out hb); have BK6 := Aside0.mk hbox; clear d0_ d1_ d2_ d3_ HM BK1 HB BK5 hg hbox hb; have HM := n0_; have BK1 := n1_; have HB := n2_; have BK5 := n3_; clear n0_ n1_ n2_ n3_; obtain ⟨d0_, d1_, d2_, d3_⟩ := bx2_ BK6.out)
            | ((with_reducible refine gate_store (t := 45) (p := 6) rfl ?_); refine store_event (t := 45) (p := 6) (v := ?vo6) (w1 := ((w7.setCell ⟨gb6, 0, none⟩ (.int .i64 0)).setCell ⟨gb6, 1, none⟩ (.int .i64 (rd_T29 l0_2 x).f0))) ?hg ?ho ?hn ?hr ?_; (case ho => rfl); (case hg => rfl); (case hn => rfl); (case hr => first | (go_simp; done) | (go_simp; rfl)); intro w8 hw; have n0_ := Aside0.mk (show w8.heap[gb6]? = some (.cells #[.int .i64 0, .int .i64 (rd_T29 l0_2 x).f0] 45 (0, 0)) by rw [hw]; exact bP_ (bP_ (cs' := #[.int .i64 0, .int .i64 0]) BK6.out)); have n1_ := Aside0.mk (show w8.heap[gb1]? = some (.cells #[.slice A0_0 l0_0.length c0_0, .int .i64 a0_1, .slice (some ad) l0_2.length c0_2] 27 (0, 0)) by rw [hw]; exact bF_ (bF_ BK1.out NB16.out) NB16.out); have n2_ := Aside0.mk (show Kd.R (Kd.int .i64) 3 w8 w.heap.size (fun _ => True) v12 ms by rw [hw]; exact Kd.R_mono (rF_ (rF_ (Kd.R_types HM.out BK6.out (by decide)))) (fun _ _ => trivial)); have n3_ := Aside0.mk (show Below w.heap.size w w8 by rw [hw]; exact below_set (below_set HB.out GE6.out) GE6.out); have n4_ := Aside0.mk (show w8.heap[gb5]? = some (.cells #[.int .i64 (rd_T29 l0_2 x).f0, .int .i64 (rd_T29 l0_2 x).f1] 29 (0, 0)) by rw [hw]; exact bF_ (bF_ BK5.out NB56.out) NB56.out); clear hw d0_ d1_ d2_ d3_ BK6 BK1 HM HB BK5; have BK6 := n0_; have BK1 := n1_; have HM := n2_; have HB := n3_; have BK5 := n4_; clear n0_ n1_ n2_ n3_ n4_; obtain ⟨g0_, g1_, g2_, g3_, g4_, g5_⟩ := bx3_ BK1.out))
          clear g0_ g1_ g2_ g3_ g4_ g5_
          have n0_ := Aside0.mk (blk_drew BK1.out)
          have n1_ := Aside0.mk (blk_drew BK5.out)
          have n2_ := Aside0.mk (blk_drew BK6.out)
          have n3_ := Aside0.mk (Kd.R_drew HM.out)
          have n4_ := Aside0.mk (below_drew1 HB.out)
          clear BK1 BK5 BK6 HM HB
          have BK1 := n0_
          have BK5 := n1_
          have BK6 := n2_
          have HM := n3_
          have HB := n4_
          clear n0_ n1_ n2_ n3_ n4_
          obtain ⟨Am, cm, em⟩ := Kd.R_slice HM.out
          subst em
          refine start_ (n := 14) (S := fun w' => w'.cell? ⟨gb1, 0, none⟩ = some (.slice A0_0 l0_0.length c0_0) ∧ w'.cell? ⟨gb1, 1, none⟩ = some (.int .i64 a0_1) ∧ w'.cell? ⟨gb6, 0, none⟩ = some (.int .i64 0) ∧ w'.cell? ⟨gb6, 1, none⟩ = some (.int .i64 (rd_T29 l0_2 x).f0) ∧ w'.cell? ⟨gb5, 1, none⟩ = some (.int .i64 (rd_T29 l0_2 x).f1)) (ds := []) #[false, false, false, false, false, false, false, false, false, false, false, false, false, false] (by kernel_rfl) rfl rfl ⟨bc0_ BK1.out, bc1_ BK1.out, bc0_ BK6.out, bc1_ BK6.out, bc1_ BK5.out⟩ (fun hHeld => ?_)
          refine with_tabW session_May.tab8 session_May.bits8 (fun HT_ HW_ => ?_)
          generalize w8.drew = w9 at BK1 BK5 BK6 HM HB hHeld ⊢
          refine pA_ 0 23 #[true, false, false, false, false, false, false, false, false, false, false, false, false, false] HT_.out ?_
          refine pA_ 2 25 #[true, false, true, false, false, false, false, false, false, false, false, false, false, false] HT_.out ?_
          refine pA_ 4 27 #[true, false, true, false, true, false, false, false, false, false, false, false, false, false] HT_.out ?_
          refine tA_ 1 24 #[true, true, true, false, true, false, false, false, false, false, false, false, false, false] HT_.out HW_.out hHeld ?_
          refine tA_ 3 26 #[true, true, true, true, true, false, false, false, false, false, false, false, false, false] HT_.out HW_.out hHeld ?_
          refine tA_ 6 29 #[true, true, true, true, true, false, true, false, false, false, false, false, false, false] HT_.out HW_.out hHeld ?_
          refine one_ (i := 5) (N := some 28) #[true, true, true, true, true, true, true, false, false, false, false, false, false, false] rfl rfl (one_of HT_.out (by kernel_rfl)) (by decide) (fun K hK => ?_)
          refine goes_ Tryd.func17 (by kernel_rfl) rfl #[.int .i64 a0_1, .slice A0_0 l0_0.length c0_0, .slice Am ms.length cm] (by rfl) rfl rfl hL_ ?_
          refine (next_Ask.calls k1 a0_1 A0_0 c0_0 l0_0 Am cm ms b1 b2 _ (Kd.C_below HR0.out HB.out) HC0.out (Kd.R_reads' HM.out).2.2 (Kd.R_reads' HM.out).2.1 HA.out (GOK.below HG.out HB.out)).mono ?_
          rintro e w10 ⟨rfl, hb⟩
          refine ⟨_, rfl, ?_⟩
          have n0_ := Aside0.mk (blk_below BK1.out hb)
          have n1_ := Aside0.mk (blk_below BK5.out hb)
          have n2_ := Aside0.mk (blk_below BK6.out hb)
          have n3_ := Aside0.mk (Kd.R_below HM.out hb)
          have n4_ := Aside0.mk (below_step HB.out hb)
          clear BK1 BK5 BK6 HM HB
          have BK1 := n0_
          have BK5 := n1_
          have BK6 := n2_
          have HM := n3_
          have HB := n4_
          clear n0_ n1_ n2_ n3_ n4_
          clear hb
          refine hK.out _ _ ⟨bc0_ BK1.out, bc1_ BK1.out, bc0_ BK6.out, bc1_ BK6.out, bc1_ BK5.out⟩ (fun hHeld => ?_)
          clear hK K
          refine norm_ (a' := ?_) ?_ ?_
          rotate_left
          · show Act.put _ (some 28) _ = _
            simp only [Act.put, List.setIfInBounds_toArray, List.set_cons_zero, List.set_cons_succ, i64_w, i32_w]
            rfl
          refine pA_ 7 30 #[true, true, true, true, true, true, true, true, false, false, false, false, false, false] HT_.out ?_
          refine pA_ 8 31 #[true, true, true, true, true, true, true, true, true, false, false, false, false, false] HT_.out ?_
          refine pA_ 9 32 #[true, true, true, true, true, true, true, true, true, true, false, false, false, false] HT_.out ?_
          refine tA_ 10 33 #[true, true, true, true, true, true, true, true, true, true, true, false, false, false] HT_.out HW_.out hHeld ?_
          refine one_ (i := 11) (N := some 34) #[true, true, true, true, true, true, true, true, true, true, true, true, false, false] rfl rfl (one_of HT_.out (by kernel_rfl)) (by decide) (fun K hK => ?_)
          refine goes_ Tryd.func12 (by kernel_rfl) rfl #[.int .i64 (rd_T29 l0_2 x).f1] (by rfl) rfl rfl hL_ ?_
          refine (next_Mark.calls (rd_T29 l0_2 x).f1 true _ HT2.out).mono ?_
          rintro e w11 ⟨rfl, ⟨nd, rfl⟩⟩
          refine ⟨_, rfl, ?_⟩
          have n0_ := Aside0.mk (blk_drewN BK1.out nd)
          have n1_ := Aside0.mk (blk_drewN BK5.out nd)
          have n2_ := Aside0.mk (blk_drewN BK6.out nd)
          have n3_ := Aside0.mk (Kd.R_drewN HM.out nd)
          have n4_ := Aside0.mk (below_dn HB.out nd)
          clear BK1 BK5 BK6 HM HB
          have BK1 := n0_
          have BK5 := n1_
          have BK6 := n2_
          have HM := n3_
          have HB := n4_
          clear n0_ n1_ n2_ n3_ n4_
          refine hK.out _ _ ⟨bc0_ BK1.out, bc1_ BK1.out, bc0_ BK6.out, bc1_ BK6.out, bc1_ BK5.out⟩ (fun hHeld => ?_)
          clear hK K
          refine norm_ (a' := ?_) ?_ ?_
          rotate_left
          · show Act.put _ (some 34) _ = _
            simp only [Act.put, List.setIfInBounds_toArray, List.set_cons_zero, List.set_cons_succ, i64_w, i32_w]
            rfl
          generalize w10.drewN nd = w12 at BK1 BK5 BK6 HM HB hHeld ⊢
          refine pA_ 12 35 #[true, true, true, true, true, true, true, true, true, true, true, true, true, false] HT_.out ?_
          refine pA_ 13 36 #[true, true, true, true, true, true, true, true, true, true, true, true, true, true] HT_.out ?_
          refine done_ (done_of HT_.out (by kernel_rfl)) ?_
          clear HT_ HW_ hHeld
          obtain ⟨gm, cm', eo, hbg, hgl, cl, hgm⟩ := Kd.R_form HM.out (by have := HX2.out; omega)
          injection eo with ea_ en_ ec_
          subst ea_
          clear en_ ec_
          obtain ⟨hx34, hf34⟩ := Kd.R_celln 0 HM.out (rd_T29 l0_2 x).f0 HX2.out.1 HX2.out.2
          have HP := Aside0.mk (Kd.R_putg HM.out (rd_T29 l0_2 x).f0 (rd_T29 l0_2 x).f1).1
          have hne : gb1 ≠ gm := blk_ne BK1.out hgm (by decide)
          have HE := Aside0.mk (And.intro hbg hne)
          obtain ⟨d0_, d1_, d2_, d3_⟩ := bx2_ BK5.out
          have p34_ := eq_true HX2.out.1
          have q34_ := eq_true HX2.out.2
          clear hbg hgl hgm hne
          go_wp2
          go_roundg k1
          case measure => have := HK1.out; omega
          case rel => exact ⟨_, _, rfl, H', ⟨by have := HK1.out; omega⟩, ⟨by have := HX.out; rw [wsuccM x HX.out (by have := Kd.C_max HR2.out; have := HCX.out; omega)]; omega⟩, ⟨HP.out⟩, ⟨bF_ BK1.out HE.out.2⟩, ⟨below_set HB.out HE.out.1⟩⟩
end

end Go.Proofs.YtbnljapgnfmmoaaDoor.G
end
section
-- Laid by the session's own driver gp.py over the kit's printer. Not trusted: Lean checks it.
namespace Go.Proofs.YtbnljapgnfmmoaaDoor.G
open Go.RowKit Go.Proofs.YtbnljapgnfmmoaaDoorW.PrintWords Go.Proofs.YtbnljapgnfmmoaaDoorW.PrintLast Go.Proofs.YtbnljapgnfmmoaaDoorW.PrintMore
attribute [local go_sem] max2_int min2_int max_two min_two max_three min_three max_four min_four   -- for this text's walks alone
set_option linter.unusedVariables false
set_option linter.unusedSimpArgs false

/-! ### session_Copy: function 14, given -/
/-- a row whose elements are another row's, as they lay in w0 -/
def borK {α : Type} (w0 : World) (d : Kd α) : Kd α where
  sz := d.sz
  E := d.E
  K := fun _ x cs => d.K w0 x cs
  M := fun _ _ _ x cs => d.K w0 x cs
  K_len := fun h => d.K_len h
  K_one := fun h => d.K_one h
  K_below := fun _ h => h
  K_of_M := fun h => h
  M_mono := fun _ h => h
  M_bound := fun h => h
  M_move := fun _ h => h
  M_lower := fun _ h => h
/-- the same, some of its elements made anew, each apart from the others (f) -/
def mixK {α : Type} (w0 : World) (f : Nat → Nat) (d : Kd α) : Kd (α × Option Nat) where
  sz := d.sz
  E := d.E
  K := fun w x cs => match x.2 with | some _ => d.K w x.1 cs | none => d.K w0 x.1 cs
  M := fun w base ok x cs => match x.2 with | some i => d.M w base (fun k => ok k ∧ f k = i) x.1 cs | none => d.K w0 x.1 cs
  K_len := by rintro w ⟨x, _ | i⟩ cs h <;> exact d.K_len h
  K_one := by rintro w ⟨x, _ | i⟩ cs h <;> exact d.K_one h
  K_below := by
    rintro w w1 ⟨x, _ | i⟩ cs hb h
    · exact h
    · exact d.K_below hb h
  K_of_M := by
    rintro w base ok ⟨x, _ | i⟩ cs h
    · exact h
    · exact d.K_of_M h
  M_mono := by
    rintro w base ok ok' ⟨x, _ | i⟩ cs hok h
    · exact h
    · exact d.M_mono (fun k hk => ⟨hok k hk.1, hk.2⟩) h
  M_bound := by
    rintro w base ok ⟨x, _ | i⟩ cs h
    · exact h
    · exact d.M_mono (fun _ hk => ⟨⟨hk.1.1, hk.2⟩, hk.1.2⟩) (d.M_bound h)
  M_move := by
    rintro w w1 base ok ⟨x, _ | i⟩ cs hm h
    · exact h
    · exact d.M_move (fun k hk => hm k hk.1) h
  M_lower := by
    rintro w base base' ok ⟨x, _ | i⟩ cs hb h
    · exact h
    · exact d.M_lower hb h
theorem mix_tag {α : Type} {w0 : World} {f f' : Nat → Nat} {d : Kd α} {e : Nat} {w : World} {base : Nat} {ok : Nat → Prop} {v : Value} {xs : List (α × Option Nat)} (h : (mixK w0 f d).R e w base ok v xs) (hf : ∀ k, k < w.heap.size → f' k = f k) : (mixK w0 f' d).R e w base ok v xs := by
  obtain ⟨h0, inner, ho, hr⟩ := h
  refine ⟨h0, inner, ho, hr.imp_ ?_⟩
  rintro ⟨x, _ | i⟩ cs h
  · exact h
  · exact d.M_mono (fun k hk => ⟨hk.1.1, (hf k hk.2.2.1).trans hk.1.2⟩) (d.M_bound h)
def mixL {α : Type} (l : List α) (n : Nat) : List (α × Option Nat) := l.zipIdx.map fun p => (p.1, if p.2 < n then some p.2 else none)
theorem mixL_len {α : Type} (l : List α) (n : Nat) : (mixL l n).length = l.length := by simp [mixL]
theorem mixL_at {α : Type} (l : List α) (n j : Nat) : (mixL l n)[j]? = (l[j]?).map fun x => (x, if j < n then some j else none) := by
  unfold mixL
  rw [List.getElem?_map, List.getElem?_zipIdx, Option.map_map, Nat.zero_add]
  rfl
theorem mixL_set {α : Type} (l : List α) (i : Nat) (x : α) (h : l[i]? = some x) : (mixL l i).set i (x, some i) = mixL l (i + 1) := by
  apply List.ext_getElem?
  intro j
  rw [List.getElem?_set, mixL_at, mixL_at, mixL_len]
  by_cases c : i = j
  case neg =>
    rw [if_neg c]
    congr 1
    funext x
    by_cases d : j < i
    case pos =>
      rw [if_pos d, if_pos (by omega)]
    rw [if_neg d, if_neg (by omega)]
  subst c
  have hl : i < l.length := (List.getElem?_eq_some_iff.1 h).1
  rw [if_pos rfl, if_pos hl, h, Option.map_some, if_pos (Nat.lt_succ_self i)]
theorem mix_start {α : Type} {w0 : World} {f : Nat → Nat} {d : Kd α} {e : Nat} {w : World} {base : Nat} {ok : Nat → Prop} {v : Value} {xs : List α} (h : (borK w0 d).R e w base ok v xs) : (mixK w0 f d).R e w base ok v (mixL xs 0) := by
  obtain ⟨h0, inner, ho, hl, hr⟩ := h
  refine ⟨h0, inner, by rw [mixL_len]; exact ho, by rw [mixL_len]; exact hl, fun j p hj => ?_⟩
  rw [mixL_at] at hj
  obtain ⟨x, hx, rfl⟩ := Option.map_eq_some_iff.1 hj
  rw [if_neg (Nat.not_lt_zero j)]
  exact hr j x hx
theorem mix_end {α : Type} {w0 : World} {f : Nat → Nat} {d : Kd α} {e : Nat} {w : World} {base : Nat} {ok : Nat → Prop} {v : Value} {xs : List α} (h : (mixK w0 f d).R e w base ok v (mixL xs xs.length)) : Kd.S d e w base ok v xs := by
  obtain ⟨h0, inner, ho, hl, hr⟩ := h
  rw [mixL_len] at ho hl
  refine ⟨f, h0, inner, by rw [List.length_zipIdx]; exact ho, by rw [List.length_zipIdx]; exact hl, fun j p hj => ?_⟩
  rw [List.getElem?_zipIdx, Nat.zero_add] at hj
  obtain ⟨x, hx, rfl⟩ := Option.map_eq_some_iff.1 hj
  have h2 := hr j (x, some j) (by rw [mixL_at, hx, Option.map_some, if_pos (List.getElem?_eq_some_iff.1 hx).1])
  exact h2
set_option maxHeartbeats 4000000 in
set_option maxRecDepth 100000 in
theorem clN.calls (A : Option Addr) (c : Nat) (xs : List S41) (w0 w : World) (hB0 : Below w0.heap.size w0 w) (hC : Kd.C k41 w0 A xs.length xs) (hl : xs.length * 56 ≤ 140737488355328) :
    Calls Tryd.prog 20 #[.slice A xs.length c] w fun e w' => ∃ v, e = .returned v ∧ (borK w0 k41).R 41 w' w.heap.size (fun _ => True) v xs ∧ Below w.heap.size w w' := by
  have q_ : ∀ (w : World) (a : Option Addr) (n c n' c' : Nat), (binOp .eql 23 (.slice a n c) (.slice none n' c')).run Tryd.prog w = .ok (.bool a.isNone) w := fun w a n c n' c' => Lib.run_eql_slice_nil w _ _ a n c n' c' Tryd.underlying23
  cases A with
  | none =>
    have h0 : xs.length = 0 := by
      rcases Nat.eq_zero_or_pos xs.length with h0 | h0
      · exact h0
      · obtain ⟨ad, h, _⟩ := hC.2.2 h0
        cases h
    obtain rfl : xs = [] := List.eq_nil_of_length_eq_zero h0
    clear hC hl h0 hB0
    go_enter Tryd.func20, Tryd.ntmps20
    go_wp2
    go_ret
    exact ⟨_, rfl, Kd.R_nil _ _ _ _ _, Below.refl _ _⟩
  | some ad =>
    have HC := Aside0.mk hC
    have HB0 := Aside0.mk hB0
    have HL := Aside0.mk hl
    clear hC hl hB0
    go_enter Tryd.func20, Tryd.ntmps20
    go_wp2_with (first
      | ((with_reducible refine gate_dst (N := 5) rfl ?_); refine Kd.R_lit (borK w0 k41) _ 41 ?hg (N := 5) ?hd (xs := ([] : List S41)) (inner := []) (ok := fun _ => True) (okp := fun _ => True) ?hr ?hp (fun _ hk => hk) trivial (Below.refl _ _) (Nat.le_refl _) (by simp) ?_; (case hd => rfl); (case hg => rfl); (case hr => first | (go_simp; done) | (go_simp; rfl)); (case hp => exact (Reps.none _ _)); intro v5 w5 ho hb hg_ hnew_; have HO := Aside0.mk ho; have HB := Aside0.mk hb; clear ho hb hg_ hnew_)
      | ((with_reducible refine gate_builtin (b := .append) (xs := #[.tmp 5, .tmp 6]) rfl ?_); at_builtin; refine Kd.R_append_rows (borK w0 k41) (Rr := Kd.K k41 w0) (w0 := w) w.heap.size rfl (.tmp 5) (.tmp 6) 23 41 (.agg #[(.int .i64 0), (.int .i64 0), (.slice none 0 0), (.string ⟨#[]⟩)]) 56 rfl Tryd.underlying23 info41 rfl (show 0 < 4 by decide) (by omega) v5 [] xs _ _ _ (fun _ => True) (fun _ => False) rfl rfl HO.out (HC.out.imp_ (below_step HB0.out HB.out) (fun _ _ h => h)) (fun _ _ h => h) (fun _ h => h.elim) (fun _ _ => trivial) HB.out HB.out.size (by have := HL.out; simp only [List.length_nil, Nat.zero_add]; exact this) ?_; intro v7 w7 ho hb hg hat; rw [List.nil_append] at ho; have HO2 := Aside0.mk ho; have HB2 := Aside0.mk hb; clear ho hb hg hat HO HB))
    go_ret
    exact ⟨_, rfl, HO2.out, HB2.out⟩
set_option maxHeartbeats 4000000 in
set_option maxRecDepth 100000 in
theorem clA.calls (A : Option Addr) (c : Nat) (xs : List S29) (w0 w : World) (hB0 : Below w0.heap.size w0 w) (hC : Kd.C k29 w0 A xs.length xs) (hl : xs.length * 16 ≤ 140737488355328) :
    Calls Tryd.prog 21 #[.slice A xs.length c] w fun e w' => ∃ v, e = .returned v ∧ (borK w0 k29).R 29 w' w.heap.size (fun _ => True) v xs ∧ Below w.heap.size w w' := by
  have q_ : ∀ (w : World) (a : Option Addr) (n c n' c' : Nat), (binOp .eql 25 (.slice a n c) (.slice none n' c')).run Tryd.prog w = .ok (.bool a.isNone) w := fun w a n c n' c' => Lib.run_eql_slice_nil w _ _ a n c n' c' Tryd.underlying25
  cases A with
  | none =>
    have h0 : xs.length = 0 := by
      rcases Nat.eq_zero_or_pos xs.length with h0 | h0
      · exact h0
      · obtain ⟨ad, h, _⟩ := hC.2.2 h0
        cases h
    obtain rfl : xs = [] := List.eq_nil_of_length_eq_zero h0
    clear hC hl h0 hB0
    go_enter Tryd.func21, Tryd.ntmps21
    go_wp2
    go_ret
    exact ⟨_, rfl, Kd.R_nil _ _ _ _ _, Below.refl _ _⟩
  | some ad =>
    have HC := Aside0.mk hC
    have HB0 := Aside0.mk hB0
    have HL := Aside0.mk hl
    clear hC hl hB0
    go_enter Tryd.func21, Tryd.ntmps21
    go_wp2_with (first
      | ((with_reducible refine gate_dst (N := 5) rfl ?_); refine Kd.R_lit (borK w0 k29) _ 29 ?hg (N := 5) ?hd (xs := ([] : List S29)) (inner := []) (ok := fun _ => True) (okp := fun _ => True) ?hr ?hp (fun _ hk => hk) trivial (Below.refl _ _) (Nat.le_refl _) (by simp) ?_; (case hd => rfl); (case hg => rfl); (case hr => first | (go_simp; done) | (go_simp; rfl)); (case hp => exact (Reps.none _ _)); intro v5 w5 ho hb hg_ hnew_; have HO := Aside0.mk ho; have HB := Aside0.mk hb; clear ho hb hg_ hnew_)
      | ((with_reducible refine gate_builtin (b := .append) (xs := #[.tmp 5, .tmp 6]) rfl ?_); at_builtin; refine Kd.R_append_rows (borK w0 k29) (Rr := Kd.K k29 w0) (w0 := w) w.heap.size rfl (.tmp 5) (.tmp 6) 25 29 (.agg #[(.int .i64 0), (.int .i64 0)]) 16 rfl Tryd.underlying25 info29 rfl (show 0 < 2 by decide) (by omega) v5 [] xs _ _ _ (fun _ => True) (fun _ => False) rfl rfl HO.out (HC.out.imp_ (below_step HB0.out HB.out) (fun _ _ h => h)) (fun _ _ h => h) (fun _ h => h.elim) (fun _ _ => trivial) HB.out HB.out.size (by have := HL.out; simp only [List.length_nil, Nat.zero_add]; exact this) ?_; intro v7 w7 ho hb hg hat; rw [List.nil_append] at ho; have HO2 := Aside0.mk ho; have HB2 := Aside0.mk hb; clear ho hb hg hat HO HB))
    go_ret
    exact ⟨_, rfl, HO2.out, HB2.out⟩
set_option maxHeartbeats 4000000 in
set_option maxRecDepth 100000 in
theorem clS.calls (A : Option Addr) (c : Nat) (xs : List ByteArray) (w0 w : World) (hB0 : Below w0.heap.size w0 w) (hC : Kd.C Kd.string w0 A xs.length xs) (hl : xs.length * 16 ≤ 140737488355328) :
    Calls Tryd.prog 22 #[.slice A xs.length c] w fun e w' => ∃ v, e = .returned v ∧ (borK w0 Kd.string).R 9 w' w.heap.size (fun _ => True) v xs ∧ Below w.heap.size w w' := by
  have q_ : ∀ (w : World) (a : Option Addr) (n c n' c' : Nat), (binOp .eql 39 (.slice a n c) (.slice none n' c')).run Tryd.prog w = .ok (.bool a.isNone) w := fun w a n c n' c' => Lib.run_eql_slice_nil w _ _ a n c n' c' Tryd.underlying39
  cases A with
  | none =>
    have h0 : xs.length = 0 := by
      rcases Nat.eq_zero_or_pos xs.length with h0 | h0
      · exact h0
      · obtain ⟨ad, h, _⟩ := hC.2.2 h0
        cases h
    obtain rfl : xs = [] := List.eq_nil_of_length_eq_zero h0
    clear hC hl h0 hB0
    go_enter Tryd.func22, Tryd.ntmps22
    go_wp2
    go_ret
    exact ⟨_, rfl, Kd.R_nil _ _ _ _ _, Below.refl _ _⟩
  | some ad =>
    have HC := Aside0.mk hC
    have HB0 := Aside0.mk hB0
    have HL := Aside0.mk hl
    clear hC hl hB0
    go_enter Tryd.func22, Tryd.ntmps22
    go_wp2_with (first
      | ((with_reducible refine gate_dst (N := 5) rfl ?_); refine Kd.R_lit (borK w0 Kd.string) _ 9 ?hg (N := 5) ?hd (xs := ([] : List ByteArray)) (inner := []) (ok := fun _ => True) (okp := fun _ => True) ?hr ?hp (fun _ hk => hk) trivial (Below.refl _ _) (Nat.le_refl _) (by simp) ?_; (case hd => rfl); (case hg => rfl); (case hr => first | (go_simp; done) | (go_simp; rfl)); (case hp => exact (Reps.none _ _)); intro v5 w5 ho hb hg_ hnew_; have HO := Aside0.mk ho; have HB := Aside0.mk hb; clear ho hb hg_ hnew_)
      | ((with_reducible refine gate_builtin (b := .append) (xs := #[.tmp 5, .tmp 6]) rfl ?_); at_builtin; refine Kd.R_append_rows (borK w0 Kd.string) (Rr := Kd.K Kd.string w0) (w0 := w) w.heap.size rfl (.tmp 5) (.tmp 6) 39 9 (.string ⟨#[]⟩) 16 rfl Tryd.underlying39 info9 rfl (show 0 < 1 by decide) (by omega) v5 [] xs _ _ _ (fun _ => True) (fun _ => False) rfl rfl HO.out (HC.out.imp_ (below_step HB0.out HB.out) (fun _ _ h => h)) (fun _ _ h => h) (fun _ h => h.elim) (fun _ _ => trivial) HB.out HB.out.size (by have := HL.out; simp only [List.length_nil, Nat.zero_add]; exact this) ?_; intro v7 w7 ho hb hg hat; rw [List.nil_append] at ho; have HO2 := Aside0.mk ho; have HB2 := Aside0.mk hb; clear ho hb hg hat HO HB))
    go_ret
    exact ⟨_, rfl, HO2.out, HB2.out⟩
def sc_fit (l0 : List S41) (l2 : List S29) : Bool := decide (l0.length ≤ 2513169434916) && (decide (l2.length ≤ 8796093022208) && l0.all fun x => decide (x.f2.length ≤ 8796093022208))
def session_Copy.f (l0_0 : List S41) (a0_1 : Int) (l0_2 : List S29) : Option (List S41 × Int × List S29) := if sc_fit l0_0 l0_2 = true then some (l0_0, a0_1, l0_2) else none
def session_Copy.T1 : Bool × List (List Nat × List Nat) := (true, [([], []), ([0], [0]), ([1], [1]), ([], []), ([3], [3]), ([4, 2], [4]), ([0, 1, 2, 3, 4], []), ([6, 2, 5, 0, 1, 2, 3, 4], [2, 6]), ([0, 1, 2, 3, 4, 5, 6, 7], []), ([8, 5, 7, 0, 1, 2, 3, 4, 5, 6, 7], [5, 8])])
def session_Copy.B1 : List Nat := [0, 1, 3, 0, 8, 31, 31, 127, 255, 511]
theorem session_Copy.tab1 : rtab .any (opsOf Tryd.f14 1) = session_Copy.T1 := by kernel_rfl
theorem session_Copy.bits1 : waitsOk session_Copy.T1.2 session_Copy.B1 = true := by kernel_rfl
def session_Copy.T5 : Bool × List (List Nat × List Nat) := (true, [([], []), ([0], [0]), ([], []), ([], []), ([3], [3]), ([], []), ([4, 5], [4, 5]), ([6], [6]), ([7], [7]), ([8], [8]), ([1, 2, 0, 1, 2, 3, 4, 5, 6, 7, 8, 9], [1, 2]), ([10, 0, 1, 2, 3, 4, 5, 6, 7, 8, 9], [10]), ([11, 9, 9, 0, 1, 2, 3, 4, 5, 6, 7, 8, 9], [9, 11])])
def session_Copy.B5 : List Nat := [0, 1, 0, 0, 8, 0, 56, 120, 248, 504, 1023, 2047, 4095]
theorem session_Copy.tab5 : rtab .any (opsOf Tryd.f14 5) = session_Copy.T5 := by kernel_rfl
theorem session_Copy.bits5 : waitsOk session_Copy.T5.2 session_Copy.B5 = true := by kernel_rfl
theorem mixL_rd (l : List S41) (x : Int) (h0 : 0 ≤ x) (h1 : x < (l.length : Int)) : (mixL l x.toNat).getD x.toNat (z41, none) = (rd_T41 l x, none) := by
  have hl : x.toNat < l.length := by omega
  rw [List.getD_eq_getElem?_getD, mixL_at, List.getElem?_eq_getElem hl, Option.map_some, if_neg (Nat.lt_irrefl _)]
  show (_, _) = (List.getD _ _ _, _)
  rw [List.getD_eq_getElem?_getD, List.getElem?_eq_getElem hl]; rfl
theorem rd_mem_N (l : List S41) (x : Int) (h0 : 0 ≤ x) (h1 : x < (l.length : Int)) : rd_T41 l x ∈ l := by
  show List.getD _ _ _ ∈ _
  rw [List.getD_eq_getElem?_getD, List.getElem?_eq_getElem (show x.toNat < l.length by omega)]
  exact List.getElem_mem _
theorem rd_some_N (l : List S41) (x : Int) (h0 : 0 ≤ x) (h1 : x < (l.length : Int)) : l[x.toNat]? = some (rd_T41 l x) := by
  have hl : x.toNat < l.length := by omega
  rw [List.getElem?_eq_getElem hl]
  show some _ = some (List.getD _ _ _)
  rw [List.getD_eq_getElem?_getD, List.getElem?_eq_getElem hl]; rfl
theorem wsuccN (x : Int) (h0 : 0 ≤ x) (h1 : x ≤ 9223372036854775806) : wrap64 (x + 1) = x + 1 := by unfold wrap64; omega
theorem sc_spec {l0 : List S41} {l2 : List S29} (h : sc_fit l0 l2 = true) : l0.length ≤ 2513169434916 ∧ l2.length ≤ 8796093022208 ∧ ∀ x ∈ l0, x.f2.length ≤ 8796093022208 := by
  unfold sc_fit at h
  rw [Bool.and_eq_true, Bool.and_eq_true, decide_eq_true_iff, decide_eq_true_iff] at h
  exact ⟨h.1, h.2.1, fun x hx => of_decide_eq_true (List.all_eq_true.1 h.2.2 x hx)⟩
theorem borA {w0 w : World} {e base : Nat} {ok : Nat → Prop} {v : Value} {xs : List S29} (h : (borK w0 k29).R e w base ok v xs) : k29.R e w base ok v xs := Kd.R_imp rfl (fun _ _ _ _ _ h => h) h
theorem borS {w0 w : World} {e base : Nat} {ok : Nat → Prop} {v : Value} {xs : List ByteArray} (h : (borK w0 Kd.string).R e w base ok v xs) : Kd.string.R e w base ok v xs := Kd.R_imp rfl (fun _ _ _ _ _ h => h) h
set_option maxHeartbeats 8000000 in
set_option maxRecDepth 100000 in
theorem session_Copy.callsS (A0_0 : Option Addr) (c0_0 : Nat) (l0_0 : List S41) (a0_1 : Int) (A0_2 : Option Addr) (c0_2 : Nat) (l0_2 : List S29) (w : World) (hr0_0 : Kd.C k41 w A0_0 l0_0.length l0_0) (hc0_0 : l0_0.length ≤ c0_0) (hr0_2 : Kd.C k29 w A0_2 l0_2.length l0_2) (hc0_2 : l0_2.length ≤ c0_2) (hfit : sc_fit l0_0 l0_2 = true) :
    Calls Tryd.prog 14 #[.agg #[.slice A0_0 l0_0.length c0_0, .int .i64 a0_1, .slice A0_2 l0_2.length c0_2]] w fun e w' => ∃ v0_ v2_ : Value, e = .returned (.agg #[v0_, .int .i64 a0_1, v2_]) ∧ Kd.S k41 41 w' w.heap.size (fun _ => True) v0_ l0_0 ∧ Kd.R k29 29 w' w.heap.size (fun _ => True) v2_ l0_2 ∧ Below w.heap.size w w' := by
  obtain ⟨hx0, hx2, hxa⟩ := sc_spec hfit
  have HR0 := Aside0.mk hr0_0
  have HC0 := Aside0.mk hc0_0
  have HR2 := Aside0.mk hr0_2
  have HC2 := Aside0.mk hc0_2
  have HL0 := Aside0.mk (show l0_0.length * 56 ≤ 140737488355328 by omega)
  have HL2 := Aside0.mk (show l0_2.length * 16 ≤ 140737488355328 by omega)
  have HLa := Aside0.mk hxa
  have hmx := Aside0.mk hx0
  clear hr0_0 hc0_0 hr0_2 hc0_2 hx0 hx2 hxa hfit
  have HB := Aside0.mk (Below.refl w.heap.size w)
  have hu := Tryd.underlying27
  go_enter Tryd.func14, Tryd.ntmps14
  go_wp2_with (first
    | ((with_reducible refine gate_dst (N := 1) rfl ?_); refine boxE_ 1 #[.slice A0_0 l0_0.length c0_0, .int .i64 a0_1, .slice A0_2 l0_2.length c0_2] 27 ?_; intro gb1 hg w1 hbox hb; have GE1 := Aside0.mk (gE_ hg : w.heap.size ≤ gb1); have n0_ := Aside0.mk (below_step hB_ hb); clear HB; have HB := n0_; have BK1 := Aside0.mk hbox; clear n0_ hg hbox hb)
    | ((with_reducible refine gate_dst (N := 2) rfl ?_); refine boxE_ 2 #[.slice none 0 0, .int .i64 0, .slice none 0 0] 27 ?_; intro gb2 hg w2 hbox hb; have GE2 := Aside0.mk (gE_ hg : w.heap.size ≤ gb2); have NB := Aside0.mk (bL_ BK1.out hg : gb1 ≠ gb2); have n0_ := Aside0.mk (below_step hC_ hb); have n1_ := Aside0.mk (bB_ BK1.out hb); clear HB BK1; have HB := n0_; have BK1 := n1_; have BK2 := Aside0.mk hbox; clear n0_ n1_ hg hbox hb))
  have n0_ := Aside0.mk (blk_drew BK1.out)
  have n1_ := Aside0.mk (blk_drew BK2.out)
  have n2_ := Aside0.mk (below_drew1 HB.out)
  clear BK1 BK2 HB
  have BK1 := n0_
  have BK2 := n1_
  have HB := n2_
  clear n0_ n1_ n2_
  refine start_ (n := 10) (S := fun w' => w'.cell? ⟨gb1, 0, none⟩ = some (.slice A0_0 l0_0.length c0_0) ∧ w'.cell? ⟨gb1, 2, none⟩ = some (.slice A0_2 l0_2.length c0_2)) (ds := [7, 9]) #[false, false, false, false, false, false, false, false, false, false] (by kernel_rfl) rfl rfl ⟨bc0_ BK1.out, bc2_ BK1.out⟩ (fun hHeld => ?_)
  refine with_tabW session_Copy.tab1 session_Copy.bits1 (fun HT_ HW_ => ?_)
  generalize w2.drew = w3 at BK1 BK2 HB hHeld ⊢
  refine pA_ 0 4 #[true, false, false, false, false, false, false, false, false, false] HT_.out ?_
  refine pA_ 3 7 #[true, false, false, true, false, false, false, false, false, false] HT_.out ?_
  refine tA_ 1 5 #[true, true, false, true, false, false, false, false, false, false] HT_.out HW_.out hHeld ?_
  refine tA_ 4 8 #[true, true, false, true, true, false, false, false, false, false] HT_.out HW_.out hHeld ?_
  refine one_ (i := 2) (N := some 6) #[true, true, true, true, true, false, false, false, false, false] rfl rfl (one_of HT_.out (by kernel_rfl)) (by decide) (fun K hK => ?_)
  refine goes_ Tryd.func20 (by kernel_rfl) rfl #[.slice A0_0 l0_0.length c0_0] (by rfl) rfl rfl hL_ ?_
  refine (clN.calls A0_0 c0_0 l0_0 w _ HB.out HR0.out HL0.out).mono ?_
  rintro e w4 ⟨v0, rfl, ho0, hb⟩
  refine ⟨_, rfl, ?_⟩
  have HO0 := Aside0.mk (Kd.R_lower ho0 HB.out.size)
  have BK1' := Aside0.mk (blk_below BK1.out hb)
  have BK2' := Aside0.mk (blk_below BK2.out hb)
  have HB' := Aside0.mk (below_step HB.out hb)
  clear BK1 BK2 ho0 hb
  obtain ⟨Ao, co, e0⟩ := Kd.R_slice HO0.out
  subst e0
  refine hK.out _ _ ⟨bc0_ BK1'.out, bc2_ BK1'.out⟩ (fun hHeld => ?_)
  clear hK K
  refine norm_ (a' := ?_) ?_ ?_
  rotate_left
  · show Act.put _ (some 6) _ = _
    simp only [Act.put, List.setIfInBounds_toArray, List.set_cons_zero, List.set_cons_succ, i64_w, i32_w]
    rfl
  refine pA_ 6 10 #[true, true, true, true, true, false, true, false, false, false] HT_.out ?_
  refine one_ (i := 5) (N := some 9) #[true, true, true, true, true, true, true, false, false, false] rfl rfl (one_of HT_.out (by kernel_rfl)) (by decide) (fun K hK => ?_)
  refine goes_ Tryd.func21 (by kernel_rfl) rfl #[.slice A0_2 l0_2.length c0_2] (by rfl) rfl rfl hL_ ?_
  refine (clA.calls A0_2 c0_2 l0_2 w _ HB'.out HR2.out HL2.out).mono ?_
  rintro e w5 ⟨v2, rfl, ho2, hb⟩
  refine ⟨_, rfl, ?_⟩
  have HO2 := Aside0.mk (borA (Kd.R_lower ho2 HB'.out.size))
  have HO0' := Aside0.mk (Kd.R_below HO0.out hb)
  have BK1 := Aside0.mk (blk_below BK1'.out hb)
  have BK2 := Aside0.mk (blk_below BK2'.out hb)
  have HB5 := Aside0.mk (below_step HB'.out hb)
  clear BK1' BK2' ho2 hb HO0 HB'
  obtain ⟨Ao2, co2, e2⟩ := Kd.R_slice HO2.out
  subst e2
  refine hK.out _ _ ⟨bc0_ BK1.out, bc2_ BK1.out⟩ (fun hHeld => ?_)
  clear hK K
  refine norm_ (a' := ?_) ?_ ?_
  rotate_left
  · show Act.put _ (some 9) _ = _
    simp only [Act.put, List.setIfInBounds_toArray, List.set_cons_zero, List.set_cons_succ, i64_w, i32_w]
    rfl
  refine last_ (i := 7) (N := none) #[true, true, true, true, true, true, true, true, false, false] rfl rfl (one_of HT_.out (by kernel_rfl)) (by decide) (fun K hK => ?_)
  obtain ⟨hc0, hc1, hc2, hf0, hf1, hf2⟩ := bx3_ BK1.out
  refine skip_ (w1 := ?_) (by rfl) rfl ?_ ?_
  rotate_left
  · go_simp
    rfl
  refine hK.out _ _ ?_
  clear hK K hc0 hc1 hc2 hf0 hf1 hf2 hHeld
  have n0_ : Aside0 _ := Aside0.mk (bP_ (u := .slice Ao l0_0.length co) (i := 0) (cs' := #[.slice Ao l0_0.length co, .int .i64 a0_1, .slice A0_2 l0_2.length c0_2]) BK1.out)
  have n1_ := Aside0.mk (bF_ (p := ⟨gb1, 0, none⟩) (u := .slice Ao l0_0.length co) BK2.out (Ne.symm NB.out))
  have n2_ := Aside0.mk (Kd.R_drop (rF_ (j := 0) (u := .slice Ao l0_0.length co) (Kd.R_types HO0'.out BK1.out (show ∀ q, q ∈ ([41, 9] : List Nat) → q ≠ 27 by decide))))
  have n3_ := Aside0.mk (Kd.R_drop (rF_ (j := 0) (u := .slice Ao l0_0.length co) (Kd.R_types HO2.out BK1.out (by decide))))
  have n4_ := Aside0.mk (below_set (j := 0) (v := .slice Ao l0_0.length co) HB5.out GE1.out)
  clear BK1 BK2 HO0' HO2 HB5
  have BK1 := n0_
  have BK2 := n1_
  have HO0' := n2_
  have HO2 := n3_
  have HB5 := n4_
  clear n0_ n1_ n2_ n3_ n4_
  generalize w5.setCell ⟨gb1, 0, none⟩ (.slice Ao l0_0.length co) = w6 at BK1 BK2 HO0' HO2 HB5 ⊢
  refine pA_ 8 11 #[true, true, true, true, true, true, true, true, true, false] HT_.out ?_
  refine last_ (i := 9) (N := none) #[true, true, true, true, true, true, true, true, true, true] rfl rfl (one_of HT_.out (by kernel_rfl)) (by decide) (fun K hK => ?_)
  obtain ⟨hc0, hc1, hc2, hf0, hf1, hf2⟩ := bx3_ BK1.out
  refine skip_ (w1 := ?_) (by rfl) rfl ?_ ?_
  rotate_left
  · go_simp
    rfl
  refine hK.out _ _ ?_
  clear hK K hc0 hc1 hc2 hf0 hf1 hf2
  have n0_ := Aside0.mk (bP_ (u := .slice Ao2 l0_2.length co2) (i := 2) (cs' := #[.slice Ao l0_0.length co, .int .i64 a0_1, .slice Ao2 l0_2.length co2]) BK1.out)
  have n1_ := Aside0.mk (bF_ (p := ⟨gb1, 2, none⟩) (u := .slice Ao2 l0_2.length co2) BK2.out (Ne.symm NB.out))
  have n2_ := Aside0.mk (Kd.R_drop (rF_ (j := 2) (u := .slice Ao2 l0_2.length co2) (Kd.R_types HO0'.out BK1.out (show ∀ q, q ∈ ([41, 9] : List Nat) → q ≠ 27 by decide))))
  have n3_ := Aside0.mk (Kd.R_drop (rF_ (j := 2) (u := .slice Ao2 l0_2.length co2) (Kd.R_types HO2.out BK1.out (by decide))))
  have n4_ := Aside0.mk (below_set (j := 2) (v := .slice Ao2 l0_2.length co2) HB5.out GE1.out)
  clear BK1 BK2 HO0' HO2 HB5
  have BK1 := n0_
  have BK2 := n1_
  have HO0' := n2_
  have HO2 := n3_
  have HB5 := n4_
  clear n0_ n1_ n2_ n3_ n4_
  generalize w6.setCell ⟨gb1, 2, none⟩ (.slice Ao2 l0_2.length co2) = w7 at BK1 BK2 HO0' HO2 HB5 ⊢
  refine done_ (done_of HT_.out (by kernel_rfl)) ?_
  clear HT_ HW_
  have HM := Aside0.mk (mix_start (f := fun _ => 0) HO0'.out)
  clear HO0'
  obtain ⟨hc0, hc1, hc2, hf0, hf1, hf2⟩ := bx3_ BK1.out
  go_wp2
  clear hc0 hc1 hc2 hf0 hf1 hf2
  go_loopw [15] (fun v wr => ∃ x : Int, v = .int .i64 x ∧ Aside0 (0 ≤ x ∧ x ≤ (l0_0.length : Int)) ∧ Aside0 (wr.heap[gb1]? = some (.cells #[.slice Ao l0_0.length co, .int .i64 a0_1, .slice Ao2 l0_2.length co2] 27 (0, 0))) ∧ Aside0 (wr.heap[gb2]? = some (.cells #[.slice none 0 0, .int .i64 0, .slice none 0 0] 27 (0, 0))) ∧ Aside0 (k29.R 29 wr w.heap.size (fun _ => True) (.slice Ao2 l0_2.length co2) l0_2) ∧ Aside0 (Below w.heap.size w wr) ∧ Aside0 (∃ f, (mixK w f k41).R 41 wr w.heap.size (fun _ => True) (.slice Ao l0_0.length co) (mixL l0_0 x.toNat))) (fun v _ => l0_0.length - (intOf v).toNat)
  case atStart => exact ⟨0, rfl, ⟨by omega, by omega⟩, BK1, BK2, HO2, HB5, ⟨⟨_, HM.out⟩⟩⟩
  case round =>
    clear BK1 BK2 HO2 HB5 HM
    obtain ⟨x, rfl, HX, BK1, BK2, HO2, HB, HM⟩ := hrel
    by_cases hlt : x < (l0_0.length : Int)
    case neg =>
      have hltb := decide_eq_false hlt
      obtain ⟨f, hM⟩ := HM.out
      have hxl : x.toNat = l0_0.length := by have := HX.out; omega
      rw [hxl] at hM
      have hS := Aside0.mk (mix_end hM)
      obtain ⟨hc0, hc1, hc2, hf0, hf1, hf2⟩ := bx3_ BK1.out
      obtain ⟨kc0, kc1, kc2, kf0, kf1, kf2⟩ := bx3_ BK2.out
      have hn1 := NB.out
      have hn2 := Ne.symm NB.out
      clear hM HM hlt hxl
      go_wp2
      refine bodyPost_ret (results_cell_row rfl _ _ gb2 27 #[.slice Ao l0_0.length co, .int .i64 a0_1, .slice Ao2 l0_2.length co2] (0, 0) _ rfl (bP_ (i := 2) (cs' := #[.slice Ao l0_0.length co, .int .i64 a0_1, .slice Ao2 l0_2.length co2]) (bP_ (i := 1) (cs' := #[.slice Ao l0_0.length co, .int .i64 a0_1, .slice none 0 0]) (bP_ (i := 0) (cs' := #[.slice Ao l0_0.length co, .int .i64 0, .slice none 0 0]) BK2.out))) hu rfl (by kernel_rfl)) rfl ?_
      refine ⟨_, _, rfl, ?_, ?_, ?_⟩
      · exact Kd.S_mono (sF_ (sF_ (sF_ (Kd.S_types hS.out BK2.out (show ∀ q, q ∈ ([41, 9] : List Nat) → q ≠ 27 by decide))))) (fun _ _ => trivial)
      · exact Kd.R_mono (rF_ (rF_ (rF_ (Kd.R_types HO2.out BK2.out (by decide))))) (fun _ _ => trivial)
      · exact below_set (below_set (below_set HB.out GE2.out) GE2.out) GE2.out
    have hltb := decide_eq_true hlt
    obtain ⟨f, hM⟩ := HM.out
    have hx0 := HX.out.1
    obtain ⟨g, cap, e, hbg, hgl, cells, hgc⟩ := Kd.R_form hM (by rw [mixL_len]; omega)
    rw [mixL_len] at e
    injection e with e1 e2_ e3
    subst e1 e3
    obtain ⟨c, hcl, hcM, hcc, hfz⟩ := Kd.R_elem hM (z41, none) x hx0 (by omega)
    rw [mixL_rd l0_0 x hx0 hlt] at hcM
    obtain ⟨A2e, c2e, rfl, hl2e, hC2e⟩ := k41_open (show k41.K w (rd_T41 l0_0 x) c from hcM)
    have hcell : wr.drew.cell? ⟨g, x.toNat * 4 + 2, none⟩ = some (.slice A2e (rd_T41 l0_0 x).f2.length c2e) := hcc 2 _ rfl
    have HF := Aside0.mk (show (rd_T41 l0_0 x).f2.length * 16 ≤ 140737488355328 by have := HLa.out _ (rd_mem_N l0_0 x hx0 hlt); omega)
    have HE := Aside0.mk (And.intro hx0 (And.intro hlt (And.intro hbg (And.intro hl2e hC2e))))
    have HM' := Aside0.mk (Kd.R_drew hM)
    have HCC := Aside0.mk (show ∀ j u, [Value.int .i64 (rd_T41 l0_0 x).f0, .int .i64 (rd_T41 l0_0 x).f1, .slice A2e (rd_T41 l0_0 x).f2.length c2e, .string (rd_T41 l0_0 x).f3][j]? = some u → wr.drew.cell? ⟨g, x.toNat * 4 + j, none⟩ = some u from hcc)
    have HGC := Aside0.mk (show wr.drew.heap[g]? = some (.cells cells 41 (0, 0)) from hgc)
    have n0_ := Aside0.mk (blk_drew BK1.out)
    have n1_ := Aside0.mk (blk_drew BK2.out)
    have n2_ := Aside0.mk (below_drew1 HB.out)
    have n3_ := Aside0.mk (Kd.R_drew HO2.out)
    clear BK1 BK2 HB HO2
    have BK1 := n0_
    have BK2 := n1_
    have HB := n2_
    have HO2 := n3_
    clear n0_ n1_ n2_ n3_
    clear HM hM hbg hgl hgc hcl hcM hcc hfz hl2e hC2e
    have hlt_ := eq_true hlt
    have hx0_ := eq_true hx0
    have hu1 := Tryd.underlying41
    have hu2 := Tryd.underlying23
    clear hlt hx0
    have HX0 := Aside0.mk hcell
    clear hcell
    go_wp2
    have hcell := HX0.out
    refine start_ (n := 13) (S := fun w' => w'.cell? ⟨gb1, 0, none⟩ = some (.slice (some ⟨g, 0, none⟩) l0_0.length co) ∧ w'.cell? ⟨g, x.toNat * 4 + 2, none⟩ = some (.slice A2e (rd_T41 l0_0 x).f2.length c2e)) (ds := [12]) #[false, false, false, false, false, false, false, false, false, false, false, false, false] (by kernel_rfl) rfl rfl ⟨bc0_ BK1.out, hcell⟩ (fun hHeld => ?_)
    refine with_tabW session_Copy.tab5 session_Copy.bits5 (fun HT_ HW_ => ?_)
    clear hcell HX0
    generalize wr.drew = w3 at BK1 BK2 HB HO2 HM' HCC HGC hHeld ⊢
    refine pA_ 0 18 #[true, false, false, false, false, false, false, false, false, false, false, false, false] HT_.out ?_
    refine pA_ 2 20 #[true, false, true, false, false, false, false, false, false, false, false, false, false] HT_.out ?_
    refine pA_ 3 21 #[true, false, true, true, false, false, false, false, false, false, false, false, false] HT_.out ?_
    refine pA_ 5 23 #[true, false, true, true, false, true, false, false, false, false, false, false, false] HT_.out ?_
    refine tA_ 1 19 #[true, true, true, true, false, true, false, false, false, false, false, false, false] HT_.out HW_.out hHeld ?_
    refine tA_ 4 22 #[true, true, true, true, true, true, false, false, false, false, false, false, false] HT_.out HW_.out hHeld ?_
    refine pA_ 6 24 #[true, true, true, true, true, true, true, false, false, false, false, false, false] HT_.out ?_
    refine pA_ 7 25 #[true, true, true, true, true, true, true, true, false, false, false, false, false] HT_.out ?_
    refine tA_ 8 26 #[true, true, true, true, true, true, true, true, true, false, false, false, false] HT_.out HW_.out hHeld ?_
    refine one_ (i := 9) (N := some 27) #[true, true, true, true, true, true, true, true, true, true, false, false, false] rfl rfl (one_of HT_.out (by kernel_rfl)) (by decide) (fun K hK => ?_)
    refine goes_ Tryd.func22 (by kernel_rfl) rfl #[.slice A2e (rd_T41 l0_0 x).f2.length c2e] (by rfl) rfl rfl hL_ ?_
    refine (clS.calls A2e c2e (rd_T41 l0_0 x).f2 w _ HB.out HE.out.2.2.2.2 HF.out).mono ?_
    rintro e w4 ⟨v5, rfl, ho, hb⟩
    refine ⟨_, rfl, ?_⟩
    have HOS := Aside0.mk (borS ho)
    obtain ⟨A5, c5, e5⟩ := Kd.R_slice HOS.out
    subst e5
    have n0_ := Aside0.mk (blk_below BK1.out hb)
    have n1_ := Aside0.mk (blk_below BK2.out hb)
    have n2_ := Aside0.mk (below_step HB.out hb)
    have n3_ := Aside0.mk (Kd.R_below HO2.out hb)
    have n4_ := Aside0.mk (And.intro HM'.out hb)
    have HGL := Aside0.mk (blk_lt HGC.out)
    have n5_ := Aside0.mk (blk_below HGC.out hb)
    have HCC' := Aside0.mk (fun j u (hu : [Value.int .i64 (rd_T41 l0_0 x).f0, .int .i64 (rd_T41 l0_0 x).f1, .slice A2e (rd_T41 l0_0 x).f2.length c2e, .string (rd_T41 l0_0 x).f3][j]? = some u) => (hb.cell (World.block_lt_of_cell? w3 _ (HCC.out j u hu))).trans (HCC.out j u hu))
    clear BK1 BK2 HB HO2 HM' HGC
    have BK1 := n0_
    have BK2 := n1_
    have HB := n2_
    have HO2 := n3_
    have HM' := n4_
    have HGC := n5_
    clear n0_ n1_ n2_ n3_ n4_ n5_
    clear HCC ho hb
    refine hK.out _ _ ⟨bc0_ BK1.out, HCC'.out 2 _ rfl⟩ (fun hHeld => ?_)
    clear hK K
    refine norm_ (a' := ?_) ?_ ?_
    rotate_left
    · show Act.put _ (some 27) _ = _
      simp only [Act.put, List.setIfInBounds_toArray, List.set_cons_zero, List.set_cons_succ, i64_w, i32_w]
      rfl
    refine pA_ 10 28 #[true, true, true, true, true, true, true, true, true, true, true, false, false] HT_.out ?_
    refine pA_ 11 29 #[true, true, true, true, true, true, true, true, true, true, true, true, false] HT_.out ?_
    refine last_ (i := 12) (N := none) #[true, true, true, true, true, true, true, true, true, true, true, true, true] rfl rfl (one_of HT_.out (by kernel_rfl)) (by decide) (fun K hK => ?_)
    have hcell := HCC'.out 2 _ rfl
    have hfrz := blk_frozen HGC.out (x.toNat * 4 + 2)
    refine skip_ (w1 := ?_) (by rfl) rfl ?_ ?_
    rotate_left
    · go_simp
      rfl
    refine hK.out _ _ ?_
    clear hK K hHeld
    refine done_ (done_of HT_.out (by kernel_rfl)) ?_
    go_wp2
    obtain ⟨hx0, hlt, hbg, hl2e, hC2e⟩ := HE.out
    have hw : wrap64 (x + 1) = x + 1 := wsuccN x hx0 (by have := hmx.out; omega)
    have hng1 : gb1 ≠ g := blk_ne BK1.out HGC.out (by decide)
    have hng2 : gb2 ≠ g := blk_ne BK2.out HGC.out (by decide)
    have hR' := Kd.R_below (mix_tag (f' := fun k => if k < w3.heap.size then f k else x.toNat) HM'.out.1 (fun k hk => by rw [if_pos hk])) HM'.out.2
    have hST : Kd.string.R 9 w4 w.heap.size (fun k => w3.heap.size ≤ k ∧ (if k < w3.heap.size then f k else x.toNat) = x.toNat) (.slice A5 (rd_T41 l0_0 x).f2.length c5) (rd_T41 l0_0 x).f2 := Kd.R_lower (Kd.R_mono (Kd.R_bound HOS.out) (fun k hk => ⟨hk.2.1, by rw [if_neg (Nat.not_lt.2 hk.2.1)]⟩)) (Nat.le_trans hbg (Nat.le_of_lt HGL.out))
    have hSEG := (Kd.R_seg (okp := fun k => w3.heap.size ≤ k) hR' x hx0 (by omega) (seg := [.slice A5 (rd_T41 l0_0 x).f2.length c5]) (j := 2) (x' := (rd_T41 l0_0 x, some x.toNat)) rfl HCC'.out (show 2 + 1 ≤ 4 by decide) (k41_mkM w4 w.heap.size _ (rd_T41 l0_0 x) hST) (fun k hk => ⟨trivial, fun e => by have := HGL.out; omega⟩)).1
    rw [mixL_set l0_0 x.toNat (rd_T41 l0_0 x) (rd_some_N l0_0 x hx0 hlt)] at hSEG
    rw [hw]
    refine ⟨⟨x + 1, rfl, ⟨by omega, by omega⟩, ⟨bF_ (p := ⟨g, x.toNat * 4 + 2, none⟩) (u := .slice A5 (rd_T41 l0_0 x).f2.length c5) BK1.out hng1⟩, ⟨bF_ (p := ⟨g, x.toNat * 4 + 2, none⟩) (u := .slice A5 (rd_T41 l0_0 x).f2.length c5) BK2.out hng2⟩, ⟨Kd.R_drop (Kd.R_far (p := ⟨g, x.toNat * 4 + 2, none⟩) (Kd.R_types HO2.out HGC.out (by decide)) (fun _ hk => hk.2) (.slice A5 (rd_T41 l0_0 x).f2.length c5))⟩, ⟨HB.out.setCell (p := ⟨g, x.toNat * 4 + 2, none⟩) hbg (.slice A5 (rd_T41 l0_0 x).f2.length c5)⟩, ⟨⟨fun k => if k < w3.heap.size then f k else x.toNat, ?_⟩⟩⟩, by simp only [intOf]; omega⟩
    rw [show (x + 1).toNat = x.toNat + 1 by omega]
    exact hSEG
theorem session_Copy.calls (A0_0 : Option Addr) (c0_0 : Nat) (l0_0 : List S41) (a0_1 : Int) (A0_2 : Option Addr) (c0_2 : Nat) (l0_2 : List S29) (r1 : List S41) (r2 : Int) (r3 : List S29) (w : World) (hr0_0 : Kd.C k41 w A0_0 l0_0.length l0_0) (hc0_0 : l0_0.length ≤ c0_0) (hr0_2 : Kd.C k29 w A0_2 l0_2.length l0_2) (hc0_2 : l0_2.length ≤ c0_2) (h : session_Copy.f l0_0 a0_1 l0_2 = some (r1, r2, r3)) :
    Calls Tryd.prog 14 #[.agg #[.slice A0_0 l0_0.length c0_0, .int .i64 a0_1, .slice A0_2 l0_2.length c0_2]] w fun e w' => ∃ v0_ v2_ : Value, e = .returned (.agg #[v0_, .int .i64 r2, v2_]) ∧ Kd.S k41 41 w' w.heap.size (fun _ => True) v0_ r1 ∧ Kd.R k29 29 w' w.heap.size (fun _ => True) v2_ r3 ∧ Below w.heap.size w w' := by
  unfold session_Copy.f at h
  by_cases c : sc_fit l0_0 l0_2 = true
  case neg =>
    rw [if_neg c] at h; cases h

  rw [if_pos c] at h
  obtain ⟨rfl, h2⟩ := Prod.mk.inj (Option.some.inj h)
  obtain ⟨rfl, rfl⟩ := Prod.mk.inj h2
  refine (session_Copy.callsS A0_0 c0_0 l0_0 a0_1 A0_2 c0_2 l0_2 w hr0_0 hc0_0 hr0_2 hc0_2 c).mono ?_
  rintro e w' ⟨v0, v2, h1, h2, h3, h4⟩
  exact ⟨v0, v2, h1, h2, h3, h4⟩
end Go.Proofs.YtbnljapgnfmmoaaDoor.G
end
section
-- Laid by the session's own driver gp.py over the kit's printer. Not trusted: Lean checks it.
namespace Go.Proofs.YtbnljapgnfmmoaaDoor.G
open Go.RowKit Go.Proofs.YtbnljapgnfmmoaaDoorW.PrintWords Go.Proofs.YtbnljapgnfmmoaaDoorW.PrintLast Go.Proofs.YtbnljapgnfmmoaaDoorW.PrintMore
attribute [local go_sem] max2_int min2_int max_two min_two max_three min_three max_four min_four   -- for this text's walks alone
set_option linter.unusedVariables false
set_option linter.unusedSimpArgs false

/-! ### answer_Put: function 6 -/
def answer_Put.j0 : Nat → Int → Bool → List (S41) → Int → List (S29) → Option ((List (S41)) × Int × (List (S29)) × Int)
  | 0, _, _, _, _, _ => none
  | k + 1, x1, x16, x194000, x194001, x194002 => if x16 = true then (some (([] : List (S41)), 0, ([] : List (S29)), 2200)) else ((next_Step.f k x194000 x194001 x194002).bind fun bt197 => (if bt197.1 = 0 then ((session_Copy.f x194000 x194001 x194002).bind fun bt201 => (if bt201.2.2.length < 8796093022208 then (some (bt201.1, bt201.2.1, (bt201.2.2 ++ [(⟨bt197.2.1, x1⟩ : S29)]), 0)) else (none))) else (some (([] : List (S41)), 0, ([] : List (S29)), 2201))))
def answer_Put.f (k : Nat) (l0_0 : List (S41)) (a0_1 : Int) (l0_2 : List (S29)) (a1 : Int) : Option ((List (S41)) × Int × (List (S29)) × Int) := (session_May.f k l0_0 a0_1 l0_2).bind fun t195 => (if t195 = true then ((next_Mark.f a1).bind fun t196 => (answer_Put.j0 k a1 (!t196) l0_0 a0_1 l0_2)) else (answer_Put.j0 k a1 true l0_0 a0_1 l0_2))
theorem answer_Put.mono_l : ∀ k, (∀ y0 y1 y2 y3 y4, LeO (answer_Put.j0 k y0 y1 y2 y3 y4) (answer_Put.j0 (k + 1) y0 y1 y2 y3 y4))
  | 0 => fun _ _ _ _ _ r h => by simp [answer_Put.j0] at h
  | k + 1 => by
    have ih0 := answer_Put.mono_l k
    · intro y0 y1 y2 y3 y4
      unfold answer_Put.j0
      repeat' first
      | (with_reducible exact ih0 _ _ _ _ _)
      | (with_reducible exact next_Step.mono _ _ _ _)
      | (with_reducible exact session_May.mono _ _ _ _)
      | (with_reducible exact LeO.refl _)
      | (with_reducible exact LeO.none _)
      | (with_reducible refine LeO.ite ?_ ?_)
      | (with_reducible refine LeO.bind ?_ (fun _ => ?_))
      | exact ih0 _ _ _ _ _
      | exact next_Step.mono _ _ _ _
      | exact session_May.mono _ _ _ _
      | exact LeO.none _
      | refine LeO.ite ?_ ?_
      | refine LeO.bind ?_ (fun _ => ?_)
theorem answer_Put.mono : ∀ a0 a1 a2 a3 k, LeO (answer_Put.f k a0 a1 a2 a3) (answer_Put.f (k + 1) a0 a1 a2 a3) := by
  intro a0 a1 a2 a3 k
  have ih0 := answer_Put.mono_l k
  unfold answer_Put.f
  repeat' first
      | (with_reducible exact ih0 _ _ _ _ _)
      | (with_reducible exact next_Step.mono _ _ _ _)
      | (with_reducible exact session_May.mono _ _ _ _)
      | (with_reducible exact LeO.refl _)
      | (with_reducible exact LeO.none _)
      | (with_reducible refine LeO.ite ?_ ?_)
      | (with_reducible refine LeO.bind ?_ (fun _ => ?_))
      | exact ih0 _ _ _ _ _
      | exact next_Step.mono _ _ _ _
      | exact session_May.mono _ _ _ _
      | exact LeO.none _
      | refine LeO.ite ?_ ?_
      | refine LeO.bind ?_ (fun _ => ?_)
set_option maxHeartbeats 8000000 in
set_option maxRecDepth 100000 in
theorem answer_Put.calls (k : Nat) (A0_0 : Option Addr) (c0_0 : Nat) (l0_0 : List (S41)) (a0_1 : Int) (A0_2 : Option Addr) (c0_2 : Nat) (l0_2 : List (S29)) (a1 : Int) (r1 : List (S41)) (r2 : Int) (r3 : List (S29)) (r4 : Int) (w : World) (hr0_0 : Kd.C k41 w A0_0 l0_0.length l0_0) (hc0_0 : l0_0.length ≤ c0_0) (hr0_2 : Kd.C k29 w A0_2 l0_2.length l0_2) (hc0_2 : l0_2.length ≤ c0_2) (h : answer_Put.f k l0_0 a0_1 l0_2 a1 = some (r1, r2, r3, r4)) (hG : GOK w) :
    Calls Tryd.prog 6 #[.agg #[.slice A0_0 l0_0.length c0_0, .int .i64 a0_1, .slice A0_2 l0_2.length c0_2], .int .i64 a1] w fun e w' => ∃ v0_ v2_ : Value, e = .returned (.tuple #[.agg #[v0_, .int .i64 r2, v2_], .int .i64 r4]) ∧ Kd.S k41 41 w' w.heap.size (fun _ => True) v0_ r1 ∧ Kd.R k29 29 w' w.heap.size (fun _ => True) v2_ r3 ∧ Below w.heap.size w w' := by
  have hu27 := Tryd.underlying27
  have hu45 := Tryd.underlying45
  have hu29 := Tryd.underlying29
  have HR0_0 := Aside0.mk hr0_0
  have HC0_0 := Aside0.mk hc0_0
  clear hr0_0 hc0_0
  have HR0_2 := Aside0.mk hr0_2
  have HC0_2 := Aside0.mk hc0_2
  clear hr0_2 hc0_2
  have HB := Aside0.mk (Below.refl w.heap.size w)
  have H : ((session_May.f k l0_0 a0_1 l0_2).bind fun t195 => (if t195 = true then ((next_Mark.f a1).bind fun t196 => (answer_Put.j0 k a1 (!t196) l0_0 a0_1 l0_2)) else (answer_Put.j0 k a1 true l0_0 a0_1 l0_2))) = some (r1, r2, r3, r4) := h
  clear h
  have HC3 := Aside0.mk H
  clear H
  go_enter Tryd.func6, Tryd.ntmps6
  go_upto_region 1 with (first | ((with_reducible refine gate_dst (N := 2) rfl ?_); refine boxE_ 2 #[.slice A0_0 l0_0.length c0_0, .int .i64 a0_1, .slice A0_2 l0_2.length c0_2] 27 ?_; intro gb193 hg w4 hbox hb; have n0_ := Aside0.mk (below_step hB_ hb); have n1_ := Aside0.mk (hbox); have n2_ := Aside0.mk ((gE_ hg : w.heap.size ≤ gb193)); have n3_ := Aside0.mk ((gE_ hg : w.heap.size ≤ gb193)); clear HB; have HB := n0_; have BK193 := n1_; have GW193 := n2_; have GE193 := n3_; clear n0_ n1_ n2_ n3_; clear hb hbox hg) | ((with_reducible refine gate_dst (N := 4) rfl ?_); refine boxE_ 4 #[.slice none 0 0, .int .i64 0, .slice none 0 0] 27 ?_; intro gb194 hg w5 hbox hb; have n0_ := Aside0.mk (bB_ BK193.out hb); have n1_ := Aside0.mk (below_step hC_ hb); have n2_ := Aside0.mk (hbox); have n3_ := Aside0.mk ((gE_ hg : w.heap.size ≤ gb194)); have n4_ := Aside0.mk ((gE_ hg : w.heap.size ≤ gb194)); have n5_ := Aside0.mk ((bL_ BK193.out hg : gb193 ≠ gb194)); have n6_ := Aside0.mk ((bG_ BK193.out hg : gb194 ≠ gb193)); clear BK193 HB; have BK193 := n0_; have HB := n1_; have BK194 := n2_; have GW194 := n3_; have GE194 := n4_; have NB193_194 := n5_; have NB194_193 := n6_; clear n0_ n1_ n2_ n3_ n4_ n5_ n6_; clear hb hbox hg))
  (try simp only [Act.put, List.setIfInBounds_toArray, List.set_cons_zero, List.set_cons_succ])
  go_cut [16] (fun v16 wc => ∃ (kq : Nat) (x16_2 : Bool), v16 = .bool x16_2 ∧ Aside0 (answer_Put.j0 kq a1 x16_2 l0_0 a0_1 l0_2 = some (r1, r2, r3, r4)) ∧ Aside0 (kq ≤ k) ∧ Aside0 (wc.heap[gb193]? = some (.cells #[(.slice A0_0 l0_0.length c0_0), .int .i64 a0_1, (.slice A0_2 l0_2.length c0_2)] 27 (0, 0))) ∧ Aside0 (wc.heap[gb194]? = some (.cells #[(.slice none 0 0), .int .i64 0, (.slice none 0 0)] 27 (0, 0))) ∧ Aside0 (Below w.heap.size w wc))
  case first =>
    have H := HC3.out
    clear HC3
    replace H := Option.bind_eq_some_iff.mp H
    obtain ⟨t195, A60, H⟩ := H
    replace H : (if t195 = true then ((next_Mark.f a1).bind fun t196 => (answer_Put.j0 k a1 (!t196) l0_0 a0_1 l0_2)) else (answer_Put.j0 k a1 true l0_0 a0_1 l0_2)) = some (r1, r2, r3, r4) := H
    have A6 := Aside0.mk A60
    clear A60
    by_cases c7 : t195 = true
    case neg =>
      replace c7 := Bool.eq_false_iff.mpr c7
      subst c7
      have H1 : (answer_Put.j0 k a1 true l0_0 a0_1 l0_2) = some (r1, r2, r3, r4) := by rw [if_neg (show ¬ (false = true) by decide)] at H; exact H
      clear H
      have H := H1
      clear H1
      have H' := Aside0.mk H
      clear H
      have hnb12 := NB193_194.out
      have hnc12 := NB194_193.out
      obtain ⟨hcz13_0, hcz13_1, hcz13_2, hfz13_0, hfz13_1, hfz13_2⟩ := bx3_ BK193.out
      go_wp2_with (first | ((with_reducible refine gate_callee (f := 11) rfl ?_); refine goesL_ (some 10) rfl rfl Tryd.func11 (by kernel_rfl) rfl #[.agg #[.slice A0_0 l0_0.length c0_0, .int .i64 a0_1, .slice A0_2 l0_2.length c0_2]] rfl hL_ ?_; (with_reducible refine (session_May.calls k _ _ l0_0 a0_1 _ _ l0_2 false _ ?side1 ?side2 ?side3 ?side4 A6.out (by first | exact hG | exact GOK.below hG hC_)).mono ?_); (case side1 => exact cB_ HR0_0.out); (case side2 => exact HC0_0.out); (case side3 => exact cB_ HR0_2.out); (case side4 => exact HC0_2.out); rintro e w14 ⟨rfl, hb⟩; refine ⟨_, rfl, ?_⟩; have n0_ := Aside0.mk (bB_ BK193.out hb); have n1_ := Aside0.mk (bB_ BK194.out hb); have n2_ := Aside0.mk (below_step hC_ hb); clear BK193 BK194 HB; have BK193 := n0_; have BK194 := n1_; have HB := n2_; clear n0_ n1_ n2_; (try clear hb); (try clear hb2); (try clear hk); (try clear hi)))
      go_meet
      case rel => exact ⟨_, (true), hW_, H', ⟨by first | omega | exact Nat.le_refl _⟩, ⟨(hK_ BK193.out)⟩, ⟨(hK_ BK194.out)⟩, ⟨hC_⟩⟩
    subst c7
    have H1 : ((next_Mark.f a1).bind fun t196 => (answer_Put.j0 k a1 (!t196) l0_0 a0_1 l0_2)) = some (r1, r2, r3, r4) := by rw [if_pos rfl] at H; exact H
    clear H
    have H := H1
    clear H1
    replace H := Option.bind_eq_some_iff.mp H
    obtain ⟨t196, A80, H⟩ := H
    replace H : (answer_Put.j0 k a1 (!t196) l0_0 a0_1 l0_2) = some (r1, r2, r3, r4) := H
    have A8 := Aside0.mk A80
    clear A80
    have H' := Aside0.mk H
    clear H
    have hnb9 := NB193_194.out
    have hnc9 := NB194_193.out
    obtain ⟨hcz10_0, hcz10_1, hcz10_2, hfz10_0, hfz10_1, hfz10_2⟩ := bx3_ BK193.out
    go_wp2_with (first | ((with_reducible refine gate_callee (f := 11) rfl ?_); refine goesL_ (some 10) rfl rfl Tryd.func11 (by kernel_rfl) rfl #[.agg #[.slice A0_0 l0_0.length c0_0, .int .i64 a0_1, .slice A0_2 l0_2.length c0_2]] rfl hL_ ?_; (with_reducible refine (session_May.calls k _ _ l0_0 a0_1 _ _ l0_2 true _ ?side1 ?side2 ?side3 ?side4 A6.out (by first | exact hG | exact GOK.below hG hC_)).mono ?_); (case side1 => exact cB_ HR0_0.out); (case side2 => exact HC0_0.out); (case side3 => exact cB_ HR0_2.out); (case side4 => exact HC0_2.out); rintro e w11 ⟨rfl, hb⟩; refine ⟨_, rfl, ?_⟩; have n0_ := Aside0.mk (bB_ BK193.out hb); have n1_ := Aside0.mk (bB_ BK194.out hb); have n2_ := Aside0.mk (below_step hC_ hb); clear BK193 BK194 HB; have BK193 := n0_; have BK194 := n1_; have HB := n2_; clear n0_ n1_ n2_; (try clear hb); (try clear hb2); (try clear hk); (try clear hi)) | (go_at_call 12; (with_reducible refine (next_Mark.calls a1 t196 _ A8.out).mono ?_); rintro e w' ⟨rfl, ⟨nd, rfl⟩⟩))
    go_meet
    case rel => exact ⟨_, (!t196), hW_, H', ⟨by first | omega | exact Nat.le_refl _⟩, ⟨(hK_ BK193.out)⟩, ⟨(hK_ BK194.out)⟩, ⟨hC_⟩⟩
  case rest =>
    clear HC3
    try clear c1
    try clear p2
    try clear c6
    try clear c7
    try clear c9
    try clear c11
    try clear c12
    try clear hcz10_0
    try clear hcz10_1
    try clear hcz10_2
    try clear hcz13_0
    try clear hcz13_1
    try clear hcz13_2
    try clear hfz10_0
    try clear hfz10_1
    try clear hfz10_2
    try clear hfz13_0
    try clear hfz13_1
    try clear hfz13_2
    obtain ⟨kq, x16_2, rfl, HA, HJ2, BK193, BK194, HB⟩ := hcut
    cases kq with
    | zero => exact absurd HA.out (by simp [answer_Put.j0])
    | succ kj2 =>
      have H := HA.out
      clear HA
      simp only [answer_Put.j0] at H
      by_cases c15 : x16_2 = true
      case pos =>
        subst c15
        have H1 : (some (([] : List (S41)), 0, ([] : List (S29)), 2200)) = some (r1, r2, r3, r4) := by rw [if_pos rfl] at H; exact H
        clear H
        have H := H1
        clear H1
        simp only [Option.some.injEq, Prod.mk.injEq] at H
        obtain ⟨rfl, rfl, rfl, rfl⟩ := H
        have hnb16 := NB194_193.out
        have hnc16 := NB193_194.out
        obtain ⟨hcz17_0, hcz17_1, hcz17_2, hfz17_0, hfz17_1, hfz17_2⟩ := bx3_ BK194.out
        go_wp2
        refine bodyPost_ret (results_ct rfl _ _ gb194 27 #[.slice none 0 0, .int .i64 0, .slice none 0 0] (0, 0) _ rfl (bP_ (bP_ (bP_ (hK_ BK194.out)))) Tryd.underlying27 rfl (by kernel_rfl)) rfl ?_
        exact ⟨_, _, hV_, by first | exact Kd.S_nil _ _ _ _ _ | exact Kd.N_nil _ _ _ _ _ | exact Kd.V_nil _ _ _ _ _ | exact Kd.Q_nil _ _ _ _ _ | exact Kd.R_nil _ _ _ _ _, by first | exact Kd.R_nil _ _ _ _ _ | exact Kd.N_nil _ _ _ _ _ | exact Kd.V_nil _ _ _ _ _ | exact Kd.Q_nil _ _ _ _ _ | exact Kd.S_nil _ _ _ _ _, hC_⟩
      replace c15 := Bool.eq_false_iff.mpr c15
      subst c15
      have H1 : ((next_Step.f kj2 l0_0 a0_1 l0_2).bind fun bt197 => (if bt197.1 = 0 then ((session_Copy.f l0_0 a0_1 l0_2).bind fun bt201 => (if bt201.2.2.length < 8796093022208 then (some (bt201.1, bt201.2.1, (bt201.2.2 ++ [(⟨bt197.2.1, a1⟩ : S29)]), 0)) else (none))) else (some (([] : List (S41)), 0, ([] : List (S29)), 2201)))) = some (r1, r2, r3, r4) := by rw [if_neg (show ¬ (false = true) by decide)] at H; exact H
      clear H
      have H := H1
      clear H1
      replace H := Option.bind_eq_some_iff.mp H
      obtain ⟨⟨t197, t198, t199⟩, A180, H⟩ := H
      replace H : (if t197 = 0 then ((session_Copy.f l0_0 a0_1 l0_2).bind fun bt201 => (if bt201.2.2.length < 8796093022208 then (some (bt201.1, bt201.2.1, (bt201.2.2 ++ [(⟨t198, a1⟩ : S29)]), 0)) else (none))) else (some (([] : List (S41)), 0, ([] : List (S29)), 2201))) = some (r1, r2, r3, r4) := H
      have A18 := Aside0.mk A180
      clear A180
      by_cases c19 : t197 = 0
      case neg =>
        rw [if_neg c19] at H
        have c19b0 : (t197 == 0) = false := beq_eq_false_iff_ne.mpr c19
        have c19b1 : (t197 != 0) = true := bne_iff_ne.mpr c19
        simp only [Option.some.injEq, Prod.mk.injEq] at H
        obtain ⟨rfl, rfl, rfl, rfl⟩ := H
        have hnb43 := NB193_194.out
        have hnc43 := NB194_193.out
        obtain ⟨hcz44_0, hcz44_1, hcz44_2, hfz44_0, hfz44_1, hfz44_2⟩ := bx3_ BK193.out
        go_wp2_with (first | ((with_reducible refine gate_callee (f := 13) rfl ?_); refine goesL_ (some 20) rfl rfl Tryd.func13 (by kernel_rfl) rfl #[.agg #[.slice A0_0 l0_0.length c0_0, .int .i64 a0_1, .slice A0_2 l0_2.length c0_2]] rfl hL_ ?_; (with_reducible refine (next_Step.calls kj2 _ _ l0_0 a0_1 _ _ l0_2 t197 t198 t199 _ ?side1 ?side2 ?side3 ?side4 A18.out (by first | exact hG | exact GOK.below hG hC_)).mono ?_); (case side1 => exact cB_ HR0_0.out); (case side2 => exact HC0_0.out); (case side3 => exact cB_ HR0_2.out); (case side4 => exact HC0_2.out); rintro e w45 ⟨rfl, hb⟩; refine ⟨_, rfl, ?_⟩; have n0_ := Aside0.mk (bB_ BK193.out hb); have n1_ := Aside0.mk (bB_ BK194.out hb); have n2_ := Aside0.mk (below_step hC_ hb); clear BK193 BK194 HB; have BK193 := n0_; have BK194 := n1_; have HB := n2_; clear n0_ n1_ n2_; (try clear hb); (try clear hb2); (try clear hk); (try clear hi)) | ((with_reducible refine gate_dst (N := 6) rfl ?_); refine boxE_ 6 #[.int .i64 0, .int .i64 0] 45 ?_; intro gb200 hg w46 hbox hb; have n0_ := Aside0.mk (bB_ BK193.out hb); have n1_ := Aside0.mk (bB_ BK194.out hb); have n2_ := Aside0.mk (below_step hC_ hb); have n3_ := Aside0.mk (hbox); have n4_ := Aside0.mk ((gE_ hg : w.heap.size ≤ gb200)); have n5_ := Aside0.mk ((gE_ hg : w.heap.size ≤ gb200)); have n6_ := Aside0.mk ((bL_ BK193.out hg : gb193 ≠ gb200)); have n7_ := Aside0.mk ((bG_ BK193.out hg : gb200 ≠ gb193)); have n8_ := Aside0.mk ((bL_ BK194.out hg : gb194 ≠ gb200)); have n9_ := Aside0.mk ((bG_ BK194.out hg : gb200 ≠ gb194)); clear BK193 BK194 HB; have BK193 := n0_; have BK194 := n1_; have HB := n2_; have BK200 := n3_; have GW200 := n4_; have GE200 := n5_; have NB193_200 := n6_; have NB200_193 := n7_; have NB194_200 := n8_; have NB200_194 := n9_; clear n0_ n1_ n2_ n3_ n4_ n5_ n6_ n7_ n8_ n9_; clear hb hbox hg; have hnb47 := NB200_193.out; have hnc47 := NB193_200.out; have hnb48 := NB200_194.out; have hnc48 := NB194_200.out; obtain ⟨hcz49_0, hcz49_1, hfz49_0, hfz49_1⟩ := bx2_ BK200.out; obtain ⟨hcz50_0, hcz50_1, hcz50_2, hfz50_0, hfz50_1, hfz50_2⟩ := bx3_ BK194.out))
        refine bodyPost_ret (results_ct rfl _ _ gb194 27 #[.slice none 0 0, .int .i64 0, .slice none 0 0] (0, 0) _ rfl (bP_ (bP_ (bP_ (bF_ (bF_ (hK_ BK194.out) NB194_200.out) NB194_200.out)))) Tryd.underlying27 rfl (by kernel_rfl)) rfl ?_
        exact ⟨_, _, hV_, by first | exact Kd.S_nil _ _ _ _ _ | exact Kd.N_nil _ _ _ _ _ | exact Kd.V_nil _ _ _ _ _ | exact Kd.Q_nil _ _ _ _ _ | exact Kd.R_nil _ _ _ _ _, by first | exact Kd.R_nil _ _ _ _ _ | exact Kd.N_nil _ _ _ _ _ | exact Kd.V_nil _ _ _ _ _ | exact Kd.Q_nil _ _ _ _ _ | exact Kd.S_nil _ _ _ _ _, hC_⟩

      rw [if_pos c19] at H
      have c19b0 : (t197 == 0) = true := beq_iff_eq.mpr c19
      have c19b1 : (t197 != 0) = false := bne_eq_false_iff_eq.mpr c19
      clear c19
      replace H := Option.bind_eq_some_iff.mp H
      obtain ⟨⟨t201, t204, t205⟩, A200, H⟩ := H
      replace H : (if t205.length < 8796093022208 then (some (t201, t204, (t205 ++ [(⟨t198, a1⟩ : S29)]), 0)) else (none)) = some (r1, r2, r3, r4) := H
      have A20 := Aside0.mk A200
      clear A200
      replace H := ifI_ H; obtain ⟨c21, H⟩ := H
      have LMc21 := Aside0.mk c21
      clear c21
      obtain ⟨y209, hy209⟩ : ∃ y_ : List (S29), y_ = (t205 ++ [(⟨t198, a1⟩ : S29)]) := ⟨_, rfl⟩
      replace H : (some (t201, t204, y209, 0)) = some (r1, r2, r3, r4) := by first | (rw [hy209]; with_reducible exact H) | (have H2_ := (Option.bind_some _ _).symm.trans H; rw [hy209]; with_reducible exact H2_) | (have H2_ := (Option.bind_some _ _).symm.trans H; with_reducible exact H2_) | with_reducible exact H | (rw [hy209]; exact H) | exact H
      have Ny209 := Aside0.mk hy209
      clear hy209
      simp only [Option.some.injEq, Prod.mk.injEq] at H
      obtain ⟨rfl, rfl, rfl, rfl⟩ := H
      have hnb22 := NB193_194.out
      have hnc22 := NB194_193.out
      obtain ⟨hcz23_0, hcz23_1, hcz23_2, hfz23_0, hfz23_1, hfz23_2⟩ := bx3_ BK193.out
      go_wp2_with (first | ((with_reducible refine gate_callee (f := 13) rfl ?_); refine goesL_ (some 20) rfl rfl Tryd.func13 (by kernel_rfl) rfl #[.agg #[.slice A0_0 l0_0.length c0_0, .int .i64 a0_1, .slice A0_2 l0_2.length c0_2]] rfl hL_ ?_; (with_reducible refine (next_Step.calls kj2 _ _ l0_0 a0_1 _ _ l0_2 t197 t198 t199 _ ?side1 ?side2 ?side3 ?side4 A18.out (by first | exact hG | exact GOK.below hG hC_)).mono ?_); (case side1 => exact cB_ HR0_0.out); (case side2 => exact HC0_0.out); (case side3 => exact cB_ HR0_2.out); (case side4 => exact HC0_2.out); rintro e w24 ⟨rfl, hb⟩; refine ⟨_, rfl, ?_⟩; have n0_ := Aside0.mk (bB_ BK193.out hb); have n1_ := Aside0.mk (bB_ BK194.out hb); have n2_ := Aside0.mk (below_step hC_ hb); clear BK193 BK194 HB; have BK193 := n0_; have BK194 := n1_; have HB := n2_; clear n0_ n1_ n2_; (try clear hb); (try clear hb2); (try clear hk); (try clear hi)) | ((with_reducible refine gate_dst (N := 6) rfl ?_); refine boxE_ 6 #[.int .i64 0, .int .i64 0] 45 ?_; intro gb200 hg w25 hbox hb; have n0_ := Aside0.mk (bB_ BK193.out hb); have n1_ := Aside0.mk (bB_ BK194.out hb); have n2_ := Aside0.mk (below_step hC_ hb); have n3_ := Aside0.mk (hbox); have n4_ := Aside0.mk ((gE_ hg : w.heap.size ≤ gb200)); have n5_ := Aside0.mk ((gE_ hg : w.heap.size ≤ gb200)); have n6_ := Aside0.mk ((bL_ BK193.out hg : gb193 ≠ gb200)); have n7_ := Aside0.mk ((bG_ BK193.out hg : gb200 ≠ gb193)); have n8_ := Aside0.mk ((bL_ BK194.out hg : gb194 ≠ gb200)); have n9_ := Aside0.mk ((bG_ BK194.out hg : gb200 ≠ gb194)); clear BK193 BK194 HB; have BK193 := n0_; have BK194 := n1_; have HB := n2_; have BK200 := n3_; have GW200 := n4_; have GE200 := n5_; have NB193_200 := n6_; have NB200_193 := n7_; have NB194_200 := n8_; have NB200_194 := n9_; clear n0_ n1_ n2_ n3_ n4_ n5_ n6_ n7_ n8_ n9_; clear hb hbox hg; have hnb26 := NB200_193.out; have hnc26 := NB193_200.out; have hnb27 := NB200_194.out; have hnc27 := NB194_200.out; obtain ⟨hcz28_0, hcz28_1, hfz28_0, hfz28_1⟩ := bx2_ BK200.out; obtain ⟨hcz29_0, hcz29_1, hcz29_2, hfz29_0, hfz29_1, hfz29_2⟩ := bx3_ BK193.out) | ((with_reducible refine gate_callee (f := 14) rfl ?_); refine goesL_ (some 28) rfl rfl Tryd.func14 (by kernel_rfl) rfl #[.agg #[.slice A0_0 l0_0.length c0_0, .int .i64 a0_1, .slice A0_2 l0_2.length c0_2]] rfl hL_ ?_; (with_reducible refine (session_Copy.calls _ _ l0_0 a0_1 _ _ l0_2 t201 t204 t205 _ ?side1 ?side2 ?side3 ?side4 A20.out).mono ?_); (case side1 => exact Kd.C_below HR0_0.out hC_); (case side2 => exact HC0_0.out); (case side3 => exact Kd.C_below HR0_2.out hC_); (case side4 => exact HC0_2.out); rintro e w30 ⟨v202, v206, rfl, ho0, ho1, hb⟩; refine ⟨_, rfl, ?_⟩; have n0_ := Aside0.mk (Kd.S_lower ho0 (below_size hC_)); have n1_ := Aside0.mk (Kd.R_lower ho1 (below_size hC_)); have n2_ := Aside0.mk (blk_below (g := gb193) (o := .cells #[.slice A0_0 l0_0.length c0_0, .int .i64 a0_1, .slice A0_2 l0_2.length c0_2] 27 (0, 0)) (bF_ (bF_ (hK_ BK193.out) NB193_200.out) NB193_200.out) hb); have n3_ := Aside0.mk (blk_below (g := gb194) (o := .cells #[.slice none 0 0, .int .i64 0, .slice none 0 0] 27 (0, 0)) (bF_ (bF_ (hK_ BK194.out) NB194_200.out) NB194_200.out) hb); have n4_ := Aside0.mk (blk_below (g := gb200) (o := .cells #[.int .i64 t197, .int .i64 t198] 45 (0, 0)) (bP_ (bP_ (hK_ BK200.out))) hb); have n5_ := Aside0.mk (below_step hC_ hb); clear BK193 BK194 BK200 HB; have HO203 := n0_; have HO207 := n1_; have BK193 := n2_; have BK194 := n3_; have BK200 := n4_; have HB := n5_; clear n0_ n1_ n2_ n3_ n4_ n5_; (try clear hb); (try clear hb2); (try clear hk); (try clear hi); (try clear ho0); (try clear ho1)) | ((with_reducible refine gate_dst (N := 8) rfl ?_); refine boxE_ 8 #[.slice none 0 0, .int .i64 0, .slice none 0 0] 27 ?_; intro gb208 hg w31 hbox hb; have n0_ := Aside0.mk (Kd.S_below (by (with_reducible repeat (first | apply Kd.S_alloc | apply Kd.S_drewN | apply Kd.S_drew)); exact HO203.out) hb); have n1_ := Aside0.mk (Kd.R_below (hR_ HO207.out) hb); have n2_ := Aside0.mk (bB_ BK193.out hb); have n3_ := Aside0.mk (bB_ BK194.out hb); have n4_ := Aside0.mk (bB_ BK200.out hb); have n5_ := Aside0.mk (below_step hC_ hb); have n6_ := Aside0.mk (hbox); have n7_ := Aside0.mk ((gE_ hg : w.heap.size ≤ gb208)); have n8_ := Aside0.mk ((gE_ hg : w.heap.size ≤ gb208)); have n9_ := Aside0.mk ((bL_ BK193.out hg : gb193 ≠ gb208)); have n10_ := Aside0.mk ((bG_ BK193.out hg : gb208 ≠ gb193)); have n11_ := Aside0.mk ((bL_ BK194.out hg : gb194 ≠ gb208)); have n12_ := Aside0.mk ((bG_ BK194.out hg : gb208 ≠ gb194)); have n13_ := Aside0.mk ((bL_ BK200.out hg : gb200 ≠ gb208)); have n14_ := Aside0.mk ((bG_ BK200.out hg : gb208 ≠ gb200)); clear HO203 HO207 BK193 BK194 BK200 HB; have HO203 := n0_; have HO207 := n1_; have BK193 := n2_; have BK194 := n3_; have BK200 := n4_; have HB := n5_; have BK208 := n6_; have GW208 := n7_; have GE208 := n8_; have NB193_208 := n9_; have NB208_193 := n10_; have NB194_208 := n11_; have NB208_194 := n12_; have NB200_208 := n13_; have NB208_200 := n14_; clear n0_ n1_ n2_ n3_ n4_ n5_ n6_ n7_ n8_ n9_ n10_ n11_ n12_ n13_ n14_; clear hb hbox hg; obtain ⟨Ao32, co32, eo32⟩ := Kd.S_slice HO203.out; subst eo32; have hnb33 := NB208_193.out; have hnc33 := NB193_208.out; have hnb34 := NB208_194.out; have hnc34 := NB194_208.out; have hnb35 := NB208_200.out; have hnc35 := NB200_208.out; obtain ⟨hcz36_0, hcz36_1, hcz36_2, hfz36_0, hfz36_1, hfz36_2⟩ := bx3_ BK208.out; obtain ⟨Ao37, co37, eo37⟩ := Kd.R_slice HO207.out; subst eo37; obtain ⟨hcz38_0, hcz38_1, hfz38_0, hfz38_1⟩ := bx2_ BK200.out) | ((with_reducible refine gate_builtin (b := .append) (xs := #[.tmp 30, .tmp 35]) rfl ?_); at_builtin; refine Kd.R_append k29 (w0 := w) w.heap.size rfl (.tmp 30) (.tmp 35) 25 29 (.agg #[(.int .i64 0), (.int .i64 0)]) 16 rfl Tryd.underlying25 info29 rfl (by decide) (by omega) (.slice Ao37 t205.length co37) t205 (⟨t198, a1⟩ : S29) [.int .i64 t198, .int .i64 a1] (fun _ => True) (fun _ => False) rfl (by first | (go_simp; done) | (go_simp; rfl)) ?aP (fun _ hk => hk.elim) ?aF ?aO ?aB ?aS ?aL ?_; (case aP => exact k29_mkM _ _ _ (⟨t198, a1⟩ : S29)); (case aB => exact hC_); (case aF => exact (fun _ _ => trivial)); (case aO => exact (by (with_reducible repeat (first | apply Kd.R_alloc | apply Kd.R_drewN | apply Kd.R_drew)); exact Kd.R_mono (rF_ (rF_ (rF_ (Kd.R_types HO207.out BK208.out (by decide))))) (fun _ hk => trivial))); (case aS => exact (below_size hC_)); (case aL => have := LMc21.out; omega); intro v210 w39 ho hb hg hat; rw [← Ny209.out] at ho; have n0_ := Aside0.mk (blk_grown (g := gb193) (o := .cells #[.slice A0_0 l0_0.length c0_0, .int .i64 a0_1, .slice A0_2 l0_2.length c0_2] 27 (0, 0)) (bF_ (bF_ (bF_ (hK_ BK193.out) NB193_208.out) NB193_208.out) NB193_208.out) hg (Kd.R_ne HO207.out BK193.out (by decide))); have n1_ := Aside0.mk (blk_grown (g := gb194) (o := .cells #[.slice none 0 0, .int .i64 0, .slice none 0 0] 27 (0, 0)) (bF_ (bF_ (bF_ (hK_ BK194.out) NB194_208.out) NB194_208.out) NB194_208.out) hg (Kd.R_ne HO207.out BK194.out (by decide))); have n2_ := Aside0.mk (blk_grown (g := gb200) (o := .cells #[.int .i64 t197, .int .i64 t198] 45 (0, 0)) (bF_ (bF_ (bF_ (hK_ BK200.out) NB200_208.out) NB200_208.out) NB200_208.out) hg (Kd.R_ne HO207.out BK200.out (by decide))); have n3_ := Aside0.mk (Kd.S_over' (by (with_reducible repeat (first | apply Kd.S_alloc | apply Kd.S_drewN | apply Kd.S_drew)); exact (Kd.S_mono (sF_ (sF_ (sF_ (Kd.S_types HO203.out BK208.out (by decide))))) (fun _ h_ => h_.1))) (Kd.R_typed (by (with_reducible repeat (first | apply Kd.R_alloc | apply Kd.R_drewN | apply Kd.R_drew)); exact (Kd.R_mono (rF_ (rF_ (rF_ (Kd.R_types HO207.out BK208.out (by decide))))) (fun _ h_ => h_.1)))) (by decide) hg); have n4_ := Aside0.mk (blk_grown (g := gb208) (o := .cells #[.slice Ao32 t201.length co32, .int .i64 t204, .slice Ao37 t205.length co37] 27 (0, 0)) (bP_ (bP_ (bP_ (hK_ BK208.out)))) hg (Kd.R_ne HO207.out BK208.out (by decide))); have n5_ := Aside0.mk (hb); have n6_ := Aside0.mk (ho); clear BK193 BK194 BK200 HO203 BK208 HB HO207; have BK193 := n0_; have BK194 := n1_; have BK200 := n2_; have HO203 := n3_; have BK208 := n4_; have HB := n5_; have HO211 := n6_; clear n0_ n1_ n2_ n3_ n4_ n5_ n6_; clear ho hb hg hat; obtain ⟨Ao40, co40, eo40⟩ := Kd.R_slice HO211.out; subst eo40; obtain ⟨hcz41_0, hcz41_1, hcz41_2, hfz41_0, hfz41_1, hfz41_2⟩ := bx3_ BK208.out; obtain ⟨hcz42_0, hcz42_1, hcz42_2, hfz42_0, hfz42_1, hfz42_2⟩ := bx3_ BK194.out))
      refine bodyPost_ret (results_ct rfl _ _ gb194 27 #[.slice Ao32 t201.length co32, .int .i64 t204, .slice Ao40 y209.length co40] (0, 0) _ rfl (bP_ (bP_ (bP_ (bF_ (hK_ BK194.out) NB194_208.out)))) Tryd.underlying27 rfl (by kernel_rfl)) rfl ?_
      exact ⟨_, _, hV_, by (with_reducible repeat (first | apply Kd.S_alloc | apply Kd.S_drewN | apply Kd.S_drew)); exact Kd.S_mono (sF_ (sF_ (sF_ (Kd.S_far (p := ⟨gb208, 2, none⟩) (Kd.S_types (Kd.S_types HO203.out BK208.out (by decide)) BK194.out (by decide)) (fun _ hk => hk.1.2) (.slice Ao40 y209.length co40))))) (fun _ hk => trivial), by (with_reducible repeat (first | apply Kd.R_alloc | apply Kd.R_drewN | apply Kd.R_drew)); exact Kd.R_mono (rF_ (rF_ (rF_ (Kd.R_far (p := ⟨gb208, 2, none⟩) (Kd.R_types (Kd.R_types HO211.out BK208.out (by decide)) BK194.out (by decide)) (fun _ hk => hk.1.2) (.slice Ao40 y209.length co40))))) (fun _ hk => trivial), hC_⟩
/-! ### answer_Undo: function 7 -/
def answer_Undo.f (k : Nat) (l0_0 : List (S41)) (a0_1 : Int) (l0_2 : List (S29)) : Option ((List (S41)) × Int × (List (S29)) × Int) := (session_May.f k l0_0 a0_1 l0_2).bind fun t214 => (if t214 = true then (if (l0_2.length : Int) = 0 then (some (([] : List (S41)), 0, ([] : List (S29)), 2201)) else ((session_Copy.f l0_0 a0_1 l0_2).bind fun bt215 => (if 0 ≤ (wrap64 ((bt215.2.2.length : Int) - 1)) then (if (wrap64 ((bt215.2.2.length : Int) - 1)) ≤ (bt215.2.2.length : Int) then (some (bt215.1, bt215.2.1, (bt215.2.2.take ((wrap64 ((bt215.2.2.length : Int) - 1)) : Int).toNat), 0)) else (none)) else (none)))) else (some (([] : List (S41)), 0, ([] : List (S29)), 2200)))
theorem answer_Undo.mono : ∀ a0 a1 a2 k, LeO (answer_Undo.f k a0 a1 a2) (answer_Undo.f (k + 1) a0 a1 a2) := by
  intro a0 a1 a2 k
  unfold answer_Undo.f
  repeat' first
      | (with_reducible exact session_May.mono _ _ _ _)
      | (with_reducible exact LeO.refl _)
      | (with_reducible exact LeO.none _)
      | (with_reducible refine LeO.ite ?_ ?_)
      | (with_reducible refine LeO.bind ?_ (fun _ => ?_))
      | exact session_May.mono _ _ _ _
      | exact LeO.none _
      | refine LeO.ite ?_ ?_
      | refine LeO.bind ?_ (fun _ => ?_)
set_option maxHeartbeats 8000000 in
set_option maxRecDepth 100000 in
theorem answer_Undo.calls (k : Nat) (A0_0 : Option Addr) (c0_0 : Nat) (l0_0 : List (S41)) (a0_1 : Int) (A0_2 : Option Addr) (c0_2 : Nat) (l0_2 : List (S29)) (r1 : List (S41)) (r2 : Int) (r3 : List (S29)) (r4 : Int) (w : World) (hr0_0 : Kd.C k41 w A0_0 l0_0.length l0_0) (hc0_0 : l0_0.length ≤ c0_0) (hr0_2 : Kd.C k29 w A0_2 l0_2.length l0_2) (hc0_2 : l0_2.length ≤ c0_2) (h : answer_Undo.f k l0_0 a0_1 l0_2 = some (r1, r2, r3, r4)) (hG : GOK w) :
    Calls Tryd.prog 7 #[.agg #[.slice A0_0 l0_0.length c0_0, .int .i64 a0_1, .slice A0_2 l0_2.length c0_2]] w fun e w' => ∃ v0_ v2_ : Value, e = .returned (.tuple #[.agg #[v0_, .int .i64 r2, v2_], .int .i64 r4]) ∧ Kd.S k41 41 w' w.heap.size (fun _ => True) v0_ r1 ∧ Kd.R k29 29 w' w.heap.size (fun _ => True) v2_ r3 ∧ Below w.heap.size w w' := by
  have hu27 := Tryd.underlying27
  have HR0_0 := Aside0.mk hr0_0
  have HC0_0 := Aside0.mk hc0_0
  clear hr0_0 hc0_0
  have HR0_2 := Aside0.mk hr0_2
  have HC0_2 := Aside0.mk hc0_2
  clear hr0_2 hc0_2
  have HB := Aside0.mk (Below.refl w.heap.size w)
  have H : ((session_May.f k l0_0 a0_1 l0_2).bind fun t214 => (if t214 = true then (if (l0_2.length : Int) = 0 then (some (([] : List (S41)), 0, ([] : List (S29)), 2201)) else ((session_Copy.f l0_0 a0_1 l0_2).bind fun bt215 => (if 0 ≤ (wrap64 ((bt215.2.2.length : Int) - 1)) then (if (wrap64 ((bt215.2.2.length : Int) - 1)) ≤ (bt215.2.2.length : Int) then (some (bt215.1, bt215.2.1, (bt215.2.2.take ((wrap64 ((bt215.2.2.length : Int) - 1)) : Int).toNat), 0)) else (none)) else (none)))) else (some (([] : List (S41)), 0, ([] : List (S29)), 2200)))) = some (r1, r2, r3, r4) := h
  clear h
  replace H := Option.bind_eq_some_iff.mp H
  obtain ⟨t214, A20, H⟩ := H
  replace H : (if t214 = true then (if (l0_2.length : Int) = 0 then (some (([] : List (S41)), 0, ([] : List (S29)), 2201)) else ((session_Copy.f l0_0 a0_1 l0_2).bind fun bt215 => (if 0 ≤ (wrap64 ((bt215.2.2.length : Int) - 1)) then (if (wrap64 ((bt215.2.2.length : Int) - 1)) ≤ (bt215.2.2.length : Int) then (some (bt215.1, bt215.2.1, (bt215.2.2.take ((wrap64 ((bt215.2.2.length : Int) - 1)) : Int).toNat), 0)) else (none)) else (none)))) else (some (([] : List (S41)), 0, ([] : List (S29)), 2200))) = some (r1, r2, r3, r4) := H
  have A2 := Aside0.mk A20
  clear A20
  by_cases c3 : t214 = true
  case neg =>
    replace c3 := Bool.eq_false_iff.mpr c3
    subst c3
    have H1 : (some (([] : List (S41)), 0, ([] : List (S29)), 2200)) = some (r1, r2, r3, r4) := by rw [if_neg (show ¬ (false = true) by decide)] at H; exact H
    clear H
    have H := H1
    clear H1
    simp only [Option.some.injEq, Prod.mk.injEq] at H
    obtain ⟨rfl, rfl, rfl, rfl⟩ := H
    go_enter Tryd.func7, Tryd.ntmps7
    go_wp2_with (first | ((with_reducible refine gate_dst (N := 1) rfl ?_); refine boxE_ 1 #[.slice A0_0 l0_0.length c0_0, .int .i64 a0_1, .slice A0_2 l0_2.length c0_2] 27 ?_; intro gb212 hg w33 hbox hb; have n0_ := Aside0.mk (below_step hB_ hb); have n1_ := Aside0.mk (hbox); have n2_ := Aside0.mk ((gE_ hg : w.heap.size ≤ gb212)); have n3_ := Aside0.mk ((gE_ hg : w.heap.size ≤ gb212)); clear HB; have HB := n0_; have BK212 := n1_; have GW212 := n2_; have GE212 := n3_; clear n0_ n1_ n2_ n3_; clear hb hbox hg) | ((with_reducible refine gate_dst (N := 2) rfl ?_); refine boxE_ 2 #[.slice none 0 0, .int .i64 0, .slice none 0 0] 27 ?_; intro gb213 hg w34 hbox hb; have n0_ := Aside0.mk (bB_ BK212.out hb); have n1_ := Aside0.mk (below_step hC_ hb); have n2_ := Aside0.mk (hbox); have n3_ := Aside0.mk ((gE_ hg : w.heap.size ≤ gb213)); have n4_ := Aside0.mk ((gE_ hg : w.heap.size ≤ gb213)); have n5_ := Aside0.mk ((bL_ BK212.out hg : gb212 ≠ gb213)); have n6_ := Aside0.mk ((bG_ BK212.out hg : gb213 ≠ gb212)); clear BK212 HB; have BK212 := n0_; have HB := n1_; have BK213 := n2_; have GW213 := n3_; have GE213 := n4_; have NB212_213 := n5_; have NB213_212 := n6_; clear n0_ n1_ n2_ n3_ n4_ n5_ n6_; clear hb hbox hg; have hnb35 := NB212_213.out; have hnc35 := NB213_212.out; obtain ⟨hcz36_0, hcz36_1, hcz36_2, hfz36_0, hfz36_1, hfz36_2⟩ := bx3_ BK212.out) | ((with_reducible refine gate_callee (f := 11) rfl ?_); refine goesL_ (some 7) rfl rfl Tryd.func11 (by kernel_rfl) rfl #[.agg #[.slice A0_0 l0_0.length c0_0, .int .i64 a0_1, .slice A0_2 l0_2.length c0_2]] rfl hL_ ?_; (with_reducible refine (session_May.calls k _ _ l0_0 a0_1 _ _ l0_2 false _ ?side1 ?side2 ?side3 ?side4 A2.out (by first | exact hG | exact GOK.below hG hC_)).mono ?_); (case side1 => exact cB_ HR0_0.out); (case side2 => exact HC0_0.out); (case side3 => exact cB_ HR0_2.out); (case side4 => exact HC0_2.out); rintro e w37 ⟨rfl, hb⟩; refine ⟨_, rfl, ?_⟩; have n0_ := Aside0.mk (bB_ BK212.out hb); have n1_ := Aside0.mk (bB_ BK213.out hb); have n2_ := Aside0.mk (below_step hC_ hb); clear BK212 BK213 HB; have BK212 := n0_; have BK213 := n1_; have HB := n2_; clear n0_ n1_ n2_; (try clear hb); (try clear hb2); (try clear hk); (try clear hi); obtain ⟨hcz38_0, hcz38_1, hcz38_2, hfz38_0, hfz38_1, hfz38_2⟩ := bx3_ BK213.out))
    refine bodyPost_ret (results_ct rfl _ _ gb213 27 #[.slice none 0 0, .int .i64 0, .slice none 0 0] (0, 0) _ rfl (bP_ (bP_ (bP_ (hK_ BK213.out)))) Tryd.underlying27 rfl (by kernel_rfl)) rfl ?_
    exact ⟨_, _, hV_, by first | exact Kd.S_nil _ _ _ _ _ | exact Kd.N_nil _ _ _ _ _ | exact Kd.V_nil _ _ _ _ _ | exact Kd.Q_nil _ _ _ _ _ | exact Kd.R_nil _ _ _ _ _, by first | exact Kd.R_nil _ _ _ _ _ | exact Kd.N_nil _ _ _ _ _ | exact Kd.V_nil _ _ _ _ _ | exact Kd.Q_nil _ _ _ _ _ | exact Kd.S_nil _ _ _ _ _, hC_⟩

  subst c3
  have H1 : (if (l0_2.length : Int) = 0 then (some (([] : List (S41)), 0, ([] : List (S29)), 2201)) else ((session_Copy.f l0_0 a0_1 l0_2).bind fun bt215 => (if 0 ≤ (wrap64 ((bt215.2.2.length : Int) - 1)) then (if (wrap64 ((bt215.2.2.length : Int) - 1)) ≤ (bt215.2.2.length : Int) then (some (bt215.1, bt215.2.1, (bt215.2.2.take ((wrap64 ((bt215.2.2.length : Int) - 1)) : Int).toNat), 0)) else (none)) else (none)))) = some (r1, r2, r3, r4) := by rw [if_pos rfl] at H; exact H
  clear H
  have H := H1
  clear H1
  by_cases c4 : (l0_2.length : Int) = 0
  case pos =>
    rw [if_pos c4] at H
    have c4b0 : ((l0_2.length : Int) == 0) = true := beq_iff_eq.mpr c4
    have c4b1 : ((l0_2.length : Int) != 0) = false := bne_eq_false_iff_eq.mpr c4
    clear c4
    simp only [Option.some.injEq, Prod.mk.injEq] at H
    obtain ⟨rfl, rfl, rfl, rfl⟩ := H
    go_enter Tryd.func7, Tryd.ntmps7
    go_wp2_with (first | ((with_reducible refine gate_dst (N := 1) rfl ?_); refine boxE_ 1 #[.slice A0_0 l0_0.length c0_0, .int .i64 a0_1, .slice A0_2 l0_2.length c0_2] 27 ?_; intro gb212 hg w5 hbox hb; have n0_ := Aside0.mk (below_step hB_ hb); have n1_ := Aside0.mk (hbox); have n2_ := Aside0.mk ((gE_ hg : w.heap.size ≤ gb212)); have n3_ := Aside0.mk ((gE_ hg : w.heap.size ≤ gb212)); clear HB; have HB := n0_; have BK212 := n1_; have GW212 := n2_; have GE212 := n3_; clear n0_ n1_ n2_ n3_; clear hb hbox hg) | ((with_reducible refine gate_dst (N := 2) rfl ?_); refine boxE_ 2 #[.slice none 0 0, .int .i64 0, .slice none 0 0] 27 ?_; intro gb213 hg w6 hbox hb; have n0_ := Aside0.mk (bB_ BK212.out hb); have n1_ := Aside0.mk (below_step hC_ hb); have n2_ := Aside0.mk (hbox); have n3_ := Aside0.mk ((gE_ hg : w.heap.size ≤ gb213)); have n4_ := Aside0.mk ((gE_ hg : w.heap.size ≤ gb213)); have n5_ := Aside0.mk ((bL_ BK212.out hg : gb212 ≠ gb213)); have n6_ := Aside0.mk ((bG_ BK212.out hg : gb213 ≠ gb212)); clear BK212 HB; have BK212 := n0_; have HB := n1_; have BK213 := n2_; have GW213 := n3_; have GE213 := n4_; have NB212_213 := n5_; have NB213_212 := n6_; clear n0_ n1_ n2_ n3_ n4_ n5_ n6_; clear hb hbox hg; have hnb7 := NB212_213.out; have hnc7 := NB213_212.out; obtain ⟨hcz8_0, hcz8_1, hcz8_2, hfz8_0, hfz8_1, hfz8_2⟩ := bx3_ BK212.out) | ((with_reducible refine gate_callee (f := 11) rfl ?_); refine goesL_ (some 7) rfl rfl Tryd.func11 (by kernel_rfl) rfl #[.agg #[.slice A0_0 l0_0.length c0_0, .int .i64 a0_1, .slice A0_2 l0_2.length c0_2]] rfl hL_ ?_; (with_reducible refine (session_May.calls k _ _ l0_0 a0_1 _ _ l0_2 true _ ?side1 ?side2 ?side3 ?side4 A2.out (by first | exact hG | exact GOK.below hG hC_)).mono ?_); (case side1 => exact cB_ HR0_0.out); (case side2 => exact HC0_0.out); (case side3 => exact cB_ HR0_2.out); (case side4 => exact HC0_2.out); rintro e w9 ⟨rfl, hb⟩; refine ⟨_, rfl, ?_⟩; have n0_ := Aside0.mk (bB_ BK212.out hb); have n1_ := Aside0.mk (bB_ BK213.out hb); have n2_ := Aside0.mk (below_step hC_ hb); clear BK212 BK213 HB; have BK212 := n0_; have BK213 := n1_; have HB := n2_; clear n0_ n1_ n2_; (try clear hb); (try clear hb2); (try clear hk); (try clear hi); obtain ⟨hcz10_0, hcz10_1, hcz10_2, hfz10_0, hfz10_1, hfz10_2⟩ := bx3_ BK212.out; obtain ⟨hcz11_0, hcz11_1, hcz11_2, hfz11_0, hfz11_1, hfz11_2⟩ := bx3_ BK213.out))
    refine bodyPost_ret (results_ct rfl _ _ gb213 27 #[.slice none 0 0, .int .i64 0, .slice none 0 0] (0, 0) _ rfl (bP_ (bP_ (bP_ (hK_ BK213.out)))) Tryd.underlying27 rfl (by kernel_rfl)) rfl ?_
    exact ⟨_, _, hV_, by first | exact Kd.S_nil _ _ _ _ _ | exact Kd.N_nil _ _ _ _ _ | exact Kd.V_nil _ _ _ _ _ | exact Kd.Q_nil _ _ _ _ _ | exact Kd.R_nil _ _ _ _ _, by first | exact Kd.R_nil _ _ _ _ _ | exact Kd.N_nil _ _ _ _ _ | exact Kd.V_nil _ _ _ _ _ | exact Kd.Q_nil _ _ _ _ _ | exact Kd.S_nil _ _ _ _ _, hC_⟩
  rw [if_neg c4] at H
  have c4b0 : ((l0_2.length : Int) == 0) = false := beq_eq_false_iff_ne.mpr c4
  have c4b1 : ((l0_2.length : Int) != 0) = true := bne_iff_ne.mpr c4
  have c4b2 : ¬ (l0_2 = []) := fun h_ => c4 (by rw [h_]; rfl)
  replace H := Option.bind_eq_some_iff.mp H
  obtain ⟨⟨t215, t218, t219⟩, A120, H⟩ := H
  replace H : (if 0 ≤ (wrap64 ((t219.length : Int) - 1)) then (if (wrap64 ((t219.length : Int) - 1)) ≤ (t219.length : Int) then (some (t215, t218, (t219.take ((wrap64 ((t219.length : Int) - 1)) : Int).toNat), 0)) else (none)) else (none)) = some (r1, r2, r3, r4) := H
  have A12 := Aside0.mk A120
  clear A120
  obtain ⟨ji13, hji13⟩ : ∃ j_ : Int, (wrap64 ((t219.length : Int) - 1)) = j_ := ⟨_, rfl⟩
  replace H : (if 0 ≤ (ji13) then (if (ji13) ≤ (t219.length : Int) then (some (t215, t218, (t219.take ((ji13) : Int).toNat), 0)) else (none)) else (none)) = some (r1, r2, r3, r4) := by first | (rw [hji13] at H; exact H) | (simp only [hji13] at H ⊢; exact H)
  (try rw [hji13] at A2)
  (try rw [hji13] at A12)
  have hji13w : (IntKind.i64.wrap ((t219.length : Int) - 1)) = ji13 := (i64_w _).trans hji13
  replace H := ifI_ H; obtain ⟨c14, H⟩ := H
  have c14b0 := eq_true c14
  have c14b1 : decide (0 ≤ (ji13)) = true := decide_eq_true c14
  clear c14
  replace H := ifI_ H; obtain ⟨c15, H⟩ := H
  have c15b0 := eq_true c15
  have c15b1 : decide ((ji13) ≤ (t219.length : Int)) = true := decide_eq_true c15
  clear c15
  obtain ⟨y223, hy223⟩ : ∃ y_ : List (S29), y_ = (t219.take ((ji13) : Int).toNat) := ⟨_, rfl⟩
  replace H : (some (t215, t218, y223, 0)) = some (r1, r2, r3, r4) := by first | (rw [hy223]; with_reducible exact H) | (have H2_ := (Option.bind_some _ _).symm.trans H; rw [hy223]; with_reducible exact H2_) | (have H2_ := (Option.bind_some _ _).symm.trans H; with_reducible exact H2_) | with_reducible exact H | (rw [hy223]; exact H) | exact H
  have Ny223 := Aside0.mk hy223
  clear hy223
  simp only [Option.some.injEq, Prod.mk.injEq] at H
  obtain ⟨rfl, rfl, rfl, rfl⟩ := H
  go_enter Tryd.func7, Tryd.ntmps7
  go_wp2_with (first | ((with_reducible refine gate_dst (N := 1) rfl ?_); refine boxE_ 1 #[.slice A0_0 l0_0.length c0_0, .int .i64 a0_1, .slice A0_2 l0_2.length c0_2] 27 ?_; intro gb212 hg w16 hbox hb; have n0_ := Aside0.mk (below_step hB_ hb); have n1_ := Aside0.mk (hbox); have n2_ := Aside0.mk ((gE_ hg : w.heap.size ≤ gb212)); have n3_ := Aside0.mk ((gE_ hg : w.heap.size ≤ gb212)); clear HB; have HB := n0_; have BK212 := n1_; have GW212 := n2_; have GE212 := n3_; clear n0_ n1_ n2_ n3_; clear hb hbox hg) | ((with_reducible refine gate_dst (N := 2) rfl ?_); refine boxE_ 2 #[.slice none 0 0, .int .i64 0, .slice none 0 0] 27 ?_; intro gb213 hg w17 hbox hb; have n0_ := Aside0.mk (bB_ BK212.out hb); have n1_ := Aside0.mk (below_step hC_ hb); have n2_ := Aside0.mk (hbox); have n3_ := Aside0.mk ((gE_ hg : w.heap.size ≤ gb213)); have n4_ := Aside0.mk ((gE_ hg : w.heap.size ≤ gb213)); have n5_ := Aside0.mk ((bL_ BK212.out hg : gb212 ≠ gb213)); have n6_ := Aside0.mk ((bG_ BK212.out hg : gb213 ≠ gb212)); clear BK212 HB; have BK212 := n0_; have HB := n1_; have BK213 := n2_; have GW213 := n3_; have GE213 := n4_; have NB212_213 := n5_; have NB213_212 := n6_; clear n0_ n1_ n2_ n3_ n4_ n5_ n6_; clear hb hbox hg; have hnb18 := NB212_213.out; have hnc18 := NB213_212.out; obtain ⟨hcz19_0, hcz19_1, hcz19_2, hfz19_0, hfz19_1, hfz19_2⟩ := bx3_ BK212.out) | ((with_reducible refine gate_callee (f := 11) rfl ?_); refine goesL_ (some 7) rfl rfl Tryd.func11 (by kernel_rfl) rfl #[.agg #[.slice A0_0 l0_0.length c0_0, .int .i64 a0_1, .slice A0_2 l0_2.length c0_2]] rfl hL_ ?_; (with_reducible refine (session_May.calls k _ _ l0_0 a0_1 _ _ l0_2 true _ ?side1 ?side2 ?side3 ?side4 A2.out (by first | exact hG | exact GOK.below hG hC_)).mono ?_); (case side1 => exact cB_ HR0_0.out); (case side2 => exact HC0_0.out); (case side3 => exact cB_ HR0_2.out); (case side4 => exact HC0_2.out); rintro e w20 ⟨rfl, hb⟩; refine ⟨_, rfl, ?_⟩; have n0_ := Aside0.mk (bB_ BK212.out hb); have n1_ := Aside0.mk (bB_ BK213.out hb); have n2_ := Aside0.mk (below_step hC_ hb); clear BK212 BK213 HB; have BK212 := n0_; have BK213 := n1_; have HB := n2_; clear n0_ n1_ n2_; (try clear hb); (try clear hb2); (try clear hk); (try clear hi); obtain ⟨hcz21_0, hcz21_1, hcz21_2, hfz21_0, hfz21_1, hfz21_2⟩ := bx3_ BK212.out) | ((with_reducible refine gate_callee (f := 14) rfl ?_); refine goesL_ (some 17) rfl rfl Tryd.func14 (by kernel_rfl) rfl #[.agg #[.slice A0_0 l0_0.length c0_0, .int .i64 a0_1, .slice A0_2 l0_2.length c0_2]] rfl hL_ ?_; (with_reducible refine (session_Copy.calls _ _ l0_0 a0_1 _ _ l0_2 t215 t218 t219 _ ?side1 ?side2 ?side3 ?side4 A12.out).mono ?_); (case side1 => exact cB_ HR0_0.out); (case side2 => exact HC0_0.out); (case side3 => exact cB_ HR0_2.out); (case side4 => exact HC0_2.out); rintro e w22 ⟨v216, v220, rfl, ho0, ho1, hb⟩; refine ⟨_, rfl, ?_⟩; have n0_ := Aside0.mk (Kd.S_lower ho0 (below_size hC_)); have n1_ := Aside0.mk (Kd.R_lower ho1 (below_size hC_)); have n2_ := Aside0.mk (bB_ BK212.out hb); have n3_ := Aside0.mk (bB_ BK213.out hb); have n4_ := Aside0.mk (below_step hC_ hb); clear BK212 BK213 HB; have HO217 := n0_; have HO221 := n1_; have BK212 := n2_; have BK213 := n3_; have HB := n4_; clear n0_ n1_ n2_ n3_ n4_; (try clear hb); (try clear hb2); (try clear hk); (try clear hi); (try clear ho0); (try clear ho1)) | ((with_reducible refine gate_dst (N := 4) rfl ?_); refine boxE_ 4 #[.slice none 0 0, .int .i64 0, .slice none 0 0] 27 ?_; intro gb222 hg w23 hbox hb; have n0_ := Aside0.mk (Kd.S_below (by (with_reducible repeat (first | apply Kd.S_alloc | apply Kd.S_drewN | apply Kd.S_drew)); exact HO217.out) hb); have n1_ := Aside0.mk (Kd.R_below (hR_ HO221.out) hb); have n2_ := Aside0.mk (bB_ BK212.out hb); have n3_ := Aside0.mk (bB_ BK213.out hb); have n4_ := Aside0.mk (below_step hC_ hb); have n5_ := Aside0.mk (hbox); have n6_ := Aside0.mk ((gE_ hg : w.heap.size ≤ gb222)); have n7_ := Aside0.mk ((gE_ hg : w.heap.size ≤ gb222)); have n8_ := Aside0.mk ((bL_ BK212.out hg : gb212 ≠ gb222)); have n9_ := Aside0.mk ((bG_ BK212.out hg : gb222 ≠ gb212)); have n10_ := Aside0.mk ((bL_ BK213.out hg : gb213 ≠ gb222)); have n11_ := Aside0.mk ((bG_ BK213.out hg : gb222 ≠ gb213)); clear HO217 HO221 BK212 BK213 HB; have HO217 := n0_; have HO221 := n1_; have BK212 := n2_; have BK213 := n3_; have HB := n4_; have BK222 := n5_; have GW222 := n6_; have GE222 := n7_; have NB212_222 := n8_; have NB222_212 := n9_; have NB213_222 := n10_; have NB222_213 := n11_; clear n0_ n1_ n2_ n3_ n4_ n5_ n6_ n7_ n8_ n9_ n10_ n11_; clear hb hbox hg; obtain ⟨Ao24, co24, eo24⟩ := Kd.S_slice HO217.out; subst eo24; have hnb25 := NB222_212.out; have hnc25 := NB212_222.out; have hnb26 := NB222_213.out; have hnc26 := NB213_222.out; obtain ⟨hcz27_0, hcz27_1, hcz27_2, hfz27_0, hfz27_1, hfz27_2⟩ := bx3_ BK222.out; obtain ⟨Ao28, co28, eo28⟩ := Kd.R_slice HO221.out; subst eo28) | ((with_reducible refine gate_store (t := 27) (p := 4) rfl ?_); refine store_event (t := 27) (p := 4) (v := ?vo_w29) (w1 := (((w23.setCell ⟨gb222, 0, none⟩ (.slice Ao24 t215.length co24)).setCell ⟨gb222, 1, none⟩ (.int .i64 t218)).setCell ⟨gb222, 2, none⟩ (.slice Ao28 t219.length co28))) ?hg ?ho ?hn ?hr ?_; (case ho => rfl); (case hg => rfl); (case hn => rfl); (case hr => first | (go_simp; done) | (go_simp; rfl)); intro w29 hw; have n0_ : Aside0 (Kd.S k41 41 w29 w.heap.size (fun _ => True) (.slice Ao24 t215.length co24) t215) := ⟨(by rw [hw]; exact (by (with_reducible repeat (first | apply Kd.S_alloc | apply Kd.S_drewN | apply Kd.S_drew)); exact Kd.S_mono (sF_ (sF_ (sF_ (Kd.S_types HO217.out BK222.out (by decide))))) (fun _ hk => trivial)))⟩; have n1_ : Aside0 (Kd.R k29 29 w29 w.heap.size (fun _ => True) (.slice Ao28 t219.length co28) t219) := ⟨(by rw [hw]; exact (by (with_reducible repeat (first | apply Kd.R_alloc | apply Kd.R_drewN | apply Kd.R_drew)); exact Kd.R_mono (rF_ (rF_ (rF_ (Kd.R_types HO221.out BK222.out (by decide))))) (fun _ hk => trivial)))⟩; have n2_ : Aside0 (w29.heap[gb212]? = some (.cells #[.slice A0_0 l0_0.length c0_0, .int .i64 a0_1, .slice A0_2 l0_2.length c0_2] 27 (0, 0))) := ⟨(by rw [hw]; exact (bF_ (bF_ (bF_ (hK_ BK212.out) NB212_222.out) NB212_222.out) NB212_222.out))⟩; have n3_ : Aside0 (w29.heap[gb213]? = some (.cells #[.slice none 0 0, .int .i64 0, .slice none 0 0] 27 (0, 0))) := ⟨(by rw [hw]; exact (bF_ (bF_ (bF_ (hK_ BK213.out) NB213_222.out) NB213_222.out) NB213_222.out))⟩; have n4_ : Aside0 (w29.heap[gb222]? = some (.cells #[.slice Ao24 t215.length co24, .int .i64 t218, .slice Ao28 t219.length co28] 27 (0, 0))) := ⟨(by rw [hw]; exact (bP_ (bP_ (bP_ (hK_ BK222.out)))))⟩; have n5_ : Aside0 (Below w.heap.size w w29) := ⟨(by rw [hw]; exact hC_)⟩; clear hw HO217 HO221 BK212 BK213 BK222 HB; have HO217 := n0_; have HO221 := n1_; have BK212 := n2_; have BK213 := n3_; have BK222 := n4_; have HB := n5_; clear n0_ n1_ n2_ n3_ n4_ n5_; obtain ⟨hcz30_0, hcz30_1, hcz30_2, hfz30_0, hfz30_1, hfz30_2⟩ := bx3_ BK222.out; have q31 : ((ji13) : Int) ≤ ((t219.length : Int) : Int) := of_decide_eq_true hA_; obtain ⟨i031, hi031, _, hsz31, _⟩ := info_parts info29; have hcut31 := cut_to (P := Tryd.prog) 25 29 .i64 Tryd.underlying25 hi031 Ao28 t219.length co28 (ji13) (of_decide_eq_true hA_) q31 (Kd.R_reads' HO221.out).2.1; have hr31 := Kd.R_take (m := ((ji13) : Int).toNat) HO221.out (by omega); have hy31 : y223.length = ((ji13) : Int).toNat := (by rw [Ny223.out, List.length_take]; omega); rw [← Ny223.out] at hr31; rw [← hy31] at hr31 hcut31; clear hy31 hi031 hsz31 HO221; have HO225 := Aside0.mk hr31; clear hr31; replace q31 := eq_true q31; obtain ⟨hcz32_0, hcz32_1, hcz32_2, hfz32_0, hfz32_1, hfz32_2⟩ := bx3_ BK213.out))
  refine bodyPost_ret (results_ct rfl _ _ gb213 27 #[.slice Ao24 t215.length co24, .int .i64 t218, .slice Ao28 y223.length co28] (0, 0) _ rfl (bP_ (bP_ (bP_ (bF_ (hK_ BK213.out) NB213_222.out)))) Tryd.underlying27 rfl (by kernel_rfl)) rfl ?_
  exact ⟨_, _, by first | rfl | (simp [errW_none, errW_some] <;> rfl) | (simp only [← hji13]; first | rfl | (simp [errW_none, errW_some] <;> rfl)) | (simp [*, errW_none, errW_some] <;> rfl), by (with_reducible repeat (first | apply Kd.S_alloc | apply Kd.S_drewN | apply Kd.S_drew)); exact Kd.S_mono (sF_ (sF_ (sF_ (Kd.S_far (p := ⟨gb222, 2, none⟩) (Kd.S_types (Kd.S_types HO217.out BK222.out (by decide)) BK213.out (by decide)) (fun _ hk => hk.1.2) (.slice Ao28 y223.length co28))))) (fun _ hk => trivial), by (with_reducible repeat (first | apply Kd.R_alloc | apply Kd.R_drewN | apply Kd.R_drew)); exact Kd.R_mono (rF_ (rF_ (rF_ (Kd.R_far (p := ⟨gb222, 2, none⟩) (Kd.R_types (Kd.R_types HO225.out BK222.out (by decide)) BK213.out (by decide)) (fun _ hk => hk.1.2) (.slice Ao28 y223.length co28))))) (fun _ hk => trivial), hC_⟩
end Go.Proofs.YtbnljapgnfmmoaaDoor.G
end
