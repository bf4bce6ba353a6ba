/- Parts of this proof, one behind the other: G18, G32, FileVals, G1, G36, G37, G38. -/
import Derived.Test.YtnhmmbgnaogokaaGreatDoorU2
import Derived.Test.YtnhmmbgnaogokaaGreatDoorG0
import Derived.Test.YtnhmmbgnaogokaaGreatDoorU7
import Derived.Test.YtnhmmbgnaogokaaGreatDoorU9
import Derived.Test.YtnhmmbgnaogokaaGreatDoorU8
section
namespace Go.Proofs.YtnhmmbgnaogokaaGreatDoor.G
open Go.RowKit Go.Proofs.YtnhmmbgnaogokaaGreatDoorW.PrintWords Go.Proofs.YtnhmmbgnaogokaaGreatDoorW.PrintLast Go.Proofs.YtnhmmbgnaogokaaGreatDoorW.PrintMore
set_option maxHeartbeats 8000000
set_option maxRecDepth 100000
attribute [local go_sem] max2_int min2_int max_two min_two max_three min_three max_four min_four   -- for this text's walks alone
set_option linter.unusedVariables false
set_option linter.unusedSimpArgs false

def file_Text.l0 : Nat → List S41 → ByteArray → Int → Option (ByteArray × Int)
 | 0, _, _, _ => none
 | k + 1, ns, acc, i => if i < (ns.length : Int) then (record_Put.f k (rd_T41 ns i).f0 (rd_T41 ns i).f1 (rd_T41 ns i).f2 (rd_T41 ns i).f3).bind fun s => (frame_Put.f k s.1).bind fun t => if acc.size + t.1.size ≤ 140737488355328 then (if (65536 : Int) < ((acc ++ t.1).size : Int) then some (⟨#[]⟩, 1700) else file_Text.l0 k ns (acc ++ t.1) (i + 1)) else none else some (acc, 0)
def file_Text.f (k : Nat) (l0 : List S41) : Option (ByteArray × Int) := (trail_May.f k l0).bind fun t => if t = true then file_Text.l0 k l0 ⟨#[]⟩ 0 else some (⟨#[]⟩, 1700)
open Lib in
theorem bld_below {T e : TypeId} {B b : Nat} {bs : List Value} {w w1 : World} (h : Lib.IsBuilder T e B b bs w) (hb : Below w.heap.size w w1) : Lib.IsBuilder T e B b bs w1 := by
 have one : ∀ p, Lib.BuilderAt T e B b p bs w → Lib.BuilderAt T e B b p bs w1 := fun p h => by
  have hlt := h.lt
  obtain ⟨hB, v, hbk, hown, hne⟩ := h
  exact ⟨hB, v, (hb.block b hlt).trans hbk, own_move hown (fun k hk => hb.block k (own_lt hown k hk)), hne⟩
 exact h.imp (one _) (one _)
theorem bld_new {T e : TypeId} {gb : Nat} {w : World} (h : w.heap[gb]? = some (.cells #[.pointer none, .slice none 0 0] T (0, 0))) : Lib.IsBuilder T e gb gb [] w :=
 .inl ⟨Nat.le_refl _, .slice none 0 0, h, ⟨rfl, .inl ⟨rfl, rfl⟩⟩, by simp [Value.ownBlock]⟩
theorem builder_check (B b : Nat) (bs : List Value) (w : World) (h : Lib.IsBuilder 49 5 B b bs w) :
 Calls Tryz.prog 43 #[.pointer (some ⟨b, 0, none⟩)] w fun e w' => e = .returned (.tuple #[]) ∧ (Lib.BuilderAt 49 5 B b (.pointer (some ⟨b, 0, none⟩)) bs w' ∧ Below B w w') := by
 obtain ⟨j, hj, hjs⟩ := Option.map_eq_some_iff.1 (show (Tryz.prog.info? 49).map (·.size) = some 2 by kernel_rfl)
 have tB := Tryz.underlying49; have uB := run_underlying tB
 have tP := Tryz.underlying46; have uP := run_underlying tP
 have tU := Tryz.underlying94; have uU := run_underlying tU
 rcases h with h | h
 · have h0 := h.cell0
   have hsh := h.shape
   have hfz := h.frozen0
   go_enter Tryz.func43, Tryz.ntmps43
   go_wp2
   rw [Lib.run_to_unsafe w ⟨b, 0, none⟩ tP tU hj (by rw [hjs]; decide) hsh (Nat.zero_lt_succ 1)]
   simp only [Result.andThen]
   rw [Oper.upon_value]
   go_wp2
   rw [run_callFunc_extern Tryz.func54 (by kernel_rfl) (by kernel_rfl) (by kernel_rfl) (e := Extern.AbiNoEscape.same) (by kernel_rfl)]
   rw [Lib.run_noEscape]
   simp only [Result.andThen]
   rw [Oper.upon_value]
   go_wp2
   rw [Lib.run_from_unsafe w ⟨b, 0, none⟩ tU tP hj hsh (by kernel_rfl)]
   simp only [Result.andThen]
   rw [Oper.upon_value]
   go_wp2
   go_end0
   exact ⟨rfl, h.used _, (Below.refl B w).setCell (p := ⟨b, 0, none⟩) h.1 _⟩
 · have h0 := h.cell0
   go_enter Tryz.func43, Tryz.ntmps43
   go_wp2
   rw [Lib.run_neq_ptr_same w _ tP hj]
   go_wp2
   go_end0
   exact ⟨rfl, h, Below.refl B _⟩
theorem own_sl {w : World} {B e n : Nat} {v : Value} {xs : List Value} (h : w.ownsRow B e 1 v n xs) : ∃ ao n' cap, v = .slice ao n' cap := by
 rcases h.2 with ⟨hv, _⟩ | ⟨g, cap, cur, hv, _⟩
 · exact ⟨_, _, _, hv⟩
 · exact ⟨_, _, _, hv⟩
theorem bld_lt {w : World} {b t : Nat} {cs : Array Value} {fr : Nat × Nat} (h : w.heap[b]? = some (.cells cs t fr)) : b < w.heap.size := by
 rcases Nat.lt_or_ge b w.heap.size with h' | h'
 · exact h'
 · simp [Array.getElem?_eq_none h'] at h
theorem builder_write (B b : Nat) (bs : List Value) (s : ByteArray) (w : World) (h : Lib.IsBuilder 49 5 B b bs w) (hlen : bs.length + s.size ≤ 140737488355328) (hBw : B ≤ w.heap.size) :
 Calls Tryz.prog 21 #[.pointer (some ⟨b, 0, none⟩), .string s] w fun e w' => e = .returned (.tuple #[.int .i64 s.size, .nilIface]) ∧ (Lib.BuilderAt 49 5 B b (.pointer (some ⟨b, 0, none⟩)) (bs ++ Lib.strCells s) w' ∧ Below B w w') := by
 have tB := Tryz.underlying49; have uB := run_underlying tB
 have tS := Tryz.underlying47
 have tT := Tryz.underlying9
 obtain ⟨i0, hi, hz⟩ := Option.map_eq_some_iff.1 (show (Tryz.prog.info? 5).map (fun i => (i.zero, i.size, i.bytes)) = some (some (.int .u8 0), 1, 1) by kernel_rfl)
 obtain ⟨hz0, hz1⟩ := Prod.mk.inj hz
 obtain ⟨hz1, hz2⟩ := Prod.mk.inj hz1
 have HL := a_ hlen
 clear hlen hz
 go_enter Tryz.func21, Tryz.ntmps21
 go_wp2_with (first
  | (go_at_call 43; refine (builder_check B b bs _ h).mono ?_; rintro e w1 ⟨rfl, h1, hb1⟩; obtain ⟨hB, v, hbk, hown, hne⟩ := h1; have c0 : w1.cell? ⟨b, 0, none⟩ = some (.pointer (some ⟨b, 0, none⟩)) := (by rw [Lib.cell_of_heap hbk]; rfl); have c1 : w1.cell? ⟨b, 1, none⟩ = some v := (by rw [Lib.cell_of_heap hbk]; rfl))
  | (at_builtin; refine Lib.wpList_append_own_string _ rfl _ _ 47 9 rfl B 5 i0 tS tT hi hz0 hz1 hz2 _ _ _ rfl hown s rfl ?c3 ?c4 ?c5 ?c6; (case c3 => have := HL.out; unfold maxLen; omega); (case c4 => have := HL.out; omega); (case c5 => have := hb1.size; omega); intro v' w2 hown' hgrow _; obtain ⟨ao, n', cap, rfl⟩ := own_sl hown'; have hb2 : w2.heap[b]? = some (.cells #[.pointer (some ⟨b, 0, none⟩), v] 49 (0, 0)) := (hgrow.block b (bld_lt hbk) (fun e => hne e.symm)).trans hbk; have d1 : w2.cell? ⟨b, 1, none⟩ = some v := (by rw [Lib.cell_of_heap hb2]; rfl); have f1 : w2.frozen? ⟨b, 1, none⟩ = false := Lib.frozen_of_heap hb2 1))
 go_ret2
 refine ⟨rfl, ?_, ?_⟩
 · exact Lib.BuilderAt.put (T := 49) (e := 5) hB hb2 (bs' := bs ++ Lib.strCells s) (by simpa [Lib.strCells_length] using hown') (by decide)
 · exact (hb1.grown hgrow (by have := hb1.size; omega) (fun k hk => (hown.lt k hk).1)).setCell (p := ⟨b, 1, none⟩) hB _
theorem str_cells (a b : ByteArray) : Lib.strCells a ++ Lib.strCells b = Lib.strCells (a ++ b) := by
 rw [Lib.strCells_eq, Lib.strCells_eq, Lib.strCells_eq, ← Lib.byteCells_append, ByteArray.data_append, Array.toList_append]
theorem file_Text.calls (k : Nat) (A0 : Option Addr) (c0 : Nat) (l0 : List S41) (r1 : ByteArray) (r2 : Int) (w : World) (hr0 : Kd.C k41 w A0 l0.length l0) (hc0 : l0.length ≤ c0) (h : file_Text.f k l0 = some (r1, r2)) (hG : GOK w) :
 Calls Tryz.prog 6 #[.slice A0 l0.length c0] w fun e w' => e = .returned (.tuple #[.string r1, .int .i64 r2]) ∧ Below w.heap.size w w' := by
 have hu := Tryz.underlying41
 have huB := Tryz.underlying49
 have HRx := a_ hr0
 have HCx := a_ hc0
 clear hr0 hc0
 have HB := a_ (Below.refl w.heap.size w)
 have HX := a_ (Below.refl w.heap.size w)
 unfold file_Text.f at h
 obtain ⟨t, B1_, h⟩ := Option.bind_eq_some_iff.mp h
 have B1 := a_ B1_
 clear B1_
 cases t with
 | false =>
  rw [if_neg Bool.false_ne_true] at h
  obtain ⟨rfl, rfl⟩ := Prod.mk.inj (Option.some.inj h)
  clear h
  go_enter Tryz.func6, Tryz.ntmps6
  go_wp2_with (first
  | (go_at_call 18; (with_reducible refine (trail_May.calls k _ _ l0 _ _ ?s1 ?s2 B1.out (GOK.below hG (below_step HX.out hC_))).mono ?_); (case s1 => exact (Kd.C_below HRx.out (below_step HX.out hC_))); (case s2 => exact HCx.out); rintro e wc1 ⟨rfl, hb⟩; have hs_ := below_step hC_ hb; replace HX := a_ (below_step HX.out hs_); replace HB := a_ (Below.refl wc1.heap.size wc1); clear hs_ hb))
  go_ret2
  exact ⟨hV_, below_step HX.out hC_⟩
 | true =>
  rw [if_pos rfl] at h
  have H' := a_ h
  clear h
  go_enter Tryz.func6, Tryz.ntmps6
  go_wp2_with (first
  | (go_at_call 18; (with_reducible refine (trail_May.calls k _ _ l0 _ _ ?s1 ?s2 B1.out (GOK.below hG (below_step HX.out hC_))).mono ?_); (case s1 => exact (Kd.C_below HRx.out (below_step HX.out hC_))); (case s2 => exact HCx.out); rintro e wc1 ⟨rfl, hb⟩; have hs_ := below_step hC_ hb; replace HX := a_ (below_step HX.out hs_); replace HB := a_ (Below.refl wc1.heap.size wc1); clear hs_ hb)
  | ((with_reducible refine gate_dst (N := 4) rfl ?_); refine boxE_ 4 #[.pointer none, .slice none 0 0] 49 ?_; intro g0 hg wb4 hbox hb; have GE4_ := a_ (gE_ hg); have HI := a_ (bld_new (e := 5) hbox); have hs_ := below_step hC_ hb; have E0 := a_ (show w.heap.size ≤ g0 from Nat.le_trans (below_size HX.out) GE4_.out); replace HX := a_ (below_step HX.out hs_); replace HB := a_ (Below.refl wb4.heap.size wb4); clear hs_ hb hbox hg GE4_))
  go_loopg [16] k (fun kq v0 w' => ∃ (acc : ByteArray) (x : Int), v0 = .int .i64 x ∧ Aside0 (file_Text.l0 kq l0 acc x = some (r1, r2)) ∧ Aside0 (kq ≤ k ∧ 0 ≤ x) ∧ Aside0 (Lib.IsBuilder 49 5 g0 g0 (Lib.strCells acc) w') ∧ Aside0 (Below w.heap.size w w'))
  case atStart => exact ⟨⟨#[]⟩, 0, hW_, H', ⟨Nat.le_refl _, Int.le_refl _⟩, ⟨bld_below HI.out hC_⟩, ⟨below_step HX.out hC_⟩⟩
  case round =>
   clear H' HB HX HI
   obtain ⟨acc, x, rfl, HA, HK1, HI, HX⟩ := hrel
   have HB := a_ (Below.refl wr.heap.size wr)
   cases gk with
   | zero => exact absurd HA.out (by simp [file_Text.l0])
   | succ k1 =>
    have H := HA.out
    clear HA
    simp only [file_Text.l0] at H
    have GS := a_ (show g0 < wr.heap.size from HI.out.elim (fun h_ => h_.lt) (fun h_ => h_.lt))
    by_cases c2 : x < (l0.length : Int)
    case neg =>
     rw [if_neg c2] at H
     have c2b0 : decide (x < (l0.length : Int)) = false := decide_eq_false c2
     clear c2
     obtain ⟨rfl, rfl⟩ := Prod.mk.inj (Option.some.inj H)
     clear H
     go_wp2_with (first
      | ((with_reducible refine gate_callee (f := 23) rfl ?_); refine goesL_ _ rfl rfl Tryz.func23 (by kernel_rfl) rfl #[.pointer (some ⟨g0, 0, none⟩)] rfl hL_ ?_; (refine (Tryz.Builder_String_any g0 g0 acc.data.toList _ (bld_below HI.out hC_) ?hbw).mono ?_); (case hbw => exact Nat.le_of_lt (Nat.lt_of_lt_of_le GS.out (below_size hC_))); rintro e w1 ⟨rfl, hb⟩; refine ⟨_, rfl, ?_⟩; replace HX := a_ ((below_step HX.out hC_).trans (hb.mono E0.out)); replace HB := a_ (Below.refl w1.heap.size w1); clear hb))
     go_ret2
     exact ⟨by rfl, below_step HX.out hC_⟩
    rw [if_pos c2] at H
    obtain ⟨s, B2_, H⟩ := Option.bind_eq_some_iff.mp H
    obtain ⟨t, B3_, H⟩ := Option.bind_eq_some_iff.mp H
    by_cases c3 : acc.size + t.1.size ≤ 140737488355328
    case neg => rw [if_neg c3] at H; cases H
    rw [if_pos c3] at H
    obtain ⟨s1, s2⟩ := s
    obtain ⟨t1, t2⟩ := t
    simp only at B2_ B3_ c3 H
    have B2 := a_ B2_
    have B3 := a_ B3_
    have C3 := a_ c3
    clear B2_ B3_ c3
    have c2b0 : decide (x < (l0.length : Int)) = true := decide_eq_true c2
    obtain ⟨ad, A2, c2_, e0, h0, h1, h2, h3, hc2_, hr2_⟩ := at_T41 HRx.out x HK1.out.2 c2
    cases e0
    replace h0 := cl_ HX.out h0
    replace h1 := cl_ HX.out h1
    replace h2 := cl_ HX.out h2
    replace h3 := cl_ HX.out h3
    have HRn := a_ hr2_
    have HCn := a_ hc2_
    have p4 := eq_true HK1.out.2
    have q4 := eq_true c2
    have hw1 := a_ (show wrap64 (x + 1) = x + 1 from by have h5_ := (trail_May.true_spec B1.out).2.1; have h6_ := HK1.out.2; unfold wrap64; omega)
    clear hr2_ hc2_ c2
    by_cases c4 : (65536 : Int) < ((acc ++ t1).size : Int)
    case pos =>
     rw [if_pos c4] at H
     obtain ⟨rfl, rfl⟩ := Prod.mk.inj (Option.some.inj H)
     have c4b0 : decide ((65536 : Int) < ((acc ++ t1).size : Int)) = true := decide_eq_true c4
     have c4b1 : decide ((65536 : Int) < (acc.size : Int) + (t1.size : Int)) = true := (by have h_ := c4b0; simp only [ByteArray.size_append, Int.natCast_add] at h_; exact h_)
     clear H c4
     go_wp2_with (first
      | ((with_reducible refine gate_dst (N := 6) rfl ?_); refine boxE_ 6 #[.int .i64 0, .int .i64 0, .slice none 0 0, .string ⟨#[]⟩] 41 ?_; intro g1 hg wb6 hbox hb; have E1 := a_ (gE_ hg : wr.heap.size ≤ g1); have B0 := a_ hbox; (try clear z0 f4 z1 f5 z2 f6 z3 f7); obtain ⟨z0, z1, z2, z3, f4, f5, f6, f7⟩ := bx4_ B0.out; have hs_ := below_step hC_ hb; replace HB := a_ hs_; clear hs_ hb hbox hg)
      | ((with_reducible refine gate_callee (f := 19) rfl ?_); refine goesL_ _ rfl rfl Tryz.func19 (by kernel_rfl) rfl #[.agg #[.int .i64 (rd_T41 l0 x).f0, .int .i64 (rd_T41 l0 x).f1, .slice A2 (rd_T41 l0 x).f2.length c2_, .string (rd_T41 l0 x).f3]] rfl hL_ ?_; (refine (record_Put.calls k1 (rd_T41 l0 x).f0 (rd_T41 l0 x).f1 _ _ (rd_T41 l0 x).f2 (rd_T41 l0 x).f3 s1 s2 _ ?s1 ?s2 B2.out (GOK.below hG (below_step HX.out hC_))).mono ?_); (case s1 => exact (Kd.C_below HRn.out (below_step HX.out hC_))); (case s2 => exact HCn.out); rintro e wc1 ⟨rfl, hb⟩; refine ⟨_, rfl, ?_⟩; have hs_ := below_step hC_ hb; replace HI := a_ (bld_below HI.out hs_); replace GS := a_ (Nat.lt_of_lt_of_le GS.out (below_size hs_)); replace B0 := a_ (blk_below (g := g1) (o := .cells #[.int .i64 (rd_T41 l0 x).f0, .int .i64 (rd_T41 l0 x).f1, .slice A2 (rd_T41 l0 x).f2.length c2_, .string (rd_T41 l0 x).f3] 41 (0, 0)) (by (with_reducible repeat (first | refine blk_drewN ?_ _ | refine blk_drew ?_ | refine blk_alloc ?_ _)); exact (bP_ (bP_ (bP_ (bP_ (hK_ B0.out)))))) hb); replace HX := a_ (below_step HX.out hs_); replace HB := a_ (Below.refl wc1.heap.size wc1); clear hs_ hb; (try clear z0 f4 z1 f5 z2 f6 z3 f7); obtain ⟨z0, z1, z2, z3, f4, f5, f6, f7⟩ := bx4_ B0.out)
      | ((with_reducible refine gate_callee (f := 20) rfl ?_); refine goesL_ _ rfl rfl Tryz.func20 (by kernel_rfl) rfl #[.string s1] rfl hL_ ?_; (with_reducible refine (frame_Put.calls k1 s1 t1 t2 _ B3.out).mono ?_); rintro e wc2 ⟨rfl, hb⟩; refine ⟨_, rfl, ?_⟩; have hs_ := below_step hC_ hb; replace HI := a_ (bld_below HI.out hs_); replace GS := a_ (Nat.lt_of_lt_of_le GS.out (below_size hs_)); replace B0 := a_ (blk_below B0.out hs_); replace HX := a_ (below_step HX.out hs_); replace HB := a_ (Below.refl wc2.heap.size wc2); clear hs_ hb; (try clear z0 f4 z1 f5 z2 f6 z3 f7); obtain ⟨z0, z1, z2, z3, f4, f5, f6, f7⟩ := bx4_ B0.out)
      | ((with_reducible refine gate_callee (f := 21) rfl ?_); refine goesL_ _ rfl rfl Tryz.func21 (by kernel_rfl) rfl #[.pointer (some ⟨g0, 0, none⟩), .string t1] rfl hL_ ?_; (refine (builder_write g0 g0 (Lib.strCells acc) t1 _ (bld_below HI.out hC_) ?hlen ?hbw).mono ?_); (case hlen => rw [Lib.strCells_length]; exact C3.out); (case hbw => exact Nat.le_of_lt (Nat.lt_of_lt_of_le GS.out (below_size hC_))); rintro e ww ⟨rfl, h1_, hb⟩; refine ⟨_, rfl, ?_⟩; rw [str_cells] at h1_; replace HI := a_ (show Lib.IsBuilder 49 5 g0 g0 (Lib.strCells (acc ++ t1)) ww from .inr h1_); replace HX := a_ ((below_step HX.out hC_).trans (hb.mono E0.out)); replace HB := a_ (Below.refl ww.heap.size ww); clear hb h1_ B0 z0 z1 z2 z3 f4 f5 f6 f7)
      | ((with_reducible refine gate_callee (f := 22) rfl ?_); refine goesL_ _ rfl rfl Tryz.func22 (by kernel_rfl) rfl #[.pointer (some ⟨g0, 0, none⟩)] rfl hL_ ?_; (refine (Tryz.Builder_Len g0 g0 (Lib.strCells (acc ++ t1)) _ (bld_below HI.out hC_)).mono ?_); rintro e wl ⟨rfl, rfl⟩; refine ⟨_, rfl, ?_⟩; simp only [Lib.strCells_length]))
     go_ret2
     exact ⟨hV_, below_step HX.out hC_⟩
    case neg =>
     rw [if_neg c4] at H
     have H' := a_ H
     have c4b0 : decide ((65536 : Int) < ((acc ++ t1).size : Int)) = false := decide_eq_false c4
     have c4b1 : decide ((65536 : Int) < (acc.size : Int) + (t1.size : Int)) = false := (by have h_ := c4b0; simp only [ByteArray.size_append, Int.natCast_add] at h_; exact h_)
     clear H c4
     go_wp2_with (first
      | ((with_reducible refine gate_dst (N := 6) rfl ?_); refine boxE_ 6 #[.int .i64 0, .int .i64 0, .slice none 0 0, .string ⟨#[]⟩] 41 ?_; intro g1 hg wb6 hbox hb; have E1 := a_ (gE_ hg : wr.heap.size ≤ g1); have B0 := a_ hbox; (try clear z0 f4 z1 f5 z2 f6 z3 f7); obtain ⟨z0, z1, z2, z3, f4, f5, f6, f7⟩ := bx4_ B0.out; have hs_ := below_step hC_ hb; replace HB := a_ hs_; clear hs_ hb hbox hg)
      | ((with_reducible refine gate_callee (f := 19) rfl ?_); refine goesL_ _ rfl rfl Tryz.func19 (by kernel_rfl) rfl #[.agg #[.int .i64 (rd_T41 l0 x).f0, .int .i64 (rd_T41 l0 x).f1, .slice A2 (rd_T41 l0 x).f2.length c2_, .string (rd_T41 l0 x).f3]] rfl hL_ ?_; (refine (record_Put.calls k1 (rd_T41 l0 x).f0 (rd_T41 l0 x).f1 _ _ (rd_T41 l0 x).f2 (rd_T41 l0 x).f3 s1 s2 _ ?s1 ?s2 B2.out (GOK.below hG (below_step HX.out hC_))).mono ?_); (case s1 => exact (Kd.C_below HRn.out (below_step HX.out hC_))); (case s2 => exact HCn.out); rintro e wc1 ⟨rfl, hb⟩; refine ⟨_, rfl, ?_⟩; have hs_ := below_step hC_ hb; replace HI := a_ (bld_below HI.out hs_); replace GS := a_ (Nat.lt_of_lt_of_le GS.out (below_size hs_)); replace B0 := a_ (blk_below (g := g1) (o := .cells #[.int .i64 (rd_T41 l0 x).f0, .int .i64 (rd_T41 l0 x).f1, .slice A2 (rd_T41 l0 x).f2.length c2_, .string (rd_T41 l0 x).f3] 41 (0, 0)) (by (with_reducible repeat (first | refine blk_drewN ?_ _ | refine blk_drew ?_ | refine blk_alloc ?_ _)); exact (bP_ (bP_ (bP_ (bP_ (hK_ B0.out)))))) hb); replace HX := a_ (below_step HX.out hs_); replace HB := a_ (Below.refl wc1.heap.size wc1); clear hs_ hb; (try clear z0 f4 z1 f5 z2 f6 z3 f7); obtain ⟨z0, z1, z2, z3, f4, f5, f6, f7⟩ := bx4_ B0.out)
      | ((with_reducible refine gate_callee (f := 20) rfl ?_); refine goesL_ _ rfl rfl Tryz.func20 (by kernel_rfl) rfl #[.string s1] rfl hL_ ?_; (with_reducible refine (frame_Put.calls k1 s1 t1 t2 _ B3.out).mono ?_); rintro e wc2 ⟨rfl, hb⟩; refine ⟨_, rfl, ?_⟩; have hs_ := below_step hC_ hb; replace HI := a_ (bld_below HI.out hs_); replace GS := a_ (Nat.lt_of_lt_of_le GS.out (below_size hs_)); replace B0 := a_ (blk_below B0.out hs_); replace HX := a_ (below_step HX.out hs_); replace HB := a_ (Below.refl wc2.heap.size wc2); clear hs_ hb; (try clear z0 f4 z1 f5 z2 f6 z3 f7); obtain ⟨z0, z1, z2, z3, f4, f5, f6, f7⟩ := bx4_ B0.out)
      | ((with_reducible refine gate_callee (f := 21) rfl ?_); refine goesL_ _ rfl rfl Tryz.func21 (by kernel_rfl) rfl #[.pointer (some ⟨g0, 0, none⟩), .string t1] rfl hL_ ?_; (refine (builder_write g0 g0 (Lib.strCells acc) t1 _ (bld_below HI.out hC_) ?hlen ?hbw).mono ?_); (case hlen => rw [Lib.strCells_length]; exact C3.out); (case hbw => exact Nat.le_of_lt (Nat.lt_of_lt_of_le GS.out (below_size hC_))); rintro e ww ⟨rfl, h1_, hb⟩; refine ⟨_, rfl, ?_⟩; rw [str_cells] at h1_; replace HI := a_ (show Lib.IsBuilder 49 5 g0 g0 (Lib.strCells (acc ++ t1)) ww from .inr h1_); replace HX := a_ ((below_step HX.out hC_).trans (hb.mono E0.out)); replace HB := a_ (Below.refl ww.heap.size ww); clear hb h1_ B0 z0 z1 z2 z3 f4 f5 f6 f7)
      | ((with_reducible refine gate_callee (f := 22) rfl ?_); refine goesL_ _ rfl rfl Tryz.func22 (by kernel_rfl) rfl #[.pointer (some ⟨g0, 0, none⟩)] rfl hL_ ?_; (refine (Tryz.Builder_Len g0 g0 (Lib.strCells (acc ++ t1)) _ (bld_below HI.out hC_)).mono ?_); rintro e wl ⟨rfl, rfl⟩; refine ⟨_, rfl, ?_⟩; simp only [Lib.strCells_length]))
     go_roundg k1
     case measure => have := HK1.out.1; omega
     case rel => exact ⟨acc ++ t1, x + 1, by rw [hw1.out], H', ⟨by have := HK1.out.1; omega, by have := HK1.out.2; omega⟩, ⟨bld_below HI.out hC_⟩, ⟨below_step HX.out hC_⟩⟩

set_option maxHeartbeats 8000000
set_option maxRecDepth 100000
attribute [local go_sem] max2_int min2_int max_two min_two max_three min_three max_four min_four   -- for this text's walks alone
set_option linter.unusedVariables false
set_option linter.unusedSimpArgs false

/-- the frames of a text, from a place on -/
def file_Load.frames : Nat → ByteArray → Int → Option (List (ByteArray × Int))
 | 0, _, _ => none
 | k + 1, t, at_ => (frame_Get.f k t at_).bind fun g => if g.2.2 = 0 then (file_Load.frames k t g.2.1).bind fun r => some ((g.1, g.2.1) :: r) else some []
def file_Load.good (k N : Nat) (x : ByteArray × Int) : Bool := match record_Get.f k x.1 with
 | none => false
 | some n => (List.range N).all fun i => (trail_Next.f k n.1 n.2.1 n.2.2.1 n.2.2.2.1 (i : Int)).isSome
abbrev file_Load.node (n : Int × Int × List ByteArray × ByteArray × Int) : S41 := ⟨n.1, n.2.1, n.2.2.1, n.2.2.2.1⟩
def file_Load.fold (k : Nat) : List (ByteArray × Int) → List S41 → Int → List S41 × Int
 | [], out, at_ => (out, at_)
 | x :: xs, out, at_ => match record_Get.f k x.1 with
  | none => (out, at_)
  | some n => if n.2.2.2.2 = 0 ∧ trail_Next.f k n.1 n.2.1 n.2.2.1 n.2.2.2.1 (out.length : Int) = some true then file_Load.fold k xs (out ++ [file_Load.node n]) x.2 else (out, at_)
def file_Load.f (k : Nat) (s : ByteArray) : Option (List S41 × Int) := (file_Load.frames k (s.extract 0 (min s.size 65536)) 0).bind fun xs => if xs.length ≤ 65536 ∧ xs.all (file_Load.good k xs.length) = true then some (file_Load.fold k xs [] 0) else none
theorem file_Load.mono_l : ∀ k, ∀ y1 y2, LeO (file_Load.frames k y1 y2) (file_Load.frames (k + 1) y1 y2)
 | 0 => fun _ _ r h => by simp [file_Load.frames] at h
 | k + 1 => by
  have ih0 := file_Load.mono_l k
  intro y1 y2
  unfold file_Load.frames
  repeat' first
   | exact frame_Get.mono _ _ _
   | exact ih0 _ _
   | exact LeO.refl _
   | exact LeO.none _
   | refine LeO.ite ?_ ?_
   | refine LeO.bind ?_ (fun _ => ?_)
theorem file_Load.good_spec {k N : Nat} {x : ByteArray × Int} (h : file_Load.good k N x = true) : ∃ n, record_Get.f k x.1 = some n ∧ ∀ i : Nat, i < N → ∃ b, trail_Next.f k n.1 n.2.1 n.2.2.1 n.2.2.2.1 (i : Int) = some b := by
 unfold file_Load.good at h
 cases hn : record_Get.f k x.1 with
 | none => rw [hn] at h; cases h
 | some n =>
  rw [hn] at h
  refine ⟨n, rfl, fun i hi => ?_⟩
  exact Option.isSome_iff_exists.1 (List.all_eq_true.1 h i (List.mem_range.2 hi))
theorem file_Load.good_mono {k N : Nat} {x : ByteArray × Int} (h : file_Load.good k N x = true) : file_Load.good (k + 1) N x = true := by
 obtain ⟨n, h1, h2⟩ := file_Load.good_spec h
 unfold file_Load.good
 rw [record_Get.mono _ _ _ h1]
 refine List.all_eq_true.2 fun i hi => ?_
 obtain ⟨b, hb⟩ := h2 i (List.mem_range.1 hi)
 exact Option.isSome_iff_exists.2 ⟨b, trail_Next.mono _ _ _ _ _ _ _ hb⟩
theorem file_Load.fold_mono {k N : Nat} : ∀ (ys : List (ByteArray × Int)) (out : List S41) (at_ : Int), (∀ y ∈ ys, file_Load.good k N y = true) → out.length + ys.length ≤ N → file_Load.fold (k + 1) ys out at_ = file_Load.fold k ys out at_
 | [], _, _, _, _ => rfl
 | y :: ys, out, at_, h, hl => by
  obtain ⟨n, h1, h2⟩ := file_Load.good_spec (h y List.mem_cons_self)
  rw [List.length_cons] at hl
  obtain ⟨b, hb⟩ := h2 out.length (by omega)
  simp only [file_Load.fold, h1, record_Get.mono _ _ _ h1, hb, trail_Next.mono _ _ _ _ _ _ _ hb]
  by_cases c : n.2.2.2.2 = 0 ∧ some b = some true
  case neg =>
   rw [if_neg c, if_neg c]
  rw [if_pos c, if_pos c]
  exact file_Load.fold_mono ys _ _ (fun z hz => h z (List.mem_cons_of_mem _ hz)) (by rw [List.length_append, List.length_singleton]; omega)
/-- nodes ahead, all taken -/
def file_Load.acc (k : Nat) : List (ByteArray × Int) → List S41 → Int → Option (List S41 × Int)
 | [], out, at_ => some (out, at_)
 | x :: xs, out, at_ => (record_Get.f k x.1).bind fun n => if n.2.2.2.2 = 0 ∧ trail_Next.f k n.1 n.2.1 n.2.2.1 n.2.2.2.1 (out.length : Int) = some true then file_Load.acc k xs (out ++ [file_Load.node n]) x.2 else none
theorem file_Load.acc_cons {k : Nat} {x : ByteArray × Int} {n : Int × Int × List ByteArray × ByteArray × Int} (xs : List (ByteArray × Int)) (o0 : List S41) (a0 : Int) (h1 : record_Get.f k x.1 = some n) (h2 : n.2.2.2.2 = 0 ∧ trail_Next.f k n.1 n.2.1 n.2.2.1 n.2.2.2.1 (o0.length : Int) = some true) : file_Load.acc k (x :: xs) o0 a0 = file_Load.acc k xs (o0 ++ [file_Load.node n]) x.2 := by
 have e : file_Load.acc k (x :: xs) o0 a0 = (record_Get.f k x.1).bind fun n => if n.2.2.2.2 = 0 ∧ trail_Next.f k n.1 n.2.1 n.2.2.1 n.2.2.2.1 (o0.length : Int) = some true then file_Load.acc k xs (o0 ++ [file_Load.node n]) x.2 else none := by rw [file_Load.acc]
 rw [e, h1, Option.bind_some, if_pos h2]
theorem file_Load.acc_nil {k : Nat} {o0 out : List S41} {a0 at_ : Int} (h : file_Load.acc k [] o0 a0 = some (out, at_)) : o0 = out ∧ a0 = at_ := by
 rw [file_Load.acc] at h
 exact Prod.mk.inj (Option.some.inj h)
theorem file_Load.acc_snoc {k : Nat} {x : ByteArray × Int} {n : Int × Int × List ByteArray × ByteArray × Int} (h1 : record_Get.f k x.1 = some n) (h2 : n.2.2.2.2 = 0) (pre : List (ByteArray × Int)) : ∀ (o0 : List S41) (a0 : Int) (out : List S41) (at_ : Int), file_Load.acc k pre o0 a0 = some (out, at_) → trail_Next.f k n.1 n.2.1 n.2.2.1 n.2.2.2.1 (out.length : Int) = some true → file_Load.acc k (pre ++ [x]) o0 a0 = some (out ++ [file_Load.node n], x.2) := by
 induction pre with
 | nil =>
  intro o0 a0 out at_ h h3
  obtain ⟨rfl, rfl⟩ := file_Load.acc_nil h
  rw [List.nil_append, file_Load.acc_cons [] o0 a0 h1 ⟨h2, h3⟩, file_Load.acc]
 | cons y pre ih =>
  intro o0 a0 out at_ h h3
  rw [file_Load.acc] at h
  obtain ⟨m, g1, h⟩ := Option.bind_eq_some_iff.mp h
  by_cases c : m.2.2.2.2 = 0 ∧ trail_Next.f k m.1 m.2.1 m.2.2.1 m.2.2.2.1 (o0.length : Int) = some true
  case neg =>
   rw [if_neg c] at h; cases h
  rw [if_pos c] at h
  rw [List.cons_append, file_Load.acc_cons _ o0 a0 g1 c]
  exact ih _ _ out at_ h h3
theorem file_Load.acc_len {k : Nat} : ∀ (pre : List (ByteArray × Int)) (o0 : List S41) (a0 : Int) (out : List S41) (at_ : Int), file_Load.acc k pre o0 a0 = some (out, at_) → out.length = o0.length + pre.length
 | [], o0, a0, out, at_, h => by
  obtain ⟨rfl, rfl⟩ := Prod.mk.inj (Option.some.inj h)
  rfl
 | y :: pre, o0, a0, out, at_, h => by
  rw [file_Load.acc] at h
  obtain ⟨m, g1, h⟩ := Option.bind_eq_some_iff.mp h
  by_cases c : m.2.2.2.2 = 0 ∧ trail_Next.f k m.1 m.2.1 m.2.2.1 m.2.2.2.1 (o0.length : Int) = some true
  case neg =>
   rw [if_neg c] at h; cases h
  rw [if_pos c] at h
  have := file_Load.acc_len pre _ _ out at_ h
  rw [this, List.length_append, List.length_singleton, List.length_cons]; omega
theorem file_Load.fold_acc {k : Nat} {rest : List (ByteArray × Int)} : ∀ (pre : List (ByteArray × Int)) (o0 : List S41) (a0 : Int) (out : List S41) (at_ : Int), file_Load.acc k pre o0 a0 = some (out, at_) → file_Load.fold k (pre ++ rest) o0 a0 = file_Load.fold k rest out at_
 | [], o0, a0, out, at_, h => by
  obtain ⟨rfl, rfl⟩ := Prod.mk.inj (Option.some.inj h)
  rfl
 | y :: pre, o0, a0, out, at_, h => by
  rw [file_Load.acc] at h
  obtain ⟨m, g1, h⟩ := Option.bind_eq_some_iff.mp h
  by_cases c : m.2.2.2.2 = 0 ∧ trail_Next.f k m.1 m.2.1 m.2.2.1 m.2.2.2.1 (o0.length : Int) = some true
  case neg =>
   rw [if_neg c] at h; cases h
  rw [if_pos c] at h
  rw [List.cons_append, file_Load.fold, g1]
  simp only
  rw [if_pos c]
  exact file_Load.fold_acc pre _ _ out at_ h
theorem file_Load.frames_next {k : Nat} {t : ByteArray} {x : Int} {rest : List (ByteArray × Int)} (h : file_Load.frames k t x = some rest) : ∃ g, frame_Get.f k t x = some g ∧ ((g.2.2 = 0 ∧ ∃ r, rest = (g.1, g.2.1) :: r ∧ file_Load.frames k t g.2.1 = some r) ∨ (g.2.2 ≠ 0 ∧ rest = [])) := by
 cases k with
 | zero => simp [file_Load.frames] at h
 | succ k =>
  rw [file_Load.frames] at h
  obtain ⟨g, h1, h⟩ := Option.bind_eq_some_iff.mp h
  refine ⟨g, frame_Get.mono _ _ _ _ h1, ?_⟩
  by_cases c : g.2.2 = 0
  case neg =>
   rw [if_neg c] at h
   exact .inr ⟨c, (Option.some.inj h).symm⟩
  rw [if_pos c] at h
  obtain ⟨r, h2, h⟩ := Option.bind_eq_some_iff.mp h
  exact .inl ⟨c, r, (Option.some.inj h).symm, file_Load.mono_l k _ _ _ h2⟩
abbrev FrX (xs : List (ByteArray × Int)) := {x : ByteArray × Int // x ∈ xs}
def FrX.enc {xs : List (ByteArray × Int)} (x : FrX xs) : Array Value := #[.string x.1.1, .int .i64 x.1.2]
def KBn (Bn : Nat) (A B : World) : Prop := B.heap[Bn]? = A.heap[Bn]? ∧ A.heap.size ≤ B.heap.size
theorem grown_below {W W' : World} (h : Below W.heap.size W W') : W.grownBy W' none := ⟨h.os, h.tape, h.output, h.size, fun k hk _ => h.block k hk⟩
section
attribute [local go_sem] Oper.semAt_some
theorem records_1.in_ (n : Nat) (hn : 1 ≤ n) (l Bn k : Nat) (t : ByteArray) (xs : List (ByteArray × Int)) (hfr : file_Load.frames k t 0 = some xs) (J Jx : List (FrX xs) → World → Prop)
 (W : World) (hbn : Bn < W.heap.size) (hBn : W.cell? ⟨Bn, 0, none⟩ = some (.string t)) (hJ : AbidesFrom W.heap.size J) (h0 : J [] W)
 (hY : ∀ pre x W1, J pre W1 → pre.length < xs.length → YieldAt Fence.wide (n - 1) Tryz.prog l (FrX.enc x) W1 fun e W' => (e = .returned (.bool true) ∧ J (pre ++ [x]) W' ∧ KBn Bn W1 W') ∨ (e = .returned (.bool false) ∧ Jx (pre ++ [x]) W')) :
 CallsIn Fence.wide n Tryz.prog 44 #[.func (.yield l) #[] #[], .pointer (some ⟨Bn, 0, none⟩)] W fun e W' => (∃ v, e = .returned v) ∧
  ((∃ ys : List (FrX xs), ys.map (·.1) = xs ∧ J ys W') ∨ (∃ pre : List (FrX xs), pre.map (·.1) <+: xs ∧ Jx pre W')) := by
 refine callsIn_of_wp Tryz.func44 rfl trivial ?_ rfl
 simp only [Tryz.ntmps44, List.size_toArray, List.length_cons, List.length_nil, Nat.reduceAdd, Nat.reduceSub, Array.replicate_succ, Array.replicate_zero, List.push_toArray, List.append_toArray, List.nil_append, List.cons_append]
 gi_wp2
 gi_loopw [3] (fun v wr => ∃ (x : Int) (rest : List (ByteArray × Int)) (pre : List (FrX xs)), v = .int .i64 x ∧ Aside0 (file_Load.frames k t x = some rest) ∧ Aside0 (pre.map (·.1) ++ rest = xs) ∧ Aside0 (J pre wr ∧ KBn Bn W wr))
  (fun v _ => ((file_Load.frames k t (intOf v)).getD []).length)
 case atStart => exact ⟨0, xs, [], rfl, ⟨hfr⟩, ⟨rfl⟩, ⟨h0, rfl, Nat.le_refl _⟩⟩
 case round =>
  have ff1 : Fence.wide.fn 45 := trivial
  obtain ⟨x, rest, pre, rfl, HF, HP, HJ⟩ := hrel
  obtain ⟨⟨g1, g2, g3⟩, G1_, hgr⟩ := file_Load.frames_next HF.out
  have hcn : wr.cell? ⟨Bn, 0, none⟩ = some (.string t) := (World.cell?_of_block (a := ⟨Bn, 0, none⟩) HJ.out.2.1).trans hBn
  have G1 := a_ G1_
  have HN := a_ (Nat.lt_of_lt_of_le hbn HJ.out.2.2)
  have HJJ := a_ hJ
  have HYY := a_ hY
  have HFR := a_ hfr
  have HB0 := a_ hBn
  clear G1_ hY hJ h0 hfr hBn hbn
  rcases hgr with ⟨c3, r, hr1, hr2⟩ | ⟨c3, hr1⟩
  · simp only at c3 hr1 hr2
    subst c3
    have HR := a_ (And.intro hr1 hr2)
    clear hr1 hr2
    gi_wp2_with (first
     | (gi_at_call 45; refine ((callsIn_wide (n := n - 1)).2 (frame_Get.calls k t x g1 g2 0 _ G1.out)).mono ?_; rintro e W2 ⟨rfl, hb⟩; have HB2 := a_ hb; have HJ2 := a_ (HJJ.out pre wr W2 none HJ.out.1 (grown_below hb) (fun r e => by cases e)); clear hb hcn; obtain ⟨fn, tmps, assign, body, hy, hR⟩ := HYY.out pre ⟨(g1, g2), by rw [← HP.out, HR.out.1]; exact List.mem_append_right _ List.mem_cons_self⟩ W2 HJ2.out (by have h1 := congrArg List.length HP.out; rw [List.length_append, List.length_map, HR.out.1, List.length_cons] at h1; omega); simp only [FrX.enc] at hy; have HYR := a_ hR; clear hR))
    refine HYR.out.mono ?_
    rintro e W3 (⟨rfl, h1, h2⟩ | ⟨rfl, h1⟩)
    · have HQ := a_ (And.intro h1 h2)
      clear h1 h2
      gi_wp2
      refine ⟨⟨g2, r, _, rfl, ⟨HR.out.2⟩, ⟨?_⟩, ⟨HQ.out.1, (HQ.out.2.1.trans (HB2.out.block Bn HN.out)).trans HJ.out.2.1, Nat.le_trans HJ.out.2.2 (Nat.le_trans HB2.out.size HQ.out.2.2)⟩⟩, ?_⟩
      · have e_ := HP.out
        rw [HR.out.1] at e_
        rw [List.map_append, List.append_assoc]
        exact e_
      · simp only [intOf, HF.out, HR.out.1, HR.out.2, Option.getD_some, List.length_cons]
        omega
    · have HQ := a_ h1
      clear h1
      gi_wp2
      refine bodyPost_ret (results_none rfl _ _ _) rfl ?_
      refine ⟨⟨_, rfl⟩, .inr ⟨_, ?_, HQ.out⟩⟩
      have e_ := HP.out
      rw [HR.out.1] at e_
      rw [List.map_append]
      exact ⟨r, by rw [List.append_assoc]; exact e_⟩
  · simp only at c3 hr1
    subst hr1
    have c3a : (g3 == 0) = false := beq_eq_false_iff_ne.2 c3
    have c3b : (g3 != 0) = true := bne_iff_ne.2 c3
    clear c3
    gi_wp2_with (first
     | (gi_at_call 45; refine ((callsIn_wide (n := n - 1)).2 (frame_Get.calls k t x g1 g2 g3 _ G1.out)).mono ?_; rintro e W2 ⟨rfl, hb⟩; have HJ2 := a_ (HJJ.out pre wr W2 none HJ.out.1 (grown_below hb) (fun r e => by cases e)); clear hb hcn))
    refine ⟨fun f_ h_ => (by cases h_), ?_⟩
    gi_wp2
    refine bodyPost_ret (results_none rfl _ _ _) rfl ?_
    exact ⟨⟨_, rfl⟩, .inl ⟨pre, by have e_ := HP.out; rw [List.append_nil] at e_; exact e_, HJ2.out⟩⟩
theorem records.in_ (n : Nat) (hn : 1 ≤ n) (t : ByteArray) (w : World) :
 CallsIn Fence.wide n Tryz.prog 25 #[.string t] w fun e w' => e = .returned (.func (.func 44) #[] #[.pointer (some ⟨w.heap.size, 0, none⟩)]) ∧ w' = w.alloc (.cells #[.string t] 9) := by
 refine callsIn_of_wp Tryz.func25 rfl trivial ?_ rfl
 simp only [Tryz.ntmps25, List.size_toArray, List.length_cons, List.length_nil, Nat.reduceAdd, Nat.reduceSub, Array.replicate_succ, Array.replicate_zero, List.push_toArray, List.append_toArray, List.nil_append, List.cons_append]
 gi_wp2
 go_ret
 exact ⟨rfl, rfl⟩
theorem records.stops (n : Nat) (hn : 1 ≤ n) (k : Nat) (t : ByteArray) (xs : List (ByteArray × Int)) (hfr : file_Load.frames k t 0 = some xs) (w7 : World) (Bn : Nat) (hbn : Bn < w7.heap.size) (hBn : w7.cell? ⟨Bn, 0, none⟩ = some (.string t)) :
 SeqStopsK Fence.wide n Tryz.prog 44 #[.pointer (some ⟨Bn, 0, none⟩)] (FrX.enc (xs := xs)) (KBn Bn) (fun ys => ys.map (·.1) = xs) (fun pre => pre.map (·.1) <+: xs) xs.length w7 := fun l J Jx W hW hJ hJx hY h0 =>
 records_1.in_ n hn l Bn k t xs hfr J Jx W (Nat.lt_of_lt_of_le hbn hW.size) ((hW.cell (p := ⟨Bn, 0, none⟩) (by show Bn < w7.heap.size; omega)).trans hBn) hJ h0 hY
theorem S_nocell {α : Type} {d : Kd α} {e base : Nat} {ok : Nat → Prop} {W W' : World} {v : Value} {xs : List α} {row : Option Nat} (h : Kd.S d e W base ok v xs) (hg : W.grownBy W' row) (hrow : ∀ r, row = some r → ∃ o : Obj, W.heap[r]? = some o ∧ o.isCells = false) : Kd.S d e W' base ok v xs :=
 Kd.S_mono (Kd.S_step (Kd.S_bound h) (fun k hk hlt => hg.block k hlt (fun e_ => by
  obtain ⟨o, ho, hc⟩ := hrow k e_.symm
  obtain ⟨_, _, _, q, _, cells, hcell⟩ := hk
  rw [hcell] at ho
  cases ho
  cases hc))) (fun _ h_ => h_.1)
theorem S_append_in {F : Fence} {n : Nat} {P : Program} {ops : Array Oper} {rest : List Oper} {o : Oper} {a : Act} {Q : Exit → Act → World → Prop} {α : Type} {W : World} (d : Kd α) (base : Nat) (hgd : o.guard = none) (s x : Operand) (t e : TypeId) (z : Value) (bytes : Nat)
 (ho : o.op = .call { callee := .builtin .append, args := #[s, x], argTypes := #[t, t] })
 (ht : P.underlying t = some (.slice e)) (hinfo : (P.info? e).map (fun i => (i.zero, i.size, i.bytes)) = some (some z, d.sz, bytes)) (hz : z.cells.size = d.sz) (hs0 : 0 < d.sz) (hb0 : 0 < bytes)
 (v : Value) (xs : List α) (p : α) (cs : List Value) (ok okp : Nat → Prop) (hs : a.eval s = v) (hx : a.eval x = .slice (some ⟨W.heap.size, 0, none⟩) 1 1) (hp : d.M W base okp p cs) (hokp : ∀ k, okp k → ok k ∧ some k ≠ v.ownBlock) (hfresh : ∀ k, W.heap.size ≤ k → ok k)
 (HO : Kd.S d e W base (fun k => ok k ∧ ¬ okp k) v xs) (hbase : base ≤ W.heap.size) (hl : (xs.length + 1) * bytes ≤ 140737488355328)
 (h : ∀ v1 w1, Kd.S d e w1 base ok v1 (xs ++ [p]) → W.grownBy w1 v.ownBlock → (v1.ownBlock = v.ownBlock ∨ ∃ b, v1.ownBlock = some b ∧ W.heap.size ≤ b) → wpListIn F n P ops Q rest (a.put o.dst v1) w1) :
 wpListIn F n P ops Q (o :: rest) a (W.alloc (.cells cs.toArray e)) := by
 obtain ⟨f, hf, hR⟩ := Kd.S_tag HO xs.length okp (fun _ hk h2 => h2.2 hk)
 obtain ⟨h0, inner, hown, hr⟩ := Kd.R_mono hR (ok' := ok) (fun _ hk => hk.1)
 obtain ⟨i0, hi, hzz⟩ := Option.map_eq_some_iff.1 hinfo
 obtain ⟨hz0, hz12⟩ := Prod.mk.inj hzz
 obtain ⟨hz1, hz2⟩ := Prod.mk.inj hz12
 have hys := d.K_len (d.K_of_M hp)
 have hone := d.K_one (d.K_of_M hp)
 have hlen : xs.length + 1 ≤ 140737488355328 := Nat.le_trans (Nat.le_mul_of_pos_right _ hb0) hl
 refine wpListIn_plain hgd fun K hK => ?_
 obtain ⟨v1, w1, hrun, r1, r2, _, r4⟩ := run_append_own_at (P := P) (w := W.alloc (.cells cs.toArray e)) base t o.type e i0 z d.sz bytes ht hi hz0 hz1 hz2 hz hs0 v xs.zipIdx.length inner (hown.alloc _) ⟨W.heap.size, 0, none⟩ 1 1 cs (by rw [hys]; simp)
  (by simpa using World.news_of_block (cs := cs.toArray) (t := e) (fr := (0, 0)) (heap_alloc_new W (.cells cs.toArray e))) hone (by rw [List.length_zipIdx]; simp only [maxLen]; omega) (by rw [List.length_zipIdx]; exact hl) (by simp; omega)
 have hg : W.grownBy w1 v.ownBlock := World.grownBy.trans (World.grownBy_alloc W _ _) r2
 have hat : v1.ownBlock = v.ownBlock ∨ ∃ b, v1.ownBlock = some b ∧ W.heap.size ≤ b := r4.imp id (fun h_ => ⟨_, h_, by simp⟩)
 have hfin := Kd.R_appended h0 hr (show (Kd.tag f d).M W base okp (p, xs.length) cs from d.M_mono (fun k hk => ⟨hk, hf k hk⟩) hp) hokp hfresh r1 hg hat
 rw [← Kd.zip_snoc] at hfin
 unfold Oper.wpIn
 refine ⟨?_, ?_⟩
 · simp [Oper.about, ho, resolve, Target.leads, Sem.run_pure]
 · rw [Oper.semAt_plain F _ _ (by rw [ho]; intro c hc'; cases hc')]
   simp [execOp, ho, resolve, invoke, builtin, hs, hx, hrun, Result.andThen]
   exact hK _ _ (h v1 w1 ⟨f, hfin⟩ hg hat)
def file_Load.T9 : Bool × List (List Nat × List Nat) := (true, [([], []), ([], []), ([0, 0], [0]), ([1, 2, 0, 1, 2], [1])])
def file_Load.B9 : List Nat := [0, 0, 1, 2]
theorem file_Load.tab9 : rtab .any (opsOf Tryz.f8 9) = file_Load.T9 := by kernel_rfl
theorem file_Load.bits9 : waitsOk file_Load.T9.2 file_Load.B9 = true := by kernel_rfl
/-- between two rounds -/
def LoadI (k : Nat) (w : World) (T : ByteArray) (pre : List (ByteArray × Int)) (W : World) : Prop :=
 ∃ v out at_, file_Load.acc k pre [] 0 = some (out, at_) ∧ Boxed W w.heap.size 22 v ∧ Boxed W (w.heap.size + 1) 3 (.int .i64 at_) ∧ Boxed W (w.heap.size + 1 + 1) 9 (.string T) ∧ Kd.S k41 41 W w.heap.size (fun _ => True) v out ∧ Below w.heap.size w W
theorem LoadI.own {β : Type} {k : Nat} {w : World} {T : ByteArray} (f : β → List (ByteArray × Int)) {B : Nat} (hB : w.heap.size ≤ B) : OwnFrom B (fun s W => LoadI k w T (f s) W) := fun s X Y row hs hg hr => by
 obtain ⟨v, out, at_, h1, h2, h3, h4, h5, h6⟩ := hs
 have own : ∀ (b : Nat) (t : TypeId) (u : Value), Boxed X b t u → Boxed Y b t u := fun b t u h => (Own.from (boxed_own (β := Unit) b t (fun _ => u)) B) () X Y row h hg hr
 exact ⟨v, out, at_, h1, own _ _ _ h2, own _ _ _ h3, own _ _ _ h4, S_nocell h5 hg (fun r e => (hr r e).2), h6.grown hg h6.size (fun r e => Nat.le_trans hB (hr r e).1)⟩
theorem LoadI.below {k : Nat} {w W W' : World} {T : ByteArray} {pre : List (ByteArray × Int)} (h : LoadI k w T pre W) (hb : Below W.heap.size W W') : LoadI k w T pre W' := by
 obtain ⟨v, out, at_, h1, h2, h3, h4, h5, h6⟩ := h
 exact ⟨v, out, at_, h1, (hb.block _ h2.lt).trans h2, (hb.block _ h3.lt).trans h3, (hb.block _ h4.lt).trans h4, Kd.S_below h5 hb, below_step h6 hb⟩
theorem bx_three {w : World} {a b c : Value} {s t u : TypeId} :
 Boxed (((w.alloc (.cells #[a] s)).alloc (.cells #[b] t)).alloc (.cells #[c] u)) w.heap.size s a ∧ Boxed (((w.alloc (.cells #[a] s)).alloc (.cells #[b] t)).alloc (.cells #[c] u)) (w.heap.size + 1) t b ∧ Boxed (((w.alloc (.cells #[a] s)).alloc (.cells #[b] t)).alloc (.cells #[c] u)) (w.heap.size + 1 + 1) u c ∧ Below w.heap.size w (((w.alloc (.cells #[a] s)).alloc (.cells #[b] t)).alloc (.cells #[c] u)) ∧ (((w.alloc (.cells #[a] s)).alloc (.cells #[b] t)).alloc (.cells #[c] u)).heap.size = w.heap.size + 3 := by
 have h1 := ((Boxed.new w s a).alloc (.cells #[b] t)).alloc (.cells #[c] u)
 have h2 := (Boxed.new (w.alloc (.cells #[a] s)) t b).alloc (.cells #[c] u)
 have h3 := Boxed.new ((w.alloc (.cells #[a] s)).alloc (.cells #[b] t)) u c
 simp only [World.size_alloc] at h2 h3
 exact ⟨h1, h2, h3, (((Below.refl _ w).alloc (Nat.le_refl _) _).alloc (by simp) _).alloc (by simp; omega) _, by simp only [World.size_alloc]⟩
theorem keeps_below {B : Nat} {W W' : World} (h : Below W.heap.size W W') : KeepsFrom B W W' := KeepsFrom.of_grownBy (grown_below h) (fun j e => by cases e)
end
theorem file_Load.inW (k : Nat) (s : ByteArray) (xs : List (ByteArray × Int)) (w : World) (hfr : file_Load.frames k (s.extract 0 (min s.size 65536)) 0 = some xs) (hl : xs.length ≤ 65536) (hg : xs.all (file_Load.good k xs.length) = true) (hG : GOK w) :
 CallsIn Fence.wide 4 Tryz.prog 8 #[.string s] w fun e w' => ∃ v0_ : Value, e = .returned (.tuple #[v0_, .int .i64 (file_Load.fold k xs [] 0).2]) ∧ Kd.S k41 41 w' w.heap.size (fun _ => True) v0_ (file_Load.fold k xs [] 0).1 ∧ Below w.heap.size w w' := by
 have HF := a_ hfr
 have HL := a_ (And.intro hl hg)
 clear hfr hl hg
 refine callsIn_of_wp_marks Tryz.func8 rfl trivial ?_ rfl
 simp only [Tryz.ntmps8, List.size_toArray, List.length_cons, List.length_nil, Nat.reduceAdd, Nat.reduceSub, Array.replicate_succ, Array.replicate_zero, List.push_toArray, List.append_toArray, List.nil_append, List.cons_append]
 have ff1 : Fence.wide.fn 25 := trivial
 have ff2 : Fence.wide.fn 26 := trivial
 have ff3 : Fence.wide.fn 27 := trivial
 gi_wp2_with (first
  | (gi_at_call 25; refine (records.in_ _ (by omega) _ _).mono ?_; rintro e w7 ⟨rfl, rfl⟩))
 case inl =>
  have HF' := a_ (show file_Load.frames k (s.extract 0 65536) 0 = some xs from by have e_ := HF.out; rw [show min s.size 65536 = 65536 from by omega] at e_; exact e_)
  obtain ⟨bx0, bx1, bx2, hB0, hs0⟩ := bx_three (w := w) (a := .slice none 0 0) (b := .int .i64 0) (c := .string (s.extract 0 65536)) (s := 22) (t := 3) (u := 9)
  obtain ⟨W0, hW0⟩ : ∃ W0, ((w.alloc (.cells #[.slice none 0 0] 22)).alloc (.cells #[.int .i64 0] 3)).alloc (.cells #[.string (s.extract 0 65536)] 9) = W0 := ⟨_, rfl⟩
  rw [hW0] at bx0 bx1 bx2 hB0 hs0
  rw [hW0]
  clear hW0
  refine wpIn_rangeFunc_ownH (n := 4) rfl (by omega) (gf := 44) (lb := #[.pointer (some ⟨w.heap.size + 1 + 1, 0, none⟩)]) rfl trivial (enters_of Tryz.func44 (by kernel_rfl) rfl)
   (records.stops (4 - 1) (by omega) k (s.extract 0 65536) xs HF'.out W0 (w.heap.size + 1 + 1) (by omega) bx2.cell) (fun h1_ h2_ => ⟨h2_.1.trans h1_.1, Nat.le_trans h1_.2 h2_.2⟩) (fun W l o o' hl_ ho_ hc_ _ => ⟨World.putObj_heap_other (by omega), by simp [World.putObj]⟩) (Below.refl _ _) (fun _ => rfl)
   (fun pre W => LoadI k w (s.extract 0 65536) (pre.map (·.1)) W)
   (fun c pre W => c = .exit 0 ∧ ∃ (q : List (FrX xs)) (x : FrX xs) (n : Int × Int × List ByteArray × ByteArray × Int), pre = q ++ [x] ∧ record_Get.f k x.1.1 = some n ∧ ¬ (n.2.2.2.2 = 0 ∧ trail_Next.f k n.1 n.2.1 n.2.2.1 n.2.2.2.1 (q.length : Int) = some true) ∧ LoadI k w (s.extract 0 65536) (q.map (·.1)) W)
   (LoadI.own _ hB0.size)
   (fun c s_ A B row hs hg hr => by
    obtain ⟨h1, q, x, n, h2, h3, h4, h5⟩ := hs
    exact ⟨h1, q, x, n, h2, h3, h4, LoadI.own (β := Unit) (fun _ => q.map (·.1)) hB0.size () A B row h5 hg hr⟩)
   ⟨.slice none 0 0, [], 0, rfl, bx0, bx1, bx2, ⟨fun _ => 0, Kd.R_nil _ _ _ _ _⟩, hB0⟩
   (fun x a' W => a' = { tmps := #[.string s, undef, .slice none 0 0, .int .i64 0, .pointer (some ⟨w.heap.size, 0, none⟩), .pointer (some ⟨w.heap.size + 1, 0, none⟩), .string x.1.1, .int .i64 x.1.2, undef, undef, .string s, .string s, .int .i64 s.size, .int .i64 65536, .string (s.extract 0 65536), .func (.func 44) #[] #[.pointer (some ⟨w.heap.size + 1 + 1, 0, none⟩)], .string x.1.1, .int .i64 x.1.2, undef, undef, undef, undef, undef, undef, undef, undef, undef, undef, undef, undef, undef, undef, undef, undef, undef, undef, undef, undef], defers := [] })
   (fun x a' _ X Y row hs hg hr => hs)
   ?assign ?body ?done ?stop
  case assign =>
   rintro l pre x W K hI hK
   simp only [FrX.enc]
   gi_wp2_with (rw [Oper.semAt_eq _ _ _ (fun c h => by cases h)]; go_simp; try go_bits)
   exact hK _ _ (KeepsFrom.refl _ _) ⟨rfl, Nat.le_refl _⟩ hI rfl
  case body =>
   rintro l pre ⟨⟨x1, x2⟩, hx⟩ a' W hl ⟨r, hr⟩ hI rfl hlt
   dsimp only
   have HI := a_ hI
   obtain ⟨⟨n0, n1, n2, n3, n4⟩, hn_, hnx⟩ := file_Load.good_spec (List.all_eq_true.1 HL.out.2 _ hx)
   obtain ⟨v, out, at_, ha, b4, b5, bN, hS, hbw⟩ := hI
   have hol : out.length = pre.length := by have := file_Load.acc_len _ _ _ _ _ ha; simpa using this
   obtain ⟨b, hb_⟩ := hnx out.length (by omega)
   simp only at hn_ hb_
   have HN := a_ hn_
   have HX := a_ hb_
   have HBw := a_ hbw
   have HA := a_ (And.intro ha (And.intro hol hlt))
   have HS := a_ (And.intro hS (And.intro b4 (And.intro b5 bN)))
   clear hnx hb_ hn_ hbw ha hol hlt hS b4 b5 bN hl hr
   by_cases c4 : n4 = 0
   case neg =>
    have c4a : (n4 == 0) = false := beq_eq_false_iff_ne.2 c4
    have c4b : (n4 != 0) = true := bne_iff_ne.2 c4
    have C4 := a_ c4
    clear c4
    gi_wp2_with (first
     | (gi_at_call 26; refine ((callsIn_wide).2 (record_Get.calls k x1 n0 n1 n2 n3 n4 _ HN.out (GOK.below hG HBw.out))).mono ?_; rintro e w5 ⟨v2, rfl, hr0, hb5⟩; obtain ⟨A2, c2, rfl⟩ := Kd.R_slice hr0; have HB5 := a_ hb5; clear hr0 hb5)
     | (rw [Oper.semAt_eq _ _ _ (fun c h => by cases h)]; go_simp; try go_bits))
    have hq : Below W.heap.size W (w5.alloc (.cells #[.int .i64 n0, .int .i64 n1, .slice A2 n2.length c2, .string n3] 41)) := HB5.out.alloc HB5.out.size _
    exact ⟨keeps_below hq, rfl, pre, ⟨(x1, x2), hx⟩, (n0, n1, n2, n3, n4), rfl, HN.out, fun h_ => C4.out h_.1, LoadI.below HI.out hq⟩
   case pos =>
    subst c4
    obtain ⟨Av, cv, rfl⟩ := Kd.S_slice HS.out.1
    cases b with
    | false =>
     gi_wp2_with (first
      | (gi_at_call 26; refine ((callsIn_wide).2 (record_Get.calls k x1 n0 n1 n2 n3 0 _ HN.out (GOK.below hG HBw.out))).mono ?_; rintro e w5 ⟨v2, rfl, hr0, hb5⟩; obtain ⟨A2, c2, rfl⟩ := Kd.R_slice hr0; have HB5 := a_ hb5; have HR5 := a_ hr0; have HB6 := a_ (show Below W.heap.size W (w5.alloc (.cells #[.int .i64 n0, .int .i64 n1, .slice A2 n2.length c2, .string n3] 41)) from hb5.alloc hb5.size _); have C8 := a_ (bx4_ (World.alloc_heap_new w5 (.cells #[.int .i64 n0, .int .i64 n1, .slice A2 n2.length c2, .string n3] 41))); have c4_ := Boxed.cell ((HB6.out.block _ HS.out.2.1.lt).trans HS.out.2.1); clear hr0 hb5)
      | (gi_at_call 27; refine ((callsIn_wide).2 (trail_Next.calls k ⟨w5.heap.size, 0, none⟩ n0 n1 A2 c2 n2 n3 (out.length : Int) false _ C8.out.1 C8.out.2.1 C8.out.2.2.1 C8.out.2.2.2.1 (Kd.C_below (Kd.R_reads' HR5.out).2.2 ((Below.refl _ _).alloc (Nat.le_refl _) _)) (Kd.R_reads' HR5.out).2.1 HX.out (GOK.below hG (below_step HBw.out HB6.out)))).mono ?_; rintro e w7 ⟨rfl, hb7⟩; have HB7 := a_ (below_step HB6.out hb7); clear hb7 c4_)
      | (rw [Oper.semAt_eq _ _ _ (fun c h => by cases h)]; go_simp; try go_bits))
     exact ⟨keeps_below HB7.out, rfl, pre, ⟨(x1, x2), hx⟩, (n0, n1, n2, n3, 0), rfl, HN.out, (fun h_ => by have h2_ := h_.2; rw [← HA.out.2.1] at h2_; simp only at h2_; rw [HX.out] at h2_; cases h2_), LoadI.below HI.out HB7.out⟩
    | true =>
     gi_wp2_with (first
      | (gi_at_call 26; refine ((callsIn_wide).2 (record_Get.calls k x1 n0 n1 n2 n3 0 _ HN.out (GOK.below hG HBw.out))).mono ?_; rintro e w5 ⟨v2, rfl, hr0, hb5⟩; obtain ⟨A2, c2, rfl⟩ := Kd.R_slice hr0; have HB5 := a_ hb5; have HR5 := a_ hr0; have HB6 := a_ (show Below W.heap.size W (w5.alloc (.cells #[.int .i64 n0, .int .i64 n1, .slice A2 n2.length c2, .string n3] 41)) from hb5.alloc hb5.size _); have C8 := a_ (bx4_ (World.alloc_heap_new w5 (.cells #[.int .i64 n0, .int .i64 n1, .slice A2 n2.length c2, .string n3] 41))); have c4_ := Boxed.cell ((HB6.out.block _ HS.out.2.1.lt).trans HS.out.2.1); clear hr0 hb5)
      | (gi_at_call 27; refine ((callsIn_wide).2 (trail_Next.calls k ⟨w5.heap.size, 0, none⟩ n0 n1 A2 c2 n2 n3 (out.length : Int) true _ C8.out.1 C8.out.2.1 C8.out.2.2.1 C8.out.2.2.2.1 (Kd.C_below (Kd.R_reads' HR5.out).2.2 ((Below.refl _ _).alloc (Nat.le_refl _) _)) (Kd.R_reads' HR5.out).2.1 HX.out (GOK.below hG (below_step HBw.out HB6.out)))).mono ?_; rintro e w7 ⟨rfl, hb7⟩; have HB7 := a_ (below_step HB6.out hb7); have hbk7 := (hb7.block _ (by simp)).trans (World.alloc_heap_new w5 (.cells #[.int .i64 n0, .int .i64 n1, .slice A2 n2.length c2, .string n3] 41)); obtain ⟨c80, c81, c82, c83, _, _, _, _⟩ := bx4_ hbk7; obtain ⟨vo, hvo⟩ : ∃ vo, vo = Value.slice Av out.length cv := ⟨_, rfl⟩; have HVO := a_ hvo; have B47 := a_ (show Boxed w7 w.heap.size 22 vo from (by rw [hvo]; exact (HB7.out.block _ HS.out.2.1.lt).trans HS.out.2.1)); have B57 := a_ (show Boxed w7 (w.heap.size + 1) 3 _ from (HB7.out.block _ HS.out.2.2.1.lt).trans HS.out.2.2.1); have BN7 := a_ (show Boxed w7 (w.heap.size + 1 + 1) 9 _ from (HB7.out.block _ HS.out.2.2.2.lt).trans HS.out.2.2.2); clear c4_; have c4_ := B47.out.cell; have HR7 := a_ (Kd.R_lower (Kd.R_below (Kd.R_below (Kd.R_mono (ok' := fun k_ => W.heap.size ≤ k_) (Kd.R_bound HR5.out) (fun _ hk_ => hk_.2.1)) ((Below.refl _ _).alloc (Nat.le_refl _) _)) hb7) HBw.out.size); have HS7_ := Kd.S_below (Kd.S_bound HS.out.1) HB7.out; rw [← hvo] at HS7_; have HS7 := a_ (Kd.S_mono (ok' := fun k_ => True ∧ ¬ W.heap.size ≤ k_) HS7_ (fun k_ hk_ => ⟨trivial, Nat.not_le.2 hk_.2.2.1⟩)); clear HS7_; clear hb7 hbk7 hvo)
      | (gi_at_builtin; refine S_append_in k41 w.heap.size rfl (.tmp 31) (.tmp 33) 22 41 (.agg #[(.int .i64 0), (.int .i64 0), (.slice none 0 0), (.string ⟨#[]⟩)]) 56 rfl Tryz.underlying22 (by kernel_rfl) rfl (by decide) (by decide) vo out (file_Load.node (n0, n1, n2, n3, 0)) [.int .i64 n0, .int .i64 n1, .slice A2 n2.length c2, .string n3] (fun _ => True) (fun k_ => W.heap.size ≤ k_) rfl rfl (k41_mkM _ _ _ (file_Load.node (n0, n1, n2, n3, 0)) HR7.out) (fun k_ hk_ => ⟨trivial, fun e_ => absurd (Kd.R_lt (Kd.S_R HS.out.1) k_ (by rw [← HVO.out]; exact e_.symm)) (Nat.not_lt.2 hk_)⟩) (fun _ _ => trivial) HS7.out (below_step HBw.out HB7.out).size (by have := HA.out.2.1; have := HA.out.2.2; have := HL.out.1; omega) ?_; intro v8 w8 hs8 hg8 hat8; obtain ⟨A8, c8, e8⟩ := Kd.S_slice hs8; rw [List.length_append, List.length_singleton] at e8; subst e8; obtain ⟨inn, hoo⟩ := Kd.S_own HS7.out; have b48 : Boxed w8 w.heap.size 22 vo := (hg8.block _ B47.out.lt (own_ne hoo B47.out (by decide))).trans B47.out; have b58 : Boxed w8 (w.heap.size + 1) 3 (.int .i64 at_) := (hg8.block _ B57.out.lt (own_ne hoo B57.out (by decide))).trans B57.out; have bN8 : Boxed w8 (w.heap.size + 1 + 1) 9 (.string (s.extract 0 65536)) := (hg8.block _ BN7.out.lt (own_ne hoo BN7.out (by decide))).trans BN7.out; have c48 := b48.cell; have f48 := b48.frozen; have b59 := b58.other (B' := w.heap.size) (by omega) (.slice A8 (out.length + 1) c8); have c58 := b59.cell; have f58 := b59.frozen; have HQ8 := a_ (And.intro hs8 (And.intro hg8 (And.intro hoo (And.intro b48 (And.intro b58 bN8))))); clear hs8 hg8 hoo b48 b58 bN8 b59 hat8)
      | (rw [Oper.semAt_eq _ _ _ (fun c h => by cases h)]; go_simp; try go_bits))
     obtain ⟨hs8, hg8, hoo, b48, b58, bN8⟩ := HQ8.out
     have hBe7 := below_step HBw.out HB7.out
     have hB8 : Below w.heap.size w w8 := hBe7.grown hg8 hBe7.size (fun r e => own_base hoo r e)
     have kp8 : KeepsOthers w7 w8 := KeepsOthers.of_grownBy hg8 (fun j o hj ho => by
      obtain ⟨cells, hc⟩ := own_typed hoo j hj
      rw [hc] at ho
      cases ho
      rfl)
     refine ⟨(keeps_below HB7.out).trans ((kp8.trans ((KeepsOthers.setCell _ _ _).trans (KeepsOthers.setCell _ _ _))).from _), ⟨(show _ = _ from ((bN8.other (B' := w.heap.size) (by omega) _).other (B' := w.heap.size + 1) (by omega) _).trans HS.out.2.2.2.symm), Nat.le_trans HB7.out.size (Nat.le_trans hg8.size (by simp))⟩, _, out ++ [file_Load.node (n0, n1, n2, n3, 0)], x2, ?_, (b48.set _).other (by omega) _, (b58.other (by omega) _).set _, (bN8.other (by omega) _).other (by omega) _, Kd.S_set (Kd.S_set hs8 b48 (by decide) 0 _) (b58.other (B' := w.heap.size) (by omega) _) (by decide) 0 _, (hB8.setCell (p := ⟨w.heap.size, 0, none⟩) (Nat.le_refl _) _).setCell (p := ⟨w.heap.size + 1, 0, none⟩) (Nat.le_succ _) _⟩
     rw [List.map_append]
     exact file_Load.acc_snoc HN.out rfl _ [] 0 out at_ HA.out.1 HX.out
  case done =>
   rintro D ys W hD hS ⟨v, out, at_, ha, b4, b5, bN, hS4, hb⟩ hK
   obtain ⟨Av, cv, rfl⟩ := Kd.S_slice hS4
   have c4_ := b4.cell
   have c5_ := b5.cell
   have HE := a_ (show file_Load.fold k xs [] 0 = (out, at_) from by
    have e := file_Load.fold_acc (rest := []) _ [] 0 out at_ ha
    rw [List.append_nil, hS] at e
    rw [e, file_Load.fold])
   have HQ := a_ (And.intro hS4 (And.intro hb hK))
   clear ha hS hS4 hb hK bN
   gi_wp2
   refine wpIn_mono (Q := fun e a w' => match e with | .normal => a = { tmps := #[.string s, undef, .slice Av out.length cv, .int .i64 at_, .pointer (some ⟨w.heap.size, 0, none⟩), .pointer (some ⟨w.heap.size + 1, 0, none⟩), undef, undef, undef, undef, .string s, .string s, .int .i64 s.size, .int .i64 65536, .string (s.extract 0 65536), .func (.func 44) #[] #[.pointer (some ⟨w.heap.size + 1 + 1, 0, none⟩)], undef, undef, undef, undef, undef, undef, undef, undef, undef, undef, undef, undef, undef, undef, undef, undef, undef, undef, undef, undef, .slice Av out.length cv, .int .i64 at_], defers := [{ target := .collected D, args := #[] }] } ∧ ∃ nq, w' = W.drewN nq | _ => False) ?reg ?post
   case reg =>
    clear HQ HE HL HF HF' hB0 bx0 bx1 bx2 hs0
    refine wpIn_wide.2 ?_
    refine start_ (n := 4) (S := fun w' => w'.cell? ⟨w.heap.size, 0, none⟩ = some (.slice Av out.length cv) ∧ w'.cell? ⟨w.heap.size + 1, 0, none⟩ = some (.int .i64 at_)) (ds := []) #[false, false, false, false] (by kernel_rfl) rfl rfl ⟨c4_, c5_⟩ (fun hHeld => ?_)
    refine with_tabW file_Load.tab9 file_Load.bits9 (fun HT_ HW_ => ?_)
    refine tB_ 0 36 HT_.out HW_.out hHeld ?_
    refine tB_ 1 37 HT_.out HW_.out hHeld ?_
    refine pB_ 2 2 HT_.out ?_
    refine pB_ 3 3 HT_.out ?_
    refine done_ (done_of HT_.out (by kernel_rfl)) ?_
    exact ⟨rfl, _, rfl⟩
   case post =>
    intro e a W3 h9
    cases e <;> first | exact h9.elim | skip
    obtain ⟨rfl, nq, rfl⟩ := h9
    clear c4_ c5_
    gi_wp2
    obtain ⟨hS9, hb9, hK9_⟩ := HQ.out
    have hK9 : (W.drewN nq).heap[D]? = some (.deferred (some [])) := hK9_
    refine ⟨by simp, .inl ⟨_, _, rfl, run_takeDeferred hK9, ?_⟩⟩
    rw [HE.out]
    refine ⟨.tuple #[.slice Av out.length cv, .int .i64 at_], ?_, .slice Av out.length cv, rfl, S_nocell (Kd.S_drewN hS9 nq) (grownBy_putObj' _ _ _) (fun r e => by cases e; exact ⟨_, hK9, rfl⟩), (below_dn hb9 nq).grown (grownBy_putObj' _ _ _) hb9.size (fun r e => by cases e; exact Nat.le_trans hB0.size hD)⟩
    simp [results, Tryz.f8, go_sem]
  case stop =>
   rintro D c pre W hD hSp ⟨rfl, q, x, n, h1, h2, h3, v, out, at_, ha, b4, b5, bN, hS4, hb⟩ hK
   obtain ⟨Av, cv, rfl⟩ := Kd.S_slice hS4
   have c4_ := b4.cell
   have c5_ := b5.cell
   have HE := a_ (show file_Load.fold k xs [] 0 = (out, at_) from by
    obtain ⟨rest, hrest⟩ := hSp
    rw [h1, List.map_append, List.append_assoc] at hrest
    have e := file_Load.fold_acc (rest := x.1 :: rest) _ [] 0 out at_ ha
    have e2 : q.map (·.1) ++ (x.1 :: rest) = xs := hrest
    rw [e2] at e
    have hol : out.length = q.length := by have := file_Load.acc_len _ _ _ _ _ ha; simpa using this
    rw [← hol] at h3
    rw [e, file_Load.fold, h2]
    simp only
    rw [if_neg h3])
   have HQ := a_ (And.intro hS4 (And.intro hb hK))
   clear ha hSp h1 h2 h3 hS4 hb hK bN
   gi_wp2
   refine wpIn_mono (Q := fun e a w' => match e with | .normal => a = { tmps := #[.string s, undef, .slice Av out.length cv, .int .i64 at_, .pointer (some ⟨w.heap.size, 0, none⟩), .pointer (some ⟨w.heap.size + 1, 0, none⟩), undef, undef, undef, undef, .string s, .string s, .int .i64 s.size, .int .i64 65536, .string (s.extract 0 65536), .func (.func 44) #[] #[.pointer (some ⟨w.heap.size + 1 + 1, 0, none⟩)], undef, undef, undef, undef, undef, undef, undef, undef, undef, undef, undef, undef, undef, undef, undef, undef, undef, undef, undef, undef, .slice Av out.length cv, .int .i64 at_], defers := [{ target := .collected D, args := #[] }] } ∧ ∃ nq, w' = W.drewN nq | _ => False) ?reg ?post
   case reg =>
    clear HQ HE HL HF HF' hB0 bx0 bx1 bx2 hs0
    refine wpIn_wide.2 ?_
    refine start_ (n := 4) (S := fun w' => w'.cell? ⟨w.heap.size, 0, none⟩ = some (.slice Av out.length cv) ∧ w'.cell? ⟨w.heap.size + 1, 0, none⟩ = some (.int .i64 at_)) (ds := []) #[false, false, false, false] (by kernel_rfl) rfl rfl ⟨c4_, c5_⟩ (fun hHeld => ?_)
    refine with_tabW file_Load.tab9 file_Load.bits9 (fun HT_ HW_ => ?_)
    refine tB_ 0 36 HT_.out HW_.out hHeld ?_
    refine tB_ 1 37 HT_.out HW_.out hHeld ?_
    refine pB_ 2 2 HT_.out ?_
    refine pB_ 3 3 HT_.out ?_
    refine done_ (done_of HT_.out (by kernel_rfl)) ?_
    exact ⟨rfl, _, rfl⟩
   case post =>
    intro e a W3 h9
    cases e <;> first | exact h9.elim | skip
    obtain ⟨rfl, nq, rfl⟩ := h9
    clear c4_ c5_
    gi_wp2
    obtain ⟨hS9, hb9, hK9_⟩ := HQ.out
    have hK9 : (W.drewN nq).heap[D]? = some (.deferred (some [])) := hK9_
    refine ⟨by simp, .inl ⟨_, _, rfl, run_takeDeferred hK9, ?_⟩⟩
    rw [HE.out]
    refine ⟨.tuple #[.slice Av out.length cv, .int .i64 at_], ?_, .slice Av out.length cv, rfl, S_nocell (Kd.S_drewN hS9 nq) (grownBy_putObj' _ _ _) (fun r e => by cases e; exact ⟨_, hK9, rfl⟩), (below_dn hb9 nq).grown (grownBy_putObj' _ _ _) hb9.size (fun r e => by cases e; exact Nat.le_trans hB0.size hD)⟩
    simp [results, Tryz.f8, go_sem]
 case inr =>
  have HF' := a_ (show file_Load.frames k s 0 = some xs from by have e_ := HF.out; rw [show min s.size 65536 = s.size from by omega, ByteArray.extract_zero_size] at e_; exact e_)
  obtain ⟨bx0, bx1, bx2, hB0, hs0⟩ := bx_three (w := w) (a := .slice none 0 0) (b := .int .i64 0) (c := .string s) (s := 22) (t := 3) (u := 9)
  obtain ⟨W0, hW0⟩ : ∃ W0, ((w.alloc (.cells #[.slice none 0 0] 22)).alloc (.cells #[.int .i64 0] 3)).alloc (.cells #[.string s] 9) = W0 := ⟨_, rfl⟩
  rw [hW0] at bx0 bx1 bx2 hB0 hs0
  rw [hW0]
  clear hW0
  refine wpIn_rangeFunc_ownH (n := 4) rfl (by omega) (gf := 44) (lb := #[.pointer (some ⟨w.heap.size + 1 + 1, 0, none⟩)]) rfl trivial (enters_of Tryz.func44 (by kernel_rfl) rfl)
   (records.stops (4 - 1) (by omega) k s xs HF'.out W0 (w.heap.size + 1 + 1) (by omega) bx2.cell) (fun h1_ h2_ => ⟨h2_.1.trans h1_.1, Nat.le_trans h1_.2 h2_.2⟩) (fun W l o o' hl_ ho_ hc_ _ => ⟨World.putObj_heap_other (by omega), by simp [World.putObj]⟩) (Below.refl _ _) (fun _ => rfl)
   (fun pre W => LoadI k w s (pre.map (·.1)) W)
   (fun c pre W => c = .exit 0 ∧ ∃ (q : List (FrX xs)) (x : FrX xs) (n : Int × Int × List ByteArray × ByteArray × Int), pre = q ++ [x] ∧ record_Get.f k x.1.1 = some n ∧ ¬ (n.2.2.2.2 = 0 ∧ trail_Next.f k n.1 n.2.1 n.2.2.1 n.2.2.2.1 (q.length : Int) = some true) ∧ LoadI k w s (q.map (·.1)) W)
   (LoadI.own _ hB0.size)
   (fun c s_ A B row hs hg hr => by
    obtain ⟨h1, q, x, n, h2, h3, h4, h5⟩ := hs
    exact ⟨h1, q, x, n, h2, h3, h4, LoadI.own (β := Unit) (fun _ => q.map (·.1)) hB0.size () A B row h5 hg hr⟩)
   ⟨.slice none 0 0, [], 0, rfl, bx0, bx1, bx2, ⟨fun _ => 0, Kd.R_nil _ _ _ _ _⟩, hB0⟩
   (fun x a' W => a' = { tmps := #[.string s, undef, .slice none 0 0, .int .i64 0, .pointer (some ⟨w.heap.size, 0, none⟩), .pointer (some ⟨w.heap.size + 1, 0, none⟩), .string x.1.1, .int .i64 x.1.2, undef, undef, .string s, .string s, .int .i64 s.size, .int .i64 (s.size : Int), .string s, .func (.func 44) #[] #[.pointer (some ⟨w.heap.size + 1 + 1, 0, none⟩)], .string x.1.1, .int .i64 x.1.2, undef, undef, undef, undef, undef, undef, undef, undef, undef, undef, undef, undef, undef, undef, undef, undef, undef, undef, undef, undef], defers := [] })
   (fun x a' _ X Y row hs hg hr => hs)
   ?assign ?body ?done ?stop
  case assign =>
   rintro l pre x W K hI hK
   simp only [FrX.enc]
   gi_wp2_with (rw [Oper.semAt_eq _ _ _ (fun c h => by cases h)]; go_simp; try go_bits)
   exact hK _ _ (KeepsFrom.refl _ _) ⟨rfl, Nat.le_refl _⟩ hI rfl
  case body =>
   rintro l pre ⟨⟨x1, x2⟩, hx⟩ a' W hl ⟨r, hr⟩ hI rfl hlt
   dsimp only
   have HI := a_ hI
   obtain ⟨⟨n0, n1, n2, n3, n4⟩, hn_, hnx⟩ := file_Load.good_spec (List.all_eq_true.1 HL.out.2 _ hx)
   obtain ⟨v, out, at_, ha, b4, b5, bN, hS, hbw⟩ := hI
   have hol : out.length = pre.length := by have := file_Load.acc_len _ _ _ _ _ ha; simpa using this
   obtain ⟨b, hb_⟩ := hnx out.length (by omega)
   simp only at hn_ hb_
   have HN := a_ hn_
   have HX := a_ hb_
   have HBw := a_ hbw
   have HA := a_ (And.intro ha (And.intro hol hlt))
   have HS := a_ (And.intro hS (And.intro b4 (And.intro b5 bN)))
   clear hnx hb_ hn_ hbw ha hol hlt hS b4 b5 bN hl hr
   by_cases c4 : n4 = 0
   case neg =>
    have c4a : (n4 == 0) = false := beq_eq_false_iff_ne.2 c4
    have c4b : (n4 != 0) = true := bne_iff_ne.2 c4
    have C4 := a_ c4
    clear c4
    gi_wp2_with (first
     | (gi_at_call 26; refine ((callsIn_wide).2 (record_Get.calls k x1 n0 n1 n2 n3 n4 _ HN.out (GOK.below hG HBw.out))).mono ?_; rintro e w5 ⟨v2, rfl, hr0, hb5⟩; obtain ⟨A2, c2, rfl⟩ := Kd.R_slice hr0; have HB5 := a_ hb5; clear hr0 hb5)
     | (rw [Oper.semAt_eq _ _ _ (fun c h => by cases h)]; go_simp; try go_bits))
    have hq : Below W.heap.size W (w5.alloc (.cells #[.int .i64 n0, .int .i64 n1, .slice A2 n2.length c2, .string n3] 41)) := HB5.out.alloc HB5.out.size _
    exact ⟨keeps_below hq, rfl, pre, ⟨(x1, x2), hx⟩, (n0, n1, n2, n3, n4), rfl, HN.out, fun h_ => C4.out h_.1, LoadI.below HI.out hq⟩
   case pos =>
    subst c4
    obtain ⟨Av, cv, rfl⟩ := Kd.S_slice HS.out.1
    cases b with
    | false =>
     gi_wp2_with (first
      | (gi_at_call 26; refine ((callsIn_wide).2 (record_Get.calls k x1 n0 n1 n2 n3 0 _ HN.out (GOK.below hG HBw.out))).mono ?_; rintro e w5 ⟨v2, rfl, hr0, hb5⟩; obtain ⟨A2, c2, rfl⟩ := Kd.R_slice hr0; have HB5 := a_ hb5; have HR5 := a_ hr0; have HB6 := a_ (show Below W.heap.size W (w5.alloc (.cells #[.int .i64 n0, .int .i64 n1, .slice A2 n2.length c2, .string n3] 41)) from hb5.alloc hb5.size _); have C8 := a_ (bx4_ (World.alloc_heap_new w5 (.cells #[.int .i64 n0, .int .i64 n1, .slice A2 n2.length c2, .string n3] 41))); have c4_ := Boxed.cell ((HB6.out.block _ HS.out.2.1.lt).trans HS.out.2.1); clear hr0 hb5)
      | (gi_at_call 27; refine ((callsIn_wide).2 (trail_Next.calls k ⟨w5.heap.size, 0, none⟩ n0 n1 A2 c2 n2 n3 (out.length : Int) false _ C8.out.1 C8.out.2.1 C8.out.2.2.1 C8.out.2.2.2.1 (Kd.C_below (Kd.R_reads' HR5.out).2.2 ((Below.refl _ _).alloc (Nat.le_refl _) _)) (Kd.R_reads' HR5.out).2.1 HX.out (GOK.below hG (below_step HBw.out HB6.out)))).mono ?_; rintro e w7 ⟨rfl, hb7⟩; have HB7 := a_ (below_step HB6.out hb7); clear hb7 c4_)
      | (rw [Oper.semAt_eq _ _ _ (fun c h => by cases h)]; go_simp; try go_bits))
     exact ⟨keeps_below HB7.out, rfl, pre, ⟨(x1, x2), hx⟩, (n0, n1, n2, n3, 0), rfl, HN.out, (fun h_ => by have h2_ := h_.2; rw [← HA.out.2.1] at h2_; simp only at h2_; rw [HX.out] at h2_; cases h2_), LoadI.below HI.out HB7.out⟩
    | true =>
     gi_wp2_with (first
      | (gi_at_call 26; refine ((callsIn_wide).2 (record_Get.calls k x1 n0 n1 n2 n3 0 _ HN.out (GOK.below hG HBw.out))).mono ?_; rintro e w5 ⟨v2, rfl, hr0, hb5⟩; obtain ⟨A2, c2, rfl⟩ := Kd.R_slice hr0; have HB5 := a_ hb5; have HR5 := a_ hr0; have HB6 := a_ (show Below W.heap.size W (w5.alloc (.cells #[.int .i64 n0, .int .i64 n1, .slice A2 n2.length c2, .string n3] 41)) from hb5.alloc hb5.size _); have C8 := a_ (bx4_ (World.alloc_heap_new w5 (.cells #[.int .i64 n0, .int .i64 n1, .slice A2 n2.length c2, .string n3] 41))); have c4_ := Boxed.cell ((HB6.out.block _ HS.out.2.1.lt).trans HS.out.2.1); clear hr0 hb5)
      | (gi_at_call 27; refine ((callsIn_wide).2 (trail_Next.calls k ⟨w5.heap.size, 0, none⟩ n0 n1 A2 c2 n2 n3 (out.length : Int) true _ C8.out.1 C8.out.2.1 C8.out.2.2.1 C8.out.2.2.2.1 (Kd.C_below (Kd.R_reads' HR5.out).2.2 ((Below.refl _ _).alloc (Nat.le_refl _) _)) (Kd.R_reads' HR5.out).2.1 HX.out (GOK.below hG (below_step HBw.out HB6.out)))).mono ?_; rintro e w7 ⟨rfl, hb7⟩; have HB7 := a_ (below_step HB6.out hb7); have hbk7 := (hb7.block _ (by simp)).trans (World.alloc_heap_new w5 (.cells #[.int .i64 n0, .int .i64 n1, .slice A2 n2.length c2, .string n3] 41)); obtain ⟨c80, c81, c82, c83, _, _, _, _⟩ := bx4_ hbk7; obtain ⟨vo, hvo⟩ : ∃ vo, vo = Value.slice Av out.length cv := ⟨_, rfl⟩; have HVO := a_ hvo; have B47 := a_ (show Boxed w7 w.heap.size 22 vo from (by rw [hvo]; exact (HB7.out.block _ HS.out.2.1.lt).trans HS.out.2.1)); have B57 := a_ (show Boxed w7 (w.heap.size + 1) 3 _ from (HB7.out.block _ HS.out.2.2.1.lt).trans HS.out.2.2.1); have BN7 := a_ (show Boxed w7 (w.heap.size + 1 + 1) 9 _ from (HB7.out.block _ HS.out.2.2.2.lt).trans HS.out.2.2.2); clear c4_; have c4_ := B47.out.cell; have HR7 := a_ (Kd.R_lower (Kd.R_below (Kd.R_below (Kd.R_mono (ok' := fun k_ => W.heap.size ≤ k_) (Kd.R_bound HR5.out) (fun _ hk_ => hk_.2.1)) ((Below.refl _ _).alloc (Nat.le_refl _) _)) hb7) HBw.out.size); have HS7_ := Kd.S_below (Kd.S_bound HS.out.1) HB7.out; rw [← hvo] at HS7_; have HS7 := a_ (Kd.S_mono (ok' := fun k_ => True ∧ ¬ W.heap.size ≤ k_) HS7_ (fun k_ hk_ => ⟨trivial, Nat.not_le.2 hk_.2.2.1⟩)); clear HS7_; clear hb7 hbk7 hvo)
      | (gi_at_builtin; refine S_append_in k41 w.heap.size rfl (.tmp 31) (.tmp 33) 22 41 (.agg #[(.int .i64 0), (.int .i64 0), (.slice none 0 0), (.string ⟨#[]⟩)]) 56 rfl Tryz.underlying22 (by kernel_rfl) rfl (by decide) (by decide) vo out (file_Load.node (n0, n1, n2, n3, 0)) [.int .i64 n0, .int .i64 n1, .slice A2 n2.length c2, .string n3] (fun _ => True) (fun k_ => W.heap.size ≤ k_) rfl rfl (k41_mkM _ _ _ (file_Load.node (n0, n1, n2, n3, 0)) HR7.out) (fun k_ hk_ => ⟨trivial, fun e_ => absurd (Kd.R_lt (Kd.S_R HS.out.1) k_ (by rw [← HVO.out]; exact e_.symm)) (Nat.not_lt.2 hk_)⟩) (fun _ _ => trivial) HS7.out (below_step HBw.out HB7.out).size (by have := HA.out.2.1; have := HA.out.2.2; have := HL.out.1; omega) ?_; intro v8 w8 hs8 hg8 hat8; obtain ⟨A8, c8, e8⟩ := Kd.S_slice hs8; rw [List.length_append, List.length_singleton] at e8; subst e8; obtain ⟨inn, hoo⟩ := Kd.S_own HS7.out; have b48 : Boxed w8 w.heap.size 22 vo := (hg8.block _ B47.out.lt (own_ne hoo B47.out (by decide))).trans B47.out; have b58 : Boxed w8 (w.heap.size + 1) 3 (.int .i64 at_) := (hg8.block _ B57.out.lt (own_ne hoo B57.out (by decide))).trans B57.out; have bN8 : Boxed w8 (w.heap.size + 1 + 1) 9 (.string s) := (hg8.block _ BN7.out.lt (own_ne hoo BN7.out (by decide))).trans BN7.out; have c48 := b48.cell; have f48 := b48.frozen; have b59 := b58.other (B' := w.heap.size) (by omega) (.slice A8 (out.length + 1) c8); have c58 := b59.cell; have f58 := b59.frozen; have HQ8 := a_ (And.intro hs8 (And.intro hg8 (And.intro hoo (And.intro b48 (And.intro b58 bN8))))); clear hs8 hg8 hoo b48 b58 bN8 b59 hat8)
      | (rw [Oper.semAt_eq _ _ _ (fun c h => by cases h)]; go_simp; try go_bits))
     obtain ⟨hs8, hg8, hoo, b48, b58, bN8⟩ := HQ8.out
     have hBe7 := below_step HBw.out HB7.out
     have hB8 : Below w.heap.size w w8 := hBe7.grown hg8 hBe7.size (fun r e => own_base hoo r e)
     have kp8 : KeepsOthers w7 w8 := KeepsOthers.of_grownBy hg8 (fun j o hj ho => by
      obtain ⟨cells, hc⟩ := own_typed hoo j hj
      rw [hc] at ho
      cases ho
      rfl)
     refine ⟨(keeps_below HB7.out).trans ((kp8.trans ((KeepsOthers.setCell _ _ _).trans (KeepsOthers.setCell _ _ _))).from _), ⟨(show _ = _ from ((bN8.other (B' := w.heap.size) (by omega) _).other (B' := w.heap.size + 1) (by omega) _).trans HS.out.2.2.2.symm), Nat.le_trans HB7.out.size (Nat.le_trans hg8.size (by simp))⟩, _, out ++ [file_Load.node (n0, n1, n2, n3, 0)], x2, ?_, (b48.set _).other (by omega) _, (b58.other (by omega) _).set _, (bN8.other (by omega) _).other (by omega) _, Kd.S_set (Kd.S_set hs8 b48 (by decide) 0 _) (b58.other (B' := w.heap.size) (by omega) _) (by decide) 0 _, (hB8.setCell (p := ⟨w.heap.size, 0, none⟩) (Nat.le_refl _) _).setCell (p := ⟨w.heap.size + 1, 0, none⟩) (Nat.le_succ _) _⟩
     rw [List.map_append]
     exact file_Load.acc_snoc HN.out rfl _ [] 0 out at_ HA.out.1 HX.out
  case done =>
   rintro D ys W hD hS ⟨v, out, at_, ha, b4, b5, bN, hS4, hb⟩ hK
   obtain ⟨Av, cv, rfl⟩ := Kd.S_slice hS4
   have c4_ := b4.cell
   have c5_ := b5.cell
   have HE := a_ (show file_Load.fold k xs [] 0 = (out, at_) from by
    have e := file_Load.fold_acc (rest := []) _ [] 0 out at_ ha
    rw [List.append_nil, hS] at e
    rw [e, file_Load.fold])
   have HQ := a_ (And.intro hS4 (And.intro hb hK))
   clear ha hS hS4 hb hK bN
   gi_wp2
   refine wpIn_mono (Q := fun e a w' => match e with | .normal => a = { tmps := #[.string s, undef, .slice Av out.length cv, .int .i64 at_, .pointer (some ⟨w.heap.size, 0, none⟩), .pointer (some ⟨w.heap.size + 1, 0, none⟩), undef, undef, undef, undef, .string s, .string s, .int .i64 s.size, .int .i64 (s.size : Int), .string s, .func (.func 44) #[] #[.pointer (some ⟨w.heap.size + 1 + 1, 0, none⟩)], undef, undef, undef, undef, undef, undef, undef, undef, undef, undef, undef, undef, undef, undef, undef, undef, undef, undef, undef, undef, .slice Av out.length cv, .int .i64 at_], defers := [{ target := .collected D, args := #[] }] } ∧ ∃ nq, w' = W.drewN nq | _ => False) ?reg ?post
   case reg =>
    clear HQ HE HL HF HF' hB0 bx0 bx1 bx2 hs0
    refine wpIn_wide.2 ?_
    refine start_ (n := 4) (S := fun w' => w'.cell? ⟨w.heap.size, 0, none⟩ = some (.slice Av out.length cv) ∧ w'.cell? ⟨w.heap.size + 1, 0, none⟩ = some (.int .i64 at_)) (ds := []) #[false, false, false, false] (by kernel_rfl) rfl rfl ⟨c4_, c5_⟩ (fun hHeld => ?_)
    refine with_tabW file_Load.tab9 file_Load.bits9 (fun HT_ HW_ => ?_)
    refine tB_ 0 36 HT_.out HW_.out hHeld ?_
    refine tB_ 1 37 HT_.out HW_.out hHeld ?_
    refine pB_ 2 2 HT_.out ?_
    refine pB_ 3 3 HT_.out ?_
    refine done_ (done_of HT_.out (by kernel_rfl)) ?_
    exact ⟨rfl, _, rfl⟩
   case post =>
    intro e a W3 h9
    cases e <;> first | exact h9.elim | skip
    obtain ⟨rfl, nq, rfl⟩ := h9
    clear c4_ c5_
    gi_wp2
    obtain ⟨hS9, hb9, hK9_⟩ := HQ.out
    have hK9 : (W.drewN nq).heap[D]? = some (.deferred (some [])) := hK9_
    refine ⟨by simp, .inl ⟨_, _, rfl, run_takeDeferred hK9, ?_⟩⟩
    rw [HE.out]
    refine ⟨.tuple #[.slice Av out.length cv, .int .i64 at_], ?_, .slice Av out.length cv, rfl, S_nocell (Kd.S_drewN hS9 nq) (grownBy_putObj' _ _ _) (fun r e => by cases e; exact ⟨_, hK9, rfl⟩), (below_dn hb9 nq).grown (grownBy_putObj' _ _ _) hb9.size (fun r e => by cases e; exact Nat.le_trans hB0.size hD)⟩
    simp [results, Tryz.f8, go_sem]
  case stop =>
   rintro D c pre W hD hSp ⟨rfl, q, x, n, h1, h2, h3, v, out, at_, ha, b4, b5, bN, hS4, hb⟩ hK
   obtain ⟨Av, cv, rfl⟩ := Kd.S_slice hS4
   have c4_ := b4.cell
   have c5_ := b5.cell
   have HE := a_ (show file_Load.fold k xs [] 0 = (out, at_) from by
    obtain ⟨rest, hrest⟩ := hSp
    rw [h1, List.map_append, List.append_assoc] at hrest
    have e := file_Load.fold_acc (rest := x.1 :: rest) _ [] 0 out at_ ha
    have e2 : q.map (·.1) ++ (x.1 :: rest) = xs := hrest
    rw [e2] at e
    have hol : out.length = q.length := by have := file_Load.acc_len _ _ _ _ _ ha; simpa using this
    rw [← hol] at h3
    rw [e, file_Load.fold, h2]
    simp only
    rw [if_neg h3])
   have HQ := a_ (And.intro hS4 (And.intro hb hK))
   clear ha hSp h1 h2 h3 hS4 hb hK bN
   gi_wp2
   refine wpIn_mono (Q := fun e a w' => match e with | .normal => a = { tmps := #[.string s, undef, .slice Av out.length cv, .int .i64 at_, .pointer (some ⟨w.heap.size, 0, none⟩), .pointer (some ⟨w.heap.size + 1, 0, none⟩), undef, undef, undef, undef, .string s, .string s, .int .i64 s.size, .int .i64 (s.size : Int), .string s, .func (.func 44) #[] #[.pointer (some ⟨w.heap.size + 1 + 1, 0, none⟩)], undef, undef, undef, undef, undef, undef, undef, undef, undef, undef, undef, undef, undef, undef, undef, undef, undef, undef, undef, undef, .slice Av out.length cv, .int .i64 at_], defers := [{ target := .collected D, args := #[] }] } ∧ ∃ nq, w' = W.drewN nq | _ => False) ?reg ?post
   case reg =>
    clear HQ HE HL HF HF' hB0 bx0 bx1 bx2 hs0
    refine wpIn_wide.2 ?_
    refine start_ (n := 4) (S := fun w' => w'.cell? ⟨w.heap.size, 0, none⟩ = some (.slice Av out.length cv) ∧ w'.cell? ⟨w.heap.size + 1, 0, none⟩ = some (.int .i64 at_)) (ds := []) #[false, false, false, false] (by kernel_rfl) rfl rfl ⟨c4_, c5_⟩ (fun hHeld => ?_)
    refine with_tabW file_Load.tab9 file_Load.bits9 (fun HT_ HW_ => ?_)
    refine tB_ 0 36 HT_.out HW_.out hHeld ?_
    refine tB_ 1 37 HT_.out HW_.out hHeld ?_
    refine pB_ 2 2 HT_.out ?_
    refine pB_ 3 3 HT_.out ?_
    refine done_ (done_of HT_.out (by kernel_rfl)) ?_
    exact ⟨rfl, _, rfl⟩
   case post =>
    intro e a W3 h9
    cases e <;> first | exact h9.elim | skip
    obtain ⟨rfl, nq, rfl⟩ := h9
    clear c4_ c5_
    gi_wp2
    obtain ⟨hS9, hb9, hK9_⟩ := HQ.out
    have hK9 : (W.drewN nq).heap[D]? = some (.deferred (some [])) := hK9_
    refine ⟨by simp, .inl ⟨_, _, rfl, run_takeDeferred hK9, ?_⟩⟩
    rw [HE.out]
    refine ⟨.tuple #[.slice Av out.length cv, .int .i64 at_], ?_, .slice Av out.length cv, rfl, S_nocell (Kd.S_drewN hS9 nq) (grownBy_putObj' _ _ _) (fun r e => by cases e; exact ⟨_, hK9, rfl⟩), (below_dn hb9 nq).grown (grownBy_putObj' _ _ _) hb9.size (fun r e => by cases e; exact Nat.le_trans hB0.size hD)⟩
    simp [results, Tryz.f8, go_sem]
theorem file_Load.calls (k : Nat) (s : ByteArray) (r1 : List S41) (r2 : Int) (w : World) (h : file_Load.f k s = some (r1, r2)) (hG : GOK w) :
 Calls Tryz.prog 8 #[.string s] w fun e w' => ∃ v0_ : Value, e = .returned (.tuple #[v0_, .int .i64 r2]) ∧ Kd.S k41 41 w' w.heap.size (fun _ => True) v0_ r1 ∧ Below w.heap.size w w' := by
 unfold file_Load.f at h
 obtain ⟨xs, h1, h⟩ := Option.bind_eq_some_iff.mp h
 by_cases c : xs.length ≤ 65536 ∧ xs.all (file_Load.good k xs.length) = true
 case neg =>
  rw [if_neg c] at h; cases h

 rw [if_pos c] at h
 have e := Option.some.inj h
 have h2 := file_Load.inW k s xs w h1 c.1 c.2 hG
 rw [e] at h2
 exact (callsIn_wide (n := 4)).1 h2
end Go.Proofs.YtnhmmbgnaogokaaGreatDoor.G
end
section
namespace Go.Proofs.YtnhmmbgnaogokaaGreatDoor.G
open Go.RowKit Go.Proofs.YtnhmmbgnaogokaaGreatDoorW.PrintWords Go.Proofs.YtnhmmbgnaogokaaGreatDoorW.PrintLast Go.Proofs.YtnhmmbgnaogokaaGreatDoorW.PrintMore
set_option linter.unusedVariables false
set_option linter.unusedSimpArgs false
def textS (ns : List Nd) : ByteArray × Int := if mayT ns = true then (if 65536 < (fileB ns).size then (⟨#[]⟩, 1700) else (fileB ns, 0)) else (⟨#[]⟩, 1700)
theorem fileB_take (ns : List Nd) (i : Nat) : fileB ns = fileB (ns.take i) ++ fileB (ns.drop i) := by rw [← fileB_app, List.take_append_drop]
theorem text_l0 (ns : List Nd) (hv : validS ns) : ∀ (n i : Nat), i + n = ns.length → (fileB (ns.take i)).size ≤ 65536 → Ev (fun k => file_Text.l0 k ns (fileB (ns.take i)) (i : Int)) (if 65536 < (fileB ns).size then ((⟨#[]⟩ : ByteArray), (1700 : Int)) else (fileB ns, 0)) := by
  intro n
  induction n with
  | zero =>
    intro i hi hs
    rw [List.take_of_length_le (by omega)] at hs ⊢
    rw [if_neg (by omega)]
    refine Ev.step (f := fun _ => some (fileB ns, 0)) (fun k => ?_) (Ev.now _)
    rw [file_Text.l0, if_neg (by omega)]
  | succ n ih =>
    intro i hi hs
    have hlt : i < ns.length := by omega
    have hx := hv i hlt
    have hr := recS_of_next hx
    have hr2 := recS_spec hr
    have e1 := putRec_ev ns[i] (by omega) (by omega)
    have e2 := put_ev (recOf ns[i])
    have hp : putR ns[i] = (recOf ns[i], 0) := by unfold putR; rw [if_pos hr]
    have hf : putF (recOf ns[i]) = (frec ns[i], 0) := putF_small _ (recOf_size hr)
    rw [hp] at e1
    rw [hf] at e2
    have c1 : (i : Int) < (ns.length : Int) := by omega
    have hz := frec_size ns[i]
    have hz2 := recOf_size hr
    have c2 : (fileB (ns.take i)).size + (frec ns[i]).size ≤ 140737488355328 := by omega
    have eT : fileB (ns.take i) ++ frec ns[i] = fileB (ns.take (i + 1)) := by rw [List.take_succ_eq_append_getElem hlt, fileB_app, fileB_one]
    have eN : (i : Int) + 1 = ((i + 1 : Nat) : Int) := by omega
    refine Ev.step (f := fun k => (record_Put.f k ns[i].f0 ns[i].f1 ns[i].f2 ns[i].f3).bind fun s => (frame_Put.f k s.1).bind fun t => if (fileB (ns.take i)).size + t.1.size ≤ 140737488355328 then (if (65536 : Int) < (((fileB (ns.take i)) ++ t.1).size : Int) then some ((⟨#[]⟩ : ByteArray), (1700 : Int)) else file_Text.l0 k ns ((fileB (ns.take i)) ++ t.1) ((i : Int) + 1)) else none) (fun k => ?_) ?_
    · rw [file_Text.l0, if_pos c1]
      have := rn_eq ns i hlt
      unfold rn at this
      rw [this]
    · refine Ev.bind e1 (Ev.bind e2 ?_)
      simp only [if_pos c2, eT, eN]
      by_cases c3 : (65536 : Int) < ((fileB (ns.take (i + 1))).size : Int)
      · simp only [if_pos c3]
        have : 65536 < (fileB ns).size := by
          rw [fileB_take ns (i + 1), ByteArray.size_append]; omega
        rw [if_pos this]
        exact Ev.now _
      · simp only [if_neg c3]
        exact ih (i + 1) (by omega) (by omega)
theorem text_ev (ns : List Nd) : Ev (fun k => file_Text.f k ns) (textS ns) := by
  unfold file_Text.f textS
  refine Ev.bind (trailMay_ev ns) ?_
  by_cases c : mayT ns = true
  · simp only [c, if_pos]
    exact text_l0 ns ((mayT_iff ns).1 c).2 ns.length 0 (by omega) (by rw [List.take_zero]; decide)
  · rw [if_neg c]
    simp only [if_neg c]
    exact Ev.now _
/-! what is loaded -/
def framesK (t : ByteArray) : Nat → Int → List (ByteArray × Int)
  | 0, _ => []
  | n + 1, at_ => if (getF t at_).2.2 = 0 then ((getF t at_).1, (getF t at_).2.1) :: framesK t n (getF t at_).2.1 else []
theorem getF_next {t : ByteArray} {at_ : Int} (h : (getF t at_).2.2 = 0) : 0 ≤ at_ ∧ at_ + 6 ≤ (getF t at_).2.1 ∧ (getF t at_).2.1 ≤ (t.size : Int) := by
  have hg : getF t at_ = ((getF t at_).1, (getF t at_).2.1, 0) := by rw [← h]
  obtain ⟨h0, h1, h2, h3, h4, _⟩ := getF_spec hg
  have := frame_size (getF t at_).1
  exact ⟨h0, by omega, h4⟩
theorem frames_ev (t : ByteArray) (ht : t.size ≤ 65536) : ∀ (n : Nat) (at_ : Int), 0 ≤ at_ → at_ ≤ (t.size : Int) → (t.size : Int) - at_ < n → Ev (fun k => file_Load.frames k t at_) (framesK t n at_)
  | 0, at_, h0, h1, h2 => absurd h2 (by omega)
  | n + 1, at_, h0, h1, h2 => by
    have e := get_ev t at_ (by omega) (by omega) (by omega)
    refine Ev.step (f := fun k => (frame_Get.f k t at_).bind fun g => if g.2.2 = 0 then (file_Load.frames k t g.2.1).bind fun r => some ((g.1, g.2.1) :: r) else some []) (fun k => by rw [file_Load.frames]) ?_
    refine Ev.bind e ?_
    rw [framesK]
    by_cases c : (getF t at_).2.2 = 0
    · simp only [if_pos c]
      obtain ⟨g0, g1, g2⟩ := getF_next c
      exact Ev.bind (frames_ev t ht n _ (by omega) g2 (by omega)) (Ev.now _)
    · simp only [if_neg c]
      exact Ev.now _
theorem framesK_len (t : ByteArray) : ∀ (n : Nat) (at_ : Int), 0 ≤ at_ → at_ ≤ (t.size : Int) → ((framesK t n at_).length : Int) * 6 + at_ ≤ (t.size : Int)
  | 0, at_, h0, h1 => by rw [framesK]; simpa using h1
  | n + 1, at_, h0, h1 => by
    rw [framesK]
    by_cases c : (getF t at_).2.2 = 0
    · rw [if_pos c, List.length_cons]
      obtain ⟨g0, g1, g2⟩ := getF_next c
      have := framesK_len t n (getF t at_).2.1 (by omega) g2
      omega
    · rw [if_neg c]; simpa using h1
def foldS : List (ByteArray × Int) → List Nd → Int → List Nd × Int
  | [], out, at_ => (out, at_)
  | x :: xs, out, at_ => if (getR x.1).2 = 0 ∧ nextS (getR x.1).1 (out.length : Int) = true then foldS xs (out ++ [(getR x.1).1]) x.2 else (out, at_)
theorem foldS_load (t : ByteArray) : ∀ (n m : Nat) (out : List Nd) (at_ : Int), 0 ≤ at_ → at_ ≤ (t.size : Int) → (t.size : Int) - at_ < n → m + out.length = 513 → foldS (framesK t n at_) out at_ = loadK t m out at_
  | 0, m, out, at_, h0, h1, h2, hm => absurd h2 (by omega)
  | n + 1, m, out, at_, h0, h1, h2, hm => by
    rw [framesK]
    by_cases c : (getF t at_).2.2 = 0
    · rw [if_pos c, foldS]
      obtain ⟨g0, g1, g2⟩ := getF_next c
      by_cases c2 : (getR (getF t at_).1).2 = 0 ∧ nextS (getR (getF t at_).1).1 (out.length : Int) = true
      · rw [if_pos c2]
        have hlt := nextS_512 c2.2
        obtain ⟨m', rfl⟩ : ∃ m', m = m' + 1 := ⟨m - 1, by omega⟩
        have hs : stepF t out.length at_ = some ((getR (getF t at_).1).1, (getF t at_).2.1) := by unfold stepF; rw [if_pos c, if_pos c2.1, if_pos c2.2]
        rw [loadK, hs]
        exact foldS_load t n m' _ _ (by omega) g2 (by omega) (by rw [List.length_append, List.length_singleton]; omega)
      · rw [if_neg c2]
        have hs : stepF t out.length at_ = none := by
          unfold stepF
          rw [if_pos c]
          by_cases c3 : (getR (getF t at_).1).2 = 0
          · rw [if_pos c3, if_neg (fun h => c2 ⟨c3, h⟩)]
          · rw [if_neg c3]
        cases m with
        | zero => rfl
        | succ m => rw [loadK, hs]
    · rw [if_neg c, foldS]
      have hs : stepF t out.length at_ = none := by unfold stepF; rw [if_neg c]
      cases m with
      | zero => rfl
      | succ m => rw [loadK, hs]
theorem ev_range {p : Nat → Nat → Prop} : ∀ (N : Nat), (∀ i, i < N → ∃ K, ∀ k, K ≤ k → p k i) → ∃ K, ∀ k, K ≤ k → ∀ i, i < N → p k i
  | 0, _ => ⟨0, fun _ _ i hi => absurd hi (Nat.not_lt_zero _)⟩
  | N + 1, h => by
    obtain ⟨K1, h1⟩ := ev_range N (fun i hi => h i (by omega))
    obtain ⟨K2, h2⟩ := h N (by omega)
    refine ⟨max K1 K2, fun k hk i hi => ?_⟩
    by_cases c : i = N
    · subst c; exact h2 k (by omega)
    · exact h1 k (by omega) i (by omega)
theorem ev_list {α : Type} {p : Nat → α → Prop} : ∀ (l : List α), (∀ x ∈ l, ∃ K, ∀ k, K ≤ k → p k x) → ∃ K, ∀ k, K ≤ k → ∀ x ∈ l, p k x
  | [], _ => ⟨0, fun _ _ x hx => by cases hx⟩
  | y :: l, h => by
    obtain ⟨K1, h1⟩ := ev_list l (fun x hx => h x (List.mem_cons_of_mem _ hx))
    obtain ⟨K2, h2⟩ := h y List.mem_cons_self
    refine ⟨max K1 K2, fun k hk x hx => ?_⟩
    rcases List.mem_cons.1 hx with rfl | hx
    · exact h2 k (by omega)
    · exact h1 k (by omega) x hx
def known (N k : Nat) (x : ByteArray × Int) : Prop := record_Get.f k x.1 = some (flatR (getR x.1)) ∧ ∀ i : Nat, i < N → trail_Next.f k (getR x.1).1.f0 (getR x.1).1.f1 (getR x.1).1.f2 (getR x.1).1.f3 (i : Int) = some (nextS (getR x.1).1 (i : Int))
theorem known_ev (N : Nat) (x : ByteArray × Int) : ∃ K, ∀ k, K ≤ k → known N k x := by
  obtain ⟨K1, h1⟩ := getRec_ev x.1
  obtain ⟨K2, h2⟩ := ev_range (p := fun k i => trail_Next.f k (getR x.1).1.f0 (getR x.1).1.f1 (getR x.1).1.f2 (getR x.1).1.f3 (i : Int) = some (nextS (getR x.1).1 (i : Int))) N (fun i _ => next_ev (getR x.1).1 (i : Int))
  exact ⟨max K1 K2, fun k hk => ⟨h1 k (by omega), h2 k (by omega)⟩⟩
theorem known_good {N k : Nat} {x : ByteArray × Int} (h : known N k x) : file_Load.good k N x = true := by
  unfold file_Load.good
  rw [h.1]
  refine List.all_eq_true.2 fun i hi => ?_
  have := h.2 i (List.mem_range.1 hi)
  simp only [flatR]
  rw [this]; rfl
theorem fold_known {N k : Nat} : ∀ (ys : List (ByteArray × Int)) (out : List Nd) (at_ : Int), (∀ y ∈ ys, known N k y) → out.length + ys.length ≤ N → file_Load.fold k ys out at_ = foldS ys out at_
  | [], _, _, _, _ => rfl
  | y :: ys, out, at_, h, hl => by
    obtain ⟨h1, h2⟩ := h y List.mem_cons_self
    rw [List.length_cons] at hl
    have h3 := h2 out.length (by omega)
    rw [file_Load.fold, foldS, h1]
    simp only [flatR, h3, Option.some.injEq]
    by_cases c : (getR y.1).2 = 0 ∧ nextS (getR y.1).1 (out.length : Int) = true
    · rw [if_pos c, if_pos c]
      exact fold_known ys _ _ (fun z hz => h z (List.mem_cons_of_mem _ hz)) (by rw [List.length_append, List.length_singleton]; omega)
    · rw [if_neg c, if_neg c]
def cutT (s : ByteArray) : ByteArray := s.extract 0 (min s.size 65536)
def loadT (s : ByteArray) : List Nd × Int := loadS (cutT s)
theorem cutT_size (s : ByteArray) : (cutT s).size = min s.size 65536 := by unfold cutT; rw [size_extract _ _ _ (by omega)]; omega
theorem load_ev (s : ByteArray) : Ev (fun k => file_Load.f k s) (loadT s) := by
  have hz := cutT_size s
  obtain ⟨xs, hxs⟩ : ∃ xs, xs = framesK (cutT s) ((cutT s).size + 1) 0 := ⟨_, rfl⟩
  obtain ⟨K1, h1⟩ := frames_ev (cutT s) (by omega) ((cutT s).size + 1) 0 (by omega) (by omega) (by omega)
  rw [← hxs] at h1
  have hl : xs.length ≤ 65536 := by
    have := framesK_len (cutT s) ((cutT s).size + 1) 0 (by omega) (by omega)
    rw [← hxs] at this
    omega
  obtain ⟨K2, h2⟩ := ev_list xs (p := known xs.length) (fun x _ => known_ev xs.length x)
  refine ⟨max K1 K2, fun k hk => ?_⟩
  have h3 := h2 k (by omega)
  have h4 : file_Load.frames k (cutT s) 0 = some xs := h1 k (by omega)
  unfold cutT at h4
  show (file_Load.frames k (s.extract 0 (min s.size 65536)) 0).bind _ = _
  rw [h4, Option.bind_some, if_pos ⟨hl, List.all_eq_true.2 fun x hx => known_good (h3 x hx)⟩, fold_known xs [] 0 h3 (by simp)]
  congr 1
  rw [hxs]
  exact foldS_load (cutT s) _ 513 [] 0 (by omega) (by omega) (by omega) rfl
end Go.Proofs.YtnhmmbgnaogokaaGreatDoor.G
end
section
namespace Go.Proofs.YtnhmmbgnaogokaaGreatDoor.G
open Go.RowKit Go.Proofs.YtnhmmbgnaogokaaGreatDoorW.PrintWords Go.Proofs.YtnhmmbgnaogokaaGreatDoorW.PrintLast Go.Proofs.YtnhmmbgnaogokaaGreatDoorW.PrintMore
set_option maxHeartbeats 8000000
set_option maxRecDepth 100000
attribute [local go_sem] max2_int min2_int max_two min_two max_three min_three max_four min_four   -- for this text's walks alone
set_option linter.unusedVariables false
set_option linter.unusedSimpArgs false

def sleuthlaw0_CopyNodes.l0 : Nat → List (S41) → List (S41) → Int → Option ((List (S41)))
 | 0, _, _, _ => none
 | k + 1, x0, x3, x4 => if x4 < (x0.length : Int) then (if 0 ≤ x4 then ((some (([] : List ByteArray) : List ByteArray)).bind fun y103 => (if y103.length + ((rd_T41 x0 x4).f2).length < 8796093022208 then (if x3.length < 2513169434916 then (sleuthlaw0_CopyNodes.l0 k x0 (x3 ++ [(⟨(rd_T41 x0 x4).f0, (rd_T41 x0 x4).f1, (y103 ++ ((rd_T41 x0 x4).f2)), (rd_T41 x0 x4).f3⟩ : S41)]) (wrap64 (x4 + 1))) else (none)) else (none))) else (none)) else (some x3)
def sleuthlaw0_CopyNodes.f (k : Nat) (l0 : List (S41)) : Option ((List (S41))) := sleuthlaw0_CopyNodes.l0 k l0 ([] : List (S41)) 0
theorem sleuthlaw0_CopyNodes.calls (k : Nat) (A0 : Option Addr) (c0 : Nat) (l0 : List (S41)) (r : List (S41)) (w : World) (hr0 : Kd.C k41 w A0 l0.length l0) (hc0 : l0.length ≤ c0) (h : sleuthlaw0_CopyNodes.f k l0 = some r) :
 Calls Tryz.prog 5 #[.slice A0 l0.length c0] w fun e w' => ∃ v0_ : Value, e = .returned (v0_) ∧ Kd.S k41 41 w' w.heap.size (fun _ => True) v0_ r ∧ Below w.heap.size w w' := by
 have hu41 := Tryz.underlying41
 have HR0 := a_ hr0
 have HC0 := a_ hc0
 clear hr0 hc0
 have HB := a_ (Below.refl w.heap.size w)
 have H : (sleuthlaw0_CopyNodes.l0 k l0 ([] : List (S41)) 0) = some r := h
 clear h
 have H' := a_ H
 clear H
 go_enter Tryz.func5, Tryz.ntmps5
 go_wp2
 go_loopg [3, 4] k (fun kq v3 v4 w' => ∃ (x1 : List (S41)) (x0 : Int), v4 = .int .i64 x0 ∧ Aside0 (sleuthlaw0_CopyNodes.l0 kq l0 x1 x0 = some r) ∧ Aside0 (kq ≤ k) ∧ Aside0 (Kd.S k41 41 w' w.heap.size (fun _ => True) v3 x1) ∧ Aside0 (Below w.heap.size w w'))
 case atStart => exact ⟨(([] : List (S41))), (0), hW_, H', ⟨Nat.le_refl _⟩, ⟨by first | exact Kd.S_nil _ _ _ _ _ | exact Kd.N_nil _ _ _ _ _ | exact Kd.V_nil _ _ _ _ _ | exact Kd.Q_nil _ _ _ _ _ | exact Kd.R_nil _ _ _ _ _⟩, ⟨hC_⟩⟩
 case round =>
  clear H'
  obtain ⟨x1, x0, rfl, HA, HK1, O0, HB⟩ := hrel
  cases gk with
  | zero => exact absurd HA.out (by simp [sleuthlaw0_CopyNodes.l0])
  | succ k1 =>
   have H := HA.out
   clear HA
   simp only [sleuthlaw0_CopyNodes.l0] at H
   by_cases c2 : x0 < (l0.length : Int)
   case neg =>
    rw [if_neg c2] at H
    have c2b0 : decide (x0 < (l0.length : Int)) = false := decide_eq_false c2
    clear c2
    obtain rfl := Option.some.inj H
    go_wp2
    go_ret
    exact ⟨_, hV_, by (with_reducible repeat (first | apply Kd.S_alloc | apply Kd.S_drewN | apply Kd.S_drew)); exact O0.out, hC_⟩

   rw [if_pos c2] at H
   have c2b0 : decide (x0 < (l0.length : Int)) = true := decide_eq_true c2
   clear c2
   replace H := ifI_ H; obtain ⟨c3, H⟩ := H
   have c3b0 : decide (0 ≤ x0) = true := decide_eq_true c3
   clear c3
   obtain ⟨y1, i0⟩ : ∃ y_ : List ByteArray, y_ = (([] : List ByteArray)) := ⟨_, rfl⟩
   replace H : (if y1.length + ((rd_T41 l0 x0).f2).length < 8796093022208 then (if x1.length < 2513169434916 then (sleuthlaw0_CopyNodes.l0 k1 l0 (x1 ++ [(⟨(rd_T41 l0 x0).f0, (rd_T41 l0 x0).f1, (y1 ++ ((rd_T41 l0 x0).f2)), (rd_T41 l0 x0).f3⟩ : S41)]) (wrap64 (x0 + 1))) else (none)) else (none)) = some r := by first | (rw [i0]; with_reducible exact H) | (have H2_ := (Option.bind_some _ _).symm.trans H; rw [i0]; with_reducible exact H2_) | (have H2_ := (Option.bind_some _ _).symm.trans H; with_reducible exact H2_) | with_reducible exact H | (rw [i0]; exact H) | exact H
   have Y0 := a_ i0
   clear i0
   replace H := ifI_ H; obtain ⟨c4, H⟩ := H
   have LMc4 := a_ c4
   clear c4
   obtain ⟨y0, i1⟩ : ∃ y_ : List ByteArray, y_ = (y1 ++ ((rd_T41 l0 x0).f2)) := ⟨_, rfl⟩
   replace H : (if x1.length < 2513169434916 then (sleuthlaw0_CopyNodes.l0 k1 l0 (x1 ++ [(⟨(rd_T41 l0 x0).f0, (rd_T41 l0 x0).f1, y0, (rd_T41 l0 x0).f3⟩ : S41)]) (wrap64 (x0 + 1))) else (none)) = some r := by first | (rw [i1]; with_reducible exact H) | (have H2_ := (Option.bind_some _ _).symm.trans H; rw [i1]; with_reducible exact H2_) | (have H2_ := (Option.bind_some _ _).symm.trans H; with_reducible exact H2_) | with_reducible exact H | (rw [i1]; exact H) | exact H
   have Y1 := a_ i1
   clear i1
   replace H := ifI_ H; obtain ⟨c5, H⟩ := H
   have LMc5 := a_ c5
   clear c5
   obtain ⟨y2, i2⟩ : ∃ y_ : List (S41), y_ = (x1 ++ [(⟨(rd_T41 l0 x0).f0, (rd_T41 l0 x0).f1, y0, (rd_T41 l0 x0).f3⟩ : S41)]) := ⟨_, rfl⟩
   replace H : (sleuthlaw0_CopyNodes.l0 k1 l0 y2 (wrap64 (x0 + 1))) = some r := by first | (rw [i2]; with_reducible exact H) | (have H2_ := (Option.bind_some _ _).symm.trans H; rw [i2]; with_reducible exact H2_) | (have H2_ := (Option.bind_some _ _).symm.trans H; with_reducible exact H2_) | with_reducible exact H | (rw [i2]; exact H) | exact H
   have Y2 := a_ i2
   clear i2
   have H' := a_ H
   clear H
   have p101 : 0 ≤ (x0 : Int) := of_decide_eq_true hA_
   have q101 : x0 < (l0.length : Int) := of_decide_eq_true hA_
   obtain ⟨d0, A101_2, c101_2, e101, h0, h1, h2, h3, hl101_2, hi101_2⟩ := at_T41 HR0.out x0 p101 q101
   cases e101
   replace h0 := cl_ HB.out h0
   replace h1 := cl_ HB.out h1
   replace h2 := cl_ HB.out h2
   replace h3 := cl_ HB.out h3
   have HR101_2 := a_ hi101_2
   have HC101_2 := a_ hl101_2
   clear hi101_2 hl101_2
   replace p101 := eq_true p101
   replace q101 := eq_true q101
   go_wp2_with (first | ((with_reducible refine gate_dst (N := 5) rfl ?_); refine boxE_ 5 #[.int .i64 0, .int .i64 0, .slice none 0 0, .string (⟨#[]⟩ : ByteArray)] 41 ?_; intro g0 hg w6 hbox hb; replace O0 := a_ (Kd.S_below (Kd.S_elderB (by (with_reducible repeat (first | apply Kd.S_alloc | apply Kd.S_drewN | apply Kd.S_drew)); exact O0.out) g0 (Nat.le_of_eq hg.symm)) hb); have B0 := a_ (hbox); have E0 := a_ ((gE_ hg : w.heap.size ≤ g0)); replace HB := a_ (below_step hB_ hb); clear hb hbox hg; obtain ⟨z0, z1, z2, z3, f4, f5, f6, f7⟩ := bx4_ B0.out) | ((with_reducible refine gate_dst (N := 16) rfl ?_); refine Kd.R_lit Kd.string _ 9 ?hg (N := 16) ?hd (xs := ([] : List ByteArray)) (inner := []) (ok := fun _ => True) (okp := fun _ => True) ?hr ?hp (fun _ hk => hk) trivial (Below.refl _ _) (Nat.le_refl _) (by simp) ?_; (case hd => rfl); (case hg => rfl); (case hr => first | (go_simp; done) | (go_simp; rfl)); (case hp => exact (Reps.none _ _)); intro v0 w8 ho9 hb hg_ hnew_; clear hg_ hnew_; (first | rw [← Y0.out] at ho9 | (simp only [Int.reduceToNat] at ho9; rw [← Y0.out] at ho9)); replace O0 := a_ (Kd.S_elder' (by (with_reducible repeat (first | apply Kd.S_alloc | apply Kd.S_drewN | apply Kd.S_drew)); exact (Kd.S_mono (sF_ (sF_ (sF_ (sF_ (Kd.S_mono O0.out (fun k_ hk => (⟨hk, hk.2⟩ : _ ∧ k_ ≠ g0))))))) (fun _ h_ => h_.1))) (Kd.R_base ho9) hb); have P1 := a_ (Kd.R_lower ho9 (below_size hC_)); replace B0 := a_ (blk_below (g := g0) (o := .cells #[.int .i64 ((rd_T41 l0 x0).f0), .int .i64 ((rd_T41 l0 x0).f1), .slice A101_2 ((rd_T41 l0 x0).f2).length c101_2, .string ((rd_T41 l0 x0).f3)] 41 (0, 0)) (by (with_reducible repeat (first | refine blk_drewN ?_ _ | refine blk_drew ?_ | refine blk_alloc ?_ _)); exact (bP_ (bP_ (bP_ (bP_ (hK_ B0.out)))))) hb); replace HB := a_ (below_step hC_ hb); clear hb ho9; obtain ⟨z4, z5, z6, z7, f8, f9, f10, f11⟩ := bx4_ B0.out) | ((with_reducible refine gate_builtin (b := .append) (xs := #[.tmp 16, .tmp 18]) rfl ?_); at_builtin; refine Kd.R_append_rows Kd.string (w0 := w) w.heap.size rfl (.tmp 16) (.tmp 18) 39 9 (.string ⟨#[]⟩) 16 rfl Tryz.underlying39 info9 rfl (by decide) (by omega) v0 y1 ((rd_T41 l0 x0).f2) _ _ _ (fun _ => True) (fun _ => False) rfl rfl ?aO ?aR (fun _ _ h => h) (fun _ h => h.elim) ?aF ?aB ?aS ?aL ?_; (case aR => exact cB_ HR101_2.out); (case aB => exact hC_); (case aF => exact (fun _ _ => trivial)); (case aO => exact (hR_ P1.out)); (case aS => exact (below_size hC_)); (case aL => have := LMc4.out; omega); intro v1 w3 ho hb hg hat; rw [← Y1.out] at ho; replace O0 := a_ (Kd.S_after (ok := (fun k_ => k_ ≠ g0)) (by (with_reducible repeat (first | apply Kd.S_alloc | apply Kd.S_drewN | apply Kd.S_drew)); exact Kd.S_mono O0.out (fun _ hk => ⟨hk.1.2, hk.2⟩)) hg hat); replace B0 := a_ (blk_grown (hK_ B0.out) hg (Kd.R_ne P1.out B0.out (by decide))); replace HB := a_ (hb); have P0 := a_ (ho); clear P1; clear ho hb hg hat; obtain ⟨a0, o0, e0⟩ := Kd.R_slice P0.out; subst e0; obtain ⟨z8, z9, z10, z11, f12, f13, f14, f15⟩ := bx4_ B0.out) | ((with_reducible refine gate_store (t := 39) (p := 20) rfl ?_); refine store_event (t := 39) (p := 20) (v := ?vo_w14) (w1 := (w3.setCell ⟨g0, 2, none⟩ (.slice a0 y0.length o0))) ?hg ?ho ?hn ?hr ?_; (case ho => rfl); (case hg => rfl); (case hn => rfl); (case hr => first | (go_simp; done) | (go_simp; rfl)); intro w2 hw; replace O0 : Aside0 (Kd.S k41 41 w2 w.heap.size (fun k_ => some k_ ≠ (.slice a0 y0.length o0 : Value).ownBlock ∧ k_ ≠ g0) u3 x1) := ⟨(by rw [hw]; exact (by (with_reducible repeat (first | apply Kd.S_alloc | apply Kd.S_drewN | apply Kd.S_drew)); exact Kd.S_mono (sF_ (Kd.S_mono O0.out (fun k_ hk => (⟨hk, hk.1⟩ : _ ∧ k_ ≠ g0)))) (fun _ hk => ⟨hk.1.2, hk.1.1⟩)))⟩; replace P0 : Aside0 (Kd.R Kd.string 9 w2 w.heap.size (fun _ => True) (.slice a0 y0.length o0) y0) := ⟨(by rw [hw]; exact (by (with_reducible repeat (first | apply Kd.R_alloc | apply Kd.R_drewN | apply Kd.R_drew)); exact Kd.R_mono (rF_ (Kd.R_types P0.out B0.out (by decide))) (fun _ hk => trivial)))⟩; replace B0 : Aside0 (w2.heap[g0]? = some (.cells #[.int .i64 ((rd_T41 l0 x0).f0), .int .i64 ((rd_T41 l0 x0).f1), .slice a0 y0.length o0, .string ((rd_T41 l0 x0).f3)] 41 (0, 0))) := ⟨(by rw [hw]; exact (bP_ (hK_ B0.out)))⟩; replace HB : Aside0 (Below w.heap.size w w2) := ⟨(by rw [hw]; exact hC_)⟩; clear hw; obtain ⟨z12, z13, z14, z15, f16, f17, f18, f19⟩ := bx4_ B0.out) | ((with_reducible refine gate_builtin (b := .append) (xs := #[.tmp 21, .tmp 23]) rfl ?_); at_builtin; refine Kd.S_append k41 (w0 := w) w.heap.size rfl (.tmp 21) (.tmp 23) 22 41 (.agg #[(.int .i64 0), (.int .i64 0), (.slice none 0 0), (.string ⟨#[]⟩)]) 56 rfl Tryz.underlying22 info41 rfl (by decide) (by omega) u3 x1 (⟨(rd_T41 l0 x0).f0, (rd_T41 l0 x0).f1, y0, (rd_T41 l0 x0).f3⟩ : S41) [.int .i64 ((rd_T41 l0 x0).f0), .int .i64 ((rd_T41 l0 x0).f1), .slice a0 y0.length o0, .string ((rd_T41 l0 x0).f3)] (fun k_ => k_ ≠ g0) (fun k_ => some k_ = (.slice a0 y0.length o0 : Value).ownBlock) rfl rfl ?aP (fun k_ hk_ => ((Kd.R_mono (ok' := fun k_ => ((fun k_ => k_ ≠ g0)) k_ ∧ some k_ ≠ (u3 : Value).ownBlock) (Kd.R_types (Kd.R_apart' (P0.out) (Kd.S_typed O0.out) (by decide)) B0.out (by decide)) (fun k_ hk => ⟨hk.2, hk.1.2⟩))).1 k_ hk_.symm) ?aF ?aO ?aB ?aS ?aL ?_; (case aP => exact k41_mkM _ _ _ (⟨(rd_T41 l0 x0).f0, (rd_T41 l0 x0).f1, y0, (rd_T41 l0 x0).f3⟩ : S41) (Kd.R_mono (Kd.R_tight rfl (Kd.R_mono (ok' := fun k_ => ((fun k_ => k_ ≠ g0)) k_ ∧ some k_ ≠ (u3 : Value).ownBlock) (Kd.R_types (Kd.R_apart' (P0.out) (Kd.S_typed O0.out) (by decide)) B0.out (by decide)) (fun k_ hk => ⟨hk.2, hk.1.2⟩))) (fun _ h_ => h_))); (case aB => exact hC_); (case aF => exact (fun k_ hk => Kd.freshB (g := g0) (o := .cells #[.int .i64 ((rd_T41 l0 x0).f0), .int .i64 ((rd_T41 l0 x0).f1), .slice a0 y0.length o0, .string ((rd_T41 l0 x0).f3)] 41 (0, 0)) (hK_ B0.out) k_ hk)); (case aO => exact (by (with_reducible repeat (first | apply Kd.S_alloc | apply Kd.S_drewN | apply Kd.S_drew)); exact Kd.S_mono O0.out (fun k_ hk => ⟨hk.2, fun e_ => hk.1 e_⟩))); (case aS => exact (below_size hC_)); (case aL => have := LMc5.out; omega); intro v2 w4 ho hb hg hat; rw [← Y2.out] at ho; replace B0 := a_ (blk_grown (hK_ B0.out) hg (Kd.S_away O0.out (fun _ hk => hk.2))); replace HB := a_ (hb); have P2 := a_ (ho); clear O0 P0; clear ho hb hg hat))
   go_roundg k1
   case measure => have := HK1.out; omega
   case rel => exact ⟨(y2), (wrap64 (x0 + 1)), hW_, H', ⟨by have := HK1.out; omega⟩, ⟨by (with_reducible repeat (first | apply Kd.S_alloc | apply Kd.S_drewN | apply Kd.S_drew)); exact Kd.S_mono P2.out (fun _ hk => trivial)⟩, ⟨hC_⟩⟩
set_option maxHeartbeats 8000000
set_option maxRecDepth 100000
attribute [local go_sem] max2_int min2_int max_two min_two max_three min_three max_four min_four   -- for this text's walks alone
set_option linter.unusedVariables false
set_option linter.unusedSimpArgs false

def sleuthref12_LoadFile.l0 : Nat → ByteArray → List (S41) → Int → Option ((List (S41)) × Int)
 | 0, _, _, _ => none
 | k + 1, x0, x4, x5 => (sleuthref12_GetFrame.f k x0 x5).bind fun bt317 => (if bt317.2.2 = 0 then ((sleuthref12_GetRecord.f k bt317.1).bind fun bt320 => (if bt320.2.2.2.2 = 0 then ((sleuthref12_stands.f k bt320.1 bt320.2.1 bt320.2.2.1 bt320.2.2.2.1 (x4.length : Int)).bind fun t328 => (if t328 = true then (if x4.length < 2513169434916 then (sleuthref12_LoadFile.l0 k x0 (x4 ++ [(⟨bt320.1, bt320.2.1, bt320.2.2.1, bt320.2.2.2.1⟩ : S41)]) bt317.2.1) else (none)) else (some (x4, x5)))) else (some (x4, x5)))) else (some (x4, x5)))
def sleuthref12_LoadFile.f (k : Nat) (a0 : ByteArray) : Option ((List (S41)) × Int) := if 0 ≤ (mn (a0.size : Int) 65536) then (if (mn (a0.size : Int) 65536) ≤ (a0.size : Int) then (sleuthref12_LoadFile.l0 k (a0.extract 0 ((mn (a0.size : Int) 65536) : Int).toNat) ([] : List (S41)) 0) else (none)) else (none)
theorem sleuthref12_LoadFile.calls (k : Nat) (a0 : ByteArray) (r1 : List (S41)) (r2 : Int) (w : World) (h : sleuthref12_LoadFile.f k a0 = some (r1, r2)) :
 Calls Tryz.prog 9 #[.string a0] w fun e w' => ∃ v0_ : Value, e = .returned (.tuple #[v0_, .int .i64 r2]) ∧ Kd.S k41 41 w' w.heap.size (fun _ => True) v0_ r1 ∧ Below w.heap.size w w' := by
 have hu41 := Tryz.underlying41
 have HB := a_ (Below.refl w.heap.size w)
 have H := h; unfold sleuthref12_LoadFile.f at H
 clear h
 obtain ⟨ji2, hji2⟩ : ∃ j_ : Int, (mn (a0.size : Int) 65536) = j_ := ⟨_, rfl⟩
 replace H : (if 0 ≤ (ji2) then (if (ji2) ≤ (a0.size : Int) then (sleuthref12_LoadFile.l0 k (a0.extract 0 ((ji2) : Int).toNat) ([] : List (S41)) 0) else (none)) else (none)) = some (r1, r2) := by first | (rw [hji2] at H; exact H) | (simp only [hji2] at H ⊢; exact H)
 (try (have hji2h : ji2 ≤ 65536 := by (rw [← hji2]; unfold mn; (repeat' split) <;> omega)))
 (try (have hji2g : ji2 ≤ 64 := by omega))
 (try (have hji2l : 0 ≤ ji2 := by (rw [← hji2]; unfold mn; (repeat' split) <;> omega)))
 (try (have hji2m : 0 ≤ ji2 := by omega))
 have hji2_ : (if 65536 < (a0.size : Int) then 65536 else (a0.size : Int)) = ji2 := hji2
 replace H := ifI_ H; obtain ⟨c3, H⟩ := H
 have c3b0 := eq_true c3
 have c3b1 : decide (0 ≤ (ji2)) = true := decide_eq_true c3
 clear c3
 replace H := ifI_ H; obtain ⟨c4, H⟩ := H
 have c4b0 := eq_true c4
 have c4b1 : decide ((ji2) ≤ (a0.size : Int)) = true := decide_eq_true c4
 clear c4
 have H' := a_ H
 clear H
 go_enter Tryz.func9, Tryz.ntmps9
 go_wp2
 go_loopg [4, 5] k (fun kq v4 v5 w' => ∃ (x1 : List (S41)) (x0 : Int), v5 = .int .i64 x0 ∧ Aside0 (sleuthref12_LoadFile.l0 kq (a0.extract 0 ((ji2) : Int).toNat) x1 x0 = some (r1, r2)) ∧ Aside0 (kq ≤ k) ∧ Aside0 (Kd.S k41 41 w' w.heap.size (fun _ => True) v4 x1) ∧ Aside0 (Below w.heap.size w w'))
 case atStart => exact ⟨(([] : List (S41))), (0), hW_, H', ⟨Nat.le_refl _⟩, ⟨by first | exact Kd.S_nil _ _ _ _ _ | exact Kd.N_nil _ _ _ _ _ | exact Kd.V_nil _ _ _ _ _ | exact Kd.Q_nil _ _ _ _ _ | exact Kd.R_nil _ _ _ _ _⟩, ⟨hC_⟩⟩
 case round =>
  clear H'
  try clear p2
  try clear c3
  try clear c3b0
  try clear c3b1
  try clear c4
  try clear c4b0
  try clear c4b1
  try clear hji2
  try clear hji2_
  try clear hji2g
  try clear hji2h
  try clear hji2l
  try clear hji2m
  obtain ⟨x1, x0, rfl, HA, HK1, O0, HB⟩ := hrel
  cases gk with
  | zero => exact absurd HA.out (by simp [sleuthref12_LoadFile.l0])
  | succ k1 =>
   have H := HA.out
   clear HA
   simp only [sleuthref12_LoadFile.l0] at H
   replace H := Option.bind_eq_some_iff.mp H
   obtain ⟨⟨t4, t7, t5⟩, A50, H⟩ := H
   try dsimp only at H
   have A5 := a_ A50
   clear A50
   by_cases c6 : t5 = 0
   case neg =>
    rw [if_neg c6] at H
    have c6b0 : (t5 == 0) = false := beq_eq_false_iff_ne.mpr c6
    have c6b1 : (t5 != 0) = true := bne_iff_ne.mpr c6
    simp only [Option.some.injEq, Prod.mk.injEq] at H
    obtain ⟨rfl, rfl⟩ := H
    go_wp2_with (first | ((with_reducible refine gate_callee (f := 28) rfl ?_); refine goesL_ (some 19) rfl rfl Tryz.func28 (by kernel_rfl) rfl #[.string (a0.extract 0 ((ji2) : Int).toNat), .int .i64 x0] rfl (by (try simp only [List.map_toArray, List.map_cons, List.map_nil]); first | done | (simp only [hji2]; rfl) | rfl | (simp only [List.length_drop, List.length_take]; rfl)) ?_; (with_reducible refine (sleuthref12_GetFrame.calls k1 (a0.extract 0 ((ji2) : Int).toNat) x0 t4 t7 t5 _ A5.out).mono ?_); rintro e w1 ⟨rfl, hb⟩; refine ⟨_, rfl, ?_⟩; replace O0 := a_ (Kd.S_below (by (with_reducible repeat (first | apply Kd.S_alloc | apply Kd.S_drewN | apply Kd.S_drew)); exact O0.out) hb); replace HB := a_ (below_step hB_ hb); (try clear hb); (try clear hb2); (try clear hk); (try clear hi)))
    go_ret2
    exact ⟨_, by first | rfl | (simp [errW_none, errW_some] <;> rfl) | (simp only [← hji2]; first | rfl | (simp [errW_none, errW_some] <;> rfl)) | (simp [*, errW_none, errW_some] <;> rfl), by (with_reducible repeat (first | apply Kd.S_alloc | apply Kd.S_drewN | apply Kd.S_drew)); exact O0.out, hC_⟩
   rw [if_pos c6] at H
   have c6b0 : (t5 == 0) = true := beq_iff_eq.mpr c6
   have c6b1 : (t5 != 0) = false := bne_eq_false_iff_eq.mpr c6
   clear c6
   replace H := Option.bind_eq_some_iff.mp H
   obtain ⟨⟨t1, t2, t0, t3, t6⟩, A70, H⟩ := H
   try dsimp only at H
   have A7 := a_ A70
   clear A70
   by_cases c8 : t6 = 0
   case neg =>
    rw [if_neg c8] at H
    have c8b0 : (t6 == 0) = false := beq_eq_false_iff_ne.mpr c8
    have c8b1 : (t6 != 0) = true := bne_iff_ne.mpr c8
    simp only [Option.some.injEq, Prod.mk.injEq] at H
    obtain ⟨rfl, rfl⟩ := H
    go_wp2_with (first | ((with_reducible refine gate_callee (f := 28) rfl ?_); refine goesL_ (some 19) rfl rfl Tryz.func28 (by kernel_rfl) rfl #[.string (a0.extract 0 ((ji2) : Int).toNat), .int .i64 x0] rfl (by (try simp only [List.map_toArray, List.map_cons, List.map_nil]); first | done | (simp only [hji2]; rfl) | rfl | (simp only [List.length_drop, List.length_take]; rfl)) ?_; (with_reducible refine (sleuthref12_GetFrame.calls k1 (a0.extract 0 ((ji2) : Int).toNat) x0 t4 t7 t5 _ A5.out).mono ?_); rintro e w2 ⟨rfl, hb⟩; refine ⟨_, rfl, ?_⟩; replace O0 := a_ (Kd.S_below (by (with_reducible repeat (first | apply Kd.S_alloc | apply Kd.S_drewN | apply Kd.S_drew)); exact O0.out) hb); replace HB := a_ (below_step hB_ hb); (try clear hb); (try clear hb2); (try clear hk); (try clear hi)) | ((with_reducible refine gate_callee (f := 29) rfl ?_); refine goesL_ (some 29) rfl rfl Tryz.func29 (by kernel_rfl) rfl #[.string t4] rfl hL_ ?_; (with_reducible refine (sleuthref12_GetRecord.calls k1 t4 t1 t2 t0 t3 t6 _ A7.out).mono ?_); rintro e w3 ⟨v0, rfl, ho0, hb⟩; refine ⟨_, rfl, ?_⟩; replace O0 := a_ (Kd.S_elder' (by (with_reducible repeat (first | apply Kd.S_alloc | apply Kd.S_drewN | apply Kd.S_drew)); exact O0.out) (Kd.R_base ho0) hb); have P0 := a_ (Kd.R_lower ho0 hS_); replace HB := a_ (below_step hB_ hb); (try clear hb); (try clear hb2); (try clear hk); (try clear hi); (try clear ho0)) | ((with_reducible refine gate_dst (N := 9) rfl ?_); (try (refine gate_guard (by rfl) ?_; dsimp only)); refine boxE_ 9 #[.int .i64 0, .int .i64 0, .slice none 0 0, .string (⟨#[]⟩ : ByteArray)] 41 ?_; intro g0 hg w4 hbox hb; replace O0 := a_ (Kd.S_below (Kd.S_elderB (by (with_reducible repeat (first | apply Kd.S_alloc | apply Kd.S_drewN | apply Kd.S_drew)); exact O0.out) g0 (Nat.le_of_eq hg.symm)) hb); replace P0 := a_ (Kd.R_below (hR_ P0.out) hb); have B0 := a_ (hbox); have E0 := a_ ((gE_ hg : w.heap.size ≤ g0)); replace HB := a_ (below_step hB_ hb); clear hb hbox hg; obtain ⟨z0, z1, z2, z3, f0, f1, f2, f3⟩ := bx4_ B0.out; obtain ⟨a4, o3, e0⟩ := Kd.R_slice P0.out; subst e0))
    go_ret2
    exact ⟨_, by first | rfl | (simp [errW_none, errW_some] <;> rfl) | (simp only [← hji2]; first | rfl | (simp [errW_none, errW_some] <;> rfl)) | (simp [*, errW_none, errW_some] <;> rfl), by (with_reducible repeat (first | apply Kd.S_alloc | apply Kd.S_drewN | apply Kd.S_drew)); exact Kd.S_mono (sF_ (sF_ (sF_ (sF_ (Kd.S_mono O0.out (fun k_ hk => (⟨hk, hk.2⟩ : _ ∧ k_ ≠ g0))))))) (fun _ hk => trivial), hC_⟩
   rw [if_pos c8] at H
   have c8b0 : (t6 == 0) = true := beq_iff_eq.mpr c8
   have c8b1 : (t6 != 0) = false := bne_eq_false_iff_eq.mpr c8
   clear c8
   replace H := Option.bind_eq_some_iff.mp H
   obtain ⟨t8, A90, H⟩ := H
   try dsimp only at H
   have A9 := a_ A90
   clear A90
   by_cases c10 : t8 = true
   case neg =>
    replace c10 := Bool.eq_false_iff.mpr c10
    subst c10
    rw [if_neg (show ¬ (false = true) by decide)] at H
    simp only [Option.some.injEq, Prod.mk.injEq] at H
    obtain ⟨rfl, rfl⟩ := H
    go_wp2_with (first | ((with_reducible refine gate_callee (f := 28) rfl ?_); refine goesL_ (some 19) rfl rfl Tryz.func28 (by kernel_rfl) rfl #[.string (a0.extract 0 ((ji2) : Int).toNat), .int .i64 x0] rfl (by (try simp only [List.map_toArray, List.map_cons, List.map_nil]); first | done | (simp only [hji2]; rfl) | rfl | (simp only [List.length_drop, List.length_take]; rfl)) ?_; (with_reducible refine (sleuthref12_GetFrame.calls k1 (a0.extract 0 ((ji2) : Int).toNat) x0 t4 t7 t5 _ A5.out).mono ?_); rintro e w5 ⟨rfl, hb⟩; refine ⟨_, rfl, ?_⟩; replace O0 := a_ (Kd.S_below (by (with_reducible repeat (first | apply Kd.S_alloc | apply Kd.S_drewN | apply Kd.S_drew)); exact O0.out) hb); replace HB := a_ (below_step hB_ hb); (try clear hb); (try clear hb2); (try clear hk); (try clear hi)) | ((with_reducible refine gate_callee (f := 29) rfl ?_); refine goesL_ (some 29) rfl rfl Tryz.func29 (by kernel_rfl) rfl #[.string t4] rfl hL_ ?_; (with_reducible refine (sleuthref12_GetRecord.calls k1 t4 t1 t2 t0 t3 t6 _ A7.out).mono ?_); rintro e w6 ⟨v0, rfl, ho0, hb⟩; refine ⟨_, rfl, ?_⟩; replace O0 := a_ (Kd.S_elder' (by (with_reducible repeat (first | apply Kd.S_alloc | apply Kd.S_drewN | apply Kd.S_drew)); exact O0.out) (Kd.R_base ho0) hb); have P0 := a_ (Kd.R_lower ho0 hS_); replace HB := a_ (below_step hB_ hb); (try clear hb); (try clear hb2); (try clear hk); (try clear hi); (try clear ho0)) | ((with_reducible refine gate_dst (N := 9) rfl ?_); (try (refine gate_guard (by rfl) ?_; dsimp only)); refine boxE_ 9 #[.int .i64 0, .int .i64 0, .slice none 0 0, .string (⟨#[]⟩ : ByteArray)] 41 ?_; intro g0 hg w7 hbox hb; replace O0 := a_ (Kd.S_below (Kd.S_elderB (by (with_reducible repeat (first | apply Kd.S_alloc | apply Kd.S_drewN | apply Kd.S_drew)); exact O0.out) g0 (Nat.le_of_eq hg.symm)) hb); replace P0 := a_ (Kd.R_below (hR_ P0.out) hb); have B0 := a_ (hbox); have E0 := a_ ((gE_ hg : w.heap.size ≤ g0)); replace HB := a_ (below_step hB_ hb); clear hb hbox hg; obtain ⟨z4, z5, z6, z7, f4, f5, f6, f7⟩ := bx4_ B0.out; obtain ⟨a3, o2, e1⟩ := Kd.R_slice P0.out; subst e1; obtain ⟨a5, o4, e2⟩ := Kd.S_slice O0.out; subst e2) | (go_at_call 30; (with_reducible refine (sleuthref12_stands.calls k1 t1 t2 _ _ t0 t3 (x1.length : Int) false _ ?s1 ?s2 A9.out).mono ?_); (case s1 => refine (Kd.R_reads' (e := 9) (base := w.heap.size) (ok := fun k_ => True) (n := t0.length) (c := o2) ?_).2.2; exact (by (with_reducible repeat (first | apply Kd.R_alloc | apply Kd.R_drewN | apply Kd.R_drew)); exact (Kd.R_mono (rF_ (rF_ (rF_ (rF_ (Kd.R_types P0.out B0.out (by decide)))))) (fun _ h_ => h_.1)))); (case s2 => exact (Kd.R_reads' P0.out).2.1); rintro e w8 ⟨rfl, hb⟩; replace O0 := a_ (Kd.S_below (by (with_reducible repeat (first | apply Kd.S_alloc | apply Kd.S_drewN | apply Kd.S_drew)); exact (Kd.S_mono (sF_ (sF_ (sF_ (sF_ (Kd.S_mono O0.out (fun k_ hk => (⟨hk, hk.2⟩ : _ ∧ k_ ≠ g0))))))) (fun _ h_ => h_.1))) hb); replace P0 := a_ (Kd.R_below (by (with_reducible repeat (first | apply Kd.R_alloc | apply Kd.R_drewN | apply Kd.R_drew)); exact (Kd.R_mono (rF_ (rF_ (rF_ (rF_ (Kd.R_types P0.out B0.out (by decide)))))) (fun _ h_ => h_.1))) hb); replace B0 := a_ (blk_below (g := g0) (o := .cells #[.int .i64 t1, .int .i64 t2, .slice a3 t0.length o2, .string t3] 41 (0, 0)) (by (with_reducible repeat (first | refine blk_drewN ?_ _ | refine blk_drew ?_ | refine blk_alloc ?_ _)); exact (bP_ (bP_ (bP_ (bP_ (hK_ B0.out)))))) hb); replace HB := a_ (below_step hC_ hb); (try clear hb); (try clear hb2); (try clear hk); (try clear hi)))
    go_ret2
    exact ⟨_, by first | rfl | (simp [errW_none, errW_some] <;> rfl) | (simp only [← hji2]; first | rfl | (simp [errW_none, errW_some] <;> rfl)) | (simp [*, errW_none, errW_some] <;> rfl), by (with_reducible repeat (first | apply Kd.S_alloc | apply Kd.S_drewN | apply Kd.S_drew)); exact Kd.S_mono O0.out (fun _ hk => trivial), hC_⟩
   subst c10
   rw [if_pos rfl] at H
   replace H := ifI_ H; obtain ⟨c11, H⟩ := H
   have LMc11 := a_ c11
   clear c11
   obtain ⟨y0, i0⟩ : ∃ y_ : List (S41), y_ = (x1 ++ [(⟨t1, t2, t0, t3⟩ : S41)]) := ⟨_, rfl⟩
   replace H : (sleuthref12_LoadFile.l0 k1 (a0.extract 0 ((ji2) : Int).toNat) y0 t7) = some (r1, r2) := by first | (rw [i0]; with_reducible exact H) | (have H2_ := (Option.bind_some _ _).symm.trans H; rw [i0]; with_reducible exact H2_) | (have H2_ := (Option.bind_some _ _).symm.trans H; with_reducible exact H2_) | with_reducible exact H | (rw [i0]; exact H) | exact H
   have Y0 := a_ i0
   clear i0
   have H' := a_ H
   clear H
   go_wp2_with (first | ((with_reducible refine gate_callee (f := 28) rfl ?_); refine goesL_ (some 19) rfl rfl Tryz.func28 (by kernel_rfl) rfl #[.string (a0.extract 0 ((ji2) : Int).toNat), .int .i64 x0] rfl (by (try simp only [List.map_toArray, List.map_cons, List.map_nil]); first | done | (simp only [hji2]; rfl) | rfl | (simp only [List.length_drop, List.length_take]; rfl)) ?_; (with_reducible refine (sleuthref12_GetFrame.calls k1 (a0.extract 0 ((ji2) : Int).toNat) x0 t4 t7 t5 _ A5.out).mono ?_); rintro e w9 ⟨rfl, hb⟩; refine ⟨_, rfl, ?_⟩; replace O0 := a_ (Kd.S_below (by (with_reducible repeat (first | apply Kd.S_alloc | apply Kd.S_drewN | apply Kd.S_drew)); exact O0.out) hb); replace HB := a_ (below_step hB_ hb); (try clear hb); (try clear hb2); (try clear hk); (try clear hi)) | ((with_reducible refine gate_callee (f := 29) rfl ?_); refine goesL_ (some 29) rfl rfl Tryz.func29 (by kernel_rfl) rfl #[.string t4] rfl hL_ ?_; (with_reducible refine (sleuthref12_GetRecord.calls k1 t4 t1 t2 t0 t3 t6 _ A7.out).mono ?_); rintro e w13 ⟨v0, rfl, ho0, hb⟩; refine ⟨_, rfl, ?_⟩; replace O0 := a_ (Kd.S_elder' (by (with_reducible repeat (first | apply Kd.S_alloc | apply Kd.S_drewN | apply Kd.S_drew)); exact O0.out) (Kd.R_base ho0) hb); have P0 := a_ (Kd.R_lower ho0 hS_); replace HB := a_ (below_step hB_ hb); (try clear hb); (try clear hb2); (try clear hk); (try clear hi); (try clear ho0)) | ((with_reducible refine gate_dst (N := 9) rfl ?_); (try (refine gate_guard (by rfl) ?_; dsimp only)); refine boxE_ 9 #[.int .i64 0, .int .i64 0, .slice none 0 0, .string (⟨#[]⟩ : ByteArray)] 41 ?_; intro g0 hg w14 hbox hb; replace O0 := a_ (Kd.S_below (Kd.S_elderB (by (with_reducible repeat (first | apply Kd.S_alloc | apply Kd.S_drewN | apply Kd.S_drew)); exact O0.out) g0 (Nat.le_of_eq hg.symm)) hb); replace P0 := a_ (Kd.R_below (hR_ P0.out) hb); have B0 := a_ (hbox); have E0 := a_ ((gE_ hg : w.heap.size ≤ g0)); replace HB := a_ (below_step hB_ hb); clear hb hbox hg; obtain ⟨z8, z9, z10, z11, f8, f9, f10, f11⟩ := bx4_ B0.out; obtain ⟨a1, o0, e3⟩ := Kd.R_slice P0.out; subst e3; obtain ⟨a2, o1, e4⟩ := Kd.S_slice O0.out; subst e4) | (go_at_call 30; (with_reducible refine (sleuthref12_stands.calls k1 t1 t2 _ _ t0 t3 (x1.length : Int) true _ ?s1 ?s2 A9.out).mono ?_); (case s1 => refine (Kd.R_reads' (e := 9) (base := w.heap.size) (ok := fun k_ => True) (n := t0.length) (c := o0) ?_).2.2; exact (by (with_reducible repeat (first | apply Kd.R_alloc | apply Kd.R_drewN | apply Kd.R_drew)); exact (Kd.R_mono (rF_ (rF_ (rF_ (rF_ (Kd.R_types P0.out B0.out (by decide)))))) (fun _ h_ => h_.1)))); (case s2 => exact (Kd.R_reads' P0.out).2.1); rintro e w18 ⟨rfl, hb⟩; replace O0 := a_ (Kd.S_below (by (with_reducible repeat (first | apply Kd.S_alloc | apply Kd.S_drewN | apply Kd.S_drew)); exact (Kd.S_mono (sF_ (sF_ (sF_ (sF_ (Kd.S_mono O0.out (fun k_ hk => (⟨hk, hk.2⟩ : _ ∧ k_ ≠ g0))))))) (fun _ h_ => h_.1))) hb); replace P0 := a_ (Kd.R_below (by (with_reducible repeat (first | apply Kd.R_alloc | apply Kd.R_drewN | apply Kd.R_drew)); exact (Kd.R_mono (rF_ (rF_ (rF_ (rF_ (Kd.R_types P0.out B0.out (by decide)))))) (fun _ h_ => h_.1))) hb); replace B0 := a_ (blk_below (g := g0) (o := .cells #[.int .i64 t1, .int .i64 t2, .slice a1 t0.length o0, .string t3] 41 (0, 0)) (by (with_reducible repeat (first | refine blk_drewN ?_ _ | refine blk_drew ?_ | refine blk_alloc ?_ _)); exact (bP_ (bP_ (bP_ (bP_ (hK_ B0.out)))))) hb); replace HB := a_ (below_step hC_ hb); (try clear hb); (try clear hb2); (try clear hk); (try clear hi); obtain ⟨z12, z13, z14, z15, f12, f13, f14, f15⟩ := bx4_ B0.out) | ((with_reducible refine gate_builtin (b := .append) (xs := #[.tmp 43, .tmp 45]) rfl ?_); (try (refine gate_guard (by rfl) ?_; dsimp only)); at_builtin; refine Kd.S_append k41 (w0 := w) w.heap.size rfl (.tmp 43) (.tmp 45) 22 41 (.agg #[(.int .i64 0), (.int .i64 0), (.slice none 0 0), (.string ⟨#[]⟩)]) 56 rfl Tryz.underlying22 info41 rfl (by decide) (by omega) (.slice a2 x1.length o1) x1 (⟨t1, t2, t0, t3⟩ : S41) [.int .i64 t1, .int .i64 t2, .slice a1 t0.length o0, .string t3] (fun k_ => k_ ≠ g0) (fun k_ => some k_ = (.slice a1 t0.length o0 : Value).ownBlock) rfl rfl ?aP (fun k_ hk_ => ((Kd.R_mono (ok' := fun k_ => ((fun k_ => k_ ≠ g0)) k_ ∧ some k_ ≠ (.slice a2 x1.length o1 : Value).ownBlock) (Kd.R_types (Kd.R_apart' (P0.out) (Kd.S_typed O0.out) (by decide)) B0.out (by decide)) (fun k_ hk => ⟨hk.2, hk.1.2⟩))).1 k_ hk_.symm) ?aF ?aO ?aB ?aS ?aL ?_; (case aP => exact k41_mkM _ _ _ (⟨t1, t2, t0, t3⟩ : S41) (Kd.R_mono (Kd.R_tight rfl (Kd.R_mono (ok' := fun k_ => ((fun k_ => k_ ≠ g0)) k_ ∧ some k_ ≠ (.slice a2 x1.length o1 : Value).ownBlock) (Kd.R_types (Kd.R_apart' (P0.out) (Kd.S_typed O0.out) (by decide)) B0.out (by decide)) (fun k_ hk => ⟨hk.2, hk.1.2⟩))) (fun _ h_ => h_))); (case aB => exact hC_); (case aF => exact (fun k_ hk => Kd.freshB (g := g0) (o := .cells #[.int .i64 t1, .int .i64 t2, .slice a1 t0.length o0, .string t3] 41 (0, 0)) (hK_ B0.out) k_ hk)); (case aO => exact (by (with_reducible repeat (first | apply Kd.S_alloc | apply Kd.S_drewN | apply Kd.S_drew)); exact Kd.S_mono O0.out (fun k_ hk => ⟨hk.2, fun e_ => hk.1.2 e_⟩))); (case aS => exact (below_size hC_)); (case aL => have := LMc11.out; omega); intro v1 w20 ho hb hg hat; rw [← Y0.out] at ho; replace B0 := a_ (blk_grown (hK_ B0.out) hg (Kd.S_away O0.out (fun _ hk => hk.2))); replace HB := a_ (hb); have P1 := a_ (ho); clear O0 P0; clear ho hb hg hat))
   go_roundg k1
   case measure => have := HK1.out; omega
   case rel => exact ⟨(y0), (t7), hW_, H', ⟨by have := HK1.out; omega⟩, ⟨by (with_reducible repeat (first | apply Kd.S_alloc | apply Kd.S_drewN | apply Kd.S_drew)); exact Kd.S_mono P1.out (fun _ hk => trivial)⟩, ⟨hC_⟩⟩
def sleuthlaw0_Num.f (a0 : Int) : Option (Int) := some a0
theorem sleuthlaw0_Num.calls (a0 : Int) (r : Int) (w : World) (h : sleuthlaw0_Num.f a0 = some r) :
 Calls Tryz.prog 10 #[.int .i64 a0] w fun e w' => e = .returned (.int .i64 r) ∧ Drawn0 w w' := by
 have H : (some a0) = some r := h
 clear h
 obtain rfl := Option.some.inj H
 go_enter Tryz.func10, Tryz.ntmps10
 go_wp2
 go_ret
 exact ⟨by first | rfl | (simp; done) | (simp [*]; done), by repeat (first | exact Drawn0.refl _ | apply Drawn0.step)⟩

set_option maxHeartbeats 8000000
set_option maxRecDepth 100000
attribute [local go_sem] max2_int min2_int max_two min_two max_three min_three max_four min_four   -- for this text's walks alone
set_option linter.unusedVariables false
set_option linter.unusedSimpArgs false

def sleuthlaw0_SameTexts.l0 : Nat → List ByteArray → List ByteArray → Int → Option (Bool)
 | 0, _, _, _ => none
 | k + 1, x0, x1, x5 => if x5 < (x0.length : Int) then (if 0 ≤ x5 then (if x5 < (x1.length : Int) then (if (rdOf ByteArray.empty x0 x5).toList = (rdOf ByteArray.empty x1 x5).toList then (sleuthlaw0_SameTexts.l0 k x0 x1 (wrap64 (x5 + 1))) else (some false)) else (none)) else (none)) else (some true)
def sleuthlaw0_SameTexts.f (k : Nat) (l0 : List ByteArray) (l1 : List ByteArray) : Option (Bool) := if (l0.length : Int) = (l1.length : Int) then (sleuthlaw0_SameTexts.l0 k l0 l1 0) else (some false)
theorem sleuthlaw0_SameTexts.calls (k : Nat) (A0 : Option Addr) (c0 : Nat) (l0 : List ByteArray) (A1 : Option Addr) (c1 : Nat) (l1 : List ByteArray) (r : Bool) (w : World) (hr0 : Kd.C Kd.string w A0 l0.length l0) (hc0 : l0.length ≤ c0) (hr1 : Kd.C Kd.string w A1 l1.length l1) (hc1 : l1.length ≤ c1) (h : sleuthlaw0_SameTexts.f k l0 l1 = some r) :
 Calls Tryz.prog 50 #[.slice A0 l0.length c0, .slice A1 l1.length c1] w fun e w' => e = .returned (.bool r) ∧ Drawn0 w w' := by
 have HR0 := a_ hr0
 have HC0 := a_ hc0
 clear hr0 hc0
 have HR1 := a_ hr1
 have HC1 := a_ hc1
 clear hr1 hc1
 have H := h; unfold sleuthlaw0_SameTexts.f at H
 clear h
 by_cases c3 : (l0.length : Int) = (l1.length : Int)
 case neg =>
  rw [if_neg c3] at H
  have c3b0 : ((l0.length : Int) == (l1.length : Int)) = false := beq_eq_false_iff_ne.mpr c3
  have c3b1 : ((l0.length : Int) != (l1.length : Int)) = true := bne_iff_ne.mpr c3
  have c3b2 : (l0.length == l1.length) = false := by first | simpa using c3 | (simp at c3 ⊢; omega)
  obtain rfl := Option.some.inj H
  go_enter Tryz.func50, Tryz.ntmps50
  go_wp2
  repeat (go_quiet (fail); try go_wp2)
  go_ret
  exact ⟨by first | rfl | (simp; done) | (simp [*]; done), by repeat (first | exact Drawn0.refl _ | apply Drawn0.step)⟩

 rw [if_pos c3] at H
 have c3b0 : ((l0.length : Int) == (l1.length : Int)) = true := beq_iff_eq.mpr c3
 have c3b1 : ((l0.length : Int) != (l1.length : Int)) = false := bne_eq_false_iff_eq.mpr c3
 have c3b2 : (l0.length == l1.length) = true := by first | simpa using c3 | (simp at c3 ⊢; omega)
 clear c3
 have H' := a_ H
 clear H
 go_enter Tryz.func50, Tryz.ntmps50
 go_wp2
 repeat (go_quiet (fail); try go_wp2)
 go_loopg [5] k (fun kq v5 w' => ∃ (x0 : Int), v5 = .int .i64 x0 ∧ Aside0 (sleuthlaw0_SameTexts.l0 kq l0 l1 x0 = some r) ∧ Aside0 (kq ≤ k) ∧ Drawn0 w w')
 case atStart => exact ⟨(0), hW_, H', ⟨Nat.le_refl _⟩, by repeat (first | exact Drawn0.refl _ | apply Drawn0.step)⟩
 case round =>
  clear H'
  try clear c1
  try clear p2
  try clear c3
  try clear c3b0
  try clear c3b1
  try clear c3b2
  obtain ⟨x0, rfl, HA, HK1, ⟨m1, rfl⟩⟩ := hrel
  cases gk with
  | zero => exact absurd HA.out (by simp [sleuthlaw0_SameTexts.l0])
  | succ k1 =>
   have H := HA.out
   clear HA
   simp only [sleuthlaw0_SameTexts.l0] at H
   by_cases c4 : x0 < (l0.length : Int)
   case neg =>
    rw [if_neg c4] at H
    have c4b0 : decide (x0 < (l0.length : Int)) = false := decide_eq_false c4
    clear c4
    obtain rfl := Option.some.inj H
    go_wp2
    repeat (go_quiet (fail); try go_wp2)
    go_ret
    exact ⟨by first | rfl | (simp; done) | (simp [*]; done), by repeat (first | exact Drawn0.refl _ | apply Drawn0.step)⟩
   rw [if_pos c4] at H
   have c4b0 : decide (x0 < (l0.length : Int)) = true := decide_eq_true c4
   clear c4
   replace H := ifI_ H; obtain ⟨c5, H⟩ := H
   have c5b0 : decide (0 ≤ x0) = true := decide_eq_true c5
   clear c5
   replace H := ifI_ H; obtain ⟨c6, H⟩ := H
   have c6b0 : decide (x0 < (l1.length : Int)) = true := decide_eq_true c6
   clear c6
   by_cases c7 : (rdOf ByteArray.empty l0 x0).toList = (rdOf ByteArray.empty l1 x0).toList
   case neg =>
    rw [if_neg c7] at H
    have c7b0 : ((rdOf ByteArray.empty l0 x0).toList == (rdOf ByteArray.empty l1 x0).toList) = false := beq_eq_false_iff_ne.mpr c7
    have c7b1 : ((rdOf ByteArray.empty l0 x0).toList != (rdOf ByteArray.empty l1 x0).toList) = true := bne_iff_ne.mpr c7
    obtain rfl := Option.some.inj H
    have p332 : 0 ≤ (x0 : Int) := of_decide_eq_true hA_
    have q332 : x0 < (l0.length : Int) := of_decide_eq_true hA_
    obtain ⟨d0, e332, h0⟩ := Kd.at_string HR0.out x0 p332 q332
    cases e332
    replace p332 := eq_true p332
    replace q332 := eq_true q332
    have p333 : 0 ≤ (x0 : Int) := of_decide_eq_true hA_
    have q333 : x0 < (l1.length : Int) := of_decide_eq_true hA_
    obtain ⟨d1, e333, h1⟩ := Kd.at_string HR1.out x0 p333 q333
    cases e333
    replace p333 := eq_true p333
    replace q333 := eq_true q333
    go_wp2
    repeat (go_quiet (fail); try go_wp2)
    go_ret
    exact ⟨by first | rfl | (simp; done) | (simp [*]; done), by repeat (first | exact Drawn0.refl _ | apply Drawn0.step)⟩
   rw [if_pos c7] at H
   have c7b0 : ((rdOf ByteArray.empty l0 x0).toList == (rdOf ByteArray.empty l1 x0).toList) = true := beq_iff_eq.mpr c7
   have c7b1 : ((rdOf ByteArray.empty l0 x0).toList != (rdOf ByteArray.empty l1 x0).toList) = false := bne_eq_false_iff_eq.mpr c7
   clear c7
   have H' := a_ H
   clear H
   have p332 : 0 ≤ (x0 : Int) := of_decide_eq_true hA_
   have q332 : x0 < (l0.length : Int) := of_decide_eq_true hA_
   obtain ⟨d0, e332, h0⟩ := Kd.at_string HR0.out x0 p332 q332
   cases e332
   replace p332 := eq_true p332
   replace q332 := eq_true q332
   have p333 : 0 ≤ (x0 : Int) := of_decide_eq_true hA_
   have q333 : x0 < (l1.length : Int) := of_decide_eq_true hA_
   obtain ⟨d1, e333, h1⟩ := Kd.at_string HR1.out x0 p333 q333
   cases e333
   replace p333 := eq_true p333
   replace q333 := eq_true q333
   go_wp2
   repeat (go_quiet (fail); try go_wp2)
   go_roundg k1
   case measure => have := HK1.out; omega
   case rel => exact ⟨(wrap64 (x0 + 1)), hW_, H', ⟨by have := HK1.out; omega⟩, by repeat (first | exact Drawn0.refl _ | apply Drawn0.step)⟩
def sleuthlaw0_SameNode.f (k : Nat) (a0_0 : Int) (a0_1 : Int) (l0_2 : List ByteArray) (a0_3 : ByteArray) (a1_0 : Int) (a1_1 : Int) (l1_2 : List ByteArray) (a1_3 : ByteArray) : Option (Bool) := if a0_0 = a1_0 then (if a0_1 = a1_1 then ((sleuthlaw0_SameTexts.f k l0_2 l1_2).bind fun t336 => (if t336 = true then (some (a0_3.toList == a1_3.toList)) else (some false))) else (some false)) else (some false)
theorem sleuthlaw0_SameNode.calls (k : Nat) (a0_0 : Int) (a0_1 : Int) (A0_2 : Option Addr) (c0_2 : Nat) (l0_2 : List ByteArray) (a0_3 : ByteArray) (a1_0 : Int) (a1_1 : Int) (A1_2 : Option Addr) (c1_2 : Nat) (l1_2 : List ByteArray) (a1_3 : ByteArray) (r : Bool) (w : World) (hr0_2 : Kd.C Kd.string w A0_2 l0_2.length l0_2) (hc0_2 : l0_2.length ≤ c0_2) (hr1_2 : Kd.C Kd.string w A1_2 l1_2.length l1_2) (hc1_2 : l1_2.length ≤ c1_2) (h : sleuthlaw0_SameNode.f k a0_0 a0_1 l0_2 a0_3 a1_0 a1_1 l1_2 a1_3 = some r) :
 Calls Tryz.prog 31 #[.agg #[.int .i64 a0_0, .int .i64 a0_1, .slice A0_2 l0_2.length c0_2, .string a0_3], .agg #[.int .i64 a1_0, .int .i64 a1_1, .slice A1_2 l1_2.length c1_2, .string a1_3]] w fun e w' => e = .returned (.bool r) ∧ Below w.heap.size w w' := by
 have hu41 := Tryz.underlying41
 have HR0_2 := a_ hr0_2
 have HC0_2 := a_ hc0_2
 clear hr0_2 hc0_2
 have HR1_2 := a_ hr1_2
 have HC1_2 := a_ hc1_2
 clear hr1_2 hc1_2
 have HB := a_ (Below.refl w.heap.size w)
 have H := h; unfold sleuthlaw0_SameNode.f at H
 clear h
 by_cases c3 : a0_0 = a1_0
 case neg =>
  rw [if_neg c3] at H
  have c3b0 : (a0_0 == a1_0) = false := beq_eq_false_iff_ne.mpr c3
  have c3b1 : (a0_0 != a1_0) = true := bne_iff_ne.mpr c3
  obtain rfl := Option.some.inj H
  go_enter Tryz.func31, Tryz.ntmps31
  go_wp2_with (first | ((with_reducible refine gate_dst (N := 2) rfl ?_); refine boxE_ 2 #[.int .i64 a0_0, .int .i64 a0_1, .slice A0_2 l0_2.length c0_2, .string a0_3] 41 ?_; intro g0 hg w0 hbox hb; have B0 := a_ (hbox); have E0 := a_ ((gE_ hg : w.heap.size ≤ g0)); replace HB := a_ (below_step hB_ hb); clear hb hbox hg) | ((with_reducible refine gate_dst (N := 3) rfl ?_); refine boxE_ 3 #[.int .i64 a1_0, .int .i64 a1_1, .slice A1_2 l1_2.length c1_2, .string a1_3] 41 ?_; intro g1 hg w1 hbox hb; have B1 := a_ (hbox); have E1 := a_ ((gE_ hg : w.heap.size ≤ g1)); replace HB := a_ (below_step hC_ hb); have N0 := a_ ((bL_ B0.out hg : g0 ≠ g1)); have N1 := a_ ((bG_ B0.out hg : g1 ≠ g0)); replace B0 := a_ (bB_ B0.out hb); clear hb hbox hg; have m0 := N0.out; have n0 := N1.out; obtain ⟨z0, z1, z2, z3, f0, f1, f2, f3⟩ := bx4_ B0.out; obtain ⟨z4, z5, z6, z7, f4, f5, f6, f7⟩ := bx4_ B1.out))
  go_ret
  exact ⟨hV_, hC_⟩

 rw [if_pos c3] at H
 have c3b0 : (a0_0 == a1_0) = true := beq_iff_eq.mpr c3
 have c3b1 : (a0_0 != a1_0) = false := bne_eq_false_iff_eq.mpr c3
 clear c3
 by_cases c4 : a0_1 = a1_1
 case neg =>
  rw [if_neg c4] at H
  have c4b0 : (a0_1 == a1_1) = false := beq_eq_false_iff_ne.mpr c4
  have c4b1 : (a0_1 != a1_1) = true := bne_iff_ne.mpr c4
  obtain rfl := Option.some.inj H
  go_enter Tryz.func31, Tryz.ntmps31
  go_wp2_with (first | ((with_reducible refine gate_dst (N := 2) rfl ?_); refine boxE_ 2 #[.int .i64 a0_0, .int .i64 a0_1, .slice A0_2 l0_2.length c0_2, .string a0_3] 41 ?_; intro g0 hg w2 hbox hb; have B0 := a_ (hbox); have E0 := a_ ((gE_ hg : w.heap.size ≤ g0)); replace HB := a_ (below_step hB_ hb); clear hb hbox hg) | ((with_reducible refine gate_dst (N := 3) rfl ?_); refine boxE_ 3 #[.int .i64 a1_0, .int .i64 a1_1, .slice A1_2 l1_2.length c1_2, .string a1_3] 41 ?_; intro g1 hg w3 hbox hb; have B1 := a_ (hbox); have E1 := a_ ((gE_ hg : w.heap.size ≤ g1)); replace HB := a_ (below_step hC_ hb); have N0 := a_ ((bL_ B0.out hg : g0 ≠ g1)); have N1 := a_ ((bG_ B0.out hg : g1 ≠ g0)); replace B0 := a_ (bB_ B0.out hb); clear hb hbox hg; have m1 := N0.out; have n1 := N1.out; obtain ⟨z8, z9, z10, z11, f8, f9, f10, f11⟩ := bx4_ B0.out; obtain ⟨z12, z13, z14, z15, f12, f13, f14, f15⟩ := bx4_ B1.out))
  go_ret
  exact ⟨hV_, hC_⟩
 rw [if_pos c4] at H
 have c4b0 : (a0_1 == a1_1) = true := beq_iff_eq.mpr c4
 have c4b1 : (a0_1 != a1_1) = false := bne_eq_false_iff_eq.mpr c4
 clear c4
 replace H := Option.bind_eq_some_iff.mp H
 obtain ⟨t0, A50, H⟩ := H
 try dsimp only at H
 have A5 := a_ A50
 clear A50
 by_cases c6 : t0 = true
 case pos =>
  subst c6
  rw [if_pos rfl] at H
  obtain rfl := Option.some.inj H
  go_enter Tryz.func31, Tryz.ntmps31
  go_wp2_with (first | ((with_reducible refine gate_dst (N := 2) rfl ?_); refine boxE_ 2 #[.int .i64 a0_0, .int .i64 a0_1, .slice A0_2 l0_2.length c0_2, .string a0_3] 41 ?_; intro g0 hg w7 hbox hb; have B0 := a_ (hbox); have E0 := a_ ((gE_ hg : w.heap.size ≤ g0)); replace HB := a_ (below_step hB_ hb); clear hb hbox hg) | ((with_reducible refine gate_dst (N := 3) rfl ?_); refine boxE_ 3 #[.int .i64 a1_0, .int .i64 a1_1, .slice A1_2 l1_2.length c1_2, .string a1_3] 41 ?_; intro g1 hg w8 hbox hb; have B1 := a_ (hbox); have E1 := a_ ((gE_ hg : w.heap.size ≤ g1)); replace HB := a_ (below_step hC_ hb); have N0 := a_ ((bL_ B0.out hg : g0 ≠ g1)); have N1 := a_ ((bG_ B0.out hg : g1 ≠ g0)); replace B0 := a_ (bB_ B0.out hb); clear hb hbox hg; have m2 := N0.out; have n2 := N1.out; obtain ⟨z16, z17, z18, z19, f16, f17, f18, f19⟩ := bx4_ B0.out; obtain ⟨z20, z21, z22, z23, f20, f21, f22, f23⟩ := bx4_ B1.out) | (go_at_call 50; (with_reducible refine (sleuthlaw0_SameTexts.calls k _ _ l0_2 _ _ l1_2 true _ ?s1 ?s2 ?s3 ?s4 A5.out).mono ?_); (case s1 => exact cB_ HR0_2.out); (case s2 => exact HC0_2.out); (case s3 => exact cB_ HR1_2.out); (case s4 => exact HC1_2.out); rintro e w' ⟨rfl, ⟨nd, rfl⟩⟩))
  go_ret
  exact ⟨hV_, hC_⟩
 replace c6 := Bool.eq_false_iff.mpr c6
 subst c6
 rw [if_neg (show ¬ (false = true) by decide)] at H
 obtain rfl := Option.some.inj H
 go_enter Tryz.func31, Tryz.ntmps31
 go_wp2_with (first | ((with_reducible refine gate_dst (N := 2) rfl ?_); refine boxE_ 2 #[.int .i64 a0_0, .int .i64 a0_1, .slice A0_2 l0_2.length c0_2, .string a0_3] 41 ?_; intro g0 hg w4 hbox hb; have B0 := a_ (hbox); have E0 := a_ ((gE_ hg : w.heap.size ≤ g0)); replace HB := a_ (below_step hB_ hb); clear hb hbox hg) | ((with_reducible refine gate_dst (N := 3) rfl ?_); refine boxE_ 3 #[.int .i64 a1_0, .int .i64 a1_1, .slice A1_2 l1_2.length c1_2, .string a1_3] 41 ?_; intro g1 hg w5 hbox hb; have B1 := a_ (hbox); have E1 := a_ ((gE_ hg : w.heap.size ≤ g1)); replace HB := a_ (below_step hC_ hb); have N0 := a_ ((bL_ B0.out hg : g0 ≠ g1)); have N1 := a_ ((bG_ B0.out hg : g1 ≠ g0)); replace B0 := a_ (bB_ B0.out hb); clear hb hbox hg; have m3 := N0.out; have n3 := N1.out; obtain ⟨z24, z25, z26, z27, f24, f25, f26, f27⟩ := bx4_ B0.out; obtain ⟨z28, z29, z30, z31, f28, f29, f30, f31⟩ := bx4_ B1.out) | (go_at_call 50; (with_reducible refine (sleuthlaw0_SameTexts.calls k _ _ l0_2 _ _ l1_2 false _ ?s1 ?s2 ?s3 ?s4 A5.out).mono ?_); (case s1 => exact cB_ HR0_2.out); (case s2 => exact HC0_2.out); (case s3 => exact cB_ HR1_2.out); (case s4 => exact HC1_2.out); rintro e w' ⟨rfl, ⟨nd, rfl⟩⟩))
 go_ret
 exact ⟨hV_, hC_⟩
set_option maxHeartbeats 8000000
set_option maxRecDepth 100000
attribute [local go_sem] max2_int min2_int max_two min_two max_three min_three max_four min_four   -- for this text's walks alone
set_option linter.unusedVariables false
set_option linter.unusedSimpArgs false

def sleuthlaw0_SameNodes.l0 : Nat → List (S41) → List (S41) → Int → Option (Bool)
 | 0, _, _, _ => none
 | k + 1, x0, x1, x5 => if x5 < (x0.length : Int) then (if 0 ≤ x5 then (if x5 < (x1.length : Int) then ((sleuthlaw0_SameNode.f k ((rd_T41 x0 x5).f0) ((rd_T41 x0 x5).f1) ((rd_T41 x0 x5).f2) ((rd_T41 x0 x5).f3) ((rd_T41 x1 x5).f0) ((rd_T41 x1 x5).f1) ((rd_T41 x1 x5).f2) ((rd_T41 x1 x5).f3)).bind fun t339 => (if t339 = true then (sleuthlaw0_SameNodes.l0 k x0 x1 (wrap64 (x5 + 1))) else (some false))) else (none)) else (none)) else (some true)
def sleuthlaw0_SameNodes.f (k : Nat) (l0 : List (S41)) (l1 : List (S41)) : Option (Bool) := if (l0.length : Int) = (l1.length : Int) then (sleuthlaw0_SameNodes.l0 k l0 l1 0) else (some false)
def sleuthlaw0_SameNodes.T6 : Bool × List (List Nat × List Nat) := (true, [([], []), ([], []), ([0, 1], [0, 1]), ([2], [2]), ([], []), ([], []), ([4, 5], [4, 5]), ([6], [6]), ([3, 7], [3, 7]), ([8], [8])])
def sleuthlaw0_SameNodes.B6 : List Nat := [0, 0, 3, 7, 0, 0, 48, 112, 255, 511]
theorem sleuthlaw0_SameNodes.tab6 : rtab .any (opsOf Tryz.f11 6) = sleuthlaw0_SameNodes.T6 := by kernel_rfl
theorem sleuthlaw0_SameNodes.bits6 : waitsOk sleuthlaw0_SameNodes.T6.2 sleuthlaw0_SameNodes.B6 = true := by kernel_rfl
theorem sleuthlaw0_SameNodes.calls (k : Nat) (A0 : Option Addr) (c0 : Nat) (l0 : List (S41)) (A1 : Option Addr) (c1 : Nat) (l1 : List (S41)) (r : Bool) (w : World) (hr0 : Kd.C k41 w A0 l0.length l0) (hc0 : l0.length ≤ c0) (hr1 : Kd.C k41 w A1 l1.length l1) (hc1 : l1.length ≤ c1) (h : sleuthlaw0_SameNodes.f k l0 l1 = some r) :
 Calls Tryz.prog 11 #[.slice A0 l0.length c0, .slice A1 l1.length c1] w fun e w' => e = .returned (.bool r) ∧ Below w.heap.size w w' := by
 have hu41 := Tryz.underlying41
 have HR0 := a_ hr0
 have HC0 := a_ hc0
 clear hr0 hc0
 have HR1 := a_ hr1
 have HC1 := a_ hc1
 clear hr1 hc1
 have HB := a_ (Below.refl w.heap.size w)
 have H := h; unfold sleuthlaw0_SameNodes.f at H
 clear h
 by_cases c3 : (l0.length : Int) = (l1.length : Int)
 case neg =>
  rw [if_neg c3] at H
  have c3b0 : ((l0.length : Int) == (l1.length : Int)) = false := beq_eq_false_iff_ne.mpr c3
  have c3b1 : ((l0.length : Int) != (l1.length : Int)) = true := bne_iff_ne.mpr c3
  have c3b2 : (l0.length == l1.length) = false := by first | simpa using c3 | (simp at c3 ⊢; omega)
  obtain rfl := Option.some.inj H
  go_enter Tryz.func11, Tryz.ntmps11
  go_wp2
  go_ret
  exact ⟨hV_, hC_⟩

 rw [if_pos c3] at H
 have c3b0 : ((l0.length : Int) == (l1.length : Int)) = true := beq_iff_eq.mpr c3
 have c3b1 : ((l0.length : Int) != (l1.length : Int)) = false := bne_eq_false_iff_eq.mpr c3
 have c3b2 : (l0.length == l1.length) = true := by first | simpa using c3 | (simp at c3 ⊢; omega)
 clear c3
 have H' := a_ H
 clear H
 go_enter Tryz.func11, Tryz.ntmps11
 go_wp2
 go_loopg [5] k (fun kq v5 w' => ∃ (x0 : Int), v5 = .int .i64 x0 ∧ Aside0 (sleuthlaw0_SameNodes.l0 kq l0 l1 x0 = some r) ∧ Aside0 (kq ≤ k) ∧ Aside0 (Below w.heap.size w w'))
 case atStart => exact ⟨(0), hW_, H', ⟨Nat.le_refl _⟩, ⟨hC_⟩⟩
 case round =>
  clear H'
  try clear c1
  try clear p2
  try clear c3
  try clear c3b0
  try clear c3b1
  try clear c3b2
  obtain ⟨x0, rfl, HA, HK1, HB⟩ := hrel
  cases gk with
  | zero => exact absurd HA.out (by simp [sleuthlaw0_SameNodes.l0])
  | succ k1 =>
   have H := HA.out
   clear HA
   simp only [sleuthlaw0_SameNodes.l0] at H
   by_cases c4 : x0 < (l0.length : Int)
   case neg =>
    rw [if_neg c4] at H
    have c4b0 : decide (x0 < (l0.length : Int)) = false := decide_eq_false c4
    clear c4
    obtain rfl := Option.some.inj H
    go_wp2
    go_ret
    exact ⟨hV_, hC_⟩
   rw [if_pos c4] at H
   have c4b0 : decide (x0 < (l0.length : Int)) = true := decide_eq_true c4
   clear c4
   replace H := ifI_ H; obtain ⟨c5, H⟩ := H
   have c5b0 : decide (0 ≤ x0) = true := decide_eq_true c5
   clear c5
   replace H := ifI_ H; obtain ⟨c6, H⟩ := H
   have c6b0 : decide (x0 < (l1.length : Int)) = true := decide_eq_true c6
   clear c6
   replace H := Option.bind_eq_some_iff.mp H
   obtain ⟨t0, A70, H⟩ := H
   try dsimp only at H
   have A7 := a_ A70
   clear A70
   by_cases c8 : t0 = true
   case neg =>
    replace c8 := Bool.eq_false_iff.mpr c8
    subst c8
    rw [if_neg (show ¬ (false = true) by decide)] at H
    obtain rfl := Option.some.inj H
    try go_wp2
    replace HB := a_ (below_drew1 HB.out)
    have p337 : 0 ≤ (x0 : Int) := of_decide_eq_true hA_
    have q337 : x0 < (l0.length : Int) := of_decide_eq_true hA_
    obtain ⟨d0, A337_2, c337_2, e337, h0, h1, h2, h3, hl337_2, hi337_2⟩ := at_T41 HR0.out x0 p337 q337
    have hw337_3 := h3
    have hw337_2 := h2
    have hw337_1 := h1
    have hw337_0 := h0
    cases e337
    replace h0 := cl_ HB.out h0
    replace h1 := cl_ HB.out h1
    replace h2 := cl_ HB.out h2
    replace h3 := cl_ HB.out h3
    have HR337_2 := a_ hi337_2
    have HC337_2 := a_ hl337_2
    clear hi337_2 hl337_2
    replace p337 := eq_true p337
    replace q337 := eq_true q337
    have p338 : 0 ≤ (x0 : Int) := of_decide_eq_true hA_
    have q338 : x0 < (l1.length : Int) := of_decide_eq_true hA_
    obtain ⟨d1, A338_2, c338_2, e338, h4, h5, h6, h7, hl338_2, hi338_2⟩ := at_T41 HR1.out x0 p338 q338
    have hw338_3 := h7
    have hw338_2 := h6
    have hw338_1 := h5
    have hw338_0 := h4
    cases e338
    replace h4 := cl_ HB.out h4
    replace h5 := cl_ HB.out h5
    replace h6 := cl_ HB.out h6
    replace h7 := cl_ HB.out h7
    have HR338_2 := a_ hi338_2
    have HC338_2 := a_ hl338_2
    clear hi338_2 hl338_2
    replace p338 := eq_true p338
    replace q338 := eq_true q338
    refine start_ (n := 10) (S := fun w' => w'.cell? (d0.add ((x0).toNat * 4)) = some (.int .i64 ((rd_T41 l0 x0).f0)) ∧ w'.cell? ⟨(d0.add ((x0).toNat * 4)).block, (d0.add ((x0).toNat * 4)).off + 1, none⟩ = some (.int .i64 ((rd_T41 l0 x0).f1)) ∧ w'.cell? ⟨(d0.add ((x0).toNat * 4)).block, (d0.add ((x0).toNat * 4)).off + 2, none⟩ = some (.slice A337_2 ((rd_T41 l0 x0).f2).length c337_2) ∧ w'.cell? ⟨(d0.add ((x0).toNat * 4)).block, (d0.add ((x0).toNat * 4)).off + 3, none⟩ = some (.string ((rd_T41 l0 x0).f3)) ∧ w'.cell? (d1.add ((x0).toNat * 4)) = some (.int .i64 ((rd_T41 l1 x0).f0)) ∧ w'.cell? ⟨(d1.add ((x0).toNat * 4)).block, (d1.add ((x0).toNat * 4)).off + 1, none⟩ = some (.int .i64 ((rd_T41 l1 x0).f1)) ∧ w'.cell? ⟨(d1.add ((x0).toNat * 4)).block, (d1.add ((x0).toNat * 4)).off + 2, none⟩ = some (.slice A338_2 ((rd_T41 l1 x0).f2).length c338_2) ∧ w'.cell? ⟨(d1.add ((x0).toNat * 4)).block, (d1.add ((x0).toNat * 4)).off + 3, none⟩ = some (.string ((rd_T41 l1 x0).f3))) (ds := []) #[false, false, false, false, false, false, false, false, false, false] (by kernel_rfl) rfl rfl ⟨(cl_ HB.out hw337_0), (cl_ HB.out hw337_1), (cl_ HB.out hw337_2), (cl_ HB.out hw337_3), (cl_ HB.out hw338_0), (cl_ HB.out hw338_1), (cl_ HB.out hw338_2), (cl_ HB.out hw338_3)⟩ (fun hHeld => ?_); refine with_tabW sleuthlaw0_SameNodes.tab6 sleuthlaw0_SameNodes.bits6 (fun HT_ HW_ => ?_)
    generalize wr.drew = w0 at HB HR337_2 HR338_2 h0 h1 h2 h3 h4 h5 h6 h7 hHeld ⊢
    refine pB_ 0 17 HT_.out ?_
    refine pB_ 1 18 HT_.out ?_
    refine pB_ 2 19 HT_.out ?_
    refine pB_ 4 21 HT_.out ?_
    refine pB_ 5 22 HT_.out ?_
    refine pB_ 6 23 HT_.out ?_
    refine tB_ 3 20 HT_.out HW_.out hHeld ?_
    refine tB_ 7 24 HT_.out HW_.out hHeld ?_
    refine one_ (i := 8) (N := some 25) #[true, true, true, true, true, true, true, true, true, false] rfl rfl (one_of HT_.out (by kernel_rfl)) (by decide) (fun K hK => ?_)
    refine goes_ Tryz.func31 (by kernel_rfl) rfl #[.agg #[.int .i64 ((rd_T41 l0 x0).f0), .int .i64 ((rd_T41 l0 x0).f1), .slice A337_2 ((rd_T41 l0 x0).f2).length c337_2, .string ((rd_T41 l0 x0).f3)], .agg #[.int .i64 ((rd_T41 l1 x0).f0), .int .i64 ((rd_T41 l1 x0).f1), .slice A338_2 ((rd_T41 l1 x0).f2).length c338_2, .string ((rd_T41 l1 x0).f3)]] (by rfl) rfl rfl hL_ ?_
    with_reducible refine (sleuthlaw0_SameNode.calls k1 ((rd_T41 l0 x0).f0) ((rd_T41 l0 x0).f1) _ _ ((rd_T41 l0 x0).f2) ((rd_T41 l0 x0).f3) ((rd_T41 l1 x0).f0) ((rd_T41 l1 x0).f1) _ _ ((rd_T41 l1 x0).f2) ((rd_T41 l1 x0).f3) false _ ?s1 ?s2 ?s3 ?s4 A7.out).mono ?_
    (case s1 => exact cB_ HR337_2.out)
    (case s2 => exact HC337_2.out)
    (case s3 => exact cB_ HR338_2.out)
    (case s4 => exact HC338_2.out)
    rintro e w1 ⟨rfl, hb⟩
    refine ⟨_, rfl, ?_⟩
    replace HB := a_ (below_step hB_ hb)
    (try clear hb)
    (try clear hb2)
    (try clear hk)
    (try clear hi)
    refine hK.out _ _ ⟨(cl_ HB.out hw337_0), (cl_ HB.out hw337_1), (cl_ HB.out hw337_2), (cl_ HB.out hw337_3), (cl_ HB.out hw338_0), (cl_ HB.out hw338_1), (cl_ HB.out hw338_2), (cl_ HB.out hw338_3)⟩ (fun hHeld => ?_)
    clear hK K
    refine norm_ (a' := ?_) ?_ ?_
    rotate_left
    · show Act.put _ (some 25) _ = _
      simp only [Act.put, List.setIfInBounds_toArray, List.set_cons_zero, List.set_cons_succ, i64_w, i32_w]
      rfl
    refine pB_ 9 26 HT_.out ?_
    refine done_ (done_of HT_.out (by kernel_rfl)) ?_
    try go_wp2
    go_ret
    exact ⟨hV_, hC_⟩
   subst c8
   rw [if_pos rfl] at H
   have H' := a_ H
   clear H
   try go_wp2
   replace HB := a_ (below_drew1 HB.out)
   have p337 : 0 ≤ (x0 : Int) := of_decide_eq_true hA_
   have q337 : x0 < (l0.length : Int) := of_decide_eq_true hA_
   obtain ⟨d0, A337_2, c337_2, e337, h0, h1, h2, h3, hl337_2, hi337_2⟩ := at_T41 HR0.out x0 p337 q337
   have hw337_3 := h3
   have hw337_2 := h2
   have hw337_1 := h1
   have hw337_0 := h0
   cases e337
   replace h0 := cl_ HB.out h0
   replace h1 := cl_ HB.out h1
   replace h2 := cl_ HB.out h2
   replace h3 := cl_ HB.out h3
   have HR337_2 := a_ hi337_2
   have HC337_2 := a_ hl337_2
   clear hi337_2 hl337_2
   replace p337 := eq_true p337
   replace q337 := eq_true q337
   have p338 : 0 ≤ (x0 : Int) := of_decide_eq_true hA_
   have q338 : x0 < (l1.length : Int) := of_decide_eq_true hA_
   obtain ⟨d1, A338_2, c338_2, e338, h4, h5, h6, h7, hl338_2, hi338_2⟩ := at_T41 HR1.out x0 p338 q338
   have hw338_3 := h7
   have hw338_2 := h6
   have hw338_1 := h5
   have hw338_0 := h4
   cases e338
   replace h4 := cl_ HB.out h4
   replace h5 := cl_ HB.out h5
   replace h6 := cl_ HB.out h6
   replace h7 := cl_ HB.out h7
   have HR338_2 := a_ hi338_2
   have HC338_2 := a_ hl338_2
   clear hi338_2 hl338_2
   replace p338 := eq_true p338
   replace q338 := eq_true q338
   refine start_ (n := 10) (S := fun w' => w'.cell? (d0.add ((x0).toNat * 4)) = some (.int .i64 ((rd_T41 l0 x0).f0)) ∧ w'.cell? ⟨(d0.add ((x0).toNat * 4)).block, (d0.add ((x0).toNat * 4)).off + 1, none⟩ = some (.int .i64 ((rd_T41 l0 x0).f1)) ∧ w'.cell? ⟨(d0.add ((x0).toNat * 4)).block, (d0.add ((x0).toNat * 4)).off + 2, none⟩ = some (.slice A337_2 ((rd_T41 l0 x0).f2).length c337_2) ∧ w'.cell? ⟨(d0.add ((x0).toNat * 4)).block, (d0.add ((x0).toNat * 4)).off + 3, none⟩ = some (.string ((rd_T41 l0 x0).f3)) ∧ w'.cell? (d1.add ((x0).toNat * 4)) = some (.int .i64 ((rd_T41 l1 x0).f0)) ∧ w'.cell? ⟨(d1.add ((x0).toNat * 4)).block, (d1.add ((x0).toNat * 4)).off + 1, none⟩ = some (.int .i64 ((rd_T41 l1 x0).f1)) ∧ w'.cell? ⟨(d1.add ((x0).toNat * 4)).block, (d1.add ((x0).toNat * 4)).off + 2, none⟩ = some (.slice A338_2 ((rd_T41 l1 x0).f2).length c338_2) ∧ w'.cell? ⟨(d1.add ((x0).toNat * 4)).block, (d1.add ((x0).toNat * 4)).off + 3, none⟩ = some (.string ((rd_T41 l1 x0).f3))) (ds := []) #[false, false, false, false, false, false, false, false, false, false] (by kernel_rfl) rfl rfl ⟨(cl_ HB.out hw337_0), (cl_ HB.out hw337_1), (cl_ HB.out hw337_2), (cl_ HB.out hw337_3), (cl_ HB.out hw338_0), (cl_ HB.out hw338_1), (cl_ HB.out hw338_2), (cl_ HB.out hw338_3)⟩ (fun hHeld => ?_); refine with_tabW sleuthlaw0_SameNodes.tab6 sleuthlaw0_SameNodes.bits6 (fun HT_ HW_ => ?_)
   generalize wr.drew = w9 at HB HR337_2 HR338_2 h0 h1 h2 h3 h4 h5 h6 h7 hHeld ⊢
   refine pB_ 0 17 HT_.out ?_
   refine pB_ 1 18 HT_.out ?_
   refine pB_ 2 19 HT_.out ?_
   refine pB_ 4 21 HT_.out ?_
   refine pB_ 5 22 HT_.out ?_
   refine pB_ 6 23 HT_.out ?_
   refine tB_ 3 20 HT_.out HW_.out hHeld ?_
   refine tB_ 7 24 HT_.out HW_.out hHeld ?_
   refine one_ (i := 8) (N := some 25) #[true, true, true, true, true, true, true, true, true, false] rfl rfl (one_of HT_.out (by kernel_rfl)) (by decide) (fun K hK => ?_)
   refine goes_ Tryz.func31 (by kernel_rfl) rfl #[.agg #[.int .i64 ((rd_T41 l0 x0).f0), .int .i64 ((rd_T41 l0 x0).f1), .slice A337_2 ((rd_T41 l0 x0).f2).length c337_2, .string ((rd_T41 l0 x0).f3)], .agg #[.int .i64 ((rd_T41 l1 x0).f0), .int .i64 ((rd_T41 l1 x0).f1), .slice A338_2 ((rd_T41 l1 x0).f2).length c338_2, .string ((rd_T41 l1 x0).f3)]] (by rfl) rfl rfl hL_ ?_
   with_reducible refine (sleuthlaw0_SameNode.calls k1 ((rd_T41 l0 x0).f0) ((rd_T41 l0 x0).f1) _ _ ((rd_T41 l0 x0).f2) ((rd_T41 l0 x0).f3) ((rd_T41 l1 x0).f0) ((rd_T41 l1 x0).f1) _ _ ((rd_T41 l1 x0).f2) ((rd_T41 l1 x0).f3) true _ ?s1 ?s2 ?s3 ?s4 A7.out).mono ?_
   (case s1 => exact cB_ HR337_2.out)
   (case s2 => exact HC337_2.out)
   (case s3 => exact cB_ HR338_2.out)
   (case s4 => exact HC338_2.out)
   rintro e w2 ⟨rfl, hb⟩
   refine ⟨_, rfl, ?_⟩
   replace HB := a_ (below_step hB_ hb)
   (try clear hb)
   (try clear hb2)
   (try clear hk)
   (try clear hi)
   refine hK.out _ _ ⟨(cl_ HB.out hw337_0), (cl_ HB.out hw337_1), (cl_ HB.out hw337_2), (cl_ HB.out hw337_3), (cl_ HB.out hw338_0), (cl_ HB.out hw338_1), (cl_ HB.out hw338_2), (cl_ HB.out hw338_3)⟩ (fun hHeld => ?_)
   clear hK K
   refine norm_ (a' := ?_) ?_ ?_
   rotate_left
   · show Act.put _ (some 25) _ = _
     simp only [Act.put, List.setIfInBounds_toArray, List.set_cons_zero, List.set_cons_succ, i64_w, i32_w]
     rfl
   refine pB_ 9 26 HT_.out ?_
   refine done_ (done_of HT_.out (by kernel_rfl)) ?_
   try go_wp2
   go_roundg k1
   case measure => have := HK1.out; omega
   case rel => exact ⟨(wrap64 (x0 + 1)), hW_, H', ⟨by have := HK1.out; omega⟩, ⟨hC_⟩⟩
end Go.Proofs.YtnhmmbgnaogokaaGreatDoor.G
end
