/- Parts of this proof, one behind the other: G17, G18, G19, G20, G21, G22, G23. -/
import Derived.Test.YtnhmmbgnaogokaaDoorTHead
import Derived.Test.YtnhmmbgnaogokaaDoorG0
import Derived.Test.YtnhmmbgnaogokaaDoorU7
section
namespace Go.Proofs.YtnhmmbgnaogokaaDoor.G
open Go.RowKit Go.Proofs.YtnhmmbgnaogokaaDoorW.PrintWords Go.Proofs.YtnhmmbgnaogokaaDoorW.PrintLast Go.Proofs.YtnhmmbgnaogokaaDoorW.PrintMore
set_option maxHeartbeats 8000000
set_option maxRecDepth 100000
attribute [local go_sem] max2_int min2_int max_two min_two max_three min_three max_four min_four   -- for this text's walks alone
set_option linter.unusedVariables false
set_option linter.unusedSimpArgs false

def file_Text.l0 : Nat → List S37 → ByteArray → Int → Option (ByteArray × Int)
 | 0, _, _, _ => none
 | k + 1, ns, acc, i => if i < (ns.length : Int) then (record_Put.f k (rd_T37 ns i).f0 (rd_T37 ns i).f1 (rd_T37 ns i).f2 (rd_T37 ns i).f3).bind fun s => (frame_Put.f k s.1).bind fun t => if acc.size + t.1.size ≤ 140737488355328 then (if (65536 : Int) < ((acc ++ t.1).size : Int) then some (⟨#[]⟩, 1700) else file_Text.l0 k ns (acc ++ t.1) (i + 1)) else none else some (acc, 0)
def file_Text.f (k : Nat) (l0 : List S37) : Option (ByteArray × Int) := (trail_May.f k l0).bind fun t => if t = true then file_Text.l0 k l0 ⟨#[]⟩ 0 else some (⟨#[]⟩, 1700)
open Lib in
theorem bld_below {T e : TypeId} {B b : Nat} {bs : List Value} {w w1 : World} (h : Lib.IsBuilder T e B b bs w) (hb : Below w.heap.size w w1) : Lib.IsBuilder T e B b bs w1 := by
 have one : ∀ p, Lib.BuilderAt T e B b p bs w → Lib.BuilderAt T e B b p bs w1 := fun p h => by
  have hlt := h.lt
  obtain ⟨hB, v, hbk, hown, hne⟩ := h
  exact ⟨hB, v, (hb.block b hlt).trans hbk, own_move hown (fun k hk => hb.block k (own_lt hown k hk)), hne⟩
 exact h.imp (one _) (one _)
theorem bld_new {T e : TypeId} {gb : Nat} {w : World} (h : w.heap[gb]? = some (.cells #[.pointer none, .slice none 0 0] T (0, 0))) : Lib.IsBuilder T e gb gb [] w :=
 .inl ⟨Nat.le_refl _, .slice none 0 0, h, ⟨rfl, .inl ⟨rfl, rfl⟩⟩, by simp [Value.ownBlock]⟩
theorem builder_check (B b : Nat) (bs : List Value) (w : World) (h : Lib.IsBuilder 43 5 B b bs w) :
 Calls Tryd.prog 30 #[.pointer (some ⟨b, 0, none⟩)] w fun e w' => e = .returned (.tuple #[]) ∧ (Lib.BuilderAt 43 5 B b (.pointer (some ⟨b, 0, none⟩)) bs w' ∧ Below B w w') := by
 obtain ⟨j, hj, hjs⟩ := Option.map_eq_some_iff.1 (show (Tryd.prog.info? 43).map (·.size) = some 2 by kernel_rfl)
 have tB := Tryd.underlying43; have uB := run_underlying tB
 have tP := Tryd.underlying40; have uP := run_underlying tP
 have tU := Tryd.underlying79; have uU := run_underlying tU
 rcases h with h | h
 · have h0 := h.cell0
   have hsh := h.shape
   have hfz := h.frozen0
   go_enter Tryd.func30, Tryd.ntmps30
   go_wp2
   rw [Lib.run_to_unsafe w ⟨b, 0, none⟩ tP tU hj (by rw [hjs]; decide) hsh (Nat.zero_lt_succ 1)]
   simp only [Result.andThen]
   rw [Oper.upon_value]
   go_wp2
   rw [run_callFunc_extern Tryd.func40 (by kernel_rfl) (by kernel_rfl) (by kernel_rfl) (e := Extern.AbiNoEscape.same) (by kernel_rfl)]
   rw [Lib.run_noEscape]
   simp only [Result.andThen]
   rw [Oper.upon_value]
   go_wp2
   rw [Lib.run_from_unsafe w ⟨b, 0, none⟩ tU tP hj hsh (by kernel_rfl)]
   simp only [Result.andThen]
   rw [Oper.upon_value]
   go_wp2
   go_end0
   exact ⟨rfl, h.used _, (Below.refl B w).setCell (p := ⟨b, 0, none⟩) h.1 _⟩
 · have h0 := h.cell0
   go_enter Tryd.func30, Tryd.ntmps30
   go_wp2
   rw [Lib.run_neq_ptr_same w _ tP hj]
   go_wp2
   go_end0
   exact ⟨rfl, h, Below.refl B _⟩
theorem own_sl {w : World} {B e n : Nat} {v : Value} {xs : List Value} (h : w.ownsRow B e 1 v n xs) : ∃ ao n' cap, v = .slice ao n' cap := by
 rcases h.2 with ⟨hv, _⟩ | ⟨g, cap, cur, hv, _⟩
 · exact ⟨_, _, _, hv⟩
 · exact ⟨_, _, _, hv⟩
theorem bld_lt {w : World} {b t : Nat} {cs : Array Value} {fr : Nat × Nat} (h : w.heap[b]? = some (.cells cs t fr)) : b < w.heap.size := by
 rcases Nat.lt_or_ge b w.heap.size with h' | h'
 · exact h'
 · simp [Array.getElem?_eq_none h'] at h
theorem builder_write (B b : Nat) (bs : List Value) (s : ByteArray) (w : World) (h : Lib.IsBuilder 43 5 B b bs w) (hlen : bs.length + s.size ≤ 140737488355328) (hBw : B ≤ w.heap.size) :
 Calls Tryd.prog 17 #[.pointer (some ⟨b, 0, none⟩), .string s] w fun e w' => e = .returned (.tuple #[.int .i64 s.size, .nilIface]) ∧ (Lib.BuilderAt 43 5 B b (.pointer (some ⟨b, 0, none⟩)) (bs ++ Lib.strCells s) w' ∧ Below B w w') := by
 have tB := Tryd.underlying43; have uB := run_underlying tB
 have tS := Tryd.underlying41
 have tT := Tryd.underlying9
 obtain ⟨i0, hi, hz⟩ := Option.map_eq_some_iff.1 (show (Tryd.prog.info? 5).map (fun i => (i.zero, i.size, i.bytes)) = some (some (.int .u8 0), 1, 1) by kernel_rfl)
 obtain ⟨hz0, hz1⟩ := Prod.mk.inj hz
 obtain ⟨hz1, hz2⟩ := Prod.mk.inj hz1
 have HL := a_ hlen
 clear hlen hz
 go_enter Tryd.func17, Tryd.ntmps17
 go_wp2_with (first
  | (go_at_call 30; refine (builder_check B b bs _ h).mono ?_; rintro e w1 ⟨rfl, h1, hb1⟩; obtain ⟨hB, v, hbk, hown, hne⟩ := h1; have c0 : w1.cell? ⟨b, 0, none⟩ = some (.pointer (some ⟨b, 0, none⟩)) := (by rw [Lib.cell_of_heap hbk]; rfl); have c1 : w1.cell? ⟨b, 1, none⟩ = some v := (by rw [Lib.cell_of_heap hbk]; rfl))
  | (at_builtin; refine Lib.wpList_append_own_string _ rfl _ _ 41 9 rfl B 5 i0 tS tT hi hz0 hz1 hz2 _ _ _ rfl hown s rfl ?c3 ?c4 ?c5 ?c6; (case c3 => have := HL.out; unfold maxLen; omega); (case c4 => have := HL.out; omega); (case c5 => have := hb1.size; omega); intro v' w2 hown' hgrow _; obtain ⟨ao, n', cap, rfl⟩ := own_sl hown'; have hb2 : w2.heap[b]? = some (.cells #[.pointer (some ⟨b, 0, none⟩), v] 43 (0, 0)) := (hgrow.block b (bld_lt hbk) (fun e => hne e.symm)).trans hbk; have d1 : w2.cell? ⟨b, 1, none⟩ = some v := (by rw [Lib.cell_of_heap hb2]; rfl); have f1 : w2.frozen? ⟨b, 1, none⟩ = false := Lib.frozen_of_heap hb2 1))
 go_ret2
 refine ⟨rfl, ?_, ?_⟩
 · exact Lib.BuilderAt.put (T := 43) (e := 5) hB hb2 (bs' := bs ++ Lib.strCells s) (by simpa [Lib.strCells_length] using hown') (by decide)
 · exact (hb1.grown hgrow (by have := hb1.size; omega) (fun k hk => (hown.lt k hk).1)).setCell (p := ⟨b, 1, none⟩) hB _
theorem str_cells (a b : ByteArray) : Lib.strCells a ++ Lib.strCells b = Lib.strCells (a ++ b) := by
 rw [Lib.strCells_eq, Lib.strCells_eq, Lib.strCells_eq, ← Lib.byteCells_append, ByteArray.data_append, Array.toList_append]
theorem file_Text.calls (k : Nat) (A0 : Option Addr) (c0 : Nat) (l0 : List S37) (r1 : ByteArray) (r2 : Int) (w : World) (hr0 : Kd.C k37 w A0 l0.length l0) (hc0 : l0.length ≤ c0) (h : file_Text.f k l0 = some (r1, r2)) (hG : GOK w) :
 Calls Tryd.prog 8 #[.slice A0 l0.length c0] w fun e w' => e = .returned (.tuple #[.string r1, .int .i64 r2]) ∧ Below w.heap.size w w' := by
 have hu := Tryd.underlying37
 have huB := Tryd.underlying43
 have HRx := a_ hr0
 have HCx := a_ hc0
 clear hr0 hc0
 have HB := a_ (Below.refl w.heap.size w)
 have HX := a_ (Below.refl w.heap.size w)
 unfold file_Text.f at h
 obtain ⟨t, B1_, h⟩ := Option.bind_eq_some_iff.mp h
 have B1 := a_ B1_
 clear B1_
 cases t with
 | false =>
  rw [if_neg Bool.false_ne_true] at h
  obtain ⟨rfl, rfl⟩ := Prod.mk.inj (Option.some.inj h)
  clear h
  go_enter Tryd.func8, Tryd.ntmps8
  go_wp2_with (first
  | (go_at_call 14; (with_reducible refine (trail_May.calls k _ _ l0 _ _ ?s1 ?s2 B1.out (GOK.below hG (below_step HX.out hC_))).mono ?_); (case s1 => exact (Kd.C_below HRx.out (below_step HX.out hC_))); (case s2 => exact HCx.out); rintro e wc1 ⟨rfl, hb⟩; have hs_ := below_step hC_ hb; replace HX := a_ (below_step HX.out hs_); replace HB := a_ (Below.refl wc1.heap.size wc1); clear hs_ hb))
  go_ret2
  exact ⟨hV_, below_step HX.out hC_⟩
 | true =>
  rw [if_pos rfl] at h
  have H' := a_ h
  clear h
  go_enter Tryd.func8, Tryd.ntmps8
  go_wp2_with (first
  | (go_at_call 14; (with_reducible refine (trail_May.calls k _ _ l0 _ _ ?s1 ?s2 B1.out (GOK.below hG (below_step HX.out hC_))).mono ?_); (case s1 => exact (Kd.C_below HRx.out (below_step HX.out hC_))); (case s2 => exact HCx.out); rintro e wc1 ⟨rfl, hb⟩; have hs_ := below_step hC_ hb; replace HX := a_ (below_step HX.out hs_); replace HB := a_ (Below.refl wc1.heap.size wc1); clear hs_ hb)
  | ((with_reducible refine gate_dst (N := 4) rfl ?_); refine boxE_ 4 #[.pointer none, .slice none 0 0] 43 ?_; intro g0 hg wb4 hbox hb; have GE4_ := a_ (gE_ hg); have HI := a_ (bld_new (e := 5) hbox); have hs_ := below_step hC_ hb; have E0 := a_ (show w.heap.size ≤ g0 from Nat.le_trans (below_size HX.out) GE4_.out); replace HX := a_ (below_step HX.out hs_); replace HB := a_ (Below.refl wb4.heap.size wb4); clear hs_ hb hbox hg GE4_))
  go_loopg [16] k (fun kq v0 w' => ∃ (acc : ByteArray) (x : Int), v0 = .int .i64 x ∧ Aside0 (file_Text.l0 kq l0 acc x = some (r1, r2)) ∧ Aside0 (kq ≤ k ∧ 0 ≤ x) ∧ Aside0 (Lib.IsBuilder 43 5 g0 g0 (Lib.strCells acc) w') ∧ Aside0 (Below w.heap.size w w'))
  case atStart => exact ⟨⟨#[]⟩, 0, hW_, H', ⟨Nat.le_refl _, Int.le_refl _⟩, ⟨bld_below HI.out hC_⟩, ⟨below_step HX.out hC_⟩⟩
  case round =>
   clear H' HB HX HI
   obtain ⟨acc, x, rfl, HA, HK1, HI, HX⟩ := hrel
   have HB := a_ (Below.refl wr.heap.size wr)
   cases gk with
   | zero => exact absurd HA.out (by simp [file_Text.l0])
   | succ k1 =>
    have H := HA.out
    clear HA
    simp only [file_Text.l0] at H
    have GS := a_ (show g0 < wr.heap.size from HI.out.elim (fun h_ => h_.lt) (fun h_ => h_.lt))
    by_cases c2 : x < (l0.length : Int)
    case neg =>
     rw [if_neg c2] at H
     have c2b0 : decide (x < (l0.length : Int)) = false := decide_eq_false c2
     clear c2
     obtain ⟨rfl, rfl⟩ := Prod.mk.inj (Option.some.inj H)
     clear H
     go_wp2_with (first
      | ((with_reducible refine gate_callee (f := 19) rfl ?_); refine goesL_ _ rfl rfl Tryd.func19 (by kernel_rfl) rfl #[.pointer (some ⟨g0, 0, none⟩)] rfl hL_ ?_; (refine (Tryd.Builder_String_any g0 g0 acc.data.toList _ (bld_below HI.out hC_) ?hbw).mono ?_); (case hbw => exact Nat.le_of_lt (Nat.lt_of_lt_of_le GS.out (below_size hC_))); rintro e w1 ⟨rfl, hb⟩; refine ⟨_, rfl, ?_⟩; replace HX := a_ ((below_step HX.out hC_).trans (hb.mono E0.out)); replace HB := a_ (Below.refl w1.heap.size w1); clear hb))
     go_ret2
     exact ⟨by rfl, below_step HX.out hC_⟩
    rw [if_pos c2] at H
    obtain ⟨s, B2_, H⟩ := Option.bind_eq_some_iff.mp H
    obtain ⟨t, B3_, H⟩ := Option.bind_eq_some_iff.mp H
    by_cases c3 : acc.size + t.1.size ≤ 140737488355328
    case neg => rw [if_neg c3] at H; cases H
    rw [if_pos c3] at H
    obtain ⟨s1, s2⟩ := s
    obtain ⟨t1, t2⟩ := t
    simp only at B2_ B3_ c3 H
    have B2 := a_ B2_
    have B3 := a_ B3_
    have C3 := a_ c3
    clear B2_ B3_ c3
    have c2b0 : decide (x < (l0.length : Int)) = true := decide_eq_true c2
    obtain ⟨ad, A2, c2_, e0, h0, h1, h2, h3, hc2_, hr2_⟩ := at_T37 HRx.out x HK1.out.2 c2
    cases e0
    replace h0 := cl_ HX.out h0
    replace h1 := cl_ HX.out h1
    replace h2 := cl_ HX.out h2
    replace h3 := cl_ HX.out h3
    have HRn := a_ hr2_
    have HCn := a_ hc2_
    have p4 := eq_true HK1.out.2
    have q4 := eq_true c2
    have hw1 := a_ (show wrap64 (x + 1) = x + 1 from by have h5_ := (trail_May.true_spec B1.out).2.1; have h6_ := HK1.out.2; unfold wrap64; omega)
    clear hr2_ hc2_ c2
    by_cases c4 : (65536 : Int) < ((acc ++ t1).size : Int)
    case pos =>
     rw [if_pos c4] at H
     obtain ⟨rfl, rfl⟩ := Prod.mk.inj (Option.some.inj H)
     have c4b0 : decide ((65536 : Int) < ((acc ++ t1).size : Int)) = true := decide_eq_true c4
     have c4b1 : decide ((65536 : Int) < (acc.size : Int) + (t1.size : Int)) = true := (by have h_ := c4b0; simp only [ByteArray.size_append, Int.natCast_add] at h_; exact h_)
     clear H c4
     go_wp2_with (first
      | ((with_reducible refine gate_dst (N := 6) rfl ?_); refine boxE_ 6 #[.int .i64 0, .int .i64 0, .slice none 0 0, .string ⟨#[]⟩] 37 ?_; intro g1 hg wb6 hbox hb; have E1 := a_ (gE_ hg : wr.heap.size ≤ g1); have B0 := a_ hbox; (try clear z0 f4 z1 f5 z2 f6 z3 f7); obtain ⟨z0, z1, z2, z3, f4, f5, f6, f7⟩ := bx4_ B0.out; have hs_ := below_step hC_ hb; replace HB := a_ hs_; clear hs_ hb hbox hg)
      | ((with_reducible refine gate_callee (f := 15) rfl ?_); refine goesL_ _ rfl rfl Tryd.func15 (by kernel_rfl) rfl #[.agg #[.int .i64 (rd_T37 l0 x).f0, .int .i64 (rd_T37 l0 x).f1, .slice A2 (rd_T37 l0 x).f2.length c2_, .string (rd_T37 l0 x).f3]] rfl hL_ ?_; (refine (record_Put.calls k1 (rd_T37 l0 x).f0 (rd_T37 l0 x).f1 _ _ (rd_T37 l0 x).f2 (rd_T37 l0 x).f3 s1 s2 _ ?s1 ?s2 B2.out (GOK.below hG (below_step HX.out hC_))).mono ?_); (case s1 => exact (Kd.C_below HRn.out (below_step HX.out hC_))); (case s2 => exact HCn.out); rintro e wc1 ⟨rfl, hb⟩; refine ⟨_, rfl, ?_⟩; have hs_ := below_step hC_ hb; replace HI := a_ (bld_below HI.out hs_); replace GS := a_ (Nat.lt_of_lt_of_le GS.out (below_size hs_)); replace B0 := a_ (blk_below (g := g1) (o := .cells #[.int .i64 (rd_T37 l0 x).f0, .int .i64 (rd_T37 l0 x).f1, .slice A2 (rd_T37 l0 x).f2.length c2_, .string (rd_T37 l0 x).f3] 37 (0, 0)) (by (with_reducible repeat (first | refine blk_drewN ?_ _ | refine blk_drew ?_ | refine blk_alloc ?_ _)); exact (bP_ (bP_ (bP_ (bP_ (hK_ B0.out)))))) hb); replace HX := a_ (below_step HX.out hs_); replace HB := a_ (Below.refl wc1.heap.size wc1); clear hs_ hb; (try clear z0 f4 z1 f5 z2 f6 z3 f7); obtain ⟨z0, z1, z2, z3, f4, f5, f6, f7⟩ := bx4_ B0.out)
      | ((with_reducible refine gate_callee (f := 16) rfl ?_); refine goesL_ _ rfl rfl Tryd.func16 (by kernel_rfl) rfl #[.string s1] rfl hL_ ?_; (with_reducible refine (frame_Put.calls k1 s1 t1 t2 _ B3.out).mono ?_); rintro e wc2 ⟨rfl, hb⟩; refine ⟨_, rfl, ?_⟩; have hs_ := below_step hC_ hb; replace HI := a_ (bld_below HI.out hs_); replace GS := a_ (Nat.lt_of_lt_of_le GS.out (below_size hs_)); replace B0 := a_ (blk_below B0.out hs_); replace HX := a_ (below_step HX.out hs_); replace HB := a_ (Below.refl wc2.heap.size wc2); clear hs_ hb; (try clear z0 f4 z1 f5 z2 f6 z3 f7); obtain ⟨z0, z1, z2, z3, f4, f5, f6, f7⟩ := bx4_ B0.out)
      | ((with_reducible refine gate_callee (f := 17) rfl ?_); refine goesL_ _ rfl rfl Tryd.func17 (by kernel_rfl) rfl #[.pointer (some ⟨g0, 0, none⟩), .string t1] rfl hL_ ?_; (refine (builder_write g0 g0 (Lib.strCells acc) t1 _ (bld_below HI.out hC_) ?hlen ?hbw).mono ?_); (case hlen => rw [Lib.strCells_length]; exact C3.out); (case hbw => exact Nat.le_of_lt (Nat.lt_of_lt_of_le GS.out (below_size hC_))); rintro e ww ⟨rfl, h1_, hb⟩; refine ⟨_, rfl, ?_⟩; rw [str_cells] at h1_; replace HI := a_ (show Lib.IsBuilder 43 5 g0 g0 (Lib.strCells (acc ++ t1)) ww from .inr h1_); replace HX := a_ ((below_step HX.out hC_).trans (hb.mono E0.out)); replace HB := a_ (Below.refl ww.heap.size ww); clear hb h1_ B0 z0 z1 z2 z3 f4 f5 f6 f7)
      | ((with_reducible refine gate_callee (f := 18) rfl ?_); refine goesL_ _ rfl rfl Tryd.func18 (by kernel_rfl) rfl #[.pointer (some ⟨g0, 0, none⟩)] rfl hL_ ?_; (refine (Tryd.Builder_Len g0 g0 (Lib.strCells (acc ++ t1)) _ (bld_below HI.out hC_)).mono ?_); rintro e wl ⟨rfl, rfl⟩; refine ⟨_, rfl, ?_⟩; simp only [Lib.strCells_length]))
     go_ret2
     exact ⟨hV_, below_step HX.out hC_⟩
    case neg =>
     rw [if_neg c4] at H
     have H' := a_ H
     have c4b0 : decide ((65536 : Int) < ((acc ++ t1).size : Int)) = false := decide_eq_false c4
     have c4b1 : decide ((65536 : Int) < (acc.size : Int) + (t1.size : Int)) = false := (by have h_ := c4b0; simp only [ByteArray.size_append, Int.natCast_add] at h_; exact h_)
     clear H c4
     go_wp2_with (first
      | ((with_reducible refine gate_dst (N := 6) rfl ?_); refine boxE_ 6 #[.int .i64 0, .int .i64 0, .slice none 0 0, .string ⟨#[]⟩] 37 ?_; intro g1 hg wb6 hbox hb; have E1 := a_ (gE_ hg : wr.heap.size ≤ g1); have B0 := a_ hbox; (try clear z0 f4 z1 f5 z2 f6 z3 f7); obtain ⟨z0, z1, z2, z3, f4, f5, f6, f7⟩ := bx4_ B0.out; have hs_ := below_step hC_ hb; replace HB := a_ hs_; clear hs_ hb hbox hg)
      | ((with_reducible refine gate_callee (f := 15) rfl ?_); refine goesL_ _ rfl rfl Tryd.func15 (by kernel_rfl) rfl #[.agg #[.int .i64 (rd_T37 l0 x).f0, .int .i64 (rd_T37 l0 x).f1, .slice A2 (rd_T37 l0 x).f2.length c2_, .string (rd_T37 l0 x).f3]] rfl hL_ ?_; (refine (record_Put.calls k1 (rd_T37 l0 x).f0 (rd_T37 l0 x).f1 _ _ (rd_T37 l0 x).f2 (rd_T37 l0 x).f3 s1 s2 _ ?s1 ?s2 B2.out (GOK.below hG (below_step HX.out hC_))).mono ?_); (case s1 => exact (Kd.C_below HRn.out (below_step HX.out hC_))); (case s2 => exact HCn.out); rintro e wc1 ⟨rfl, hb⟩; refine ⟨_, rfl, ?_⟩; have hs_ := below_step hC_ hb; replace HI := a_ (bld_below HI.out hs_); replace GS := a_ (Nat.lt_of_lt_of_le GS.out (below_size hs_)); replace B0 := a_ (blk_below (g := g1) (o := .cells #[.int .i64 (rd_T37 l0 x).f0, .int .i64 (rd_T37 l0 x).f1, .slice A2 (rd_T37 l0 x).f2.length c2_, .string (rd_T37 l0 x).f3] 37 (0, 0)) (by (with_reducible repeat (first | refine blk_drewN ?_ _ | refine blk_drew ?_ | refine blk_alloc ?_ _)); exact (bP_ (bP_ (bP_ (bP_ (hK_ B0.out)))))) hb); replace HX := a_ (below_step HX.out hs_); replace HB := a_ (Below.refl wc1.heap.size wc1); clear hs_ hb; (try clear z0 f4 z1 f5 z2 f6 z3 f7); obtain ⟨z0, z1, z2, z3, f4, f5, f6, f7⟩ := bx4_ B0.out)
      | ((with_reducible refine gate_callee (f := 16) rfl ?_); refine goesL_ _ rfl rfl Tryd.func16 (by kernel_rfl) rfl #[.string s1] rfl hL_ ?_; (with_reducible refine (frame_Put.calls k1 s1 t1 t2 _ B3.out).mono ?_); rintro e wc2 ⟨rfl, hb⟩; refine ⟨_, rfl, ?_⟩; have hs_ := below_step hC_ hb; replace HI := a_ (bld_below HI.out hs_); replace GS := a_ (Nat.lt_of_lt_of_le GS.out (below_size hs_)); replace B0 := a_ (blk_below B0.out hs_); replace HX := a_ (below_step HX.out hs_); replace HB := a_ (Below.refl wc2.heap.size wc2); clear hs_ hb; (try clear z0 f4 z1 f5 z2 f6 z3 f7); obtain ⟨z0, z1, z2, z3, f4, f5, f6, f7⟩ := bx4_ B0.out)
      | ((with_reducible refine gate_callee (f := 17) rfl ?_); refine goesL_ _ rfl rfl Tryd.func17 (by kernel_rfl) rfl #[.pointer (some ⟨g0, 0, none⟩), .string t1] rfl hL_ ?_; (refine (builder_write g0 g0 (Lib.strCells acc) t1 _ (bld_below HI.out hC_) ?hlen ?hbw).mono ?_); (case hlen => rw [Lib.strCells_length]; exact C3.out); (case hbw => exact Nat.le_of_lt (Nat.lt_of_lt_of_le GS.out (below_size hC_))); rintro e ww ⟨rfl, h1_, hb⟩; refine ⟨_, rfl, ?_⟩; rw [str_cells] at h1_; replace HI := a_ (show Lib.IsBuilder 43 5 g0 g0 (Lib.strCells (acc ++ t1)) ww from .inr h1_); replace HX := a_ ((below_step HX.out hC_).trans (hb.mono E0.out)); replace HB := a_ (Below.refl ww.heap.size ww); clear hb h1_ B0 z0 z1 z2 z3 f4 f5 f6 f7)
      | ((with_reducible refine gate_callee (f := 18) rfl ?_); refine goesL_ _ rfl rfl Tryd.func18 (by kernel_rfl) rfl #[.pointer (some ⟨g0, 0, none⟩)] rfl hL_ ?_; (refine (Tryd.Builder_Len g0 g0 (Lib.strCells (acc ++ t1)) _ (bld_below HI.out hC_)).mono ?_); rintro e wl ⟨rfl, rfl⟩; refine ⟨_, rfl, ?_⟩; simp only [Lib.strCells_length]))
     go_roundg k1
     case measure => have := HK1.out.1; omega
     case rel => exact ⟨acc ++ t1, x + 1, by rw [hw1.out], H', ⟨by have := HK1.out.1; omega, by have := HK1.out.2; omega⟩, ⟨bld_below HI.out hC_⟩, ⟨below_step HX.out hC_⟩⟩

set_option maxHeartbeats 8000000
set_option maxRecDepth 100000
attribute [local go_sem] max2_int min2_int max_two min_two max_three min_three max_four min_four   -- for this text's walks alone
set_option linter.unusedVariables false
set_option linter.unusedSimpArgs false

def sleuthlaw0_Num.f (a0 : Int) : Option (Int) := some a0
theorem sleuthlaw0_Num.calls (a0 : Int) (r : Int) (w : World) (h : sleuthlaw0_Num.f a0 = some r) :
 Calls Tryd.prog 9 #[.int .i64 a0] w fun e w' => e = .returned (.int .i64 r) ∧ Drawn0 w w' := by
 have H : (some a0) = some r := h
 clear h
 obtain rfl := Option.some.inj H
 go_enter Tryd.func9, Tryd.ntmps9
 go_wp2
 go_ret
 exact ⟨by first | rfl | (simp; done) | (simp [*]; done), by repeat (first | exact Drawn0.refl _ | apply Drawn0.step)⟩

/-- A state of type 73 at block g of W; what its slices lead to came in by w0. -/
def IsS73 (w0 W : World) (g : Nat) (f0 : ByteArray) : Prop := W.heap[g]? = some (.cells #[.string f0] 73 (0, 0)) ∧ w0.heap.size ≤ g
theorem IsS73.grown {w0 W : World} {g : Nat} {f0 : ByteArray} {W1 : World} {row : Option Nat} (h : IsS73 w0 W g f0) (hw : W.grownBy W1 row) (hne : some g ≠ row) : IsS73 w0 W1 g f0 := by
 obtain ⟨hb, hg⟩ := h
 exact ⟨blk_grown hb hw hne, hg⟩
theorem IsS73.kept {w0 W : World} {g : Nat} {f0 : ByteArray} {W1 : World} {S : Nat → Prop} (h : IsS73 w0 W g f0) (hk : Kept W W1 S) (hne : ¬ S g) : IsS73 w0 W1 g f0 := by
 obtain ⟨hb, hg⟩ := h
 exact ⟨blk_kept hb hk hne, hg⟩
theorem IsS73.below {w0 W : World} {g : Nat} {f0 : ByteArray} {W1 : World} (h : IsS73 w0 W g f0) (hw : Below W.heap.size W W1) : IsS73 w0 W1 g f0 := h.grown (grown_of_below hw none) (by simp)
theorem IsS73.alloc {w0 W : World} {g : Nat} {f0 : ByteArray} (h : IsS73 w0 W g f0) (o : Obj) : IsS73 w0 (W.alloc o) g f0 := h.below (below_alloc (Below.refl _ _) o)
theorem IsS73.drewN {w0 W : World} {g : Nat} {f0 : ByteArray} (h : IsS73 w0 W g f0) (m : Nat) : IsS73 w0 (W.drewN m) g f0 := h
theorem IsS73.drew {w0 W : World} {g : Nat} {f0 : ByteArray} (h : IsS73 w0 W g f0) : IsS73 w0 W.drew g f0 := h
theorem IsS73.at_ {w0 W : World} {g : Nat} {f0 : ByteArray} {w' : World} {m : Nat} (hq : W.drewN m = w') (h : IsS73 w0 W g f0) : IsS73 w0 w' g f0 := by subst hq; exact IsS73.drewN h m
theorem IsS73.apart {w0 W : World} {g : Nat} {f0 : ByteArray} {α : Type} {d : Kd α} {e : Nat} {base : Nat} {ok : Nat → Prop} {v : Value} {xs : List α} (h : IsS73 w0 W g f0) (ho : d.R e W base ok v xs) (ht : ∀ q, q ∈ e :: d.E → q ≠ 73) : d.R e W base (fun k => ok k ∧ k ≠ g) v xs := by
 obtain ⟨hb, hg⟩ := h
 exact Kd.R_types ho hb ht
theorem IsS73.own_ne {w0 W : World} {g : Nat} {f0 : ByteArray} {α : Type} {d : Kd α} {e : Nat} {base : Nat} {ok : Nat → Prop} {v : Value} {xs : List α} (h : IsS73 w0 W g f0) (ho : d.R e W base ok v xs) (ht : e ≠ 73) : some g ≠ v.ownBlock := by
 obtain ⟨hb, hg⟩ := h
 exact Kd.R_ne ho hb ht
theorem IsS73.lt {w0 W : World} {g : Nat} {f0 : ByteArray} (h : IsS73 w0 W g f0) : g < W.heap.size := by
 obtain ⟨hb, hg⟩ := h
 exact blk_lt hb
theorem IsS73.ge {w0 W : World} {g : Nat} {f0 : ByteArray} (h : IsS73 w0 W g f0) : w0.heap.size ≤ g := by
 obtain ⟨hb, hg⟩ := h
 exact hg
theorem cellS73_0 {W : World} {g : Nat} {f0 : ByteArray} (h : W.heap[g]? = some (.cells #[.string f0] 73 (0, 0))) : W.cell? ⟨g, 0, none⟩ = some (.string f0) := (blk_cell h 0).trans rfl
theorem IsS73.set_0 {w0 W : World} {g : Nat} {f0 : ByteArray} (h : IsS73 w0 W g f0) (x : ByteArray) : IsS73 w0 (W.setCell ⟨g, 0, none⟩ (.string x)) g x := by
 obtain ⟨hb, hg⟩ := h
 exact ⟨by simpa using blk_set hb 0 (.string x), hg⟩
theorem IsS73.set_0e {w0 W : World} {g : Nat} {f0 : ByteArray} (h : IsS73 w0 W g f0) (x y_ : ByteArray) (e_ : y_ = x) : IsS73 w0 (W.setCell ⟨g, 0, none⟩ (.string x)) g y_ := by subst e_; exact IsS73.set_0 h _
theorem IsS73.new (w0 W : World) (f0 : ByteArray) (hB : Below w0.heap.size w0 W) : IsS73 w0 (W.alloc (.cells #[.string f0] 73)) W.heap.size f0 := ⟨by simpa using heap_alloc_new W _, hB.size⟩

def record_taker_take.f (s0_0 : ByteArray) (a1 : Int) : Option (ByteArray × ByteArray) := if 0 ≤ (mn a1 (s0_0.size : Int)) then (if (mn a1 (s0_0.size : Int)) ≤ (s0_0.size : Int) then (if 0 ≤ ((s0_0.extract 0 ((mn a1 (s0_0.size : Int)) : Int).toNat).size : Int) then (if ((s0_0.extract 0 ((mn a1 (s0_0.size : Int)) : Int).toNat).size : Int) ≤ (s0_0.size : Int) then (some (s0_0.extract 0 ((mn a1 (s0_0.size : Int)) : Int).toNat, s0_0.extract (((s0_0.extract 0 ((mn a1 (s0_0.size : Int)) : Int).toNat).size : Int) : Int).toNat s0_0.size)) else (none)) else (none)) else (none)) else (none)
theorem record_taker_take.calls (g : Nat) (s0_0 : ByteArray) (a1 : Int) (r1 : ByteArray) (r2 : ByteArray) (w0 w : World) (hI : IsS73 w0 w g s0_0) (hB : Below w0.heap.size w0 w) (h : record_taker_take.f s0_0 a1 = some (r1, r2)) :
 Calls Tryd.prog 41 #[.pointer (some ⟨g, 0, none⟩), .int .i64 a1] w fun e w' => e = .returned (.string r1) ∧ IsS73 w0 w' g r2 ∧ Below w0.heap.size w0 w' ∧ KeepBut w w' g none := by
 have HI0 := a_ hI
 have HK := a_ (KeepBut.refl w g none)
 have HL := a_ hB.size
 clear hI
 have HW0 := a_ hB.size
 have HB := a_ hB
 clear hB
 have H := h; unfold record_taker_take.f at H
 clear h
 obtain ⟨ji3, hji3⟩ : ∃ j_ : Int, (mn a1 (s0_0.size : Int)) = j_ := ⟨_, rfl⟩
 replace H : (if 0 ≤ (ji3) then (if (ji3) ≤ (s0_0.size : Int) then (if 0 ≤ ((s0_0.extract 0 ((ji3) : Int).toNat).size : Int) then (if ((s0_0.extract 0 ((ji3) : Int).toNat).size : Int) ≤ (s0_0.size : Int) then (some (s0_0.extract 0 ((ji3) : Int).toNat, s0_0.extract (((s0_0.extract 0 ((ji3) : Int).toNat).size : Int) : Int).toNat s0_0.size)) else (none)) else (none)) else (none)) else (none)) = some (r1, r2) := by first | (rw [hji3] at H; exact H) | (simp only [hji3] at H ⊢; exact H)
 have hji3_ : (if (s0_0.size : Int) < a1 then (s0_0.size : Int) else a1) = ji3 := hji3
 replace H := ifI_ H; obtain ⟨c4, H⟩ := H
 have c4b0 := eq_true c4
 have c4b1 : decide (0 ≤ (ji3)) = true := decide_eq_true c4
 clear c4
 replace H := ifI_ H; obtain ⟨c5, H⟩ := H
 have c5b0 := eq_true c5
 have c5b1 : decide ((ji3) ≤ (s0_0.size : Int)) = true := decide_eq_true c5
 clear c5
 replace H := ifI_ H; obtain ⟨c6, H⟩ := H
 have c6b0 := eq_true c6
 (try (have c6b0s := c6b0; simp only [ByteArray.size_extract, Nat.min_self] at c6b0s))
 have c6b1 : decide (0 ≤ ((s0_0.extract 0 ((ji3) : Int).toNat).size : Int)) = true := decide_eq_true c6
 (try (have c6b1s := c6b1; simp only [ByteArray.size_extract, Nat.min_self] at c6b1s))
 clear c6
 replace H := ifI_ H; obtain ⟨c7, H⟩ := H
 have c7b0 := eq_true c7
 (try (have c7b0s := c7b0; simp only [ByteArray.size_extract, Nat.min_self] at c7b0s))
 have c7b1 : decide (((s0_0.extract 0 ((ji3) : Int).toNat).size : Int) ≤ (s0_0.size : Int)) = true := decide_eq_true c7
 (try (have c7b1s := c7b1; simp only [ByteArray.size_extract, Nat.min_self] at c7b1s))
 clear c7
 simp only [Option.some.injEq, Prod.mk.injEq] at H
 obtain ⟨rfl, rfl⟩ := H
 obtain ⟨HGz8, hgz8⟩ := HI0.out
 have z0 := cellS73_0 HGz8
 have f0 := blk_frozen HGz8 0
 clear HGz8 hgz8
 go_enter Tryd.func41, Tryd.ntmps41
 go_wp2
 repeat (go_quiet (fail); try go_wp2)
 go_ret
 exact ⟨by first | rfl | (simp [errW_none, errW_some] <;> rfl) | (simp only [← hji3]; first | rfl | (simp [errW_none, errW_some] <;> rfl)) | (simp [*, errW_none, errW_some] <;> rfl), by repeat (first | (with_reducible first | exact HI0.out | apply IsS73.alloc | apply IsS73.drewN | apply IsS73.drew | apply IsS73.set_0) | (apply IsS73.set_0e; case e_ => (congr 1 <;> first | rfl | (simp only [ByteArray.size_extract, eq_iff_iff, iff_true] at *; omega))) | exact HI0.out), by repeat (first | (with_reducible first | exact HB.out | apply below_alloc | apply pw_below_drewN | apply below_drew1 | refine below_set ?_ (IsS73.ge HI0.out)) | exact HB.out), by repeat (first | (with_reducible first | exact HK.out | apply KeepBut.set_ | apply keep_drewN | apply keep_drew | apply keep_alloc) | exact HK.out)⟩
set_option maxHeartbeats 8000000
set_option maxRecDepth 100000
attribute [local go_sem] max2_int min2_int max_two min_two max_three min_three max_four min_four   -- for this text's walks alone
set_option linter.unusedVariables false
set_option linter.unusedSimpArgs false

def numLE : List Int → Int
 | [] => 0
 | b :: t => b + 256 * numLE t
def record_taker_number.f (k : Nat) (s0_0 : ByteArray) (a1 : Int) : Option (Int × ByteArray) := (record_taker_take.f s0_0 a1).bind fun b => if b.1.size ≤ 2 then some (numLE (bytesOf b.1), b.2) else none
theorem record_taker_number.mono : ∀ a0 a1 k, LeO (record_taker_number.f k a0 a1) (record_taker_number.f (k + 1) a0 a1) := fun _ _ _ => LeO.refl _
theorem keep_bytes {w w2 : World} {g : Nat} (h : KeepBut w w2 g none) (e : TypeId) (s : ByteArray) : KeepBut w (Lib.bytesWorld w2 e s) g none :=
 ⟨by rw [Lib.bytesWorld_size]; exact Nat.le_succ_of_le h.1, fun k hk h1 h2 => (Lib.bytesWorld_at_old w2 e s k (Nat.lt_of_lt_of_le hk h.1)).trans (h.2 k hk h1 h2)⟩
theorem below_bytes {w0 w2 : World} (h : Below w0.heap.size w0 w2) (e : TypeId) (s : ByteArray) : Below w0.heap.size w0 (Lib.bytesWorld w2 e s) := below_step h (Lib.bytesWorld_below _ _ _)
theorem bt_cell {w2 : World} {e : TypeId} {s : ByteArray} (j : Nat) (hj : j < s.size) : (Lib.bytesWorld w2 e s).cell? ⟨w2.heap.size, j, none⟩ = some (.int .u8 (bt s (j : Int))) := by
 rw [Lib.bytesWorld_cell w2 e s j hj]
 unfold bt
 rw [Int.toNat_natCast, dif_pos hj]
 have hl : j < s.data.toList.length := by rw [Array.length_toList]; exact hj
 rw [List.getD_eq_getElem?_getD, List.getElem?_eq_getElem hl]
 rfl
theorem bt_rng (s : ByteArray) (i : Int) : 0 ≤ bt s i ∧ bt s i < 256 := by
 unfold bt
 split
 · have := (s[i.toNat]'(by assumption)).toNat_lt; omega
 · omega
theorem isS_bytes {w0 w2 : World} {g : Nat} {r : ByteArray} (h : IsS73 w0 w2 g r) (e : TypeId) (s : ByteArray) : IsS73 w0 (Lib.bytesWorld w2 e s) g r :=
 ⟨(Lib.bytesWorld_at_old w2 e s g (blk_lt h.1)).trans h.1, h.2⟩
theorem or_i64_nat (a b : Nat) (ha : a < 9223372036854775808) (hb : b < 9223372036854775808) : Go.bits .or .i64 (a : Int) (b : Int) = ((a ||| b : Nat) : Int) := by
 have hx : a ||| b < 2 ^ 63 := Nat.or_lt_two_pow (by omega) (by omega)
 have h1 : (BitVec.ofInt 64 (a : Int)).toNat = a := by
  rw [BitVec.ofInt_natCast, BitVec.toNat_ofNat]; exact Nat.mod_eq_of_lt (by omega)
 have h2 : (BitVec.ofInt 64 (b : Int)).toNat = b := by
  rw [BitVec.ofInt_natCast, BitVec.toNat_ofNat]; exact Nat.mod_eq_of_lt (by omega)
 show IntKind.i64.wrap ((BitVec.ofInt 64 (a : Int) ||| BitVec.ofInt 64 (b : Int)).toNat : Int) = _
 rw [BitVec.toNat_or, h1, h2, IntKind.wrap_i64]
 omega
theorem or_low (c0 c1 : Int) (h0 : 0 ≤ c0) (h1 : c0 < 256) (h2 : 0 ≤ c1) (h3 : c1 < 36028797018963968) : Go.bits .or .i64 c0 (c1 * 256) = c0 + 256 * c1 := by
 obtain ⟨a, rfl⟩ := Int.eq_ofNat_of_zero_le h0
 obtain ⟨b, rfl⟩ := Int.eq_ofNat_of_zero_le h2
 have e : ((b : Int) * 256) = ((b * 256 : Nat) : Int) := by omega
 rw [e, or_i64_nat a (b * 256) (by omega) (by omega)]
 have h := Nat.two_pow_add_eq_or_of_lt (i := 8) (b := a) (by omega) b
 rw [Nat.or_comm, Nat.mul_comm b 256]
 rw [show (2 : Nat) ^ 8 = 256 from rfl] at h
 rw [← h]
 omega
theorem or_zero' (c0 : Int) (h0 : 0 ≤ c0) (h1 : c0 < 256) : Go.bits .or .i64 0 c0 = c0 := by
 obtain ⟨a, rfl⟩ := Int.eq_ofNat_of_zero_le h0
 have := or_i64_nat 0 a (by omega) (by omega)
 rw [Nat.zero_or] at this
 exact this
theorem bytesOf_at (s : ByteArray) (j : Nat) (h : j < s.size) : (bytesOf s)[j]? = some (bt s (j : Int)) := by
 have hl : j < (bytesOf s).length := by rw [bytesOf_length]; exact h
 rw [List.getElem?_eq_getElem hl, ← rd_bytesOf]
 unfold rd
 rw [Int.toNat_natCast, List.getD_eq_getElem?_getD, List.getElem?_eq_getElem hl]; rfl
theorem numLE_0 (s : ByteArray) (h : s.size = 0) : numLE (bytesOf s) = 0 := by
 have e : (bytesOf s).length = 0 := by rw [bytesOf_length]; exact h
 rw [List.length_eq_zero_iff.1 e]; rfl
theorem numLE_1 (s : ByteArray) (h : s.size = 1) : numLE (bytesOf s) = bt s 0 := by
 have e : (bytesOf s).length = 1 := by rw [bytesOf_length]; exact h
 have h0 := bytesOf_at s 0 (by omega)
 generalize bytesOf s = l at e h0
 match l, e with
 | [a], _ => have h0 := Option.some.inj h0; rw [numLE, numLE, h0]; show bt s 0 + 256 * 0 = _; omega
theorem numLE_2 (s : ByteArray) (h : s.size = 2) : numLE (bytesOf s) = bt s 0 + 256 * bt s 1 := by
 have e : (bytesOf s).length = 2 := by rw [bytesOf_length]; exact h
 have h0 := bytesOf_at s 0 (by omega)
 have h1 := bytesOf_at s 1 (by omega)
 generalize bytesOf s = l at e h0 h1
 match l, e with
 | [a, b], _ =>
  have h0 := Option.some.inj h0
  have h1 := Option.some.inj h1
  rw [numLE, numLE, numLE, h0, h1]; show bt s 0 + 256 * (bt s 1 + 256 * 0) = _; omega
theorem record_taker_number.calls (k : Nat) (g : Nat) (s0_0 : ByteArray) (a1 : Int) (r1 : Int) (r2 : ByteArray) (w0 w : World) (hI : IsS73 w0 w g s0_0) (hB : Below w0.heap.size w0 w) (h : record_taker_number.f k s0_0 a1 = some (r1, r2)) :
 Calls Tryd.prog 33 #[.pointer (some ⟨g, 0, none⟩), .int .i64 a1] w fun e w' => e = .returned (.int .i64 r1) ∧ IsS73 w0 w' g r2 ∧ Below w0.heap.size w0 w' ∧ KeepBut w w' g none := by
 unfold record_taker_number.f at h
 obtain ⟨⟨b1, b2⟩, A1, h⟩ := Option.bind_eq_some_iff.mp h
 dsimp only at h
 by_cases c : b1.size ≤ 2
 case neg => rw [if_neg c] at h; cases h
 rw [if_pos c] at h
 obtain ⟨rfl, rfl⟩ := Prod.mk.inj (Option.some.inj h)
 clear h
 have HI := a_ hI
 have HB := a_ hB
 have A1 := a_ A1
 have HC := a_ c
 clear hI hB c
 go_enter Tryd.func33, Tryd.ntmps33
 go_wp2_with (first | ((with_reducible refine gate_callee (f := 41) rfl ?_); refine goesL_ _ rfl rfl Tryd.func41 (by kernel_rfl) rfl #[.pointer (some ⟨g, 0, none⟩), .int .i64 a1] rfl hL_ ?_; (with_reducible refine (record_taker_take.calls g s0_0 a1 b1 b2 w0 _ HI.out HB.out A1.out).mono ?_); rintro e w2 ⟨rfl, hI2, hB2, hK2⟩; refine ⟨_, rfl, ?_⟩; clear HI HB; have HI := a_ (isS_bytes hI2 5 b1); have HB := a_ (below_bytes hB2 5 b1); have HK := a_ (keep_bytes hK2 5 b1); have HCL := a_ (fun j hj => bt_cell (w2 := w2) (e := 5) (s := b1) j hj); have hconv := Lib.run_convert_string_bytes (P := Tryd.prog) w2 9 41 5 b1 Tryd.underlying9 Tryd.underlying41 Tryd.underlying5; clear hI2 hB2 hK2))
 clear hconv
 generalize Lib.bytesWorld w2 5 b1 = w3 at HI HB HK HCL ⊢
 generalize grownCap w2 b1.size 0 5 = cap
 generalize w2.heap.size = gb at HCL ⊢
 have hz := HC.out
 have HN := a_ (bytesOf_length b1)
 have hb0 := bt_rng b1 0
 have hb1 := bt_rng b1 1
 go_loopg [5, 13] (b1.size + 1) (fun kq v5 v0 w' => ∃ (x o : Int), v0 = .int .i64 x ∧ v5 = .int .i64 o ∧ Aside0 ((kq = b1.size + 1 ∧ x = 0 ∧ o = 0) ∨ (kq = b1.size ∧ 1 ≤ b1.size ∧ x = 1 ∧ o = bt b1 0) ∨ (kq + 1 = b1.size ∧ b1.size = 2 ∧ x = 2 ∧ o = bt b1 0 + 256 * bt b1 1)) ∧ w' = w3)
 case atStart => exact ⟨0, 0, rfl, rfl, ⟨.inl ⟨rfl, rfl, rfl⟩⟩, rfl⟩
 case round =>
  obtain ⟨x, o, rfl, rfl, HJ, rfl⟩ := hrel
  rcases HJ.out with ⟨h1, rfl, rfl⟩ | ⟨h1, h2, rfl, rfl⟩ | ⟨h1, h2, rfl, rfl⟩
  · by_cases c : 0 < b1.size
    case neg =>
     have cb : decide ((0 : Int) < (b1.size : Int)) = false := decide_eq_false (by omega)
     go_wp2
     go_ret
     exact ⟨by rw [numLE_0 b1 (by omega)]; rfl, HI.out, HB.out, HK.out⟩
    have cb : decide ((0 : Int) < (b1.size : Int)) = true := decide_eq_true (by omega)
    have cc : World.cell? _ ⟨gb, 0, none⟩ = some (Value.int .u8 (bt b1 0)) := HCL.out 0 c
    go_wp2
    go_roundg b1.size
    case measure => omega
    case rel => exact ⟨1, bt b1 0, rfl, by rw [or_zero' _ hb0.1 hb0.2], ⟨.inr (.inl ⟨rfl, c, rfl, rfl⟩)⟩, rfl⟩
  · by_cases c : 1 < b1.size
    case neg =>
     have cb : decide ((1 : Int) < (b1.size : Int)) = false := decide_eq_false (by omega)
     go_wp2
     go_ret
     exact ⟨by rw [numLE_1 b1 (by omega)]; rfl, HI.out, HB.out, HK.out⟩
    have cb : decide ((1 : Int) < (b1.size : Int)) = true := decide_eq_true (by omega)
    have cc : World.cell? _ ⟨gb, 1, none⟩ = some (Value.int .u8 (bt b1 1)) := HCL.out 1 c
    go_wp2
    go_roundg 1
    case measure => omega
    case rel => exact ⟨2, bt b1 0 + 256 * bt b1 1, rfl, by rw [or_low _ _ hb0.1 hb0.2 hb1.1 (by omega)], ⟨.inr (.inr ⟨by omega, by omega, rfl, rfl⟩)⟩, rfl⟩
  · have cb : decide ((2 : Int) < (b1.size : Int)) = false := decide_eq_false (by omega)
    go_wp2
    go_ret
    exact ⟨by rw [numLE_2 b1 (by omega)]; rfl, HI.out, HB.out, HK.out⟩

set_option maxHeartbeats 8000000
set_option maxRecDepth 100000
attribute [local go_sem] max2_int min2_int max_two min_two max_three min_three max_four min_four   -- for this text's walks alone
set_option linter.unusedVariables false
set_option linter.unusedSimpArgs false

def record_taker_text.f (k : Nat) (s0_0 : ByteArray) : Option (ByteArray × ByteArray) := (record_taker_number.f k s0_0 2).bind fun bt158 => ((record_taker_take.f bt158.2 bt158.1).bind fun bt160 => (some (bt160.1, bt160.2)))
theorem record_taker_text.mono : ∀ a0 k, LeO (record_taker_text.f k a0) (record_taker_text.f (k + 1) a0) := by
 intro a0 k
 unfold record_taker_text.f
 repeat' first
  | (with_reducible exact record_taker_number.mono _ _ _)
  | (with_reducible exact LeO.refl _)
  | (with_reducible exact LeO.none _)
  | (with_reducible refine LeO.ite ?_ ?_)
  | (with_reducible refine LeO.bind ?_ (fun _ => ?_))
  | exact record_taker_number.mono _ _ _
  | exact LeO.none _
  | refine LeO.ite ?_ ?_
  | refine LeO.bind ?_ (fun _ => ?_)
theorem record_taker_text.calls (k : Nat) (g : Nat) (s0_0 : ByteArray) (r1 : ByteArray) (r2 : ByteArray) (w0 w : World) (hI : IsS73 w0 w g s0_0) (hB : Below w0.heap.size w0 w) (h : record_taker_text.f k s0_0 = some (r1, r2)) :
 Calls Tryd.prog 34 #[.pointer (some ⟨g, 0, none⟩)] w fun e w' => e = .returned (.string r1) ∧ IsS73 w0 w' g r2 ∧ Below w0.heap.size w0 w' ∧ KeepBut w w' g none := by
 have HI0 := a_ hI
 have HK := a_ (KeepBut.refl w g none)
 have HL := a_ hB.size
 clear hI
 have HW0 := a_ hB.size
 have HB := a_ hB
 clear hB
 have H := h; unfold record_taker_text.f at H
 clear h
 replace H := Option.bind_eq_some_iff.mp H
 obtain ⟨⟨t0, t1⟩, A20, H⟩ := H
 try dsimp only at H
 have A2 := a_ A20
 clear A20
 replace H := Option.bind_eq_some_iff.mp H
 obtain ⟨⟨t2, t3⟩, A30, H⟩ := H
 try dsimp only at H
 have A3 := a_ A30
 clear A30
 simp only [Option.some.injEq, Prod.mk.injEq] at H
 obtain ⟨rfl, rfl⟩ := H
 go_enter Tryd.func34, Tryd.ntmps34
 go_wp2_with (first | ((with_reducible refine gate_callee (f := 33) rfl ?_); refine goesL_ (some 5) rfl rfl Tryd.func33 (by kernel_rfl) rfl #[.pointer (some ⟨g, 0, none⟩), .int .i64 2] rfl hL_ ?_; (with_reducible refine (record_taker_number.calls k g s0_0 2 t0 t1 w0 _ ?s1 ?s2 A2.out).mono ?_); (case s1 => repeat (first | (with_reducible first | exact HI0.out | apply IsS73.alloc | apply IsS73.drewN | apply IsS73.drew | apply IsS73.set_0) | exact HI0.out)); (case s2 => repeat (first | (with_reducible first | exact HB.out | apply below_alloc | apply pw_below_drewN | apply below_drew1 | refine below_set ?_ (IsS73.ge HI0.out)) | exact HB.out)); rintro e w4 ⟨rfl, hi, hb, hk⟩; refine ⟨_, rfl, ?_⟩; replace HK := a_ (KeepBut.trans (by repeat (first | (with_reducible first | exact HK.out | apply KeepBut.set_ | apply keep_drewN | apply keep_drew | apply keep_alloc) | exact HK.out)) hk (.inl rfl)); replace HB := a_ (hb); replace HI0 := a_ (hi); (try clear hb); (try clear hb2); (try clear hk); (try clear hi)) | ((with_reducible refine gate_callee (f := 41) rfl ?_); refine goesL_ (some 6) rfl rfl Tryd.func41 (by kernel_rfl) rfl #[.pointer (some ⟨g, 0, none⟩), .int .i64 t0] rfl hL_ ?_; (with_reducible refine (record_taker_take.calls g t1 t0 t2 t3 w0 _ ?s1 ?s2 A3.out).mono ?_); (case s1 => repeat (first | (with_reducible first | exact HI0.out | apply IsS73.alloc | apply IsS73.drewN | apply IsS73.drew | apply IsS73.set_0) | exact HI0.out)); (case s2 => repeat (first | (with_reducible first | exact HB.out | apply below_alloc | apply pw_below_drewN | apply below_drew1 | refine below_set ?_ (IsS73.ge HI0.out)) | exact HB.out)); rintro e w5 ⟨rfl, hi, hb, hk⟩; refine ⟨_, rfl, ?_⟩; replace HK := a_ (KeepBut.trans (by repeat (first | (with_reducible first | exact HK.out | apply KeepBut.set_ | apply keep_drewN | apply keep_drew | apply keep_alloc) | exact HK.out)) hk (.inl rfl)); replace HB := a_ (hb); replace HI0 := a_ (hi); (try clear hb); (try clear hb2); (try clear hk); (try clear hi)))
 go_ret
 exact ⟨hV_, by repeat (first | (with_reducible first | exact HI0.out | apply IsS73.alloc | apply IsS73.drewN | apply IsS73.drew | apply IsS73.set_0) | exact HI0.out), by repeat (first | (with_reducible first | exact HB.out | apply below_alloc | apply pw_below_drewN | apply below_drew1 | refine below_set ?_ (IsS73.ge HI0.out)) | exact HB.out), by repeat (first | (with_reducible first | exact HK.out | apply KeepBut.set_ | apply keep_drewN | apply keep_drew | apply keep_alloc) | exact HK.out)⟩

set_option maxHeartbeats 8000000
set_option maxRecDepth 100000
attribute [local go_sem] max2_int min2_int max_two min_two max_three min_three max_four min_four   -- for this text's walks alone
set_option linter.unusedVariables false
set_option linter.unusedSimpArgs false

def record_Get.l0 : Nat → Int → Int → List ByteArray → ByteArray → Option (List ByteArray × ByteArray)
 | 0, _, _, _, _ => none
 | k + 1, m, x, l, q => if x < m then (record_taker_text.f k q).bind fun b => (if l.length < 8 then record_Get.l0 k m (wrap64 (x + 1)) (l ++ [b.1]) b.2 else none) else some (l, q)
def record_Get.f (k : Nat) (s : ByteArray) : Option (Int × Int × List ByteArray × ByteArray × Int) := (record_taker_number.f k s 1).bind fun b1 => (record_taker_number.f k b1.2 2).bind fun b2 => (record_taker_number.f k b2.2 1).bind fun b3 => (record_Get.l0 k (mn b3.1 3) 0 [] b3.2).bind fun q => (record_taker_text.f k q.2).bind fun r => (record_Put.f k b1.1 (wrap64 (b2.1 - 1)) q.1 r.1).bind fun p => if p.2 = 0 then (if p.1.toList = s.toList then some (b1.1, wrap64 (b2.1 - 1), q.1, r.1, 0) else some (0, 0, [], (⟨#[]⟩ : ByteArray), 1500)) else some (0, 0, [], (⟨#[]⟩ : ByteArray), 1500)
theorem record_Get.mono_l : ∀ k y0 y1 y2 y3, LeO (record_Get.l0 k y0 y1 y2 y3) (record_Get.l0 (k + 1) y0 y1 y2 y3)
 | 0 => fun _ _ _ _ r h => by simp [record_Get.l0] at h
 | k + 1 => by
  intro y0 y1 y2 y3
  unfold record_Get.l0
  repeat' first
   | (with_reducible exact record_Get.mono_l k _ _ _ _)
   | (with_reducible exact record_taker_text.mono _ _)
   | (with_reducible exact LeO.refl _)
   | (with_reducible exact LeO.none _)
   | (with_reducible refine LeO.ite ?_ ?_)
   | (with_reducible refine LeO.bind ?_ (fun _ => ?_))
theorem record_Get.mono : ∀ a0 k, LeO (record_Get.f k a0) (record_Get.f (k + 1) a0) := by
 intro a0 k
 unfold record_Get.f
 repeat' first
  | (with_reducible exact record_Get.mono_l k _ _ _ _)
  | (with_reducible exact record_taker_number.mono _ _ _)
  | (with_reducible exact record_taker_text.mono _ _)
  | (with_reducible exact record_Put.mono _ _ _ _ _)
  | (with_reducible exact LeO.refl _)
  | (with_reducible exact LeO.none _)
  | (with_reducible refine LeO.ite ?_ ?_)
  | (with_reducible refine LeO.bind ?_ (fun _ => ?_))
theorem blk_keepb {W W2 : World} {g g' : Nat} {o : Obj} (h : W.heap[g']? = some o) (hk : KeepBut W W2 g none) (hne : g' ≠ g) : W2.heap[g']? = some o := (hk.2 g' (blk_lt h) hne (by simp)).trans h
def record_Get.T5 : Bool × List (List Nat × List Nat) := (true, [([], []), ([0], [0]), ([], []), ([2], [2]), ([3], [3]), ([1, 4, 3], [1, 4]), ([0, 1, 2, 3, 4, 5], []), ([6, 5, 5, 0, 1, 2, 3, 4, 5], [5, 6])])
def record_Get.B5 : List Nat := [0, 1, 0, 4, 12, 31, 63, 127]
theorem record_Get.tab5 : rtab .any (opsOf Tryd.f21 5) = record_Get.T5 := by kernel_rfl
theorem record_Get.bits5 : waitsOk record_Get.T5.2 record_Get.B5 = true := by kernel_rfl
theorem record_Get.calls (k : Nat) (s : ByteArray) (r1 r2 : Int) (r3 : List ByteArray) (r4 : ByteArray) (r5 : Int) (w : World) (h : record_Get.f k s = some (r1, r2, r3, r4, r5)) (hG : GOK w) :
 Calls Tryd.prog 21 #[.string s] w fun e w' => ∃ v2_ : Value, e = .returned (.tuple #[.agg #[.int .i64 r1, .int .i64 r2, v2_, .string r4], .int .i64 r5]) ∧ Kd.R Kd.string 9 w' w.heap.size (fun _ => True) v2_ r3 ∧ Below w.heap.size w w' := by
 have huN := Tryd.underlying37
 have huT := Tryd.underlying73
 have HB := a_ (Below.refl w.heap.size w)
 unfold record_Get.f at h
 obtain ⟨⟨n0, s1⟩, B1, h⟩ := Option.bind_eq_some_iff.mp h
 dsimp only at h
 obtain ⟨⟨n1, s2⟩, B2, h⟩ := Option.bind_eq_some_iff.mp h
 dsimp only at h
 obtain ⟨⟨n2, s3⟩, B3, h⟩ := Option.bind_eq_some_iff.mp h
 dsimp only at h
 obtain ⟨⟨ql, qs⟩, B4, h⟩ := Option.bind_eq_some_iff.mp h
 dsimp only at h
 obtain ⟨⟨t4, q5⟩, B5, h⟩ := Option.bind_eq_some_iff.mp h
 dsimp only at h
 obtain ⟨⟨p1, p2⟩, B6, h⟩ := Option.bind_eq_some_iff.mp h
 dsimp only at h
 obtain ⟨nn, hnn⟩ : ∃ y, wrap64 (n1 - 1) = y := ⟨_, rfl⟩
 obtain ⟨m, hm⟩ : ∃ y, mn n2 3 = y := ⟨_, rfl⟩
 rw [hnn] at B6 h
 rw [hm] at B4
 have hnnw : IntKind.i64.wrap (n1 - 1) = nn := (i64_w _).trans hnn
 have hm_ : (if 3 < n2 then 3 else n2) = m := hm
 have B1 := a_ B1
 have B2 := a_ B2
 have B3 := a_ B3
 have H' := a_ B4
 have B5 := a_ B5
 have B6 := a_ B6
 have HH := a_ h
 clear h
 go_enter Tryd.func21, Tryd.ntmps21
 go_wp2_with (first
  | ((with_reducible refine gate_dst (N := 2) rfl ?_); refine boxE_ 2 #[.int .i64 0, .int .i64 0, .slice none 0 0, .string ⟨#[]⟩] 37 ?_; intro gR hg w2 hbox hb; have GR := a_ (gE_ hg : w.heap.size ≤ gR); have BR := a_ hbox; replace HB := a_ (below_step hC_ hb); clear hg hbox hb)
  | ((with_reducible refine gate_dst (N := 10) rfl ?_); refine boxE_ 10 #[.string s] 73 ?_; intro gT hg w3 hbox hb; have hRT := (bL_ BR.out hg : gR ≠ gT); have HI := a_ (show IsS73 w w3 gT s from ⟨hbox, gE_ hg⟩); replace BR := a_ (bB_ BR.out hb); replace HB := a_ (below_step hC_ hb); clear hg hbox hb)
  | ((with_reducible refine gate_callee (f := 33) rfl ?_); refine goesL_ _ rfl rfl Tryd.func33 (by kernel_rfl) rfl #[.pointer (some ⟨gT, 0, none⟩), .int .i64 1] rfl hL_ ?_; (with_reducible refine (record_taker_number.calls k gT s 1 n0 s1 w _ ?hi ?hb B1.out).mono ?_); (case hi => exact ⟨hK_ HI.out.1, HI.out.2⟩); (case hb => exact hC_); rintro e w4 ⟨rfl, hI, hB, hK⟩; refine ⟨_, rfl, ?_⟩; replace BR := a_ (blk_keepb (hK_ BR.out) hK hRT); replace HI := a_ hI; replace HB := a_ hB; clear hI hB hK)
  | ((with_reducible refine gate_callee (f := 33) rfl ?_); refine goesL_ _ rfl rfl Tryd.func33 (by kernel_rfl) rfl #[.pointer (some ⟨gT, 0, none⟩), .int .i64 2] rfl hL_ ?_; (with_reducible refine (record_taker_number.calls k gT s1 2 n1 s2 w _ ?hi ?hb B2.out).mono ?_); (case hi => exact ⟨hK_ HI.out.1, HI.out.2⟩); (case hb => exact hC_); rintro e w5 ⟨rfl, hI, hB, hK⟩; refine ⟨_, rfl, ?_⟩; replace BR := a_ (blk_keepb (hK_ BR.out) hK hRT); replace HI := a_ hI; replace HB := a_ hB; clear hI hB hK)
  | ((with_reducible refine gate_dst (N := 5) rfl ?_); refine boxE_ 5 #[.int .i64 0, .int .i64 0, .slice none 0 0, .string ⟨#[]⟩] 37 ?_; intro gN hg w6 hbox hb; have GN := a_ (gE_ hg : w.heap.size ≤ gN); have hRN := (bL_ BR.out hg : gR ≠ gN); have hTN := (bL_ HI.out.1 hg : gT ≠ gN); have hNT := (bG_ HI.out.1 hg : gN ≠ gT); have hNR := (bG_ BR.out hg : gN ≠ gR); have BN := a_ hbox; replace BR := a_ (bB_ BR.out hb); replace HI := a_ (show IsS73 w w6 gT s2 from ⟨bB_ HI.out.1 hb, HI.out.2⟩); replace HB := a_ (below_step hC_ hb); clear hg hbox hb; obtain ⟨hz0, hz1, hz2, hz3, hf0, hf1, hf2, hf3⟩ := bx4_ BN.out)
  | ((with_reducible refine gate_callee (f := 33) rfl ?_); refine goesL_ _ rfl rfl Tryd.func33 (by kernel_rfl) rfl #[.pointer (some ⟨gT, 0, none⟩), .int .i64 1] rfl hL_ ?_; (with_reducible refine (record_taker_number.calls k gT s2 1 n2 s3 w _ ?hi ?hb B3.out).mono ?_); (case hi => exact ⟨by (with_reducible repeat (first | refine blk_drewN ?_ _ | refine blk_drew ?_ | refine blk_alloc ?_ _)); exact (bF_ (bF_ (bF_ (bF_ (hK_ HI.out.1) hTN) hTN) hTN) hTN), HI.out.2⟩); (case hb => exact hC_); rintro e w7 ⟨rfl, hI, hB, hK⟩; refine ⟨_, rfl, ?_⟩; replace BR := a_ (blk_keepb (by (with_reducible repeat (first | refine blk_drewN ?_ _ | refine blk_drew ?_ | refine blk_alloc ?_ _)); exact (bF_ (bF_ (bF_ (bF_ (hK_ BR.out) hRN) hRN) hRN) hRN)) hK hRT); have BN2 := a_ (blk_keepb (o := .cells #[.int .i64 n0, .int .i64 nn, .slice none 0 0, .string ⟨#[]⟩] 37 (0, 0)) (by (with_reducible repeat (first | refine blk_drewN ?_ _ | refine blk_drew ?_ | refine blk_alloc ?_ _)); exact (bP_ (bP_ (bP_ (bP_ (hK_ BN.out)))))) hK hNT); clear BN; have BN := BN2; clear BN2; replace HI := a_ hI; replace HB := a_ hB; clear hI hB hK))
 go_loopg [20] k (fun kq v1 w' => ∃ (x : Int) (l : List ByteArray) (q : ByteArray) (v : Value), v1 = .int .i64 x ∧ Aside0 (record_Get.l0 kq m x l q = some (ql, qs)) ∧ Aside0 (kq ≤ k) ∧ Aside0 (Kd.R Kd.string 9 w' w.heap.size (fun _ => True) v l) ∧ Aside0 (w'.heap[gN]? = some (.cells #[.int .i64 n0, .int .i64 nn, v, .string ⟨#[]⟩] 37 (0, 0))) ∧ Aside0 (w'.heap[gR]? = some (.cells #[.int .i64 0, .int .i64 0, .slice none 0 0, .string ⟨#[]⟩] 37 (0, 0))) ∧ Aside0 (IsS73 w w' gT q) ∧ Aside0 (Below w.heap.size w w'))
 case atStart => exact ⟨0, [], s3, .slice none 0 0, hW_, H', ⟨Nat.le_refl _⟩, ⟨Kd.R_nil _ _ _ _ _⟩, ⟨hK_ BN.out⟩, ⟨hK_ BR.out⟩, ⟨⟨hK_ HI.out.1, HI.out.2⟩⟩, ⟨hC_⟩⟩
 case round =>
  clear H' HB HI BN BR
  obtain ⟨x, l, q, v, rfl, HA, HK2, HO, BN, BR, HI, HB⟩ := hrel
  obtain ⟨A, c, rfl⟩ := Kd.R_slice HO.out
  cases gk with
  | zero => exact absurd HA.out (by simp [record_Get.l0])
  | succ k2 =>
   have H := HA.out
   clear HA
   simp only [record_Get.l0] at H
   by_cases c22 : x < m
   case neg =>
    rw [if_neg c22] at H
    have c22b0 : decide (x < m) = false := decide_eq_false c22
    clear c22
    obtain ⟨rfl, rfl⟩ := Prod.mk.inj (Option.some.inj H)
    clear H
    go_upto_region 9 with (first
     | ((with_reducible refine gate_callee (f := 34) rfl ?_); refine goesL_ _ rfl rfl Tryd.func34 (by kernel_rfl) rfl #[.pointer (some ⟨gT, 0, none⟩)] rfl hL_ ?_; (with_reducible refine (record_taker_text.calls k gT q t4 q5 w _ ?hi ?hb B5.out).mono ?_); (case hi => exact ⟨hK_ HI.out.1, HI.out.2⟩); (case hb => exact hC_); rintro e w8 ⟨rfl, hI, hB, hK⟩; refine ⟨_, rfl, ?_⟩; replace HO := a_ (Kd.R_mono (Kd.R_keep (IsS73.apart (show IsS73 w _ gT _ from ⟨hK_ HI.out.1, HI.out.2⟩) (hR_ HO.out) (by decide)) hK (fun _ h_ => h_.2)) (fun _ h_ => h_.1)); replace BR := a_ (blk_keepb (hK_ BR.out) hK hRT); replace BN := a_ (blk_keepb (hK_ BN.out) hK hNT); replace HI := a_ hI; replace HB := a_ hB; clear hI hB hK; obtain ⟨hz0, hz1, hz2, hz3, hf0, hf1, hf2, hf3⟩ := bx4_ BN.out)
     | ((with_reducible refine gate_callee (f := 15) rfl ?_); refine goesL_ _ rfl rfl Tryd.func15 (by kernel_rfl) rfl #[.agg #[.int .i64 n0, .int .i64 nn, .slice A l.length c, .string t4]] rfl hL_ ?_; (with_reducible refine (record_Put.calls k n0 nn A c l t4 p1 p2 _ ?hr ?hc B6.out (GOK.below hG hC_)).mono ?_); (case hr => exact (Kd.R_reads' (Kd.R_mono (rF_ (Kd.R_types (hR_ HO.out) (hK_ BN.out) (by decide))) (fun _ h_ => h_.1))).2.2); (case hc => exact (Kd.R_reads' HO.out).2.1); rintro e w9 ⟨rfl, hb⟩; refine ⟨_, rfl, ?_⟩; have P0 := a_ (Kd.R_below (Kd.R_mono (rF_ (Kd.R_types (hR_ HO.out) (hK_ BN.out) (by decide))) (fun _ h_ => h_.1)) hb); have BR2 := a_ (blk_below (bF_ (hK_ BR.out) hRN) hb); have BN2 := a_ (blk_below (g := gN) (o := .cells #[.int .i64 n0, .int .i64 nn, .slice A l.length c, .string t4] 37 (0, 0)) (bP_ (hK_ BN.out)) hb); replace HB := a_ (below_step hC_ hb); clear hb HO BR BN; have HO := P0; have BR := BR2; have BN := BN2; clear P0 BR2 BN2; obtain ⟨i0, i1, i2, i3, h0, h1, h2, h3⟩ := bx4_ BN.out; obtain ⟨hu0, hu1, hu2, hu3, hv0, hv1, hv2, hv3⟩ := bx4_ BR.out))
    have h := HH.out
    clear HH
    by_cases c30 : p2 = 0
    case neg =>
     rw [if_neg c30] at h
     simp only [Option.some.injEq, Prod.mk.injEq] at h
     obtain ⟨rfl, rfl, rfl, rfl, rfl⟩ := h
     have c30a : (p2 == 0) = false := beq_eq_false_iff_ne.mpr c30
     have c30b : (p2 != 0) = true := bne_iff_ne.mpr c30
     clear c30
     go_wp2
     refine bodyPost_ret (results_ct rfl _ _ gR 37 #[.int .i64 0, .int .i64 0, .slice none 0 0, .string ⟨#[]⟩] (0, 0) _ rfl (by (with_reducible repeat (first | refine blk_drewN ?_ _ | refine blk_drew ?_ | refine blk_alloc ?_ _)); exact (bP_ (bP_ (bP_ (bP_ (hK_ BR.out)))))) huN rfl (by kernel_rfl)) rfl ?_
     exact ⟨_, hV_, Kd.R_nil _ _ _ _ _, hC_⟩
    rw [if_pos c30] at h
    have c30a : (p2 == 0) = true := beq_iff_eq.mpr c30
    have c30b : (p2 != 0) = false := bne_eq_false_iff_eq.mpr c30
    clear c30
    by_cases c31 : p1.toList = s.toList
    case neg =>
     rw [if_neg c31] at h
     simp only [Option.some.injEq, Prod.mk.injEq] at h
     obtain ⟨rfl, rfl, rfl, rfl, rfl⟩ := h
     have c31a : (p1.toList == s.toList) = false := beq_eq_false_iff_ne.mpr c31
     have c31b : (p1.toList != s.toList) = true := bne_iff_ne.mpr c31
     clear c31
     go_wp2
     refine bodyPost_ret (results_ct rfl _ _ gR 37 #[.int .i64 0, .int .i64 0, .slice none 0 0, .string ⟨#[]⟩] (0, 0) _ rfl (by (with_reducible repeat (first | refine blk_drewN ?_ _ | refine blk_drew ?_ | refine blk_alloc ?_ _)); exact (bP_ (bP_ (bP_ (bP_ (hK_ BR.out)))))) huN rfl (by kernel_rfl)) rfl ?_
     exact ⟨_, hV_, Kd.R_nil _ _ _ _ _, hC_⟩
    rw [if_pos c31] at h
    simp only [Option.some.injEq, Prod.mk.injEq] at h
    obtain ⟨rfl, rfl, rfl, rfl, rfl⟩ := h
    have c31a : (p1.toList == s.toList) = true := beq_iff_eq.mpr c31
    have c31b : (p1.toList != s.toList) = false := bne_eq_false_iff_eq.mpr c31
    clear c31
    go_wp2
    refine bodyPost_ret (results_ct rfl _ _ gR 37 #[.int .i64 n0, .int .i64 nn, .slice A l.length c, .string t4] (0, 0) _ rfl (by (with_reducible repeat (first | refine blk_drewN ?_ _ | refine blk_drew ?_ | refine blk_alloc ?_ _)); exact (bP_ (bP_ (bP_ (bP_ (hK_ BR.out)))))) huN rfl (by kernel_rfl)) rfl ?_
    exact ⟨_, hV_, by skip; (with_reducible repeat (first | apply Kd.R_alloc | apply Kd.R_drewN | apply Kd.R_drew)); exact Kd.R_mono (rF_ (rF_ (rF_ (rF_ (Kd.R_types (hR_ HO.out) (hK_ BR.out) (by decide)))))) (fun _ h_ => h_.1), hC_⟩
   rw [if_pos c22] at H
   have c22b0 : decide (x < m) = true := decide_eq_true c22
   clear c22
   obtain ⟨⟨tt, q2⟩, A24, H⟩ := Option.bind_eq_some_iff.mp H
   have A24 := a_ A24
   dsimp only at H
   replace H := ifI_ H; obtain ⟨c25, H⟩ := H
   have LM := a_ c25
   obtain ⟨y, hy⟩ : ∃ y, y = l ++ [tt] := ⟨_, rfl⟩
   rw [← hy] at H
   have NY := a_ hy
   have H' := a_ H
   clear H hy c25
   try go_wp2
   refine start_ (n := 8) (S := fun w' => w'.cell? ⟨gN, 2, none⟩ = some (.slice A l.length c)) (ds := [7]) #[false, false, false, false, false, false, false, false] (by kernel_rfl) rfl rfl ((blk_cell BN.out 2).trans rfl) (fun hHeld => ?_)
   refine with_tabW record_Get.tab5 record_Get.bits5 (fun HT_ HW_ => ?_)
   refine pB_ 0 22 HT_.out ?_
   refine pB_ 2 24 HT_.out ?_
   refine tB_ 1 23 HT_.out HW_.out hHeld ?_
   refine one_ (i := 3) (N := some 25) #[true, true, true, true, false, false, false, false] rfl rfl (one_of HT_.out (by kernel_rfl)) (by decide) (fun K hK => ?_)
   refine goes_ Tryd.func34 (by kernel_rfl) rfl #[.pointer (some ⟨gT, 0, none⟩)] (by rfl) rfl rfl hL_ ?_
   with_reducible refine (record_taker_text.calls k2 gT q tt q2 w _ ?hi ?hb A24.out).mono ?_
   (case hi => exact ⟨hK_ HI.out.1, HI.out.2⟩)
   (case hb => exact hC_)
   rintro e w8 ⟨rfl, hI, hB, hkk⟩
   refine ⟨_, rfl, ?_⟩
   replace HO := a_ (Kd.R_mono (Kd.R_keep (IsS73.apart (show IsS73 w _ gT _ from ⟨hK_ HI.out.1, HI.out.2⟩) (hR_ HO.out) (by decide)) hkk (fun _ h_ => h_.2)) (fun _ h_ => h_.1))
   replace BR := a_ (blk_keepb (hK_ BR.out) hkk hRT)
   replace BN := a_ (blk_keepb (hK_ BN.out) hkk hNT)
   replace HI := a_ hI
   replace HB := a_ hB
   clear hI hB hkk
   refine hK.out _ _ ((blk_cell BN.out 2).trans rfl) (fun hHeld => ?_)
   clear hK K
   refine norm_ (a' := ?_) ?_ ?_
   rotate_left
   · show Act.put _ (some 25) _ = _
     simp only [Act.put, List.setIfInBounds_toArray, List.set_cons_zero, List.set_cons_succ, i64_w, i32_w]
     rfl
   refine one_ (i := 4) (N := some 26) #[true, true, true, true, true, false, false, false] rfl rfl (one_of HT_.out (by kernel_rfl)) (by decide) (fun K hK => ?_)
   refine value_ (w1 := ?_) (v := ?_) (by rfl) rfl ?_ ?_
   rotate_left 2
   · go_simp
     constructor
     · rfl
     · rfl
   refine hK.out _ _ ((blk_cell (blk_alloc BN.out _) 2).trans rfl) (fun hHeld => ?_)
   clear hK K
   refine norm_ (a' := ?_) ?_ ?_
   rotate_left
   · show Act.put _ (some 26) _ = _
     simp only [Act.put, List.setIfInBounds_toArray, List.set_cons_zero, List.set_cons_succ, i64_w, i32_w]
     rfl
   refine one_ (i := 5) (N := some 27) #[true, true, true, true, true, true, false, false] rfl rfl (one_of HT_.out (by kernel_rfl)) (by decide) (fun K hK => ?_)
   refine Kd.R_append_step Kd.string (w0 := w) w.heap.size (by rfl) (.tmp 23) (.tmp 26) 35 9 (.string ⟨#[]⟩) 16 rfl Tryd.underlying35 info9 rfl (by decide) (by omega) (.slice A l.length c) l tt [.string tt] (fun _ => True) (fun _ => False) rfl rfl ?aP (fun _ hk => hk.elim) ?aF ?aO ?aB ?aS ?aL ?_
   (case aP => exact rfl)
   (case aB => exact hC_)
   (case aF => exact fun _ _ => trivial)
   (case aO => exact (hR_ HO.out))
   (case aS => exact (below_size hC_))
   (case aL => have := LM.out; omega)
   intro v0 w9 ho hb hg hat
   rw [← NY.out] at ho
   have hne_ := IsS73.own_ne HI.out HO.out (by decide)
   replace BN := a_ (blk_grown (hK_ BN.out) hg (Kd.R_ne HO.out BN.out (by decide)))
   replace BR := a_ (blk_grown (hK_ BR.out) hg (Kd.R_ne HO.out BR.out (by decide)))
   replace HI := a_ (show IsS73 w w9 gT q2 from ⟨blk_grown (hK_ HI.out.1) hg hne_, HI.out.2⟩)
   replace HB := a_ hb
   replace HO := a_ ho
   clear ho hb hg hat hne_
   obtain ⟨A2, c2, rfl⟩ := Kd.R_slice HO.out
   refine hK.out _ _ ((blk_cell BN.out 2).trans rfl) (fun hHeld => ?_)
   clear hK K
   refine norm_ (a' := ?_) ?_ ?_
   rotate_left
   · show Act.put _ (some 27) _ = _
     simp only [Act.put, List.setIfInBounds_toArray, List.set_cons_zero, List.set_cons_succ, i64_w, i32_w]
     rfl
   refine pB_ 6 28 HT_.out ?_
   refine last_ (i := 7) (N := none) #[true, true, true, true, true, true, true, true] rfl rfl (one_of HT_.out (by kernel_rfl)) (by decide) (fun K hK => ?_)
   have hs44 := bc2_ BN.out
   have hfs44 := blk_frozen BN.out 2
   refine skip_ (w1 := ?_) (by rfl) rfl ?_ ?_
   rotate_left
   · go_simp
     rfl
   refine hK.out _ _ ?_
   clear hK K
   refine done_ (done_of HT_.out (by kernel_rfl)) ?_
   try go_wp2
   go_roundg k2
   case measure => have := HK2.out; omega
   case rel => exact ⟨(wrap64 (x + 1)), y, q2, _, hW_, H', ⟨by have := HK2.out; omega⟩, ⟨by skip; (with_reducible repeat (first | apply Kd.R_alloc | apply Kd.R_drewN | apply Kd.R_drew)); exact (Kd.R_mono (rF_ (Kd.R_types (hR_ HO.out) (hK_ BN.out) (by decide))) (fun _ h_ => h_.1))⟩, ⟨by (with_reducible repeat (first | refine blk_drewN ?_ _ | refine blk_drew ?_ | refine blk_alloc ?_ _)); exact (bP_ (hK_ BN.out))⟩, ⟨by (with_reducible repeat (first | refine blk_drewN ?_ _ | refine blk_drew ?_ | refine blk_alloc ?_ _)); exact (bF_ (hK_ BR.out) hRN)⟩, ⟨⟨by (with_reducible repeat (first | refine blk_drewN ?_ _ | refine blk_drew ?_ | refine blk_alloc ?_ _)); exact (bF_ (hK_ HI.out.1) hTN), HI.out.2⟩⟩, ⟨hC_⟩⟩

set_option maxHeartbeats 8000000
set_option maxRecDepth 100000
attribute [local go_sem] max2_int min2_int max_two min_two max_three min_three max_four min_four   -- for this text's walks alone
set_option linter.unusedVariables false
set_option linter.unusedSimpArgs false

def frame_Get.j0 : Nat → ByteArray → Int → Bool → Option (ByteArray × Int × Int)
 | 0, _, _, _ => none
 | k + 1, x0, x1, x26 => if x26 = true then (some ((⟨#[]⟩ : ByteArray), 0, 1600)) else (if 0 ≤ x1 then (if x1 < (x0.size : Int) then (if 0 ≤ (wrap64 (x1 + 1)) then (if (wrap64 (x1 + 1)) < (x0.size : Int) then (if (wrap64 ((wrap64 (bt x0 x1)) + (wrap64 (256 * (wrap64 (bt x0 (wrap64 (x1 + 1)))))))) > (wrap64 ((wrap64 ((wrap64 ((x0.size : Int) - x1)) - 2)) - 4)) then (some ((⟨#[]⟩ : ByteArray), 0, 1600)) else (if 0 ≤ (wrap64 (x1 + 2)) then (if (wrap64 (x1 + 2)) ≤ (wrap64 ((wrap64 (x1 + 2)) + (wrap64 ((wrap64 (bt x0 x1)) + (wrap64 (256 * (wrap64 (bt x0 (wrap64 (x1 + 1)))))))))) then (if (wrap64 ((wrap64 (x1 + 2)) + (wrap64 ((wrap64 (bt x0 x1)) + (wrap64 (256 * (wrap64 (bt x0 (wrap64 (x1 + 1)))))))))) ≤ (x0.size : Int) then ((frame_Put.f k (x0.extract ((wrap64 (x1 + 2)) : Int).toNat ((wrap64 ((wrap64 (x1 + 2)) + (wrap64 ((wrap64 (bt x0 x1)) + (wrap64 (256 * (wrap64 (bt x0 (wrap64 (x1 + 1)))))))))) : Int).toNat)).bind fun bt162 => (if bt162.2 = 0 then (if x1 ≤ (wrap64 ((wrap64 ((wrap64 (x1 + 2)) + (wrap64 ((wrap64 (bt x0 x1)) + (wrap64 (256 * (wrap64 (bt x0 (wrap64 (x1 + 1)))))))))) + 4)) then (if (wrap64 ((wrap64 ((wrap64 (x1 + 2)) + (wrap64 ((wrap64 (bt x0 x1)) + (wrap64 (256 * (wrap64 (bt x0 (wrap64 (x1 + 1)))))))))) + 4)) ≤ (x0.size : Int) then (if bt162.1.toList = (x0.extract (x1 : Int).toNat ((wrap64 ((wrap64 ((wrap64 (x1 + 2)) + (wrap64 ((wrap64 (bt x0 x1)) + (wrap64 (256 * (wrap64 (bt x0 (wrap64 (x1 + 1)))))))))) + 4)) : Int).toNat).toList then (some (x0.extract ((wrap64 (x1 + 2)) : Int).toNat ((wrap64 ((wrap64 (x1 + 2)) + (wrap64 ((wrap64 (bt x0 x1)) + (wrap64 (256 * (wrap64 (bt x0 (wrap64 (x1 + 1)))))))))) : Int).toNat, wrap64 ((wrap64 ((wrap64 (x1 + 2)) + (wrap64 ((wrap64 (bt x0 x1)) + (wrap64 (256 * (wrap64 (bt x0 (wrap64 (x1 + 1)))))))))) + 4), 0)) else (some ((⟨#[]⟩ : ByteArray), 0, 1600))) else (none)) else (none)) else (some ((⟨#[]⟩ : ByteArray), 0, 1600)))) else (none)) else (none)) else (none))) else (none)) else (none)) else (none)) else (none))
def frame_Get.f (k : Nat) (a0 : ByteArray) (a1 : Int) : Option (ByteArray × Int × Int) := if a1 < 0 then (frame_Get.j0 k a0 a1 true) else (if a1 > (a0.size : Int) then (frame_Get.j0 k a0 a1 true) else (frame_Get.j0 k a0 a1 (decide ((wrap64 ((a0.size : Int) - a1)) < 6))))
theorem frame_Get.mono_l : ∀ k, (∀ y0 y1 y2, LeO (frame_Get.j0 k y0 y1 y2) (frame_Get.j0 (k + 1) y0 y1 y2))
 | 0 => fun _ _ _ r h => by simp [frame_Get.j0] at h
 | k + 1 => by
  have ih0 := frame_Get.mono_l k
  · intro y0 y1 y2
    unfold frame_Get.j0
    repeat' first
    | (with_reducible exact ih0 _ _ _)
    | (with_reducible exact frame_Put.mono _ _)
    | (with_reducible exact LeO.refl _)
    | (with_reducible exact LeO.none _)
    | (with_reducible refine LeO.ite ?_ ?_)
    | (with_reducible refine LeO.bind ?_ (fun _ => ?_))
    | exact ih0 _ _ _
    | exact frame_Put.mono _ _
    | exact LeO.none _
    | refine LeO.ite ?_ ?_
    | refine LeO.bind ?_ (fun _ => ?_)
theorem frame_Get.mono : ∀ a0 a1 k, LeO (frame_Get.f k a0 a1) (frame_Get.f (k + 1) a0 a1) := by
 intro a0 a1 k
 have ih0 := frame_Get.mono_l k
 unfold frame_Get.f
 repeat' first
  | (with_reducible exact ih0 _ _ _)
  | (with_reducible exact frame_Put.mono _ _)
  | (with_reducible exact LeO.refl _)
  | (with_reducible exact LeO.none _)
  | (with_reducible refine LeO.ite ?_ ?_)
  | (with_reducible refine LeO.bind ?_ (fun _ => ?_))
  | exact ih0 _ _ _
  | exact frame_Put.mono _ _
  | exact LeO.none _
  | refine LeO.ite ?_ ?_
  | refine LeO.bind ?_ (fun _ => ?_)
theorem frame_Get.calls (k : Nat) (a0 : ByteArray) (a1 : Int) (r1 : ByteArray) (r2 : Int) (r3 : Int) (w : World) (h : frame_Get.f k a0 a1 = some (r1, r2, r3)) :
 Calls Tryd.prog 32 #[.string a0, .int .i64 a1] w fun e w' => e = .returned (.tuple #[.string r1, .int .i64 r2, .int .i64 r3]) ∧ Below w.heap.size w w' := by
 have HB := a_ (Below.refl w.heap.size w)
 have H := h; unfold frame_Get.f at H
 clear h
 have HC3 := a_ H
 clear H
 go_enter Tryd.func32, Tryd.ntmps32
 go_upto_region 1 with (fail)
 repeat (go_quiet (fail); go_upto_region 1 with (fail))
 go_cut [26] (fun v0 wc => ∃ (kq : Nat) (x0 : Bool), v0 = .bool x0 ∧ Aside0 (frame_Get.j0 kq a0 a1 x0 = some (r1, r2, r3)) ∧ Aside0 (kq ≤ k) ∧ Aside0 (Below w.heap.size w wc))
 case first =>
  have H := HC3.out
  clear HC3
  by_cases c4 : a1 < 0
  case pos =>
   rw [if_pos c4] at H
   have c4b0 : decide (a1 < 0) = true := decide_eq_true c4
   clear c4
   (first | rw [c4b0] | (simp only [i64_w, i32_w]; rw [c4b0]) | skip)
   have H' := a_ H
   clear H
   go_wp2
   repeat (go_quiet (fail); try go_wp2)
   go_meet
   case rel => exact ⟨_, (true), hW_, H', ⟨by first | omega | exact Nat.le_refl _⟩, ⟨hC_⟩⟩
  rw [if_neg c4] at H
  have c4b0 : decide (a1 < 0) = false := decide_eq_false c4
  clear c4
  (first | rw [c4b0] | (simp only [i64_w, i32_w]; rw [c4b0]) | skip)
  by_cases c5 : a1 > (a0.size : Int)
  case pos =>
   rw [if_pos c5] at H
   have c5b0 : decide ((a0.size : Int) < a1) = true := decide_eq_true c5
   clear c5
   have H' := a_ H
   clear H
   go_wp2
   repeat (go_quiet (fail); try go_wp2)
   go_meet
   case rel => exact ⟨_, (true), hW_, H', ⟨by first | omega | exact Nat.le_refl _⟩, ⟨hC_⟩⟩
  rw [if_neg c5] at H
  have c5b0 : decide ((a0.size : Int) < a1) = false := decide_eq_false c5
  clear c5
  have H' := a_ H
  clear H
  go_wp2
  repeat (go_quiet (fail); try go_wp2)
  go_meet
  case rel => exact ⟨_, (decide ((wrap64 ((a0.size : Int) - a1)) < 6)), hW_, H', ⟨by first | omega | exact Nat.le_refl _⟩, ⟨hC_⟩⟩
 case rest =>
  clear HC3
  try clear p2
  try clear c3
  try clear c4
  try clear c4b0
  try clear c5
  try clear c5b0
  obtain ⟨kq, x0, rfl, HA, HJ2, HB⟩ := hcut
  cases kq with
  | zero => exact absurd HA.out (by simp [frame_Get.j0])
  | succ kj2 =>
   have H := HA.out
   clear HA
   simp only [frame_Get.j0] at H
   by_cases c6 : x0 = true
   case pos =>
    subst c6
    rw [if_pos rfl] at H
    simp only [Option.some.injEq, Prod.mk.injEq] at H
    obtain ⟨rfl, rfl, rfl⟩ := H
    go_wp2
    repeat (go_quiet (fail); try go_wp2)
    go_ret3
    exact ⟨hV_, hC_⟩
   replace c6 := Bool.eq_false_iff.mpr c6
   subst c6
   rw [if_neg (show ¬ (false = true) by decide)] at H
   replace H := ifI_ H; obtain ⟨c7, H⟩ := H
   have c7b0 : decide (0 ≤ a1) = true := decide_eq_true c7
   clear c7
   replace H := ifI_ H; obtain ⟨c8, H⟩ := H
   have c8b0 : decide (a1 < (a0.size : Int)) = true := decide_eq_true c8
   clear c8
   obtain ⟨ji10, hji10⟩ : ∃ j_ : Int, (wrap64 (a1 + 1)) = j_ := ⟨_, rfl⟩
   replace H : (if 0 ≤ (ji10) then (if (ji10) < (a0.size : Int) then (if (wrap64 ((wrap64 (bt a0 a1)) + (wrap64 (256 * (wrap64 (bt a0 (ji10))))))) > (wrap64 ((wrap64 ((wrap64 ((a0.size : Int) - a1)) - 2)) - 4)) then (some ((⟨#[]⟩ : ByteArray), 0, 1600)) else (if 0 ≤ (wrap64 (a1 + 2)) then (if (wrap64 (a1 + 2)) ≤ (wrap64 ((wrap64 (a1 + 2)) + (wrap64 ((wrap64 (bt a0 a1)) + (wrap64 (256 * (wrap64 (bt a0 (ji10))))))))) then (if (wrap64 ((wrap64 (a1 + 2)) + (wrap64 ((wrap64 (bt a0 a1)) + (wrap64 (256 * (wrap64 (bt a0 (ji10))))))))) ≤ (a0.size : Int) then ((frame_Put.f kj2 (a0.extract ((wrap64 (a1 + 2)) : Int).toNat ((wrap64 ((wrap64 (a1 + 2)) + (wrap64 ((wrap64 (bt a0 a1)) + (wrap64 (256 * (wrap64 (bt a0 (ji10))))))))) : Int).toNat)).bind fun bt162 => (if bt162.2 = 0 then (if a1 ≤ (wrap64 ((wrap64 ((wrap64 (a1 + 2)) + (wrap64 ((wrap64 (bt a0 a1)) + (wrap64 (256 * (wrap64 (bt a0 (ji10))))))))) + 4)) then (if (wrap64 ((wrap64 ((wrap64 (a1 + 2)) + (wrap64 ((wrap64 (bt a0 a1)) + (wrap64 (256 * (wrap64 (bt a0 (ji10))))))))) + 4)) ≤ (a0.size : Int) then (if bt162.1.toList = (a0.extract (a1 : Int).toNat ((wrap64 ((wrap64 ((wrap64 (a1 + 2)) + (wrap64 ((wrap64 (bt a0 a1)) + (wrap64 (256 * (wrap64 (bt a0 (ji10))))))))) + 4)) : Int).toNat).toList then (some (a0.extract ((wrap64 (a1 + 2)) : Int).toNat ((wrap64 ((wrap64 (a1 + 2)) + (wrap64 ((wrap64 (bt a0 a1)) + (wrap64 (256 * (wrap64 (bt a0 (ji10))))))))) : Int).toNat, wrap64 ((wrap64 ((wrap64 (a1 + 2)) + (wrap64 ((wrap64 (bt a0 a1)) + (wrap64 (256 * (wrap64 (bt a0 (ji10))))))))) + 4), 0)) else (some ((⟨#[]⟩ : ByteArray), 0, 1600))) else (none)) else (none)) else (some ((⟨#[]⟩ : ByteArray), 0, 1600)))) else (none)) else (none)) else (none))) else (none)) else (none)) = some (r1, r2, r3) := by first | (rw [hji10] at H; exact H) | (simp only [hji10] at H ⊢; exact H)
   have hji10w : (IntKind.i64.wrap (a1 + 1)) = ji10 := (i64_w _).trans hji10
   replace H := ifI_ H; obtain ⟨c11, H⟩ := H
   have c11b0 : decide (0 ≤ (ji10)) = true := decide_eq_true c11
   clear c11
   replace H := ifI_ H; obtain ⟨c12, H⟩ := H
   have c12b0 : decide ((ji10) < (a0.size : Int)) = true := decide_eq_true c12
   clear c12
   by_cases c14 : (wrap64 ((wrap64 (bt a0 a1)) + (wrap64 (256 * (wrap64 (bt a0 (ji10))))))) > (wrap64 ((wrap64 ((wrap64 ((a0.size : Int) - a1)) - 2)) - 4))
   case pos =>
    rw [if_pos c14] at H
    have c14b0 : decide ((wrap64 ((wrap64 ((wrap64 ((a0.size : Int) - a1)) - 2)) - 4)) < (wrap64 ((wrap64 (bt a0 a1)) + (wrap64 (256 * (wrap64 (bt a0 (ji10)))))))) = true := decide_eq_true c14
    clear c14
    simp only [Option.some.injEq, Prod.mk.injEq] at H
    obtain ⟨rfl, rfl, rfl⟩ := H
    have p9 : 0 ≤ (a1 : Int) := of_decide_eq_true hA_
    have q9 : a1 < (a0.size : Int) := of_decide_eq_true hA_
    have h0 := bt_at a0 a1
    replace p9 := eq_true p9
    replace q9 := eq_true q9
    have p13 : 0 ≤ ((ji10) : Int) := of_decide_eq_true hA_
    have q13 : (ji10) < (a0.size : Int) := of_decide_eq_true hA_
    have h1 := bt_at a0 (ji10)
    replace p13 := eq_true p13
    replace q13 := eq_true q13
    go_wp2
    repeat (go_quiet (fail); try go_wp2)
    go_ret3
    exact ⟨by first | rfl | (simp [errW_none, errW_some] <;> rfl) | (simp only [← hji10]; first | rfl | (simp [errW_none, errW_some] <;> rfl)) | (simp [*, errW_none, errW_some] <;> rfl), hC_⟩
   rw [if_neg c14] at H
   have c14b0 : decide ((wrap64 ((wrap64 ((wrap64 ((a0.size : Int) - a1)) - 2)) - 4)) < (wrap64 ((wrap64 (bt a0 a1)) + (wrap64 (256 * (wrap64 (bt a0 (ji10)))))))) = false := decide_eq_false c14
   clear c14
   obtain ⟨ji15, hji15⟩ : ∃ j_ : Int, (wrap64 (a1 + 2)) = j_ := ⟨_, rfl⟩
   replace H : (if 0 ≤ (ji15) then (if (ji15) ≤ (wrap64 ((ji15) + (wrap64 ((wrap64 (bt a0 a1)) + (wrap64 (256 * (wrap64 (bt a0 (ji10))))))))) then (if (wrap64 ((ji15) + (wrap64 ((wrap64 (bt a0 a1)) + (wrap64 (256 * (wrap64 (bt a0 (ji10))))))))) ≤ (a0.size : Int) then ((frame_Put.f kj2 (a0.extract ((ji15) : Int).toNat ((wrap64 ((ji15) + (wrap64 ((wrap64 (bt a0 a1)) + (wrap64 (256 * (wrap64 (bt a0 (ji10))))))))) : Int).toNat)).bind fun bt162 => (if bt162.2 = 0 then (if a1 ≤ (wrap64 ((wrap64 ((ji15) + (wrap64 ((wrap64 (bt a0 a1)) + (wrap64 (256 * (wrap64 (bt a0 (ji10))))))))) + 4)) then (if (wrap64 ((wrap64 ((ji15) + (wrap64 ((wrap64 (bt a0 a1)) + (wrap64 (256 * (wrap64 (bt a0 (ji10))))))))) + 4)) ≤ (a0.size : Int) then (if bt162.1.toList = (a0.extract (a1 : Int).toNat ((wrap64 ((wrap64 ((ji15) + (wrap64 ((wrap64 (bt a0 a1)) + (wrap64 (256 * (wrap64 (bt a0 (ji10))))))))) + 4)) : Int).toNat).toList then (some (a0.extract ((ji15) : Int).toNat ((wrap64 ((ji15) + (wrap64 ((wrap64 (bt a0 a1)) + (wrap64 (256 * (wrap64 (bt a0 (ji10))))))))) : Int).toNat, wrap64 ((wrap64 ((ji15) + (wrap64 ((wrap64 (bt a0 a1)) + (wrap64 (256 * (wrap64 (bt a0 (ji10))))))))) + 4), 0)) else (some ((⟨#[]⟩ : ByteArray), 0, 1600))) else (none)) else (none)) else (some ((⟨#[]⟩ : ByteArray), 0, 1600)))) else (none)) else (none)) else (none)) = some (r1, r2, r3) := by first | (rw [hji15] at H; exact H) | (simp only [hji15] at H ⊢; exact H)
   have hji15w : (IntKind.i64.wrap (a1 + 2)) = ji15 := (i64_w _).trans hji15
   replace H := ifI_ H; obtain ⟨c16, H⟩ := H
   have c16b0 := eq_true c16
   have c16b1 : decide (0 ≤ (ji15)) = true := decide_eq_true c16
   clear c16
   replace H := ifI_ H; obtain ⟨c17, H⟩ := H
   have c17b0 := eq_true c17
   have c17b1 : decide ((ji15) ≤ (wrap64 ((ji15) + (wrap64 ((wrap64 (bt a0 a1)) + (wrap64 (256 * (wrap64 (bt a0 (ji10)))))))))) = true := decide_eq_true c17
   replace H := ifI_ H; obtain ⟨c18, H⟩ := H
   have c18b0 := eq_true c18
   have c18b1 : decide ((wrap64 ((ji15) + (wrap64 ((wrap64 (bt a0 a1)) + (wrap64 (256 * (wrap64 (bt a0 (ji10))))))))) ≤ (a0.size : Int)) = true := decide_eq_true c18
   replace H := Option.bind_eq_some_iff.mp H
   obtain ⟨⟨t0, t1⟩, A190, H⟩ := H
   try dsimp only at H
   have A19 := a_ A190
   clear A190
   by_cases c20 : t1 = 0
   case neg =>
    rw [if_neg c20] at H
    have c20b0 : (t1 == 0) = false := beq_eq_false_iff_ne.mpr c20
    have c20b1 : (t1 != 0) = true := bne_iff_ne.mpr c20
    simp only [Option.some.injEq, Prod.mk.injEq] at H
    obtain ⟨rfl, rfl, rfl⟩ := H
    have p9 : 0 ≤ (a1 : Int) := of_decide_eq_true hA_
    have q9 : a1 < (a0.size : Int) := of_decide_eq_true hA_
    have h0 := bt_at a0 a1
    replace p9 := eq_true p9
    replace q9 := eq_true q9
    have p13 : 0 ≤ ((ji10) : Int) := of_decide_eq_true hA_
    have q13 : (ji10) < (a0.size : Int) := of_decide_eq_true hA_
    have h1 := bt_at a0 (ji10)
    replace p13 := eq_true p13
    replace q13 := eq_true q13
    go_wp2_with (first | (go_at_call 16; (with_reducible refine (frame_Put.calls kj2 (a0.extract ((ji15) : Int).toNat ((wrap64 ((ji15) + (wrap64 ((wrap64 (bt a0 a1)) + (wrap64 (256 * (wrap64 (bt a0 (ji10))))))))) : Int).toNat) t0 t1 _ A19.out).mono ?_); rintro e w0 ⟨rfl, hb⟩; replace HB := a_ (below_step hB_ hb); (try clear hb); (try clear hb2); (try clear hk); (try clear hi)))
    repeat (go_quiet (first | (go_at_call 16; (with_reducible refine (frame_Put.calls kj2 (a0.extract ((ji15) : Int).toNat ((wrap64 ((ji15) + (wrap64 ((wrap64 (bt a0 a1)) + (wrap64 (256 * (wrap64 (bt a0 (ji10))))))))) : Int).toNat) t0 t1 _ A19.out).mono ?_); rintro e w0 ⟨rfl, hb⟩; replace HB := a_ (below_step hB_ hb); (try clear hb); (try clear hb2); (try clear hk); (try clear hi))); try go_wp2_with (first | (go_at_call 16; (with_reducible refine (frame_Put.calls kj2 (a0.extract ((ji15) : Int).toNat ((wrap64 ((ji15) + (wrap64 ((wrap64 (bt a0 a1)) + (wrap64 (256 * (wrap64 (bt a0 (ji10))))))))) : Int).toNat) t0 t1 _ A19.out).mono ?_); rintro e w0 ⟨rfl, hb⟩; replace HB := a_ (below_step hB_ hb); (try clear hb); (try clear hb2); (try clear hk); (try clear hi))))
    go_ret3
    exact ⟨by first | rfl | (simp [errW_none, errW_some] <;> rfl) | (simp only [← hji10, ← hji15]; first | rfl | (simp [errW_none, errW_some] <;> rfl)) | (simp [*, errW_none, errW_some] <;> rfl), hC_⟩
   rw [if_pos c20] at H
   have c20b0 : (t1 == 0) = true := beq_iff_eq.mpr c20
   have c20b1 : (t1 != 0) = false := bne_eq_false_iff_eq.mpr c20
   clear c20
   have c21b0 := eq_true (of_decide_eq_true hA_ : 0 ≤ a1)
   replace H := ifI_ H; obtain ⟨c22, H⟩ := H
   have c22b0 := eq_true c22
   have c22b1 : decide (a1 ≤ (wrap64 ((wrap64 ((ji15) + (wrap64 ((wrap64 (bt a0 a1)) + (wrap64 (256 * (wrap64 (bt a0 (ji10))))))))) + 4))) = true := decide_eq_true c22
   replace H := ifI_ H; obtain ⟨c23, H⟩ := H
   have c23b0 := eq_true c23
   have c23b1 : decide ((wrap64 ((wrap64 ((ji15) + (wrap64 ((wrap64 (bt a0 a1)) + (wrap64 (256 * (wrap64 (bt a0 (ji10))))))))) + 4)) ≤ (a0.size : Int)) = true := decide_eq_true c23
   by_cases c24 : t0.toList = (a0.extract (a1 : Int).toNat ((wrap64 ((wrap64 ((ji15) + (wrap64 ((wrap64 (bt a0 a1)) + (wrap64 (256 * (wrap64 (bt a0 (ji10))))))))) + 4)) : Int).toNat).toList
   case neg =>
    rw [if_neg c24] at H
    have c24b0 : (t0.toList == (a0.extract (a1 : Int).toNat ((wrap64 ((wrap64 ((ji15) + (wrap64 ((wrap64 (bt a0 a1)) + (wrap64 (256 * (wrap64 (bt a0 (ji10))))))))) + 4)) : Int).toNat).toList) = false := beq_eq_false_iff_ne.mpr c24
    have c24b1 : (t0.toList != (a0.extract (a1 : Int).toNat ((wrap64 ((wrap64 ((ji15) + (wrap64 ((wrap64 (bt a0 a1)) + (wrap64 (256 * (wrap64 (bt a0 (ji10))))))))) + 4)) : Int).toNat).toList) = true := bne_iff_ne.mpr c24
    (try (have c24b0w := c24b0; try (rw [show wrap64 (bt a0 a1) = (bt a0 a1) from by unfold wrap64; omega] at c24b0w); try (rw [show wrap64 (bt a0 (ji10)) = (bt a0 (ji10)) from by unfold wrap64; omega] at c24b0w); try (rw [show wrap64 (256 * (wrap64 (bt a0 (ji10)))) = (256 * (wrap64 (bt a0 (ji10)))) from by unfold wrap64; omega] at c24b0w); try (rw [show wrap64 ((wrap64 (bt a0 a1)) + (wrap64 (256 * (wrap64 (bt a0 (ji10)))))) = ((wrap64 (bt a0 a1)) + (wrap64 (256 * (wrap64 (bt a0 (ji10)))))) from by unfold wrap64; omega] at c24b0w); try (rw [show wrap64 ((ji15) + (wrap64 ((wrap64 (bt a0 a1)) + (wrap64 (256 * (wrap64 (bt a0 (ji10)))))))) = ((ji15) + (wrap64 ((wrap64 (bt a0 a1)) + (wrap64 (256 * (wrap64 (bt a0 (ji10)))))))) from by unfold wrap64; omega] at c24b0w); try (rw [show wrap64 ((wrap64 ((ji15) + (wrap64 ((wrap64 (bt a0 a1)) + (wrap64 (256 * (wrap64 (bt a0 (ji10))))))))) + 4) = ((wrap64 ((ji15) + (wrap64 ((wrap64 (bt a0 a1)) + (wrap64 (256 * (wrap64 (bt a0 (ji10))))))))) + 4) from by unfold wrap64; omega] at c24b0w)))
    (try (have c24b1w := c24b1; try (rw [show wrap64 (bt a0 a1) = (bt a0 a1) from by unfold wrap64; omega] at c24b1w); try (rw [show wrap64 (bt a0 (ji10)) = (bt a0 (ji10)) from by unfold wrap64; omega] at c24b1w); try (rw [show wrap64 (256 * (wrap64 (bt a0 (ji10)))) = (256 * (wrap64 (bt a0 (ji10)))) from by unfold wrap64; omega] at c24b1w); try (rw [show wrap64 ((wrap64 (bt a0 a1)) + (wrap64 (256 * (wrap64 (bt a0 (ji10)))))) = ((wrap64 (bt a0 a1)) + (wrap64 (256 * (wrap64 (bt a0 (ji10)))))) from by unfold wrap64; omega] at c24b1w); try (rw [show wrap64 ((ji15) + (wrap64 ((wrap64 (bt a0 a1)) + (wrap64 (256 * (wrap64 (bt a0 (ji10)))))))) = ((ji15) + (wrap64 ((wrap64 (bt a0 a1)) + (wrap64 (256 * (wrap64 (bt a0 (ji10)))))))) from by unfold wrap64; omega] at c24b1w); try (rw [show wrap64 ((wrap64 ((ji15) + (wrap64 ((wrap64 (bt a0 a1)) + (wrap64 (256 * (wrap64 (bt a0 (ji10))))))))) + 4) = ((wrap64 ((ji15) + (wrap64 ((wrap64 (bt a0 a1)) + (wrap64 (256 * (wrap64 (bt a0 (ji10))))))))) + 4) from by unfold wrap64; omega] at c24b1w)))
    simp only [Option.some.injEq, Prod.mk.injEq] at H
    obtain ⟨rfl, rfl, rfl⟩ := H
    have p9 : 0 ≤ (a1 : Int) := of_decide_eq_true hA_
    have q9 : a1 < (a0.size : Int) := of_decide_eq_true hA_
    have h0 := bt_at a0 a1
    replace p9 := eq_true p9
    replace q9 := eq_true q9
    have p13 : 0 ≤ ((ji10) : Int) := of_decide_eq_true hA_
    have q13 : (ji10) < (a0.size : Int) := of_decide_eq_true hA_
    have h1 := bt_at a0 (ji10)
    replace p13 := eq_true p13
    replace q13 := eq_true q13
    go_wp2_with (first | (go_at_call 16; (with_reducible refine (frame_Put.calls kj2 (a0.extract ((ji15) : Int).toNat ((wrap64 ((ji15) + (wrap64 ((wrap64 (bt a0 a1)) + (wrap64 (256 * (wrap64 (bt a0 (ji10))))))))) : Int).toNat) t0 t1 _ A19.out).mono ?_); rintro e w1 ⟨rfl, hb⟩; replace HB := a_ (below_step hB_ hb); (try clear hb); (try clear hb2); (try clear hk); (try clear hi)))
    repeat (go_quiet (first | (go_at_call 16; (with_reducible refine (frame_Put.calls kj2 (a0.extract ((ji15) : Int).toNat ((wrap64 ((ji15) + (wrap64 ((wrap64 (bt a0 a1)) + (wrap64 (256 * (wrap64 (bt a0 (ji10))))))))) : Int).toNat) t0 t1 _ A19.out).mono ?_); rintro e w1 ⟨rfl, hb⟩; replace HB := a_ (below_step hB_ hb); (try clear hb); (try clear hb2); (try clear hk); (try clear hi))); try go_wp2_with (first | (go_at_call 16; (with_reducible refine (frame_Put.calls kj2 (a0.extract ((ji15) : Int).toNat ((wrap64 ((ji15) + (wrap64 ((wrap64 (bt a0 a1)) + (wrap64 (256 * (wrap64 (bt a0 (ji10))))))))) : Int).toNat) t0 t1 _ A19.out).mono ?_); rintro e w1 ⟨rfl, hb⟩; replace HB := a_ (below_step hB_ hb); (try clear hb); (try clear hb2); (try clear hk); (try clear hi))))
    go_ret3
    exact ⟨by first | rfl | (simp [errW_none, errW_some] <;> rfl) | (simp only [← hji10, ← hji15]; first | rfl | (simp [errW_none, errW_some] <;> rfl)) | (simp [*, errW_none, errW_some] <;> rfl), hC_⟩
   rw [if_pos c24] at H
   have c24b0 : (t0.toList == (a0.extract (a1 : Int).toNat ((wrap64 ((wrap64 ((ji15) + (wrap64 ((wrap64 (bt a0 a1)) + (wrap64 (256 * (wrap64 (bt a0 (ji10))))))))) + 4)) : Int).toNat).toList) = true := beq_iff_eq.mpr c24
   have c24b1 : (t0.toList != (a0.extract (a1 : Int).toNat ((wrap64 ((wrap64 ((ji15) + (wrap64 ((wrap64 (bt a0 a1)) + (wrap64 (256 * (wrap64 (bt a0 (ji10))))))))) + 4)) : Int).toNat).toList) = false := bne_eq_false_iff_eq.mpr c24
   (try (have c24b0w := c24b0; try (rw [show wrap64 (bt a0 a1) = (bt a0 a1) from by unfold wrap64; omega] at c24b0w); try (rw [show wrap64 (bt a0 (ji10)) = (bt a0 (ji10)) from by unfold wrap64; omega] at c24b0w); try (rw [show wrap64 (256 * (wrap64 (bt a0 (ji10)))) = (256 * (wrap64 (bt a0 (ji10)))) from by unfold wrap64; omega] at c24b0w); try (rw [show wrap64 ((wrap64 (bt a0 a1)) + (wrap64 (256 * (wrap64 (bt a0 (ji10)))))) = ((wrap64 (bt a0 a1)) + (wrap64 (256 * (wrap64 (bt a0 (ji10)))))) from by unfold wrap64; omega] at c24b0w); try (rw [show wrap64 ((ji15) + (wrap64 ((wrap64 (bt a0 a1)) + (wrap64 (256 * (wrap64 (bt a0 (ji10)))))))) = ((ji15) + (wrap64 ((wrap64 (bt a0 a1)) + (wrap64 (256 * (wrap64 (bt a0 (ji10)))))))) from by unfold wrap64; omega] at c24b0w); try (rw [show wrap64 ((wrap64 ((ji15) + (wrap64 ((wrap64 (bt a0 a1)) + (wrap64 (256 * (wrap64 (bt a0 (ji10))))))))) + 4) = ((wrap64 ((ji15) + (wrap64 ((wrap64 (bt a0 a1)) + (wrap64 (256 * (wrap64 (bt a0 (ji10))))))))) + 4) from by unfold wrap64; omega] at c24b0w)))
   (try (have c24b1w := c24b1; try (rw [show wrap64 (bt a0 a1) = (bt a0 a1) from by unfold wrap64; omega] at c24b1w); try (rw [show wrap64 (bt a0 (ji10)) = (bt a0 (ji10)) from by unfold wrap64; omega] at c24b1w); try (rw [show wrap64 (256 * (wrap64 (bt a0 (ji10)))) = (256 * (wrap64 (bt a0 (ji10)))) from by unfold wrap64; omega] at c24b1w); try (rw [show wrap64 ((wrap64 (bt a0 a1)) + (wrap64 (256 * (wrap64 (bt a0 (ji10)))))) = ((wrap64 (bt a0 a1)) + (wrap64 (256 * (wrap64 (bt a0 (ji10)))))) from by unfold wrap64; omega] at c24b1w); try (rw [show wrap64 ((ji15) + (wrap64 ((wrap64 (bt a0 a1)) + (wrap64 (256 * (wrap64 (bt a0 (ji10)))))))) = ((ji15) + (wrap64 ((wrap64 (bt a0 a1)) + (wrap64 (256 * (wrap64 (bt a0 (ji10)))))))) from by unfold wrap64; omega] at c24b1w); try (rw [show wrap64 ((wrap64 ((ji15) + (wrap64 ((wrap64 (bt a0 a1)) + (wrap64 (256 * (wrap64 (bt a0 (ji10))))))))) + 4) = ((wrap64 ((ji15) + (wrap64 ((wrap64 (bt a0 a1)) + (wrap64 (256 * (wrap64 (bt a0 (ji10))))))))) + 4) from by unfold wrap64; omega] at c24b1w)))
   clear c24
   simp only [Option.some.injEq, Prod.mk.injEq] at H
   obtain ⟨rfl, rfl, rfl⟩ := H
   have p9 : 0 ≤ (a1 : Int) := of_decide_eq_true hA_
   have q9 : a1 < (a0.size : Int) := of_decide_eq_true hA_
   have h0 := bt_at a0 a1
   replace p9 := eq_true p9
   replace q9 := eq_true q9
   have p13 : 0 ≤ ((ji10) : Int) := of_decide_eq_true hA_
   have q13 : (ji10) < (a0.size : Int) := of_decide_eq_true hA_
   have h1 := bt_at a0 (ji10)
   replace p13 := eq_true p13
   replace q13 := eq_true q13
   go_wp2_with (first | (go_at_call 16; (with_reducible refine (frame_Put.calls kj2 (a0.extract ((ji15) : Int).toNat ((wrap64 ((ji15) + (wrap64 ((wrap64 (bt a0 a1)) + (wrap64 (256 * (wrap64 (bt a0 (ji10))))))))) : Int).toNat) t0 t1 _ A19.out).mono ?_); rintro e w2 ⟨rfl, hb⟩; replace HB := a_ (below_step hB_ hb); (try clear hb); (try clear hb2); (try clear hk); (try clear hi)))
   repeat (go_quiet (first | (go_at_call 16; (with_reducible refine (frame_Put.calls kj2 (a0.extract ((ji15) : Int).toNat ((wrap64 ((ji15) + (wrap64 ((wrap64 (bt a0 a1)) + (wrap64 (256 * (wrap64 (bt a0 (ji10))))))))) : Int).toNat) t0 t1 _ A19.out).mono ?_); rintro e w2 ⟨rfl, hb⟩; replace HB := a_ (below_step hB_ hb); (try clear hb); (try clear hb2); (try clear hk); (try clear hi))); try go_wp2_with (first | (go_at_call 16; (with_reducible refine (frame_Put.calls kj2 (a0.extract ((ji15) : Int).toNat ((wrap64 ((ji15) + (wrap64 ((wrap64 (bt a0 a1)) + (wrap64 (256 * (wrap64 (bt a0 (ji10))))))))) : Int).toNat) t0 t1 _ A19.out).mono ?_); rintro e w2 ⟨rfl, hb⟩; replace HB := a_ (below_step hB_ hb); (try clear hb); (try clear hb2); (try clear hk); (try clear hi))))
   go_ret3
   exact ⟨by first | rfl | (simp [errW_none, errW_some] <;> rfl) | (simp only [← hji10, ← hji15]; first | rfl | (simp [errW_none, errW_some] <;> rfl)) | (simp [*, errW_none, errW_some] <;> rfl), hC_⟩
set_option maxHeartbeats 8000000
set_option maxRecDepth 100000
attribute [local go_sem] max2_int min2_int max_two min_two max_three min_three max_four min_four   -- for this text's walks alone
set_option linter.unusedVariables false
set_option linter.unusedSimpArgs false

/-- the frames of a text, from a place on -/
def file_Load.frames : Nat → ByteArray → Int → Option (List (ByteArray × Int))
 | 0, _, _ => none
 | k + 1, t, at_ => (frame_Get.f k t at_).bind fun g => if g.2.2 = 0 then (file_Load.frames k t g.2.1).bind fun r => some ((g.1, g.2.1) :: r) else some []
def file_Load.good (k N : Nat) (x : ByteArray × Int) : Bool := match record_Get.f k x.1 with
 | none => false
 | some n => (List.range N).all fun i => (trail_Next.f k n.1 n.2.1 n.2.2.1 n.2.2.2.1 (i : Int)).isSome
abbrev file_Load.node (n : Int × Int × List ByteArray × ByteArray × Int) : S37 := ⟨n.1, n.2.1, n.2.2.1, n.2.2.2.1⟩
def file_Load.fold (k : Nat) : List (ByteArray × Int) → List S37 → Int → List S37 × Int
 | [], out, at_ => (out, at_)
 | x :: xs, out, at_ => match record_Get.f k x.1 with
  | none => (out, at_)
  | some n => if n.2.2.2.2 = 0 ∧ trail_Next.f k n.1 n.2.1 n.2.2.1 n.2.2.2.1 (out.length : Int) = some true then file_Load.fold k xs (out ++ [file_Load.node n]) x.2 else (out, at_)
def file_Load.f (k : Nat) (s : ByteArray) : Option (List S37 × Int) := (file_Load.frames k (s.extract 0 (min s.size 65536)) 0).bind fun xs => if xs.length ≤ 65536 ∧ xs.all (file_Load.good k xs.length) = true then some (file_Load.fold k xs [] 0) else none
theorem file_Load.mono_l : ∀ k, ∀ y1 y2, LeO (file_Load.frames k y1 y2) (file_Load.frames (k + 1) y1 y2)
 | 0 => fun _ _ r h => by simp [file_Load.frames] at h
 | k + 1 => by
  have ih0 := file_Load.mono_l k
  intro y1 y2
  unfold file_Load.frames
  repeat' first
   | exact frame_Get.mono _ _ _
   | exact ih0 _ _
   | exact LeO.refl _
   | exact LeO.none _
   | refine LeO.ite ?_ ?_
   | refine LeO.bind ?_ (fun _ => ?_)
theorem file_Load.good_spec {k N : Nat} {x : ByteArray × Int} (h : file_Load.good k N x = true) : ∃ n, record_Get.f k x.1 = some n ∧ ∀ i : Nat, i < N → ∃ b, trail_Next.f k n.1 n.2.1 n.2.2.1 n.2.2.2.1 (i : Int) = some b := by
 unfold file_Load.good at h
 cases hn : record_Get.f k x.1 with
 | none => rw [hn] at h; cases h
 | some n =>
  rw [hn] at h
  refine ⟨n, rfl, fun i hi => ?_⟩
  exact Option.isSome_iff_exists.1 (List.all_eq_true.1 h i (List.mem_range.2 hi))
theorem file_Load.good_mono {k N : Nat} {x : ByteArray × Int} (h : file_Load.good k N x = true) : file_Load.good (k + 1) N x = true := by
 obtain ⟨n, h1, h2⟩ := file_Load.good_spec h
 unfold file_Load.good
 rw [record_Get.mono _ _ _ h1]
 refine List.all_eq_true.2 fun i hi => ?_
 obtain ⟨b, hb⟩ := h2 i (List.mem_range.1 hi)
 exact Option.isSome_iff_exists.2 ⟨b, trail_Next.mono _ _ _ _ _ _ _ hb⟩
theorem file_Load.fold_mono {k N : Nat} : ∀ (ys : List (ByteArray × Int)) (out : List S37) (at_ : Int), (∀ y ∈ ys, file_Load.good k N y = true) → out.length + ys.length ≤ N → file_Load.fold (k + 1) ys out at_ = file_Load.fold k ys out at_
 | [], _, _, _, _ => rfl
 | y :: ys, out, at_, h, hl => by
  obtain ⟨n, h1, h2⟩ := file_Load.good_spec (h y List.mem_cons_self)
  rw [List.length_cons] at hl
  obtain ⟨b, hb⟩ := h2 out.length (by omega)
  simp only [file_Load.fold, h1, record_Get.mono _ _ _ h1, hb, trail_Next.mono _ _ _ _ _ _ _ hb]
  by_cases c : n.2.2.2.2 = 0 ∧ some b = some true
  case neg =>
   rw [if_neg c, if_neg c]
  rw [if_pos c, if_pos c]
  exact file_Load.fold_mono ys _ _ (fun z hz => h z (List.mem_cons_of_mem _ hz)) (by rw [List.length_append, List.length_singleton]; omega)
/-- nodes ahead, all taken -/
def file_Load.acc (k : Nat) : List (ByteArray × Int) → List S37 → Int → Option (List S37 × Int)
 | [], out, at_ => some (out, at_)
 | x :: xs, out, at_ => (record_Get.f k x.1).bind fun n => if n.2.2.2.2 = 0 ∧ trail_Next.f k n.1 n.2.1 n.2.2.1 n.2.2.2.1 (out.length : Int) = some true then file_Load.acc k xs (out ++ [file_Load.node n]) x.2 else none
theorem file_Load.acc_cons {k : Nat} {x : ByteArray × Int} {n : Int × Int × List ByteArray × ByteArray × Int} (xs : List (ByteArray × Int)) (o0 : List S37) (a0 : Int) (h1 : record_Get.f k x.1 = some n) (h2 : n.2.2.2.2 = 0 ∧ trail_Next.f k n.1 n.2.1 n.2.2.1 n.2.2.2.1 (o0.length : Int) = some true) : file_Load.acc k (x :: xs) o0 a0 = file_Load.acc k xs (o0 ++ [file_Load.node n]) x.2 := by
 have e : file_Load.acc k (x :: xs) o0 a0 = (record_Get.f k x.1).bind fun n => if n.2.2.2.2 = 0 ∧ trail_Next.f k n.1 n.2.1 n.2.2.1 n.2.2.2.1 (o0.length : Int) = some true then file_Load.acc k xs (o0 ++ [file_Load.node n]) x.2 else none := by rw [file_Load.acc]
 rw [e, h1, Option.bind_some, if_pos h2]
theorem file_Load.acc_nil {k : Nat} {o0 out : List S37} {a0 at_ : Int} (h : file_Load.acc k [] o0 a0 = some (out, at_)) : o0 = out ∧ a0 = at_ := by
 rw [file_Load.acc] at h
 exact Prod.mk.inj (Option.some.inj h)
theorem file_Load.acc_snoc {k : Nat} {x : ByteArray × Int} {n : Int × Int × List ByteArray × ByteArray × Int} (h1 : record_Get.f k x.1 = some n) (h2 : n.2.2.2.2 = 0) (pre : List (ByteArray × Int)) : ∀ (o0 : List S37) (a0 : Int) (out : List S37) (at_ : Int), file_Load.acc k pre o0 a0 = some (out, at_) → trail_Next.f k n.1 n.2.1 n.2.2.1 n.2.2.2.1 (out.length : Int) = some true → file_Load.acc k (pre ++ [x]) o0 a0 = some (out ++ [file_Load.node n], x.2) := by
 induction pre with
 | nil =>
  intro o0 a0 out at_ h h3
  obtain ⟨rfl, rfl⟩ := file_Load.acc_nil h
  rw [List.nil_append, file_Load.acc_cons [] o0 a0 h1 ⟨h2, h3⟩, file_Load.acc]
 | cons y pre ih =>
  intro o0 a0 out at_ h h3
  rw [file_Load.acc] at h
  obtain ⟨m, g1, h⟩ := Option.bind_eq_some_iff.mp h
  by_cases c : m.2.2.2.2 = 0 ∧ trail_Next.f k m.1 m.2.1 m.2.2.1 m.2.2.2.1 (o0.length : Int) = some true
  case neg =>
   rw [if_neg c] at h; cases h
  rw [if_pos c] at h
  rw [List.cons_append, file_Load.acc_cons _ o0 a0 g1 c]
  exact ih _ _ out at_ h h3
theorem file_Load.acc_len {k : Nat} : ∀ (pre : List (ByteArray × Int)) (o0 : List S37) (a0 : Int) (out : List S37) (at_ : Int), file_Load.acc k pre o0 a0 = some (out, at_) → out.length = o0.length + pre.length
 | [], o0, a0, out, at_, h => by
  obtain ⟨rfl, rfl⟩ := Prod.mk.inj (Option.some.inj h)
  rfl
 | y :: pre, o0, a0, out, at_, h => by
  rw [file_Load.acc] at h
  obtain ⟨m, g1, h⟩ := Option.bind_eq_some_iff.mp h
  by_cases c : m.2.2.2.2 = 0 ∧ trail_Next.f k m.1 m.2.1 m.2.2.1 m.2.2.2.1 (o0.length : Int) = some true
  case neg =>
   rw [if_neg c] at h; cases h
  rw [if_pos c] at h
  have := file_Load.acc_len pre _ _ out at_ h
  rw [this, List.length_append, List.length_singleton, List.length_cons]; omega
theorem file_Load.fold_acc {k : Nat} {rest : List (ByteArray × Int)} : ∀ (pre : List (ByteArray × Int)) (o0 : List S37) (a0 : Int) (out : List S37) (at_ : Int), file_Load.acc k pre o0 a0 = some (out, at_) → file_Load.fold k (pre ++ rest) o0 a0 = file_Load.fold k rest out at_
 | [], o0, a0, out, at_, h => by
  obtain ⟨rfl, rfl⟩ := Prod.mk.inj (Option.some.inj h)
  rfl
 | y :: pre, o0, a0, out, at_, h => by
  rw [file_Load.acc] at h
  obtain ⟨m, g1, h⟩ := Option.bind_eq_some_iff.mp h
  by_cases c : m.2.2.2.2 = 0 ∧ trail_Next.f k m.1 m.2.1 m.2.2.1 m.2.2.2.1 (o0.length : Int) = some true
  case neg =>
   rw [if_neg c] at h; cases h
  rw [if_pos c] at h
  rw [List.cons_append, file_Load.fold, g1]
  simp only
  rw [if_pos c]
  exact file_Load.fold_acc pre _ _ out at_ h
theorem file_Load.frames_next {k : Nat} {t : ByteArray} {x : Int} {rest : List (ByteArray × Int)} (h : file_Load.frames k t x = some rest) : ∃ g, frame_Get.f k t x = some g ∧ ((g.2.2 = 0 ∧ ∃ r, rest = (g.1, g.2.1) :: r ∧ file_Load.frames k t g.2.1 = some r) ∨ (g.2.2 ≠ 0 ∧ rest = [])) := by
 cases k with
 | zero => simp [file_Load.frames] at h
 | succ k =>
  rw [file_Load.frames] at h
  obtain ⟨g, h1, h⟩ := Option.bind_eq_some_iff.mp h
  refine ⟨g, frame_Get.mono _ _ _ _ h1, ?_⟩
  by_cases c : g.2.2 = 0
  case neg =>
   rw [if_neg c] at h
   exact .inr ⟨c, (Option.some.inj h).symm⟩
  rw [if_pos c] at h
  obtain ⟨r, h2, h⟩ := Option.bind_eq_some_iff.mp h
  exact .inl ⟨c, r, (Option.some.inj h).symm, file_Load.mono_l k _ _ _ h2⟩
abbrev FrX (xs : List (ByteArray × Int)) := {x : ByteArray × Int // x ∈ xs}
def FrX.enc {xs : List (ByteArray × Int)} (x : FrX xs) : Array Value := #[.string x.1.1, .int .i64 x.1.2]
def KBn (Bn : Nat) (A B : World) : Prop := B.heap[Bn]? = A.heap[Bn]? ∧ A.heap.size ≤ B.heap.size
theorem grown_below {W W' : World} (h : Below W.heap.size W W') : W.grownBy W' none := ⟨h.os, h.tape, h.output, h.size, fun k hk _ => h.block k hk⟩
section
attribute [local go_sem] Oper.semAt_some
theorem records_1.in_ (n : Nat) (hn : 1 ≤ n) (l Bn k : Nat) (t : ByteArray) (xs : List (ByteArray × Int)) (hfr : file_Load.frames k t 0 = some xs) (J Jx : List (FrX xs) → World → Prop)
 (W : World) (hbn : Bn < W.heap.size) (hBn : W.cell? ⟨Bn, 0, none⟩ = some (.string t)) (hJ : AbidesFrom W.heap.size J) (h0 : J [] W)
 (hY : ∀ pre x W1, J pre W1 → pre.length < xs.length → YieldAt Fence.wide (n - 1) Tryd.prog l (FrX.enc x) W1 fun e W' => (e = .returned (.bool true) ∧ J (pre ++ [x]) W' ∧ KBn Bn W1 W') ∨ (e = .returned (.bool false) ∧ Jx (pre ++ [x]) W')) :
 CallsIn Fence.wide n Tryd.prog 31 #[.func (.yield l) #[] #[], .pointer (some ⟨Bn, 0, none⟩)] W fun e W' => (∃ v, e = .returned v) ∧
  ((∃ ys : List (FrX xs), ys.map (·.1) = xs ∧ J ys W') ∨ (∃ pre : List (FrX xs), pre.map (·.1) <+: xs ∧ Jx pre W')) := by
 refine callsIn_of_wp Tryd.func31 rfl trivial ?_ rfl
 simp only [Tryd.ntmps31, List.size_toArray, List.length_cons, List.length_nil, Nat.reduceAdd, Nat.reduceSub, Array.replicate_succ, Array.replicate_zero, List.push_toArray, List.append_toArray, List.nil_append, List.cons_append]
 gi_wp2
 gi_loopw [3] (fun v wr => ∃ (x : Int) (rest : List (ByteArray × Int)) (pre : List (FrX xs)), v = .int .i64 x ∧ Aside0 (file_Load.frames k t x = some rest) ∧ Aside0 (pre.map (·.1) ++ rest = xs) ∧ Aside0 (J pre wr ∧ KBn Bn W wr))
  (fun v _ => ((file_Load.frames k t (intOf v)).getD []).length)
 case atStart => exact ⟨0, xs, [], rfl, ⟨hfr⟩, ⟨rfl⟩, ⟨h0, rfl, Nat.le_refl _⟩⟩
 case round =>
  have ff1 : Fence.wide.fn 32 := trivial
  obtain ⟨x, rest, pre, rfl, HF, HP, HJ⟩ := hrel
  obtain ⟨⟨g1, g2, g3⟩, G1_, hgr⟩ := file_Load.frames_next HF.out
  have hcn : wr.cell? ⟨Bn, 0, none⟩ = some (.string t) := (World.cell?_of_block (a := ⟨Bn, 0, none⟩) HJ.out.2.1).trans hBn
  have G1 := a_ G1_
  have HN := a_ (Nat.lt_of_lt_of_le hbn HJ.out.2.2)
  have HJJ := a_ hJ
  have HYY := a_ hY
  have HFR := a_ hfr
  have HB0 := a_ hBn
  clear G1_ hY hJ h0 hfr hBn hbn
  rcases hgr with ⟨c3, r, hr1, hr2⟩ | ⟨c3, hr1⟩
  · simp only at c3 hr1 hr2
    subst c3
    have HR := a_ (And.intro hr1 hr2)
    clear hr1 hr2
    gi_wp2_with (first
     | (gi_at_call 32; refine ((callsIn_wide (n := n - 1)).2 (frame_Get.calls k t x g1 g2 0 _ G1.out)).mono ?_; rintro e W2 ⟨rfl, hb⟩; have HB2 := a_ hb; have HJ2 := a_ (HJJ.out pre wr W2 none HJ.out.1 (grown_below hb) (fun r e => by cases e)); clear hb hcn; obtain ⟨fn, tmps, assign, body, hy, hR⟩ := HYY.out pre ⟨(g1, g2), by rw [← HP.out, HR.out.1]; exact List.mem_append_right _ List.mem_cons_self⟩ W2 HJ2.out (by have h1 := congrArg List.length HP.out; rw [List.length_append, List.length_map, HR.out.1, List.length_cons] at h1; omega); simp only [FrX.enc] at hy; have HYR := a_ hR; clear hR))
    refine HYR.out.mono ?_
    rintro e W3 (⟨rfl, h1, h2⟩ | ⟨rfl, h1⟩)
    · have HQ := a_ (And.intro h1 h2)
      clear h1 h2
      gi_wp2
      refine ⟨⟨g2, r, _, rfl, ⟨HR.out.2⟩, ⟨?_⟩, ⟨HQ.out.1, (HQ.out.2.1.trans (HB2.out.block Bn HN.out)).trans HJ.out.2.1, Nat.le_trans HJ.out.2.2 (Nat.le_trans HB2.out.size HQ.out.2.2)⟩⟩, ?_⟩
      · have e_ := HP.out
        rw [HR.out.1] at e_
        rw [List.map_append, List.append_assoc]
        exact e_
      · simp only [intOf, HF.out, HR.out.1, HR.out.2, Option.getD_some, List.length_cons]
        omega
    · have HQ := a_ h1
      clear h1
      gi_wp2
      refine bodyPost_ret (results_none rfl _ _ _) rfl ?_
      refine ⟨⟨_, rfl⟩, .inr ⟨_, ?_, HQ.out⟩⟩
      have e_ := HP.out
      rw [HR.out.1] at e_
      rw [List.map_append]
      exact ⟨r, by rw [List.append_assoc]; exact e_⟩
  · simp only at c3 hr1
    subst hr1
    have c3a : (g3 == 0) = false := beq_eq_false_iff_ne.2 c3
    have c3b : (g3 != 0) = true := bne_iff_ne.2 c3
    clear c3
    gi_wp2_with (first
     | (gi_at_call 32; refine ((callsIn_wide (n := n - 1)).2 (frame_Get.calls k t x g1 g2 g3 _ G1.out)).mono ?_; rintro e W2 ⟨rfl, hb⟩; have HJ2 := a_ (HJJ.out pre wr W2 none HJ.out.1 (grown_below hb) (fun r e => by cases e)); clear hb hcn))
    refine ⟨fun f_ h_ => (by cases h_), ?_⟩
    gi_wp2
    refine bodyPost_ret (results_none rfl _ _ _) rfl ?_
    exact ⟨⟨_, rfl⟩, .inl ⟨pre, by have e_ := HP.out; rw [List.append_nil] at e_; exact e_, HJ2.out⟩⟩
theorem records.in_ (n : Nat) (hn : 1 ≤ n) (t : ByteArray) (w : World) :
 CallsIn Fence.wide n Tryd.prog 20 #[.string t] w fun e w' => e = .returned (.func (.func 31) #[] #[.pointer (some ⟨w.heap.size, 0, none⟩)]) ∧ w' = w.alloc (.cells #[.string t] 9) := by
 refine callsIn_of_wp Tryd.func20 rfl trivial ?_ rfl
 simp only [Tryd.ntmps20, List.size_toArray, List.length_cons, List.length_nil, Nat.reduceAdd, Nat.reduceSub, Array.replicate_succ, Array.replicate_zero, List.push_toArray, List.append_toArray, List.nil_append, List.cons_append]
 gi_wp2
 go_ret
 exact ⟨rfl, rfl⟩
theorem records.stops (n : Nat) (hn : 1 ≤ n) (k : Nat) (t : ByteArray) (xs : List (ByteArray × Int)) (hfr : file_Load.frames k t 0 = some xs) (w7 : World) (Bn : Nat) (hbn : Bn < w7.heap.size) (hBn : w7.cell? ⟨Bn, 0, none⟩ = some (.string t)) :
 SeqStopsK Fence.wide n Tryd.prog 31 #[.pointer (some ⟨Bn, 0, none⟩)] (FrX.enc (xs := xs)) (KBn Bn) (fun ys => ys.map (·.1) = xs) (fun pre => pre.map (·.1) <+: xs) xs.length w7 := fun l J Jx W hW hJ hJx hY h0 =>
 records_1.in_ n hn l Bn k t xs hfr J Jx W (Nat.lt_of_lt_of_le hbn hW.size) ((hW.cell (p := ⟨Bn, 0, none⟩) (by show Bn < w7.heap.size; omega)).trans hBn) hJ h0 hY
theorem S_nocell {α : Type} {d : Kd α} {e base : Nat} {ok : Nat → Prop} {W W' : World} {v : Value} {xs : List α} {row : Option Nat} (h : Kd.S d e W base ok v xs) (hg : W.grownBy W' row) (hrow : ∀ r, row = some r → ∃ o : Obj, W.heap[r]? = some o ∧ o.isCells = false) : Kd.S d e W' base ok v xs :=
 Kd.S_mono (Kd.S_step (Kd.S_bound h) (fun k hk hlt => hg.block k hlt (fun e_ => by
  obtain ⟨o, ho, hc⟩ := hrow k e_.symm
  obtain ⟨_, _, _, q, _, cells, hcell⟩ := hk
  rw [hcell] at ho
  cases ho
  cases hc))) (fun _ h_ => h_.1)
theorem S_append_in {F : Fence} {n : Nat} {P : Program} {ops : Array Oper} {rest : List Oper} {o : Oper} {a : Act} {Q : Exit → Act → World → Prop} {α : Type} {W : World} (d : Kd α) (base : Nat) (hgd : o.guard = none) (s x : Operand) (t e : TypeId) (z : Value) (bytes : Nat)
 (ho : o.op = .call { callee := .builtin .append, args := #[s, x], argTypes := #[t, t] })
 (ht : P.underlying t = some (.slice e)) (hinfo : (P.info? e).map (fun i => (i.zero, i.size, i.bytes)) = some (some z, d.sz, bytes)) (hz : z.cells.size = d.sz) (hs0 : 0 < d.sz) (hb0 : 0 < bytes)
 (v : Value) (xs : List α) (p : α) (cs : List Value) (ok okp : Nat → Prop) (hs : a.eval s = v) (hx : a.eval x = .slice (some ⟨W.heap.size, 0, none⟩) 1 1) (hp : d.M W base okp p cs) (hokp : ∀ k, okp k → ok k ∧ some k ≠ v.ownBlock) (hfresh : ∀ k, W.heap.size ≤ k → ok k)
 (HO : Kd.S d e W base (fun k => ok k ∧ ¬ okp k) v xs) (hbase : base ≤ W.heap.size) (hl : (xs.length + 1) * bytes ≤ 140737488355328)
 (h : ∀ v1 w1, Kd.S d e w1 base ok v1 (xs ++ [p]) → W.grownBy w1 v.ownBlock → (v1.ownBlock = v.ownBlock ∨ ∃ b, v1.ownBlock = some b ∧ W.heap.size ≤ b) → wpListIn F n P ops Q rest (a.put o.dst v1) w1) :
 wpListIn F n P ops Q (o :: rest) a (W.alloc (.cells cs.toArray e)) := by
 obtain ⟨f, hf, hR⟩ := Kd.S_tag HO xs.length okp (fun _ hk h2 => h2.2 hk)
 obtain ⟨h0, inner, hown, hr⟩ := Kd.R_mono hR (ok' := ok) (fun _ hk => hk.1)
 obtain ⟨i0, hi, hzz⟩ := Option.map_eq_some_iff.1 hinfo
 obtain ⟨hz0, hz12⟩ := Prod.mk.inj hzz
 obtain ⟨hz1, hz2⟩ := Prod.mk.inj hz12
 have hys := d.K_len (d.K_of_M hp)
 have hone := d.K_one (d.K_of_M hp)
 have hlen : xs.length + 1 ≤ 140737488355328 := Nat.le_trans (Nat.le_mul_of_pos_right _ hb0) hl
 refine wpListIn_plain hgd fun K hK => ?_
 obtain ⟨v1, w1, hrun, r1, r2, _, r4⟩ := run_append_own_at (P := P) (w := W.alloc (.cells cs.toArray e)) base t o.type e i0 z d.sz bytes ht hi hz0 hz1 hz2 hz hs0 v xs.zipIdx.length inner (hown.alloc _) ⟨W.heap.size, 0, none⟩ 1 1 cs (by rw [hys]; simp)
  (by simpa using World.news_of_block (cs := cs.toArray) (t := e) (fr := (0, 0)) (heap_alloc_new W (.cells cs.toArray e))) hone (by rw [List.length_zipIdx]; simp only [maxLen]; omega) (by rw [List.length_zipIdx]; exact hl) (by simp; omega)
 have hg : W.grownBy w1 v.ownBlock := World.grownBy.trans (World.grownBy_alloc W _ _) r2
 have hat : v1.ownBlock = v.ownBlock ∨ ∃ b, v1.ownBlock = some b ∧ W.heap.size ≤ b := r4.imp id (fun h_ => ⟨_, h_, by simp⟩)
 have hfin := Kd.R_appended h0 hr (show (Kd.tag f d).M W base okp (p, xs.length) cs from d.M_mono (fun k hk => ⟨hk, hf k hk⟩) hp) hokp hfresh r1 hg hat
 rw [← Kd.zip_snoc] at hfin
 unfold Oper.wpIn
 refine ⟨?_, ?_⟩
 · simp [Oper.about, ho, resolve, Target.leads, Sem.run_pure]
 · rw [Oper.semAt_plain F _ _ (by rw [ho]; intro c hc'; cases hc')]
   simp [execOp, ho, resolve, invoke, builtin, hs, hx, hrun, Result.andThen]
   exact hK _ _ (h v1 w1 ⟨f, hfin⟩ hg hat)
def file_Load.T9 : Bool × List (List Nat × List Nat) := (true, [([], []), ([], []), ([0, 0], [0]), ([1, 2, 0, 1, 2], [1])])
def file_Load.B9 : List Nat := [0, 0, 1, 2]
theorem file_Load.tab9 : rtab .any (opsOf Tryd.f10 9) = file_Load.T9 := by kernel_rfl
theorem file_Load.bits9 : waitsOk file_Load.T9.2 file_Load.B9 = true := by kernel_rfl
/-- between two rounds -/
def LoadI (k : Nat) (w : World) (T : ByteArray) (pre : List (ByteArray × Int)) (W : World) : Prop :=
 ∃ v out at_, file_Load.acc k pre [] 0 = some (out, at_) ∧ Boxed W w.heap.size 22 v ∧ Boxed W (w.heap.size + 1) 3 (.int .i64 at_) ∧ Boxed W (w.heap.size + 1 + 1) 9 (.string T) ∧ Kd.S k37 37 W w.heap.size (fun _ => True) v out ∧ Below w.heap.size w W
theorem LoadI.own {β : Type} {k : Nat} {w : World} {T : ByteArray} (f : β → List (ByteArray × Int)) {B : Nat} (hB : w.heap.size ≤ B) : OwnFrom B (fun s W => LoadI k w T (f s) W) := fun s X Y row hs hg hr => by
 obtain ⟨v, out, at_, h1, h2, h3, h4, h5, h6⟩ := hs
 have own : ∀ (b : Nat) (t : TypeId) (u : Value), Boxed X b t u → Boxed Y b t u := fun b t u h => (Own.from (boxed_own (β := Unit) b t (fun _ => u)) B) () X Y row h hg hr
 exact ⟨v, out, at_, h1, own _ _ _ h2, own _ _ _ h3, own _ _ _ h4, S_nocell h5 hg (fun r e => (hr r e).2), h6.grown hg h6.size (fun r e => Nat.le_trans hB (hr r e).1)⟩
theorem LoadI.below {k : Nat} {w W W' : World} {T : ByteArray} {pre : List (ByteArray × Int)} (h : LoadI k w T pre W) (hb : Below W.heap.size W W') : LoadI k w T pre W' := by
 obtain ⟨v, out, at_, h1, h2, h3, h4, h5, h6⟩ := h
 exact ⟨v, out, at_, h1, (hb.block _ h2.lt).trans h2, (hb.block _ h3.lt).trans h3, (hb.block _ h4.lt).trans h4, Kd.S_below h5 hb, below_step h6 hb⟩
theorem bx_three {w : World} {a b c : Value} {s t u : TypeId} :
 Boxed (((w.alloc (.cells #[a] s)).alloc (.cells #[b] t)).alloc (.cells #[c] u)) w.heap.size s a ∧ Boxed (((w.alloc (.cells #[a] s)).alloc (.cells #[b] t)).alloc (.cells #[c] u)) (w.heap.size + 1) t b ∧ Boxed (((w.alloc (.cells #[a] s)).alloc (.cells #[b] t)).alloc (.cells #[c] u)) (w.heap.size + 1 + 1) u c ∧ Below w.heap.size w (((w.alloc (.cells #[a] s)).alloc (.cells #[b] t)).alloc (.cells #[c] u)) ∧ (((w.alloc (.cells #[a] s)).alloc (.cells #[b] t)).alloc (.cells #[c] u)).heap.size = w.heap.size + 3 := by
 have h1 := ((Boxed.new w s a).alloc (.cells #[b] t)).alloc (.cells #[c] u)
 have h2 := (Boxed.new (w.alloc (.cells #[a] s)) t b).alloc (.cells #[c] u)
 have h3 := Boxed.new ((w.alloc (.cells #[a] s)).alloc (.cells #[b] t)) u c
 simp only [World.size_alloc] at h2 h3
 exact ⟨h1, h2, h3, (((Below.refl _ w).alloc (Nat.le_refl _) _).alloc (by simp) _).alloc (by simp; omega) _, by simp only [World.size_alloc]⟩
theorem keeps_below {B : Nat} {W W' : World} (h : Below W.heap.size W W') : KeepsFrom B W W' := KeepsFrom.of_grownBy (grown_below h) (fun j e => by cases e)
end
theorem file_Load.inW (k : Nat) (s : ByteArray) (xs : List (ByteArray × Int)) (w : World) (hfr : file_Load.frames k (s.extract 0 (min s.size 65536)) 0 = some xs) (hl : xs.length ≤ 65536) (hg : xs.all (file_Load.good k xs.length) = true) (hG : GOK w) :
 CallsIn Fence.wide 4 Tryd.prog 10 #[.string s] w fun e w' => ∃ v0_ : Value, e = .returned (.tuple #[v0_, .int .i64 (file_Load.fold k xs [] 0).2]) ∧ Kd.S k37 37 w' w.heap.size (fun _ => True) v0_ (file_Load.fold k xs [] 0).1 ∧ Below w.heap.size w w' := by
 have HF := a_ hfr
 have HL := a_ (And.intro hl hg)
 clear hfr hl hg
 refine callsIn_of_wp_marks Tryd.func10 rfl trivial ?_ rfl
 simp only [Tryd.ntmps10, List.size_toArray, List.length_cons, List.length_nil, Nat.reduceAdd, Nat.reduceSub, Array.replicate_succ, Array.replicate_zero, List.push_toArray, List.append_toArray, List.nil_append, List.cons_append]
 have ff1 : Fence.wide.fn 20 := trivial
 have ff2 : Fence.wide.fn 21 := trivial
 have ff3 : Fence.wide.fn 22 := trivial
 gi_wp2_with (first
  | (gi_at_call 20; refine (records.in_ _ (by omega) _ _).mono ?_; rintro e w7 ⟨rfl, rfl⟩))
 case inl =>
  have HF' := a_ (show file_Load.frames k (s.extract 0 65536) 0 = some xs from by have e_ := HF.out; rw [show min s.size 65536 = 65536 from by omega] at e_; exact e_)
  obtain ⟨bx0, bx1, bx2, hB0, hs0⟩ := bx_three (w := w) (a := .slice none 0 0) (b := .int .i64 0) (c := .string (s.extract 0 65536)) (s := 22) (t := 3) (u := 9)
  obtain ⟨W0, hW0⟩ : ∃ W0, ((w.alloc (.cells #[.slice none 0 0] 22)).alloc (.cells #[.int .i64 0] 3)).alloc (.cells #[.string (s.extract 0 65536)] 9) = W0 := ⟨_, rfl⟩
  rw [hW0] at bx0 bx1 bx2 hB0 hs0
  rw [hW0]
  clear hW0
  refine wpIn_rangeFunc_ownH (n := 4) rfl (by omega) (gf := 31) (lb := #[.pointer (some ⟨w.heap.size + 1 + 1, 0, none⟩)]) rfl trivial (enters_of Tryd.func31 (by kernel_rfl) rfl)
   (records.stops (4 - 1) (by omega) k (s.extract 0 65536) xs HF'.out W0 (w.heap.size + 1 + 1) (by omega) bx2.cell) (fun h1_ h2_ => ⟨h2_.1.trans h1_.1, Nat.le_trans h1_.2 h2_.2⟩) (fun W l o o' hl_ ho_ hc_ _ => ⟨World.putObj_heap_other (by omega), by simp [World.putObj]⟩) (Below.refl _ _) (fun _ => rfl)
   (fun pre W => LoadI k w (s.extract 0 65536) (pre.map (·.1)) W)
   (fun c pre W => c = .exit 0 ∧ ∃ (q : List (FrX xs)) (x : FrX xs) (n : Int × Int × List ByteArray × ByteArray × Int), pre = q ++ [x] ∧ record_Get.f k x.1.1 = some n ∧ ¬ (n.2.2.2.2 = 0 ∧ trail_Next.f k n.1 n.2.1 n.2.2.1 n.2.2.2.1 (q.length : Int) = some true) ∧ LoadI k w (s.extract 0 65536) (q.map (·.1)) W)
   (LoadI.own _ hB0.size)
   (fun c s_ A B row hs hg hr => by
    obtain ⟨h1, q, x, n, h2, h3, h4, h5⟩ := hs
    exact ⟨h1, q, x, n, h2, h3, h4, LoadI.own (β := Unit) (fun _ => q.map (·.1)) hB0.size () A B row h5 hg hr⟩)
   ⟨.slice none 0 0, [], 0, rfl, bx0, bx1, bx2, ⟨fun _ => 0, Kd.R_nil _ _ _ _ _⟩, hB0⟩
   (fun x a' W => a' = { tmps := #[.string s, undef, .slice none 0 0, .int .i64 0, .pointer (some ⟨w.heap.size, 0, none⟩), .pointer (some ⟨w.heap.size + 1, 0, none⟩), .string x.1.1, .int .i64 x.1.2, undef, undef, .string s, .string s, .int .i64 s.size, .int .i64 65536, .string (s.extract 0 65536), .func (.func 31) #[] #[.pointer (some ⟨w.heap.size + 1 + 1, 0, none⟩)], .string x.1.1, .int .i64 x.1.2, undef, undef, undef, undef, undef, undef, undef, undef, undef, undef, undef, undef, undef, undef, undef, undef, undef, undef, undef, undef], defers := [] })
   (fun x a' _ X Y row hs hg hr => hs)
   ?assign ?body ?done ?stop
  case assign =>
   rintro l pre x W K hI hK
   simp only [FrX.enc]
   gi_wp2_with (rw [Oper.semAt_eq _ _ _ (fun c h => by cases h)]; go_simp; try go_bits)
   exact hK _ _ (KeepsFrom.refl _ _) ⟨rfl, Nat.le_refl _⟩ hI rfl
  case body =>
   rintro l pre ⟨⟨x1, x2⟩, hx⟩ a' W hl ⟨r, hr⟩ hI rfl hlt
   dsimp only
   have HI := a_ hI
   obtain ⟨⟨n0, n1, n2, n3, n4⟩, hn_, hnx⟩ := file_Load.good_spec (List.all_eq_true.1 HL.out.2 _ hx)
   obtain ⟨v, out, at_, ha, b4, b5, bN, hS, hbw⟩ := hI
   have hol : out.length = pre.length := by have := file_Load.acc_len _ _ _ _ _ ha; simpa using this
   obtain ⟨b, hb_⟩ := hnx out.length (by omega)
   simp only at hn_ hb_
   have HN := a_ hn_
   have HX := a_ hb_
   have HBw := a_ hbw
   have HA := a_ (And.intro ha (And.intro hol hlt))
   have HS := a_ (And.intro hS (And.intro b4 (And.intro b5 bN)))
   clear hnx hb_ hn_ hbw ha hol hlt hS b4 b5 bN hl hr
   by_cases c4 : n4 = 0
   case neg =>
    have c4a : (n4 == 0) = false := beq_eq_false_iff_ne.2 c4
    have c4b : (n4 != 0) = true := bne_iff_ne.2 c4
    have C4 := a_ c4
    clear c4
    gi_wp2_with (first
     | (gi_at_call 21; refine ((callsIn_wide).2 (record_Get.calls k x1 n0 n1 n2 n3 n4 _ HN.out (GOK.below hG HBw.out))).mono ?_; rintro e w5 ⟨v2, rfl, hr0, hb5⟩; obtain ⟨A2, c2, rfl⟩ := Kd.R_slice hr0; have HB5 := a_ hb5; clear hr0 hb5)
     | (rw [Oper.semAt_eq _ _ _ (fun c h => by cases h)]; go_simp; try go_bits))
    have hq : Below W.heap.size W (w5.alloc (.cells #[.int .i64 n0, .int .i64 n1, .slice A2 n2.length c2, .string n3] 37)) := HB5.out.alloc HB5.out.size _
    exact ⟨keeps_below hq, rfl, pre, ⟨(x1, x2), hx⟩, (n0, n1, n2, n3, n4), rfl, HN.out, fun h_ => C4.out h_.1, LoadI.below HI.out hq⟩
   case pos =>
    subst c4
    obtain ⟨Av, cv, rfl⟩ := Kd.S_slice HS.out.1
    cases b with
    | false =>
     gi_wp2_with (first
      | (gi_at_call 21; refine ((callsIn_wide).2 (record_Get.calls k x1 n0 n1 n2 n3 0 _ HN.out (GOK.below hG HBw.out))).mono ?_; rintro e w5 ⟨v2, rfl, hr0, hb5⟩; obtain ⟨A2, c2, rfl⟩ := Kd.R_slice hr0; have HB5 := a_ hb5; have HR5 := a_ hr0; have HB6 := a_ (show Below W.heap.size W (w5.alloc (.cells #[.int .i64 n0, .int .i64 n1, .slice A2 n2.length c2, .string n3] 37)) from hb5.alloc hb5.size _); have C8 := a_ (bx4_ (World.alloc_heap_new w5 (.cells #[.int .i64 n0, .int .i64 n1, .slice A2 n2.length c2, .string n3] 37))); have c4_ := Boxed.cell ((HB6.out.block _ HS.out.2.1.lt).trans HS.out.2.1); clear hr0 hb5)
      | (gi_at_call 22; refine ((callsIn_wide).2 (trail_Next.calls k ⟨w5.heap.size, 0, none⟩ n0 n1 A2 c2 n2 n3 (out.length : Int) false _ C8.out.1 C8.out.2.1 C8.out.2.2.1 C8.out.2.2.2.1 (Kd.C_below (Kd.R_reads' HR5.out).2.2 ((Below.refl _ _).alloc (Nat.le_refl _) _)) (Kd.R_reads' HR5.out).2.1 HX.out (GOK.below hG (below_step HBw.out HB6.out)))).mono ?_; rintro e w7 ⟨rfl, hb7⟩; have HB7 := a_ (below_step HB6.out hb7); clear hb7 c4_)
      | (rw [Oper.semAt_eq _ _ _ (fun c h => by cases h)]; go_simp; try go_bits))
     exact ⟨keeps_below HB7.out, rfl, pre, ⟨(x1, x2), hx⟩, (n0, n1, n2, n3, 0), rfl, HN.out, (fun h_ => by have h2_ := h_.2; rw [← HA.out.2.1] at h2_; simp only at h2_; rw [HX.out] at h2_; cases h2_), LoadI.below HI.out HB7.out⟩
    | true =>
     gi_wp2_with (first
      | (gi_at_call 21; refine ((callsIn_wide).2 (record_Get.calls k x1 n0 n1 n2 n3 0 _ HN.out (GOK.below hG HBw.out))).mono ?_; rintro e w5 ⟨v2, rfl, hr0, hb5⟩; obtain ⟨A2, c2, rfl⟩ := Kd.R_slice hr0; have HB5 := a_ hb5; have HR5 := a_ hr0; have HB6 := a_ (show Below W.heap.size W (w5.alloc (.cells #[.int .i64 n0, .int .i64 n1, .slice A2 n2.length c2, .string n3] 37)) from hb5.alloc hb5.size _); have C8 := a_ (bx4_ (World.alloc_heap_new w5 (.cells #[.int .i64 n0, .int .i64 n1, .slice A2 n2.length c2, .string n3] 37))); have c4_ := Boxed.cell ((HB6.out.block _ HS.out.2.1.lt).trans HS.out.2.1); clear hr0 hb5)
      | (gi_at_call 22; refine ((callsIn_wide).2 (trail_Next.calls k ⟨w5.heap.size, 0, none⟩ n0 n1 A2 c2 n2 n3 (out.length : Int) true _ C8.out.1 C8.out.2.1 C8.out.2.2.1 C8.out.2.2.2.1 (Kd.C_below (Kd.R_reads' HR5.out).2.2 ((Below.refl _ _).alloc (Nat.le_refl _) _)) (Kd.R_reads' HR5.out).2.1 HX.out (GOK.below hG (below_step HBw.out HB6.out)))).mono ?_; rintro e w7 ⟨rfl, hb7⟩; have HB7 := a_ (below_step HB6.out hb7); have hbk7 := (hb7.block _ (by simp)).trans (World.alloc_heap_new w5 (.cells #[.int .i64 n0, .int .i64 n1, .slice A2 n2.length c2, .string n3] 37)); obtain ⟨c80, c81, c82, c83, _, _, _, _⟩ := bx4_ hbk7; obtain ⟨vo, hvo⟩ : ∃ vo, vo = Value.slice Av out.length cv := ⟨_, rfl⟩; have HVO := a_ hvo; have B47 := a_ (show Boxed w7 w.heap.size 22 vo from (by rw [hvo]; exact (HB7.out.block _ HS.out.2.1.lt).trans HS.out.2.1)); have B57 := a_ (show Boxed w7 (w.heap.size + 1) 3 _ from (HB7.out.block _ HS.out.2.2.1.lt).trans HS.out.2.2.1); have BN7 := a_ (show Boxed w7 (w.heap.size + 1 + 1) 9 _ from (HB7.out.block _ HS.out.2.2.2.lt).trans HS.out.2.2.2); clear c4_; have c4_ := B47.out.cell; have HR7 := a_ (Kd.R_lower (Kd.R_below (Kd.R_below (Kd.R_mono (ok' := fun k_ => W.heap.size ≤ k_) (Kd.R_bound HR5.out) (fun _ hk_ => hk_.2.1)) ((Below.refl _ _).alloc (Nat.le_refl _) _)) hb7) HBw.out.size); have HS7_ := Kd.S_below (Kd.S_bound HS.out.1) HB7.out; rw [← hvo] at HS7_; have HS7 := a_ (Kd.S_mono (ok' := fun k_ => True ∧ ¬ W.heap.size ≤ k_) HS7_ (fun k_ hk_ => ⟨trivial, Nat.not_le.2 hk_.2.2.1⟩)); clear HS7_; clear hb7 hbk7 hvo)
      | (gi_at_builtin; refine S_append_in k37 w.heap.size rfl (.tmp 31) (.tmp 33) 22 37 (.agg #[(.int .i64 0), (.int .i64 0), (.slice none 0 0), (.string ⟨#[]⟩)]) 56 rfl Tryd.underlying22 (by kernel_rfl) rfl (by decide) (by decide) vo out (file_Load.node (n0, n1, n2, n3, 0)) [.int .i64 n0, .int .i64 n1, .slice A2 n2.length c2, .string n3] (fun _ => True) (fun k_ => W.heap.size ≤ k_) rfl rfl (k37_mkM _ _ _ (file_Load.node (n0, n1, n2, n3, 0)) HR7.out) (fun k_ hk_ => ⟨trivial, fun e_ => absurd (Kd.R_lt (Kd.S_R HS.out.1) k_ (by rw [← HVO.out]; exact e_.symm)) (Nat.not_lt.2 hk_)⟩) (fun _ _ => trivial) HS7.out (below_step HBw.out HB7.out).size (by have := HA.out.2.1; have := HA.out.2.2; have := HL.out.1; omega) ?_; intro v8 w8 hs8 hg8 hat8; obtain ⟨A8, c8, e8⟩ := Kd.S_slice hs8; rw [List.length_append, List.length_singleton] at e8; subst e8; obtain ⟨inn, hoo⟩ := Kd.S_own HS7.out; have b48 : Boxed w8 w.heap.size 22 vo := (hg8.block _ B47.out.lt (own_ne hoo B47.out (by decide))).trans B47.out; have b58 : Boxed w8 (w.heap.size + 1) 3 (.int .i64 at_) := (hg8.block _ B57.out.lt (own_ne hoo B57.out (by decide))).trans B57.out; have bN8 : Boxed w8 (w.heap.size + 1 + 1) 9 (.string (s.extract 0 65536)) := (hg8.block _ BN7.out.lt (own_ne hoo BN7.out (by decide))).trans BN7.out; have c48 := b48.cell; have f48 := b48.frozen; have b59 := b58.other (B' := w.heap.size) (by omega) (.slice A8 (out.length + 1) c8); have c58 := b59.cell; have f58 := b59.frozen; have HQ8 := a_ (And.intro hs8 (And.intro hg8 (And.intro hoo (And.intro b48 (And.intro b58 bN8))))); clear hs8 hg8 hoo b48 b58 bN8 b59 hat8)
      | (rw [Oper.semAt_eq _ _ _ (fun c h => by cases h)]; go_simp; try go_bits))
     obtain ⟨hs8, hg8, hoo, b48, b58, bN8⟩ := HQ8.out
     have hBe7 := below_step HBw.out HB7.out
     have hB8 : Below w.heap.size w w8 := hBe7.grown hg8 hBe7.size (fun r e => own_base hoo r e)
     have kp8 : KeepsOthers w7 w8 := KeepsOthers.of_grownBy hg8 (fun j o hj ho => by
      obtain ⟨cells, hc⟩ := own_typed hoo j hj
      rw [hc] at ho
      cases ho
      rfl)
     refine ⟨(keeps_below HB7.out).trans ((kp8.trans ((KeepsOthers.setCell _ _ _).trans (KeepsOthers.setCell _ _ _))).from _), ⟨(show _ = _ from ((bN8.other (B' := w.heap.size) (by omega) _).other (B' := w.heap.size + 1) (by omega) _).trans HS.out.2.2.2.symm), Nat.le_trans HB7.out.size (Nat.le_trans hg8.size (by simp))⟩, _, out ++ [file_Load.node (n0, n1, n2, n3, 0)], x2, ?_, (b48.set _).other (by omega) _, (b58.other (by omega) _).set _, (bN8.other (by omega) _).other (by omega) _, Kd.S_set (Kd.S_set hs8 b48 (by decide) 0 _) (b58.other (B' := w.heap.size) (by omega) _) (by decide) 0 _, (hB8.setCell (p := ⟨w.heap.size, 0, none⟩) (Nat.le_refl _) _).setCell (p := ⟨w.heap.size + 1, 0, none⟩) (Nat.le_succ _) _⟩
     rw [List.map_append]
     exact file_Load.acc_snoc HN.out rfl _ [] 0 out at_ HA.out.1 HX.out
  case done =>
   rintro D ys W hD hS ⟨v, out, at_, ha, b4, b5, bN, hS4, hb⟩ hK
   obtain ⟨Av, cv, rfl⟩ := Kd.S_slice hS4
   have c4_ := b4.cell
   have c5_ := b5.cell
   have HE := a_ (show file_Load.fold k xs [] 0 = (out, at_) from by
    have e := file_Load.fold_acc (rest := []) _ [] 0 out at_ ha
    rw [List.append_nil, hS] at e
    rw [e, file_Load.fold])
   have HQ := a_ (And.intro hS4 (And.intro hb hK))
   clear ha hS hS4 hb hK bN
   gi_wp2
   refine wpIn_mono (Q := fun e a w' => match e with | .normal => a = { tmps := #[.string s, undef, .slice Av out.length cv, .int .i64 at_, .pointer (some ⟨w.heap.size, 0, none⟩), .pointer (some ⟨w.heap.size + 1, 0, none⟩), undef, undef, undef, undef, .string s, .string s, .int .i64 s.size, .int .i64 65536, .string (s.extract 0 65536), .func (.func 31) #[] #[.pointer (some ⟨w.heap.size + 1 + 1, 0, none⟩)], undef, undef, undef, undef, undef, undef, undef, undef, undef, undef, undef, undef, undef, undef, undef, undef, undef, undef, undef, undef, .slice Av out.length cv, .int .i64 at_], defers := [{ target := .collected D, args := #[] }] } ∧ ∃ nq, w' = W.drewN nq | _ => False) ?reg ?post
   case reg =>
    clear HQ HE HL HF HF' hB0 bx0 bx1 bx2 hs0
    refine wpIn_wide.2 ?_
    refine start_ (n := 4) (S := fun w' => w'.cell? ⟨w.heap.size, 0, none⟩ = some (.slice Av out.length cv) ∧ w'.cell? ⟨w.heap.size + 1, 0, none⟩ = some (.int .i64 at_)) (ds := []) #[false, false, false, false] (by kernel_rfl) rfl rfl ⟨c4_, c5_⟩ (fun hHeld => ?_)
    refine with_tabW file_Load.tab9 file_Load.bits9 (fun HT_ HW_ => ?_)
    refine tB_ 0 36 HT_.out HW_.out hHeld ?_
    refine tB_ 1 37 HT_.out HW_.out hHeld ?_
    refine pB_ 2 2 HT_.out ?_
    refine pB_ 3 3 HT_.out ?_
    refine done_ (done_of HT_.out (by kernel_rfl)) ?_
    exact ⟨rfl, _, rfl⟩
   case post =>
    intro e a W3 h9
    cases e <;> first | exact h9.elim | skip
    obtain ⟨rfl, nq, rfl⟩ := h9
    clear c4_ c5_
    gi_wp2
    obtain ⟨hS9, hb9, hK9_⟩ := HQ.out
    have hK9 : (W.drewN nq).heap[D]? = some (.deferred (some [])) := hK9_
    refine ⟨by simp, .inl ⟨_, _, rfl, run_takeDeferred hK9, ?_⟩⟩
    rw [HE.out]
    refine ⟨.tuple #[.slice Av out.length cv, .int .i64 at_], ?_, .slice Av out.length cv, rfl, S_nocell (Kd.S_drewN hS9 nq) (grownBy_putObj' _ _ _) (fun r e => by cases e; exact ⟨_, hK9, rfl⟩), (below_dn hb9 nq).grown (grownBy_putObj' _ _ _) hb9.size (fun r e => by cases e; exact Nat.le_trans hB0.size hD)⟩
    simp [results, Tryd.f10, go_sem]
  case stop =>
   rintro D c pre W hD hSp ⟨rfl, q, x, n, h1, h2, h3, v, out, at_, ha, b4, b5, bN, hS4, hb⟩ hK
   obtain ⟨Av, cv, rfl⟩ := Kd.S_slice hS4
   have c4_ := b4.cell
   have c5_ := b5.cell
   have HE := a_ (show file_Load.fold k xs [] 0 = (out, at_) from by
    obtain ⟨rest, hrest⟩ := hSp
    rw [h1, List.map_append, List.append_assoc] at hrest
    have e := file_Load.fold_acc (rest := x.1 :: rest) _ [] 0 out at_ ha
    have e2 : q.map (·.1) ++ (x.1 :: rest) = xs := hrest
    rw [e2] at e
    have hol : out.length = q.length := by have := file_Load.acc_len _ _ _ _ _ ha; simpa using this
    rw [← hol] at h3
    rw [e, file_Load.fold, h2]
    simp only
    rw [if_neg h3])
   have HQ := a_ (And.intro hS4 (And.intro hb hK))
   clear ha hSp h1 h2 h3 hS4 hb hK bN
   gi_wp2
   refine wpIn_mono (Q := fun e a w' => match e with | .normal => a = { tmps := #[.string s, undef, .slice Av out.length cv, .int .i64 at_, .pointer (some ⟨w.heap.size, 0, none⟩), .pointer (some ⟨w.heap.size + 1, 0, none⟩), undef, undef, undef, undef, .string s, .string s, .int .i64 s.size, .int .i64 65536, .string (s.extract 0 65536), .func (.func 31) #[] #[.pointer (some ⟨w.heap.size + 1 + 1, 0, none⟩)], undef, undef, undef, undef, undef, undef, undef, undef, undef, undef, undef, undef, undef, undef, undef, undef, undef, undef, undef, undef, .slice Av out.length cv, .int .i64 at_], defers := [{ target := .collected D, args := #[] }] } ∧ ∃ nq, w' = W.drewN nq | _ => False) ?reg ?post
   case reg =>
    clear HQ HE HL HF HF' hB0 bx0 bx1 bx2 hs0
    refine wpIn_wide.2 ?_
    refine start_ (n := 4) (S := fun w' => w'.cell? ⟨w.heap.size, 0, none⟩ = some (.slice Av out.length cv) ∧ w'.cell? ⟨w.heap.size + 1, 0, none⟩ = some (.int .i64 at_)) (ds := []) #[false, false, false, false] (by kernel_rfl) rfl rfl ⟨c4_, c5_⟩ (fun hHeld => ?_)
    refine with_tabW file_Load.tab9 file_Load.bits9 (fun HT_ HW_ => ?_)
    refine tB_ 0 36 HT_.out HW_.out hHeld ?_
    refine tB_ 1 37 HT_.out HW_.out hHeld ?_
    refine pB_ 2 2 HT_.out ?_
    refine pB_ 3 3 HT_.out ?_
    refine done_ (done_of HT_.out (by kernel_rfl)) ?_
    exact ⟨rfl, _, rfl⟩
   case post =>
    intro e a W3 h9
    cases e <;> first | exact h9.elim | skip
    obtain ⟨rfl, nq, rfl⟩ := h9
    clear c4_ c5_
    gi_wp2
    obtain ⟨hS9, hb9, hK9_⟩ := HQ.out
    have hK9 : (W.drewN nq).heap[D]? = some (.deferred (some [])) := hK9_
    refine ⟨by simp, .inl ⟨_, _, rfl, run_takeDeferred hK9, ?_⟩⟩
    rw [HE.out]
    refine ⟨.tuple #[.slice Av out.length cv, .int .i64 at_], ?_, .slice Av out.length cv, rfl, S_nocell (Kd.S_drewN hS9 nq) (grownBy_putObj' _ _ _) (fun r e => by cases e; exact ⟨_, hK9, rfl⟩), (below_dn hb9 nq).grown (grownBy_putObj' _ _ _) hb9.size (fun r e => by cases e; exact Nat.le_trans hB0.size hD)⟩
    simp [results, Tryd.f10, go_sem]
 case inr =>
  have HF' := a_ (show file_Load.frames k s 0 = some xs from by have e_ := HF.out; rw [show min s.size 65536 = s.size from by omega, ByteArray.extract_zero_size] at e_; exact e_)
  obtain ⟨bx0, bx1, bx2, hB0, hs0⟩ := bx_three (w := w) (a := .slice none 0 0) (b := .int .i64 0) (c := .string s) (s := 22) (t := 3) (u := 9)
  obtain ⟨W0, hW0⟩ : ∃ W0, ((w.alloc (.cells #[.slice none 0 0] 22)).alloc (.cells #[.int .i64 0] 3)).alloc (.cells #[.string s] 9) = W0 := ⟨_, rfl⟩
  rw [hW0] at bx0 bx1 bx2 hB0 hs0
  rw [hW0]
  clear hW0
  refine wpIn_rangeFunc_ownH (n := 4) rfl (by omega) (gf := 31) (lb := #[.pointer (some ⟨w.heap.size + 1 + 1, 0, none⟩)]) rfl trivial (enters_of Tryd.func31 (by kernel_rfl) rfl)
   (records.stops (4 - 1) (by omega) k s xs HF'.out W0 (w.heap.size + 1 + 1) (by omega) bx2.cell) (fun h1_ h2_ => ⟨h2_.1.trans h1_.1, Nat.le_trans h1_.2 h2_.2⟩) (fun W l o o' hl_ ho_ hc_ _ => ⟨World.putObj_heap_other (by omega), by simp [World.putObj]⟩) (Below.refl _ _) (fun _ => rfl)
   (fun pre W => LoadI k w s (pre.map (·.1)) W)
   (fun c pre W => c = .exit 0 ∧ ∃ (q : List (FrX xs)) (x : FrX xs) (n : Int × Int × List ByteArray × ByteArray × Int), pre = q ++ [x] ∧ record_Get.f k x.1.1 = some n ∧ ¬ (n.2.2.2.2 = 0 ∧ trail_Next.f k n.1 n.2.1 n.2.2.1 n.2.2.2.1 (q.length : Int) = some true) ∧ LoadI k w s (q.map (·.1)) W)
   (LoadI.own _ hB0.size)
   (fun c s_ A B row hs hg hr => by
    obtain ⟨h1, q, x, n, h2, h3, h4, h5⟩ := hs
    exact ⟨h1, q, x, n, h2, h3, h4, LoadI.own (β := Unit) (fun _ => q.map (·.1)) hB0.size () A B row h5 hg hr⟩)
   ⟨.slice none 0 0, [], 0, rfl, bx0, bx1, bx2, ⟨fun _ => 0, Kd.R_nil _ _ _ _ _⟩, hB0⟩
   (fun x a' W => a' = { tmps := #[.string s, undef, .slice none 0 0, .int .i64 0, .pointer (some ⟨w.heap.size, 0, none⟩), .pointer (some ⟨w.heap.size + 1, 0, none⟩), .string x.1.1, .int .i64 x.1.2, undef, undef, .string s, .string s, .int .i64 s.size, .int .i64 (s.size : Int), .string s, .func (.func 31) #[] #[.pointer (some ⟨w.heap.size + 1 + 1, 0, none⟩)], .string x.1.1, .int .i64 x.1.2, undef, undef, undef, undef, undef, undef, undef, undef, undef, undef, undef, undef, undef, undef, undef, undef, undef, undef, undef, undef], defers := [] })
   (fun x a' _ X Y row hs hg hr => hs)
   ?assign ?body ?done ?stop
  case assign =>
   rintro l pre x W K hI hK
   simp only [FrX.enc]
   gi_wp2_with (rw [Oper.semAt_eq _ _ _ (fun c h => by cases h)]; go_simp; try go_bits)
   exact hK _ _ (KeepsFrom.refl _ _) ⟨rfl, Nat.le_refl _⟩ hI rfl
  case body =>
   rintro l pre ⟨⟨x1, x2⟩, hx⟩ a' W hl ⟨r, hr⟩ hI rfl hlt
   dsimp only
   have HI := a_ hI
   obtain ⟨⟨n0, n1, n2, n3, n4⟩, hn_, hnx⟩ := file_Load.good_spec (List.all_eq_true.1 HL.out.2 _ hx)
   obtain ⟨v, out, at_, ha, b4, b5, bN, hS, hbw⟩ := hI
   have hol : out.length = pre.length := by have := file_Load.acc_len _ _ _ _ _ ha; simpa using this
   obtain ⟨b, hb_⟩ := hnx out.length (by omega)
   simp only at hn_ hb_
   have HN := a_ hn_
   have HX := a_ hb_
   have HBw := a_ hbw
   have HA := a_ (And.intro ha (And.intro hol hlt))
   have HS := a_ (And.intro hS (And.intro b4 (And.intro b5 bN)))
   clear hnx hb_ hn_ hbw ha hol hlt hS b4 b5 bN hl hr
   by_cases c4 : n4 = 0
   case neg =>
    have c4a : (n4 == 0) = false := beq_eq_false_iff_ne.2 c4
    have c4b : (n4 != 0) = true := bne_iff_ne.2 c4
    have C4 := a_ c4
    clear c4
    gi_wp2_with (first
     | (gi_at_call 21; refine ((callsIn_wide).2 (record_Get.calls k x1 n0 n1 n2 n3 n4 _ HN.out (GOK.below hG HBw.out))).mono ?_; rintro e w5 ⟨v2, rfl, hr0, hb5⟩; obtain ⟨A2, c2, rfl⟩ := Kd.R_slice hr0; have HB5 := a_ hb5; clear hr0 hb5)
     | (rw [Oper.semAt_eq _ _ _ (fun c h => by cases h)]; go_simp; try go_bits))
    have hq : Below W.heap.size W (w5.alloc (.cells #[.int .i64 n0, .int .i64 n1, .slice A2 n2.length c2, .string n3] 37)) := HB5.out.alloc HB5.out.size _
    exact ⟨keeps_below hq, rfl, pre, ⟨(x1, x2), hx⟩, (n0, n1, n2, n3, n4), rfl, HN.out, fun h_ => C4.out h_.1, LoadI.below HI.out hq⟩
   case pos =>
    subst c4
    obtain ⟨Av, cv, rfl⟩ := Kd.S_slice HS.out.1
    cases b with
    | false =>
     gi_wp2_with (first
      | (gi_at_call 21; refine ((callsIn_wide).2 (record_Get.calls k x1 n0 n1 n2 n3 0 _ HN.out (GOK.below hG HBw.out))).mono ?_; rintro e w5 ⟨v2, rfl, hr0, hb5⟩; obtain ⟨A2, c2, rfl⟩ := Kd.R_slice hr0; have HB5 := a_ hb5; have HR5 := a_ hr0; have HB6 := a_ (show Below W.heap.size W (w5.alloc (.cells #[.int .i64 n0, .int .i64 n1, .slice A2 n2.length c2, .string n3] 37)) from hb5.alloc hb5.size _); have C8 := a_ (bx4_ (World.alloc_heap_new w5 (.cells #[.int .i64 n0, .int .i64 n1, .slice A2 n2.length c2, .string n3] 37))); have c4_ := Boxed.cell ((HB6.out.block _ HS.out.2.1.lt).trans HS.out.2.1); clear hr0 hb5)
      | (gi_at_call 22; refine ((callsIn_wide).2 (trail_Next.calls k ⟨w5.heap.size, 0, none⟩ n0 n1 A2 c2 n2 n3 (out.length : Int) false _ C8.out.1 C8.out.2.1 C8.out.2.2.1 C8.out.2.2.2.1 (Kd.C_below (Kd.R_reads' HR5.out).2.2 ((Below.refl _ _).alloc (Nat.le_refl _) _)) (Kd.R_reads' HR5.out).2.1 HX.out (GOK.below hG (below_step HBw.out HB6.out)))).mono ?_; rintro e w7 ⟨rfl, hb7⟩; have HB7 := a_ (below_step HB6.out hb7); clear hb7 c4_)
      | (rw [Oper.semAt_eq _ _ _ (fun c h => by cases h)]; go_simp; try go_bits))
     exact ⟨keeps_below HB7.out, rfl, pre, ⟨(x1, x2), hx⟩, (n0, n1, n2, n3, 0), rfl, HN.out, (fun h_ => by have h2_ := h_.2; rw [← HA.out.2.1] at h2_; simp only at h2_; rw [HX.out] at h2_; cases h2_), LoadI.below HI.out HB7.out⟩
    | true =>
     gi_wp2_with (first
      | (gi_at_call 21; refine ((callsIn_wide).2 (record_Get.calls k x1 n0 n1 n2 n3 0 _ HN.out (GOK.below hG HBw.out))).mono ?_; rintro e w5 ⟨v2, rfl, hr0, hb5⟩; obtain ⟨A2, c2, rfl⟩ := Kd.R_slice hr0; have HB5 := a_ hb5; have HR5 := a_ hr0; have HB6 := a_ (show Below W.heap.size W (w5.alloc (.cells #[.int .i64 n0, .int .i64 n1, .slice A2 n2.length c2, .string n3] 37)) from hb5.alloc hb5.size _); have C8 := a_ (bx4_ (World.alloc_heap_new w5 (.cells #[.int .i64 n0, .int .i64 n1, .slice A2 n2.length c2, .string n3] 37))); have c4_ := Boxed.cell ((HB6.out.block _ HS.out.2.1.lt).trans HS.out.2.1); clear hr0 hb5)
      | (gi_at_call 22; refine ((callsIn_wide).2 (trail_Next.calls k ⟨w5.heap.size, 0, none⟩ n0 n1 A2 c2 n2 n3 (out.length : Int) true _ C8.out.1 C8.out.2.1 C8.out.2.2.1 C8.out.2.2.2.1 (Kd.C_below (Kd.R_reads' HR5.out).2.2 ((Below.refl _ _).alloc (Nat.le_refl _) _)) (Kd.R_reads' HR5.out).2.1 HX.out (GOK.below hG (below_step HBw.out HB6.out)))).mono ?_; rintro e w7 ⟨rfl, hb7⟩; have HB7 := a_ (below_step HB6.out hb7); have hbk7 := (hb7.block _ (by simp)).trans (World.alloc_heap_new w5 (.cells #[.int .i64 n0, .int .i64 n1, .slice A2 n2.length c2, .string n3] 37)); obtain ⟨c80, c81, c82, c83, _, _, _, _⟩ := bx4_ hbk7; obtain ⟨vo, hvo⟩ : ∃ vo, vo = Value.slice Av out.length cv := ⟨_, rfl⟩; have HVO := a_ hvo; have B47 := a_ (show Boxed w7 w.heap.size 22 vo from (by rw [hvo]; exact (HB7.out.block _ HS.out.2.1.lt).trans HS.out.2.1)); have B57 := a_ (show Boxed w7 (w.heap.size + 1) 3 _ from (HB7.out.block _ HS.out.2.2.1.lt).trans HS.out.2.2.1); have BN7 := a_ (show Boxed w7 (w.heap.size + 1 + 1) 9 _ from (HB7.out.block _ HS.out.2.2.2.lt).trans HS.out.2.2.2); clear c4_; have c4_ := B47.out.cell; have HR7 := a_ (Kd.R_lower (Kd.R_below (Kd.R_below (Kd.R_mono (ok' := fun k_ => W.heap.size ≤ k_) (Kd.R_bound HR5.out) (fun _ hk_ => hk_.2.1)) ((Below.refl _ _).alloc (Nat.le_refl _) _)) hb7) HBw.out.size); have HS7_ := Kd.S_below (Kd.S_bound HS.out.1) HB7.out; rw [← hvo] at HS7_; have HS7 := a_ (Kd.S_mono (ok' := fun k_ => True ∧ ¬ W.heap.size ≤ k_) HS7_ (fun k_ hk_ => ⟨trivial, Nat.not_le.2 hk_.2.2.1⟩)); clear HS7_; clear hb7 hbk7 hvo)
      | (gi_at_builtin; refine S_append_in k37 w.heap.size rfl (.tmp 31) (.tmp 33) 22 37 (.agg #[(.int .i64 0), (.int .i64 0), (.slice none 0 0), (.string ⟨#[]⟩)]) 56 rfl Tryd.underlying22 (by kernel_rfl) rfl (by decide) (by decide) vo out (file_Load.node (n0, n1, n2, n3, 0)) [.int .i64 n0, .int .i64 n1, .slice A2 n2.length c2, .string n3] (fun _ => True) (fun k_ => W.heap.size ≤ k_) rfl rfl (k37_mkM _ _ _ (file_Load.node (n0, n1, n2, n3, 0)) HR7.out) (fun k_ hk_ => ⟨trivial, fun e_ => absurd (Kd.R_lt (Kd.S_R HS.out.1) k_ (by rw [← HVO.out]; exact e_.symm)) (Nat.not_lt.2 hk_)⟩) (fun _ _ => trivial) HS7.out (below_step HBw.out HB7.out).size (by have := HA.out.2.1; have := HA.out.2.2; have := HL.out.1; omega) ?_; intro v8 w8 hs8 hg8 hat8; obtain ⟨A8, c8, e8⟩ := Kd.S_slice hs8; rw [List.length_append, List.length_singleton] at e8; subst e8; obtain ⟨inn, hoo⟩ := Kd.S_own HS7.out; have b48 : Boxed w8 w.heap.size 22 vo := (hg8.block _ B47.out.lt (own_ne hoo B47.out (by decide))).trans B47.out; have b58 : Boxed w8 (w.heap.size + 1) 3 (.int .i64 at_) := (hg8.block _ B57.out.lt (own_ne hoo B57.out (by decide))).trans B57.out; have bN8 : Boxed w8 (w.heap.size + 1 + 1) 9 (.string s) := (hg8.block _ BN7.out.lt (own_ne hoo BN7.out (by decide))).trans BN7.out; have c48 := b48.cell; have f48 := b48.frozen; have b59 := b58.other (B' := w.heap.size) (by omega) (.slice A8 (out.length + 1) c8); have c58 := b59.cell; have f58 := b59.frozen; have HQ8 := a_ (And.intro hs8 (And.intro hg8 (And.intro hoo (And.intro b48 (And.intro b58 bN8))))); clear hs8 hg8 hoo b48 b58 bN8 b59 hat8)
      | (rw [Oper.semAt_eq _ _ _ (fun c h => by cases h)]; go_simp; try go_bits))
     obtain ⟨hs8, hg8, hoo, b48, b58, bN8⟩ := HQ8.out
     have hBe7 := below_step HBw.out HB7.out
     have hB8 : Below w.heap.size w w8 := hBe7.grown hg8 hBe7.size (fun r e => own_base hoo r e)
     have kp8 : KeepsOthers w7 w8 := KeepsOthers.of_grownBy hg8 (fun j o hj ho => by
      obtain ⟨cells, hc⟩ := own_typed hoo j hj
      rw [hc] at ho
      cases ho
      rfl)
     refine ⟨(keeps_below HB7.out).trans ((kp8.trans ((KeepsOthers.setCell _ _ _).trans (KeepsOthers.setCell _ _ _))).from _), ⟨(show _ = _ from ((bN8.other (B' := w.heap.size) (by omega) _).other (B' := w.heap.size + 1) (by omega) _).trans HS.out.2.2.2.symm), Nat.le_trans HB7.out.size (Nat.le_trans hg8.size (by simp))⟩, _, out ++ [file_Load.node (n0, n1, n2, n3, 0)], x2, ?_, (b48.set _).other (by omega) _, (b58.other (by omega) _).set _, (bN8.other (by omega) _).other (by omega) _, Kd.S_set (Kd.S_set hs8 b48 (by decide) 0 _) (b58.other (B' := w.heap.size) (by omega) _) (by decide) 0 _, (hB8.setCell (p := ⟨w.heap.size, 0, none⟩) (Nat.le_refl _) _).setCell (p := ⟨w.heap.size + 1, 0, none⟩) (Nat.le_succ _) _⟩
     rw [List.map_append]
     exact file_Load.acc_snoc HN.out rfl _ [] 0 out at_ HA.out.1 HX.out
  case done =>
   rintro D ys W hD hS ⟨v, out, at_, ha, b4, b5, bN, hS4, hb⟩ hK
   obtain ⟨Av, cv, rfl⟩ := Kd.S_slice hS4
   have c4_ := b4.cell
   have c5_ := b5.cell
   have HE := a_ (show file_Load.fold k xs [] 0 = (out, at_) from by
    have e := file_Load.fold_acc (rest := []) _ [] 0 out at_ ha
    rw [List.append_nil, hS] at e
    rw [e, file_Load.fold])
   have HQ := a_ (And.intro hS4 (And.intro hb hK))
   clear ha hS hS4 hb hK bN
   gi_wp2
   refine wpIn_mono (Q := fun e a w' => match e with | .normal => a = { tmps := #[.string s, undef, .slice Av out.length cv, .int .i64 at_, .pointer (some ⟨w.heap.size, 0, none⟩), .pointer (some ⟨w.heap.size + 1, 0, none⟩), undef, undef, undef, undef, .string s, .string s, .int .i64 s.size, .int .i64 (s.size : Int), .string s, .func (.func 31) #[] #[.pointer (some ⟨w.heap.size + 1 + 1, 0, none⟩)], undef, undef, undef, undef, undef, undef, undef, undef, undef, undef, undef, undef, undef, undef, undef, undef, undef, undef, undef, undef, .slice Av out.length cv, .int .i64 at_], defers := [{ target := .collected D, args := #[] }] } ∧ ∃ nq, w' = W.drewN nq | _ => False) ?reg ?post
   case reg =>
    clear HQ HE HL HF HF' hB0 bx0 bx1 bx2 hs0
    refine wpIn_wide.2 ?_
    refine start_ (n := 4) (S := fun w' => w'.cell? ⟨w.heap.size, 0, none⟩ = some (.slice Av out.length cv) ∧ w'.cell? ⟨w.heap.size + 1, 0, none⟩ = some (.int .i64 at_)) (ds := []) #[false, false, false, false] (by kernel_rfl) rfl rfl ⟨c4_, c5_⟩ (fun hHeld => ?_)
    refine with_tabW file_Load.tab9 file_Load.bits9 (fun HT_ HW_ => ?_)
    refine tB_ 0 36 HT_.out HW_.out hHeld ?_
    refine tB_ 1 37 HT_.out HW_.out hHeld ?_
    refine pB_ 2 2 HT_.out ?_
    refine pB_ 3 3 HT_.out ?_
    refine done_ (done_of HT_.out (by kernel_rfl)) ?_
    exact ⟨rfl, _, rfl⟩
   case post =>
    intro e a W3 h9
    cases e <;> first | exact h9.elim | skip
    obtain ⟨rfl, nq, rfl⟩ := h9
    clear c4_ c5_
    gi_wp2
    obtain ⟨hS9, hb9, hK9_⟩ := HQ.out
    have hK9 : (W.drewN nq).heap[D]? = some (.deferred (some [])) := hK9_
    refine ⟨by simp, .inl ⟨_, _, rfl, run_takeDeferred hK9, ?_⟩⟩
    rw [HE.out]
    refine ⟨.tuple #[.slice Av out.length cv, .int .i64 at_], ?_, .slice Av out.length cv, rfl, S_nocell (Kd.S_drewN hS9 nq) (grownBy_putObj' _ _ _) (fun r e => by cases e; exact ⟨_, hK9, rfl⟩), (below_dn hb9 nq).grown (grownBy_putObj' _ _ _) hb9.size (fun r e => by cases e; exact Nat.le_trans hB0.size hD)⟩
    simp [results, Tryd.f10, go_sem]
  case stop =>
   rintro D c pre W hD hSp ⟨rfl, q, x, n, h1, h2, h3, v, out, at_, ha, b4, b5, bN, hS4, hb⟩ hK
   obtain ⟨Av, cv, rfl⟩ := Kd.S_slice hS4
   have c4_ := b4.cell
   have c5_ := b5.cell
   have HE := a_ (show file_Load.fold k xs [] 0 = (out, at_) from by
    obtain ⟨rest, hrest⟩ := hSp
    rw [h1, List.map_append, List.append_assoc] at hrest
    have e := file_Load.fold_acc (rest := x.1 :: rest) _ [] 0 out at_ ha
    have e2 : q.map (·.1) ++ (x.1 :: rest) = xs := hrest
    rw [e2] at e
    have hol : out.length = q.length := by have := file_Load.acc_len _ _ _ _ _ ha; simpa using this
    rw [← hol] at h3
    rw [e, file_Load.fold, h2]
    simp only
    rw [if_neg h3])
   have HQ := a_ (And.intro hS4 (And.intro hb hK))
   clear ha hSp h1 h2 h3 hS4 hb hK bN
   gi_wp2
   refine wpIn_mono (Q := fun e a w' => match e with | .normal => a = { tmps := #[.string s, undef, .slice Av out.length cv, .int .i64 at_, .pointer (some ⟨w.heap.size, 0, none⟩), .pointer (some ⟨w.heap.size + 1, 0, none⟩), undef, undef, undef, undef, .string s, .string s, .int .i64 s.size, .int .i64 (s.size : Int), .string s, .func (.func 31) #[] #[.pointer (some ⟨w.heap.size + 1 + 1, 0, none⟩)], undef, undef, undef, undef, undef, undef, undef, undef, undef, undef, undef, undef, undef, undef, undef, undef, undef, undef, undef, undef, .slice Av out.length cv, .int .i64 at_], defers := [{ target := .collected D, args := #[] }] } ∧ ∃ nq, w' = W.drewN nq | _ => False) ?reg ?post
   case reg =>
    clear HQ HE HL HF HF' hB0 bx0 bx1 bx2 hs0
    refine wpIn_wide.2 ?_
    refine start_ (n := 4) (S := fun w' => w'.cell? ⟨w.heap.size, 0, none⟩ = some (.slice Av out.length cv) ∧ w'.cell? ⟨w.heap.size + 1, 0, none⟩ = some (.int .i64 at_)) (ds := []) #[false, false, false, false] (by kernel_rfl) rfl rfl ⟨c4_, c5_⟩ (fun hHeld => ?_)
    refine with_tabW file_Load.tab9 file_Load.bits9 (fun HT_ HW_ => ?_)
    refine tB_ 0 36 HT_.out HW_.out hHeld ?_
    refine tB_ 1 37 HT_.out HW_.out hHeld ?_
    refine pB_ 2 2 HT_.out ?_
    refine pB_ 3 3 HT_.out ?_
    refine done_ (done_of HT_.out (by kernel_rfl)) ?_
    exact ⟨rfl, _, rfl⟩
   case post =>
    intro e a W3 h9
    cases e <;> first | exact h9.elim | skip
    obtain ⟨rfl, nq, rfl⟩ := h9
    clear c4_ c5_
    gi_wp2
    obtain ⟨hS9, hb9, hK9_⟩ := HQ.out
    have hK9 : (W.drewN nq).heap[D]? = some (.deferred (some [])) := hK9_
    refine ⟨by simp, .inl ⟨_, _, rfl, run_takeDeferred hK9, ?_⟩⟩
    rw [HE.out]
    refine ⟨.tuple #[.slice Av out.length cv, .int .i64 at_], ?_, .slice Av out.length cv, rfl, S_nocell (Kd.S_drewN hS9 nq) (grownBy_putObj' _ _ _) (fun r e => by cases e; exact ⟨_, hK9, rfl⟩), (below_dn hb9 nq).grown (grownBy_putObj' _ _ _) hb9.size (fun r e => by cases e; exact Nat.le_trans hB0.size hD)⟩
    simp [results, Tryd.f10, go_sem]
theorem file_Load.calls (k : Nat) (s : ByteArray) (r1 : List S37) (r2 : Int) (w : World) (h : file_Load.f k s = some (r1, r2)) (hG : GOK w) :
 Calls Tryd.prog 10 #[.string s] w fun e w' => ∃ v0_ : Value, e = .returned (.tuple #[v0_, .int .i64 r2]) ∧ Kd.S k37 37 w' w.heap.size (fun _ => True) v0_ r1 ∧ Below w.heap.size w w' := by
 unfold file_Load.f at h
 obtain ⟨xs, h1, h⟩ := Option.bind_eq_some_iff.mp h
 by_cases c : xs.length ≤ 65536 ∧ xs.all (file_Load.good k xs.length) = true
 case neg =>
  rw [if_neg c] at h; cases h

 rw [if_pos c] at h
 have e := Option.some.inj h
 have h2 := file_Load.inW k s xs w h1 c.1 c.2 hG
 rw [e] at h2
 exact (callsIn_wide (n := 4)).1 h2
end Go.Proofs.YtnhmmbgnaogokaaDoor.G
end
