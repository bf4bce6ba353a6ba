-- Laid by the session's own driver gp.py over the kit's printer. Not trusted: Lean checks it.
import Derived.Test.YtljlmkbcichlpaaDoorTHead
import Derived.Test.YtljlmkbcichlpaaDoorG0
namespace Go.Proofs.YtljlmkbcichlpaaDoor.G
open Go.RowKit Go.Proofs.YtljlmkbcichlpaaDoorW.PrintWords Go.Proofs.YtljlmkbcichlpaaDoorW.PrintLast Go.Proofs.YtljlmkbcichlpaaDoorW.PrintMore
set_option maxHeartbeats 8000000
set_option maxRecDepth 100000
attribute [local go_sem] max2_int min2_int max_two min_two max_three min_three max_four min_four   -- for this text's walks alone
set_option linter.unusedVariables false
set_option linter.unusedSimpArgs false

open Lib in
theorem bld_below {T e : TypeId} {B b : Nat} {bs : List Value} {w w1 : World} (h : Lib.IsBuilder T e B b bs w) (hb : Below w.heap.size w w1) : Lib.IsBuilder T e B b bs w1 := by
 have one : ∀ p, Lib.BuilderAt T e B b p bs w → Lib.BuilderAt T e B b p bs w1 := fun p h => by
  have hlt := h.lt
  obtain ⟨hB, v, hbk, hown, hne⟩ := h
  exact ⟨hB, v, (hb.block b hlt).trans hbk, own_move hown (fun k hk => hb.block k (own_lt hown k hk)), hne⟩
 exact h.imp (one _) (one _)
theorem bld_new {T e : TypeId} {gb : Nat} {w : World} (h : w.heap[gb]? = some (.cells #[.pointer none, .slice none 0 0] T (0, 0))) : Lib.IsBuilder T e gb gb [] w :=
 .inl ⟨Nat.le_refl _, .slice none 0 0, h, ⟨rfl, .inl ⟨rfl, rfl⟩⟩, by simp [Value.ownBlock]⟩
theorem builder_check (B b : Nat) (bs : List Value) (w : World) (h : Lib.IsBuilder 64 5 B b bs w) :
 Calls Tryd.prog 36 #[.pointer (some ⟨b, 0, none⟩)] w fun e w' => e = .returned (.tuple #[]) ∧ (Lib.BuilderAt 64 5 B b (.pointer (some ⟨b, 0, none⟩)) bs w' ∧ Below B w w' ∧ (∀ (k_ : Nat) (o_ : Obj), w.heap[k_]? = some o_ → k_ ≠ b → (∀ cur, o_ ≠ .cells cur 5 (0, 0)) → w'.heap[k_]? = some o_)) := by
 obtain ⟨j, hj, hjs⟩ := Option.map_eq_some_iff.1 (show (Tryd.prog.info? 64).map (·.size) = some 2 by kernel_rfl)
 have tB := Tryd.underlying64; have uB := run_underlying tB
 have tP := Tryd.underlying62; have uP := run_underlying tP
 have tU := Tryd.underlying103; have uU := run_underlying tU
 rcases h with h | h
 · have h0 := h.cell0
   have hsh := h.shape
   have hfz := h.frozen0
   go_enter Tryd.func36, Tryd.ntmps36
   go_wp2
   rw [Lib.run_to_unsafe w ⟨b, 0, none⟩ tP tU hj (by rw [hjs]; decide) hsh (Nat.zero_lt_succ 1)]
   simp only [Result.andThen]
   rw [Oper.upon_value]
   go_wp2
   rw [run_callFunc_extern Tryd.func47 (by kernel_rfl) (by kernel_rfl) (by kernel_rfl) (e := Extern.AbiNoEscape.same) (by kernel_rfl)]
   rw [Lib.run_noEscape]
   simp only [Result.andThen]
   rw [Oper.upon_value]
   go_wp2
   rw [Lib.run_from_unsafe w ⟨b, 0, none⟩ tU tP hj hsh (by kernel_rfl)]
   simp only [Result.andThen]
   rw [Oper.upon_value]
   go_wp2
   go_end0
   exact ⟨rfl, h.used _, (Below.refl B w).setCell (p := ⟨b, 0, none⟩) h.1 _, fun k_ o_ ho_ hk_ _ => (Below.heap_setCell w _ _ k_ (by show k_ ≠ b; exact hk_)).trans ho_⟩
 · have h0 := h.cell0
   go_enter Tryd.func36, Tryd.ntmps36
   go_wp2
   rw [Lib.run_neq_ptr_same w _ tP hj]
   go_wp2
   go_end0
   exact ⟨rfl, h, Below.refl B _, fun _ _ ho_ _ _ => ho_⟩
theorem own_sl {w : World} {B e n : Nat} {v : Value} {xs : List Value} (h : w.ownsRow B e 1 v n xs) : ∃ ao n' cap, v = .slice ao n' cap := by
 rcases h.2 with ⟨hv, _⟩ | ⟨g, cap, cur, hv, _⟩
 · exact ⟨_, _, _, hv⟩
 · exact ⟨_, _, _, hv⟩
theorem own_ne_ap2 {W : World} {base : Nat} {e : TypeId} {size : Nat} {v : Value} {k : Nat} {xs : List Value} (h : W.ownsRow base e size v k xs) {j : Nat} {o : Obj} (hj : W.heap[j]? = some o) (hno : ∀ cur, o ≠ .cells cur e (0, 0)) :
 v.ownBlock = none ∨ v.ownBlock ≠ some j := by
 rcases h.2 with ⟨rfl, _⟩ | ⟨g, cap, cur, rfl, _, hgb, _⟩
 · exact .inl rfl
 · refine .inr fun e' => ?_
   have : g = j := by simpa [Value.ownBlock] using e'
   subst this; rw [hgb] at hj; cases hj; exact hno cur rfl
theorem bld_lt {w : World} {b t : Nat} {cs : Array Value} {fr : Nat × Nat} (h : w.heap[b]? = some (.cells cs t fr)) : b < w.heap.size := by
 rcases Nat.lt_or_ge b w.heap.size with h' | h'
 · exact h'
 · simp [Array.getElem?_eq_none h'] at h
theorem builder_write (B b : Nat) (bs : List Value) (s : ByteArray) (w : World) (h : Lib.IsBuilder 64 5 B b bs w) (hlen : bs.length + s.size ≤ 140737488355328) (hBw : B ≤ w.heap.size) :
 Calls Tryd.prog 25 #[.pointer (some ⟨b, 0, none⟩), .string s] w fun e w' => e = .returned (.tuple #[.int .i64 s.size, .nilIface]) ∧ (Lib.BuilderAt 64 5 B b (.pointer (some ⟨b, 0, none⟩)) (bs ++ Lib.strCells s) w' ∧ Below B w w' ∧ (∀ (k_ : Nat) (o_ : Obj), w.heap[k_]? = some o_ → k_ ≠ b → (∀ cur, o_ ≠ .cells cur 5 (0, 0)) → w'.heap[k_]? = some o_)) := by
 have tB := Tryd.underlying64; have uB := run_underlying tB
 have tS := Tryd.underlying33
 have tT := Tryd.underlying9
 obtain ⟨i0, hi, hz⟩ := Option.map_eq_some_iff.1 (show (Tryd.prog.info? 5).map (fun i => (i.zero, i.size, i.bytes)) = some (some (.int .u8 0), 1, 1) by kernel_rfl)
 obtain ⟨hz0, hz1⟩ := Prod.mk.inj hz
 obtain ⟨hz1, hz2⟩ := Prod.mk.inj hz1
 have HL := a_ hlen
 clear hlen hz
 go_enter Tryd.func25, Tryd.ntmps25
 go_wp2_with (first
  | (go_at_call 36; refine (builder_check B b bs _ h).mono ?_; rintro e w1 ⟨rfl, h1, hb1, hko1⟩; obtain ⟨hB, v, hbk, hown, hne⟩ := h1; have c0 : w1.cell? ⟨b, 0, none⟩ = some (.pointer (some ⟨b, 0, none⟩)) := (by rw [Lib.cell_of_heap hbk]; rfl); have c1 : w1.cell? ⟨b, 1, none⟩ = some v := (by rw [Lib.cell_of_heap hbk]; rfl))
  | (at_builtin; refine Lib.wpList_append_own_string _ rfl _ _ 33 9 rfl B 5 i0 tS tT hi hz0 hz1 hz2 _ _ _ rfl hown s rfl ?c3 ?c4 ?c5 ?c6; (case c3 => have := HL.out; unfold maxLen; omega); (case c4 => have := HL.out; omega); (case c5 => have := hb1.size; omega); intro v' w2 hown' hgrow _; obtain ⟨ao, n', cap, rfl⟩ := own_sl hown'; have hb2 : w2.heap[b]? = some (.cells #[.pointer (some ⟨b, 0, none⟩), v] 64 (0, 0)) := (hgrow.block b (bld_lt hbk) (fun e => hne e.symm)).trans hbk; have d1 : w2.cell? ⟨b, 1, none⟩ = some v := (by rw [Lib.cell_of_heap hb2]; rfl); have f1 : w2.frozen? ⟨b, 1, none⟩ = false := Lib.frozen_of_heap hb2 1))
 go_ret2
 refine ⟨rfl, ?_, ?_, ?_⟩
 · exact Lib.BuilderAt.put (T := 64) (e := 5) hB hb2 (bs' := bs ++ Lib.strCells s) (by simpa [Lib.strCells_length] using hown') (by decide)
 · exact (hb1.grown hgrow (by have := hb1.size; omega) (fun k hk => (hown.lt k hk).1)).setCell (p := ⟨b, 1, none⟩) hB _
 · intro k_ o_ ho_ hk_ hno_
   have h1_ := hko1 k_ o_ ho_ hk_ hno_
   refine (Below.heap_setCell w2 _ _ k_ (by show k_ ≠ b; exact hk_)).trans ((hgrow.block k_ ?_ ?_).trans h1_)
   · exact (Array.getElem?_eq_some_iff.1 h1_).1
   · show some k_ ≠ v.ownBlock
     rcases own_ne_ap2 hown h1_ hno_ with e | e
     · rw [e]; simp
     · exact fun e' => e e'.symm
theorem idxL_lt {l : List UInt8} {c : UInt8} {q : Int} (h : Lib.indexByte l c = q) (h0 : 0 ≤ q) : q < (l.length : Int) := by
 obtain ⟨o, rfl⟩ := Int.eq_ofNat_of_zero_le h0
 have := (Lib.indexByte_some (o := o) h).1
 obtain ⟨h1, _⟩ := List.getElem?_eq_some_iff.1 this
 omega
theorem str_len (s : ByteArray) : s.data.toList.length = s.size := by rw [Array.length_toList]; rfl
theorem cell_eq {W W' : World} {B : Nat} (h : W'.heap[B]? = W.heap[B]?) (j : Nat) : W'.cell? ⟨B, j, none⟩ = W.cell? ⟨B, j, none⟩ := by simp only [World.cell?, h]
theorem frozen_eq {W W' : World} {B : Nat} (h : W'.heap[B]? = W.heap[B]?) (j : Nat) : W'.frozen? ⟨B, j, none⟩ = W.frozen? ⟨B, j, none⟩ := by simp only [World.frozen?, h]
/-- the lines of a text, each with its end -/
def linesB : Nat → ByteArray → List ByteArray
 | 0, _ => []
 | k + 1, s => if 0 < s.size then (if 0 ≤ Lib.indexByte s.data.toList 10 then s.extract 0 (Lib.indexByte s.data.toList 10 + 1).toNat :: linesB k (s.extract (Lib.indexByte s.data.toList 10 + 1).toNat s.size) else [s]) else []
theorem linesB_none (s : ByteArray) (h : ¬ 0 < s.size) : ∀ k, linesB k s = []
 | 0 => rfl
 | k + 1 => by rw [linesB, if_neg h]
section
attribute [local go_sem] Oper.semAt_some
open Classical in
noncomputable def cellLen (W : World) (B : Nat) : Nat := if h : ∃ x : ByteArray, W.cell? ⟨B, 0, none⟩ = some (.string x) then (Classical.choose h).size else 0
theorem cellLen_eq {W : World} {B : Nat} {x : ByteArray} (h : W.cell? ⟨B, 0, none⟩ = some (.string x)) : cellLen W B = x.size := by
 have hex : ∃ x : ByteArray, W.cell? ⟨B, 0, none⟩ = some (.string x) := ⟨x, h⟩
 unfold cellLen
 rw [dif_pos hex]
 have h2 := h.symm.trans (Classical.choose_spec hex)
 injection Option.some.inj h2 with h3
 rw [← h3]
theorem lines_1.in_ (n : Nat) (hn : 1 ≤ n) (l Bn : Nat) (s : ByteArray) (hs : s.size ≤ 2048) (J : List ByteArray → World → Prop)
 (hJC : ∀ p W v, J p W → J p (W.setCell ⟨Bn, 0, none⟩ v)) (hJd : ∀ p W k, J p W → J p (W.drewN k))
 (hY : ∀ pre x W, J pre W → (∃ rest, linesB s.size s = pre ++ x :: rest) → YieldAt Fence.wide (n - 1) Tryd.prog l #[.string x] W fun e W' => e = .returned (.bool true) ∧ J (pre ++ [x]) W' ∧ W'.heap[Bn]? = W.heap[Bn]?)
 (W : World) (hBn : W.cell? ⟨Bn, 0, none⟩ = some (.string s)) (hfn : W.frozen? ⟨Bn, 0, none⟩ = false) (h0 : J [] W) :
 CallsIn Fence.wide n Tryd.prog 33 #[.func (.yield l) #[] #[], .pointer (some ⟨Bn, 0, none⟩)] W fun e W' => (∃ v, e = .returned v) ∧ ∃ ys, ys = linesB s.size s ∧ J ys W' := by
 have hmix : Tryd.prog.follows .mixedOrders = true := by kernel_rfl
 have ff1 : Fence.wide.fn 34 := trivial
 refine callsIn_of_wp Tryd.func33 rfl trivial ?_ rfl
 simp only [Tryd.ntmps33, List.size_toArray, List.length_cons, List.length_nil, Nat.reduceAdd, Nat.reduceSub, Array.replicate_succ, Array.replicate_zero, List.push_toArray, List.append_toArray, List.nil_append, List.cons_append]
 have HS := a_ (And.intro hBn (And.intro hfn h0))
 clear hBn hfn h0
 gi_wp2
 gi_loopw [3, 4] (fun _ _ wr => ∃ (pre : List ByteArray) (r : ByteArray) (m : Nat), wr.cell? ⟨Bn, 0, none⟩ = some (.string r) ∧ wr.frozen? ⟨Bn, 0, none⟩ = false ∧ Aside0 (J pre wr ∧ r.size ≤ 2048 ∧ r.size ≤ m ∧ pre ++ linesB m r = linesB s.size s))
  (fun _ _ wr => cellLen wr Bn)
 case atStart => exact ⟨[], s, s.size, HS.out.1, HS.out.2.1, ⟨HS.out.2.2, hs, Nat.le_refl _, rfl⟩⟩
 case round =>
  obtain ⟨pre, r, m, hc, hf, HJ⟩ := hrel
  by_cases hx : 0 < r.size
  case neg =>
   have hxb : decide ((0 : Int) < (r.size : Int)) = false := decide_eq_false (by omega)
   have hxn : decide (0 < r.size) = false := decide_eq_false hx
   have HN := a_ (linesB_none r hx m)
   clear hx hY hJC hJd HS
   gi_wp2
   go_end0
   exact ⟨⟨_, rfl⟩, _, by rw [← HJ.out.2.2.2, HN.out, List.append_nil], HJ.out.1⟩
  obtain ⟨m, rfl⟩ : ∃ m', m = m' + 1 := ⟨m - 1, by have := HJ.out.2.2.1; omega⟩
  have hxb : decide ((0 : Int) < (r.size : Int)) = true := decide_eq_true (by omega)
  have hxn : decide (0 < r.size) = true := decide_eq_true hx
  have HI := a_ (fun w => Tryd.strings_IndexByte r 10 w)
  rw [show (10 : Int).toNat.toUInt8 = 10 from rfl] at HI
  have hst : linesB (m + 1) r = (if 0 ≤ Lib.indexByte r.data.toList 10 then r.extract 0 (Lib.indexByte r.data.toList 10 + 1).toNat :: linesB m (r.extract (Lib.indexByte r.data.toList 10 + 1).toNat r.size) else [r]) := by rw [linesB, if_pos hx]
  have hil := str_len r
  obtain ⟨q, hq⟩ : ∃ q, Lib.indexByte r.data.toList 10 = q := ⟨_, rfl⟩
  have hql := fun h => idxL_lt hq h
  rw [hq] at HI hst
  have HX := a_ hx
  clear hq HS hx
  by_cases hq0 : 0 ≤ q
  case neg =>
   have hqb : decide (0 ≤ q) = false := decide_eq_false hq0
   rw [if_neg hq0] at hst
   have HST := a_ hst
   have HY := a_ (hY pre r (wr.setCell ⟨Bn, 0, none⟩ (.string ⟨#[]⟩)) (hJC _ _ _ HJ.out.1) ⟨[], by rw [← HJ.out.2.2.2, hst]⟩)
   clear hst hY hJd hJC hil hql
   obtain ⟨fn, tmps, assign, body, hy, hR⟩ := HY.out
   clear HY
   have HR : RoundIn Fence.wide (n - 1) Tryd.prog l fn tmps assign body (wr.setCell ⟨Bn, 0, none⟩ (.string ⟨#[]⟩)) (fun e W' => e = .returned (.bool true) ∧ W'.cell? ⟨Bn, 0, none⟩ = some (.string ⟨#[]⟩) ∧ W'.frozen? ⟨Bn, 0, none⟩ = false ∧ Aside0 (J (pre ++ [r]) W')) := hR.mono fun e W' hh => by
    obtain ⟨rfl, h1, h2⟩ := hh
    exact ⟨rfl, (cell_eq h2 0).trans (World.cell?_setCell_same' _ _ _ (by rw [hc]; rfl)), (frozen_eq h2 0).trans (by rw [World.frozen?_setCell]; exact hf), ⟨h1⟩⟩
   clear hR
   gi_wp2_with (first
    | (gi_at_call 34; refine ((callsIn_wide (n := n - 1)).2 (HI.out _)).mono ?_; rintro e w5 ⟨rfl, hw5⟩; rw [hw5]))
   refine HR.mono ?_
   rintro e W3 ⟨rfl, hc3, hf3, HJ3⟩
   have hcl := a_ (cellLen_eq hc)
   clear hc hf
   gi_wp2
   have hst := HST.out
   have hj := HJ.out
   refine ⟨⟨pre ++ [r], ⟨#[]⟩, m, hc3, hf3, ⟨HJ3.out, by show (0 : Nat) ≤ 2048; omega, Nat.zero_le _, by rw [← hj.2.2.2, hst, linesB_none _ (by show ¬ 0 < 0; omega), List.append_nil]⟩⟩, ?_⟩
   rw [cellLen_eq hc3, hcl.out]
   have := HX.out
   show 0 < r.size
   omega
  have hqb : decide (0 ≤ q) = true := decide_eq_true hq0
  rw [if_pos hq0] at hst
  have h1 := hql hq0
  have hsz := HJ.out.2.1
  have hw1 : wrap64 (q + 1) = q + 1 := by unfold wrap64; omega
  obtain ⟨z, hz⟩ : ∃ z, wrap64 (q + 1) = z := ⟨_, rfl⟩
  have hzw : IntKind.i64.wrap (q + 1) = z := (i64_w _).trans hz
  have ez : q + 1 = z := by omega
  rw [ez] at hst
  have hz0 := eq_true (show 0 ≤ z by omega)
  have hz1 := eq_true (show z ≤ (r.size : Int) by omega)
  have hzd0 : decide (0 ≤ z) = true := decide_eq_true (by omega)
  have hzd1 : decide (z ≤ (r.size : Int)) = true := decide_eq_true (by omega)
  obtain ⟨x, hxe⟩ : ∃ x, r.extract 0 z.toNat = x := ⟨_, rfl⟩
  obtain ⟨y, hye⟩ : ∃ y, r.extract z.toNat r.size = y := ⟨_, rfl⟩
  have hys : y.size = r.size - z.toNat := by rw [← hye, ByteArray.size_extract]; omega
  have HZ := a_ (show 0 < z ∧ z ≤ (r.size : Int) by omega)
  rw [hxe, hye] at hst
  have HST := a_ (And.intro hst hys)
  have HY := a_ (fun nq => hY pre x ((wr.drewN nq).setCell ⟨Bn, 0, none⟩ (.string y)) (hJC _ _ _ (hJd _ _ nq HJ.out.1)) ⟨linesB m y, by rw [← HJ.out.2.2.2, hst]⟩)
  clear hst hys h1 hsz hw1 ez hY hJd hJC hil hql hz
  gi_wp2_with (first
   | (gi_at_call 34; refine ((callsIn_wide (n := n - 1)).2 (HI.out _)).mono ?_; rintro e w5 ⟨rfl, hw5⟩; rw [hw5]))
  refine wpIn_region_head 9 rfl hmix (by kernel_rfl) ?_
  simp only [List.take_succ_cons, List.take_zero, List.drop_succ_cons, List.drop_zero]
  iterate 9 (quiet_step_in (fail))
  refine wpQuietIn_nil ?_
  intro _ hw'
  obtain ⟨nq, hw''⟩ := hw'
  subst hw''
  obtain ⟨fn, tmps, assign, body, hy, hR⟩ := HY.out nq
  clear HY
  have HR : RoundIn Fence.wide (n - 1) Tryd.prog l fn tmps assign body ((wr.drewN nq).setCell ⟨Bn, 0, none⟩ (.string y)) (fun e W' => e = .returned (.bool true) ∧ W'.cell? ⟨Bn, 0, none⟩ = some (.string y) ∧ W'.frozen? ⟨Bn, 0, none⟩ = false ∧ Aside0 (J (pre ++ [x]) W')) := hR.mono fun e W' hh => by
   obtain ⟨rfl, h1, h2⟩ := hh
   exact ⟨rfl, (cell_eq h2 0).trans (World.cell?_setCell_same' _ _ _ (by show ((wr.drewN nq).cell? ⟨Bn, 0, none⟩).isSome = true; rw [show (wr.drewN nq).cell? ⟨Bn, 0, none⟩ = wr.cell? ⟨Bn, 0, none⟩ from rfl, hc]; rfl)), (frozen_eq h2 0).trans (by rw [World.frozen?_setCell]; exact hf), ⟨h1⟩⟩
  clear hR
  gi_wp2
  refine HR.mono ?_
  rintro e W3 ⟨rfl, hc3, hf3, HJ3⟩
  have hcl := a_ (cellLen_eq hc)
  clear hc hf
  gi_wp2
  have hst := HST.out
  have hz := HZ.out
  have hj := HJ.out
  refine ⟨⟨pre ++ [x], y, m, hc3, hf3, ⟨HJ3.out, by omega, by omega, by rw [← hj.2.2.2, hst.1, List.append_assoc]; rfl⟩⟩, ?_⟩
  rw [cellLen_eq hc3, hcl.out]
  omega
end
theorem str_cells (a b : ByteArray) : Lib.strCells a ++ Lib.strCells b = Lib.strCells (a ++ b) := by
 rw [Lib.strCells_eq, Lib.strCells_eq, Lib.strCells_eq, ← Lib.byteCells_append, ByteArray.data_append, Array.toList_append]
theorem bld_kept {T e : TypeId} {B b : Nat} {bs : List Value} {w w' : World} {row : Option Nat} (h : Lib.IsBuilder T e B b bs w) (hg : w.grownBy w' row) (hb : some b ≠ row) (hrow : ∀ r, row = some r → ∃ o, w.heap[r]? = some o ∧ ∀ cur, o ≠ .cells cur e (0, 0)) : Lib.IsBuilder T e B b bs w' := by
 have one : ∀ p, Lib.BuilderAt T e B b p bs w → Lib.BuilderAt T e B b p bs w' := fun p h => by
  have hlt := h.lt
  obtain ⟨hB, v, hbk, hown, hne⟩ := h
  refine ⟨hB, v, (hg.block b hlt hb).trans hbk, hown.kept hg ?_, hne⟩
  rcases hown.2 with ⟨rfl, _⟩ | ⟨g, cap, cur, rfl, _, hgb, _⟩
  · exact .inl rfl
  · refine .inr fun e' => ?_
    obtain ⟨o, ho, hno⟩ := hrow g (by simpa [Value.ownBlock] using e'.symm)
    rw [hgb] at ho; cases ho; exact hno cur rfl
 exact h.imp (one _) (one _)
def cutB (s : ByteArray) : ByteArray := if 0 ≤ Lib.indexByte s.data.toList 35 then s.extract 0 (Lib.indexByte s.data.toList 35).toNat else s
theorem lcut_calls (s : ByteArray) (hs : s.size ≤ 2048) (w : World) :
 Calls Tryd.prog 35 #[.string s, .string ⟨#[35]⟩] w fun e w' => (∃ t b, e = .returned (.tuple #[.string (cutB s), .string t, .bool b])) ∧ ∃ m, w' = w.drewN m := by
 have HI := a_ (fun w => Tryd.stringslite_Index_one s 35 w)
 have hil := str_len s
 unfold cutB
 obtain ⟨q, hq⟩ : ∃ q, Lib.indexByte s.data.toList 35 = q := ⟨_, rfl⟩
 have hql := fun h => idxL_lt hq h
 rw [hq] at HI ⊢
 clear hq
 by_cases hq0 : 0 ≤ q
 case neg =>
  have hqb : decide (0 ≤ q) = false := decide_eq_false hq0
  rw [if_neg hq0]
  go_enter Tryd.func35, Tryd.ntmps35
  go_wp2_with (first
   | (go_at_call 46; refine (HI.out _).mono ?_; rintro e w5 ⟨rfl, hw5⟩; rw [hw5]))
  go_ret3
  exact ⟨⟨_, _, rfl⟩, 0, rfl⟩
 have hqb : decide (0 ≤ q) = true := decide_eq_true hq0
 have h1 := hql hq0
 have hz0 := eq_true hq0
 have hz1 := eq_true (show q ≤ (s.size : Int) by omega)
 obtain ⟨z, hz⟩ : ∃ z, wrap64 (q + 1) = z := ⟨_, rfl⟩
 have ez : q + 1 = z := by rw [← hz]; unfold wrap64; omega
 have hzw : IntKind.i64.wrap (q + 1) = z := (i64_w _).trans hz
 have i0 := eq_true (show 0 ≤ z by omega)
 have i1 := eq_true (show z ≤ (s.size : Int) by omega)
 rw [if_pos hq0]
 clear h1 ez hz hql hil
 go_enter Tryd.func35, Tryd.ntmps35
 go_wp2_with (first
  | (go_at_call 46; refine (HI.out _).mono ?_; rintro e w5 ⟨rfl, hw5⟩; rw [hw5]))
 go_quiet (fail)
 go_wp2
 go_ret3
 exact ⟨⟨_, _, rfl⟩, nq, rfl⟩
theorem cut_calls (s : ByteArray) (hs : s.size ≤ 2048) (w : World) :
 Calls Tryd.prog 24 #[.string s, .string ⟨#[35]⟩] w fun e w' => (∃ t b, e = .returned (.tuple #[.string (cutB s), .string t, .bool b])) ∧ ∃ m, w' = w.drewN m := by
 have H := lcut_calls s hs
 obtain ⟨c, hc⟩ : ∃ c, cutB s = c := ⟨_, rfl⟩
 rw [hc] at H ⊢
 go_enter Tryd.func24, Tryd.ntmps24
 go_wp2_with (first
  | (go_at_call 35; refine (H _).mono ?_; rintro e w5 ⟨⟨t, b, rfl⟩, m, rfl⟩))
 go_ret3
 exact ⟨⟨_, _, rfl⟩, m, rfl⟩
theorem lines.in_ (n : Nat) (hn : 1 ≤ n) (s : ByteArray) (w : World) :
 CallsIn Fence.wide n Tryd.prog 23 #[.string s] w fun e w' => e = .returned (.func (.func 33) #[] #[.pointer (some ⟨w.heap.size, 0, none⟩)]) ∧ w' = w.alloc (.cells #[.string s] 9) := by
 refine callsIn_of_wp Tryd.func23 rfl trivial ?_ rfl
 simp only [Tryd.ntmps23, List.size_toArray, List.length_cons, List.length_nil, Nat.reduceAdd, Nat.reduceSub, Array.replicate_succ, Array.replicate_zero, List.push_toArray, List.append_toArray, List.nil_append, List.cons_append]
 gi_wp2
 go_ret
 exact ⟨rfl, rfl⟩
theorem range_cut {F : Fence} {n : Nat} {P : Program} {g : Operand} {ps : Array Tmp} {assign body : Code} {Q : Exit → Act → World → Prop} {a : Act} {w : World}
 (h : ∀ asg bdy, asg = assign → bdy = body → (Code.rangeFunc g ps asg bdy).wpIn F n P Q a w) : (Code.rangeFunc g ps assign body).wpIn F n P Q a w := h _ _ rfl rfl
/-- the text without remarks, of the lines so far -/
def plStep (a x : ByteArray) : ByteArray := a ++ (cutB x ++ ⟨#[10]⟩)
def plB (xs : List ByteArray) : ByteArray := xs.foldl plStep ⟨#[]⟩
theorem plB_snoc (xs : List ByteArray) (x : ByteArray) : plB (xs ++ [x]) = plB xs ++ (cutB x ++ ⟨#[10]⟩) := by
 unfold plB
 rw [List.foldl_append]; rfl
theorem cutB_size (x : ByteArray) : (cutB x).size ≤ x.size := by
 unfold cutB
 split
 · rw [ByteArray.size_extract]; omega
 · exact Nat.le_refl _
theorem linesB_len : ∀ (k : Nat) (s : ByteArray), (linesB k s).length ≤ k
 | 0, _ => Nat.le_refl _
 | k + 1, s => by
  rw [linesB]
  split
  · split
    · rw [List.length_cons]; have := linesB_len k (s.extract (Lib.indexByte s.data.toList 10 + 1).toNat s.size); omega
    · simp
  · simp
theorem linesB_size : ∀ (k : Nat) (s x : ByteArray), x ∈ linesB k s → x.size ≤ s.size
 | 0, _, x, h => by rw [linesB] at h; cases h
 | k + 1, s, x, h => by
  rw [linesB] at h
  split at h
  · split at h
    · rcases List.mem_cons.1 h with rfl | h
      · rw [ByteArray.size_extract]; omega
      · have := linesB_size k _ x h
        rw [ByteArray.size_extract] at this
        omega
    · rw [List.mem_singleton] at h; rw [h]; exact Nat.le_refl _
  · cases h
theorem plB_size (N : Nat) : ∀ (xs : List ByteArray) (a : ByteArray), (∀ x ∈ xs, x.size ≤ N) → (xs.foldl plStep a).size ≤ a.size + xs.length * (N + 1)
 | [], a, _ => by simp
 | x :: xs, a, h => by
  have h1 := plB_size N xs (plStep a x) (fun y hy => h y (List.mem_cons_of_mem _ hy))
  have h2 := h x List.mem_cons_self
  have h3 := cutB_size x
  have h4 : (plStep a x).size = a.size + ((cutB x).size + 1) := by unfold plStep; rw [ByteArray.size_append, ByteArray.size_append]; rfl
  rw [List.foldl_cons, List.length_cons, Nat.succ_mul]
  omega
structure PlAt (rec : LoopState → Option Code → Loop) (w : World) (b Bn l D : Nat) (acc : ByteArray) (W : World) : Prop where
 bld : Lib.IsBuilder 64 5 b b (Lib.strCells acc) W
 bn : ∃ u, W.heap[Bn]? = some (.cells #[u] 9 (0, 0))
 L : W.heap[l]? = some (.loop (rec .ready none))
 K : W.heap[D]? = some (.deferred (some []))
 below : Below w.heap.size w W
theorem box_set1 {W : World} {B : Nat} {v : Value} {t : TypeId} (v' : Value) (h : W.heap[B]? = some (.cells #[v] t (0, 0))) : (W.setCell ⟨B, 0, none⟩ v').heap[B]? = some (.cells #[v'] t (0, 0)) := by
 obtain ⟨hlt, hk⟩ := Array.getElem?_eq_some_iff.1 h
 show (W.heap.modify B _)[B]? = _
 rw [Array.getElem?_eq_getElem (by rw [Array.size_modify]; exact hlt), Array.getElem_modify_self, hk]
 rfl
theorem PlAt.set {rec : LoopState → Option Code → Loop} {w : World} {b Bn l D : Nat} {acc : ByteArray} {W : World} (h : PlAt rec w b Bn l D acc W) (hb : b ≠ Bn) (hl : l ≠ Bn) (hD : D ≠ Bn) (hw : w.heap.size ≤ Bn) (v : Value) : PlAt rec w b Bn l D acc (W.setCell ⟨Bn, 0, none⟩ v) := by
 obtain ⟨u, hu⟩ := h.bn
 exact ⟨bld_kept h.bld (grownBy_setCell' W Bn v) (fun e => hb (by cases e; rfl)) (fun r e => by cases e; exact ⟨_, hu, fun cur e => by injection e with _ e2; exact absurd e2 (by decide)⟩), ⟨v, box_set1 v hu⟩,
  (Below.heap_setCell W _ v l (by show l ≠ Bn; exact hl)).trans h.L, (Below.heap_setCell W _ v D (by show D ≠ Bn; exact hD)).trans h.K, h.below.setCell (p := ⟨Bn, 0, none⟩) hw v⟩
theorem PlAt.dn {rec : LoopState → Option Code → Loop} {w : World} {b Bn l D : Nat} {acc : ByteArray} {W : World} (h : PlAt rec w b Bn l D acc W) (k : Nat) : PlAt rec w b Bn l D acc (W.drewN k) :=
 ⟨bld_below h.bld (below_dn (Below.refl _ _) k), h.bn, h.L, h.K, below_dn h.below k⟩
section
attribute [local go_sem] Oper.semAt_some
theorem plain.in_ (n : Nat) (hn : 4 ≤ n) (s : ByteArray) (hs : s.size ≤ 2048) (w : World) :
 CallsIn Fence.wide n Tryd.prog 17 #[.string s] w fun e w' => e = .returned (.string (plB (linesB s.size s))) ∧ Below w.heap.size w w' := by
 have hn1 : 1 ≤ n := by omega
 have hn2 : 1 ≤ n - 1 - 1 := by omega
 have ff1 : Fence.wide.fn 23 := trivial
 have ff2 : Fence.wide.fn 24 := trivial
 have ff3 : Fence.wide.fn 25 := trivial
 have ff4 : Fence.wide.fn 26 := trivial
 have huB := Tryd.underlying64
 refine callsIn_of_wp_marks Tryd.func17 rfl trivial ?_ rfl
 simp only [Tryd.ntmps17, List.size_toArray, List.length_cons, List.length_nil, Nat.reduceAdd, Nat.reduceSub, Array.replicate_succ, Array.replicate_zero, List.push_toArray, List.append_toArray, List.nil_append, List.cons_append]
 gi_wp2_with (first
  | (gi_at_call 23; refine (lines.in_ (n - 1) (by omega) s _).mono ?_; rintro e w5 ⟨rfl, hw5⟩; rw [hw5]))
 refine range_cut ?_
 intro asg bdy hasg0 hbdy0
 have hasg := a_ hasg0
 have hbdy := a_ hbdy0
 clear hasg0 hbdy0
 refine wpIn_rangeFunc ?_
 intro fn hfn
 rw [show Fence.wide.round = none from rfl]
 have hbx : (w.alloc (.cells #[.pointer none, .slice none 0 0] 64)).heap[w.heap.size]? = some (.cells #[.pointer none, .slice none 0 0] 64 (0, 0)) := World.alloc_heap_new w _
 have hB0 : Below w.heap.size w (w.alloc (.cells #[.pointer none, .slice none 0 0] 64)) := (Below.refl _ w).alloc (Nat.le_refl _) _
 have hsz0 : (w.alloc (.cells #[.pointer none, .slice none 0 0] 64)).heap.size = w.heap.size + 1 := by simp
 obtain ⟨Wa, hWa⟩ : ∃ Wa, w.alloc (.cells #[.pointer none, .slice none 0 0] 64) = Wa := ⟨_, rfl⟩
 rw [hWa] at hbx hB0 hsz0
 rw [hWa]
 clear hWa
 obtain ⟨W0, hW0⟩ : ∃ W0, Wa.alloc (.cells #[.string s] 9) = W0 := ⟨_, rfl⟩
 have hs0 : W0.heap.size = w.heap.size + 2 := by rw [← hW0]; simp [hsz0]
 have hn0 : W0.heap[w.heap.size + 1]? = some (.cells #[.string s] 9 (0, 0)) := by rw [← hW0, ← hsz0]; exact World.alloc_heap_new Wa _
 have hb0 : W0.heap[w.heap.size]? = some (.cells #[.pointer none, .slice none 0 0] 64 (0, 0)) := by rw [← hW0]; exact (Below.heap_alloc _ _ _ (by omega)).trans hbx
 have hB1 : Below w.heap.size w W0 := by rw [← hW0]; exact hB0.alloc (by omega) _
 rw [hW0]
 clear hW0 hbx hB0 hsz0
 obtain ⟨Bn, hBn0⟩ : ∃ Bn, w.heap.size + 1 = Bn := ⟨_, rfl⟩
 obtain ⟨b, hb0_⟩ : ∃ b, w.heap.size = b := ⟨_, rfl⟩
 rw [hBn0] at hn0 ⊢
 rw [hb0_] at hb0
 simp only [hb0_]
 obtain ⟨rec, hrec⟩ : ∃ rec : LoopState → Option Code → Loop, rec = fun st pend => { state := st, pending := pend, fn, tmps := #[.string s, undef, .string ⟨#[]⟩, .pointer (some ⟨b, 0, none⟩), undef, undef, undef, undef, .string s, .func (.func 33) #[] #[.pointer (some ⟨Bn, 0, none⟩)], undef, undef, undef, undef, undef, undef, undef, undef, undef, undef, undef], params := #[10], assign := asg, body := bdy, defers := W0.heap.size } := ⟨_, rfl⟩
 have Hrec := a_ hrec
 clear hrec
 obtain ⟨W1, hW1⟩ : ∃ W1, (W0.alloc (.deferred (some []))).alloc (.loop (rec .ready none)) = W1 := ⟨_, rfl⟩
 have hold : ∀ k, k < W0.heap.size → W1.heap[k]? = W0.heap[k]? := fun k hk => by
  rw [← hW1]; exact (Below.heap_alloc _ _ k (by simp; omega)).trans (Below.heap_alloc _ _ k hk)
 have hb1 : Below w.heap.size w W1 := by rw [← hW1]; exact (hB1.alloc (by omega) _).alloc (by simp; omega) _
 have hs1 : W1.heap.size = W0.heap.size + 2 := by rw [← hW1]; simp
 obtain ⟨l, hl0⟩ : ∃ l, l = W0.heap.size + 1 := ⟨_, rfl⟩
 obtain ⟨D, hD0⟩ : ∃ D, D = W0.heap.size := ⟨_, rfl⟩
 have hM : PlAt rec w b Bn l D (plB []) W1 := by
  subst hl0 hD0
  exact ⟨bld_new ((hold b (by omega)).trans hb0), ⟨_, (hold Bn (by omega)).trans hn0⟩,
   by rw [← hW1]; have := World.alloc_heap_new (W0.alloc (.deferred (some []))) (.loop (rec .ready none)); rwa [World.size_alloc] at this,
   by rw [← hW1]; exact (Below.heap_alloc _ _ _ (by simp)).trans (World.alloc_heap_new W0 _), hb1⟩
 have hcn1 : W1.cell? ⟨Bn, 0, none⟩ = some (.string s) ∧ W1.frozen? ⟨Bn, 0, none⟩ = false := by
  have hh := (hold Bn (by omega)).trans hn0
  constructor <;> simp [World.cell?, World.frozen?, hh]
 have hbBn : b ≠ Bn := by omega
 have hbl : b ≠ l := by omega
 have hbD : b ≠ D := by omega
 have hlBn : l ≠ Bn := by omega
 have hDBn : D ≠ Bn := by omega
 have hDl : D ≠ l := by omega
 have hwBn : w.heap.size ≤ Bn := by omega
 have hwl : w.heap.size ≤ l := by omega
 have hwb : w.heap.size ≤ b := by omega
 have hyield : ∀ (pre : List ByteArray) (x : ByteArray) (W : World), PlAt rec w b Bn l D (plB pre) W → (∃ rest, linesB s.size s = pre ++ x :: rest) → YieldAt Fence.wide (n - 1 - 1) Tryd.prog l #[.string x] W fun e W' => e = .returned (.bool true) ∧ PlAt rec w b Bn l D (plB (pre ++ [x])) W' ∧ W'.heap[Bn]? = W.heap[Bn]? := by
  intro pre x W h hrest
  clear hM hb1 hold hs1 hb0 hn0 hB1 hcn1
  obtain ⟨rest, hrest⟩ := hrest
  have hxs : x.size ≤ 2048 := by have := linesB_size s.size s x (by rw [hrest]; simp); omega
  have hcs := cutB_size x
  have hps : (plB pre).size ≤ 0 + pre.length * (2048 + 1) := plB_size 2048 pre ⟨#[]⟩ (fun y hy => by have := linesB_size s.size s y (by rw [hrest]; simp [hy]); omega)
  have hpl : pre.length ≤ 2048 := by
   have h1 := linesB_len s.size s
   rw [hrest, List.length_append] at h1; omega
  refine ⟨fn, #[.string s, undef, .string ⟨#[]⟩, .pointer (some ⟨b, 0, none⟩), undef, undef, undef, undef, .string s, .func (.func 33) #[] #[.pointer (some ⟨Bn, 0, none⟩)], .string x, undef, undef, undef, undef, undef, undef, undef, undef, undef, undef], asg, bdy, by simpa [Hrec.out] using run_yield (P := Tryd.prog) (args := #[.string x]) h.L (by rw [Hrec.out]; rfl), roundIn_of_wpIn hfn ?_⟩
  clear hl0 hD0 hs0 hW1 hrest
  have hl : l < W.heap.size := (Array.getElem?_eq_some_iff.1 h.L).1
  have hbr := run_beginRound (P := Tryd.prog) h.L (by rw [Hrec.out])
  obtain ⟨W2, hW2⟩ : ∃ W2, W.putObj l (.loop { rec .ready none with state := .busy }) = W2 := ⟨_, rfl⟩
  rw [hW2] at hbr
  have hg2 : W.grownBy W2 (some l) := by rw [← hW2]; exact grownBy_putObj' _ _ _
  have bld2 : Lib.IsBuilder 64 5 b b (Lib.strCells (plB pre)) W2 := bld_kept h.bld hg2 (fun e => hbl (by cases e; rfl)) (fun r e => by cases e; exact ⟨_, h.L, fun cur e => by cases e⟩)
  have hBn2 : W2.heap[Bn]? = W.heap[Bn]? := by rw [← hW2]; exact World.putObj_heap_other (Ne.symm hlBn)
  have hK2 : W2.heap[D]? = some (.deferred (some [])) := by rw [← hW2]; exact (World.putObj_heap_other hDl).trans h.K
  have hL2 : W2.heap[l]? = some (.loop { rec .ready none with state := .busy }) := by rw [← hW2]; exact World.putObj_heap_same hl
  have hx2 : Below w.heap.size w W2 := h.below.grown hg2 h.below.size (fun k e => by cases e; exact hwl)
  have hbW2 : b ≤ W2.heap.size := by rcases bld2 with h_ | h_ <;> exact Nat.le_of_lt h_.lt
  obtain ⟨u, hu⟩ := h.bn
  have hu2 : W2.heap[Bn]? = some (.cells #[u] 9 (0, 0)) := hBn2.trans hu
  obtain ⟨c, hc⟩ : ∃ c, cutB x = c := ⟨_, rfl⟩
  have HCut := a_ (cut_calls x hxs)
  rw [hc] at HCut hcs
  have hsn := a_ (plB_snoc pre x)
  rw [hc] at hsn
  obtain ⟨acc, hacc⟩ : ∃ acc, plB pre = acc := ⟨_, rfl⟩
  rw [hacc] at hsn bld2 hps
  have HB2 := a_ bld2
  have hsum := a_ (show acc.size + (c.size + 1) ≤ 140737488355328 by omega)
  have HWr := a_ (fun m => builder_write b b (Lib.strCells acc) (c ++ ⟨#[10]⟩) (W2.drewN m) (bld_below HB2.out (below_dn (Below.refl _ _) m)) (by rw [Lib.strCells_length, ByteArray.size_append]; exact hsum.out) hbW2)
  have hov : (9223372036854775807 < c.size + 1) = False := eq_false (by omega)
  clear hW2 bld2 hc hcs hps hpl hxs
  obtain rfl := hasg.out
  gi_wp2_with (rw [Oper.semAt_eq _ _ _ (fun c h => by cases h)]; go_simp; try go_bits)
  obtain rfl := hbdy.out
  gi_wp2_with (first
   | (gi_at_call 24; refine ((callsIn_wide).2 (HCut.out _)).mono ?_; rintro e w5 ⟨⟨t5, b5, rfl⟩, m5, hw5⟩; rw [hw5])
   | (gi_at_call 25; refine ((callsIn_wide).2 (HWr.out m5)).mono ?_; rintro e w6 ⟨rfl, h6, hb6, hk6⟩)
   | (rw [Oper.semAt_eq _ _ _ (fun c h => by cases h)]; go_simp; try go_bits))
  rw [str_cells, ← hsn.out] at h6
  have bld6 : Lib.IsBuilder 64 5 b b (Lib.strCells (plB (pre ++ [x]))) w6 := .inr h6
  have hL6 : w6.heap[l]? = some (.loop { rec .ready none with state := .busy }) := hk6 l _ hL2 (Ne.symm hbl) (fun cur e => by cases e)
  have hK6 : w6.heap[D]? = some (.deferred (some [])) := hk6 D _ hK2 (Ne.symm hbD) (fun cur e => by cases e)
  have hBn6 : w6.heap[Bn]? = some (.cells #[u] 9 (0, 0)) := hk6 Bn _ hu2 (Ne.symm hbBn) (fun cur e => by injection e with _ e2; exact absurd e2 (by decide))
  have hx6 : Below w.heap.size w w6 := (below_dn hx2 m5).trans (hb6.mono hwb)
  have hl6 : l < w6.heap.size := (Array.getElem?_eq_some_iff.1 hL6).1
  have hrr : ({ { rec .ready none with state := .busy } with state := if (none : Option Code).isNone then .ready else .done, pending := none } : Loop) = rec .ready none := by rw [Hrec.out]; rfl
  have hg7 := grownBy_putObj' w6 l (.loop { { rec .ready none with state := .busy } with state := if (none : Option Code).isNone then .ready else .done, pending := none })
  refine ⟨_, _, run_endRound none hL6, rfl, ⟨bld_kept bld6 hg7 (fun e => hbl (by cases e; rfl)) (fun r e => by cases e; exact ⟨_, hL6, fun cur e => by cases e⟩), ⟨u, (World.putObj_heap_other (Ne.symm hlBn)).trans hBn6⟩, ?_, (World.putObj_heap_other hDl).trans hK6, hx6.grown hg7 hx6.size (fun k e => by cases e; exact hwl)⟩, (by first | exact ((World.putObj_heap_other (Ne.symm hlBn)).trans hBn6).trans hu.symm | exact (World.putObj_heap_other (Ne.symm hlBn)).trans hBn6)⟩
  rw [hrr]
  exact World.putObj_heap_same hl6
 refine ⟨l, [{ target := .collected D, args := #[] }], W1, { target := .fn (.func 33) #[.pointer (some ⟨Bn, 0, none⟩)], args := #[.func (.yield l) #[] #[]] }, W1, 33, #[.func (.yield l) #[] #[]] ++ #[.pointer (some ⟨Bn, 0, none⟩)], W1, ?_, ?_, ?_, ?_, fun _ => hn1, ?_⟩
 · subst hl0 hD0
   rw [← hW1, Hrec.out]
   exact run_enterLoop_outer _ _ _ _ _
 · simp [resolve, go_sem]
 · intro f' hf'; simp [Target.leads] at hf'; subst hf'; trivial
 · simp [invoke, go_sem, enters_of Tryd.func33 (by kernel_rfl) rfl]
 · refine (lines_1.in_ (n - 1) (by omega) l Bn s hs (fun pre W => PlAt rec w b Bn l D (plB pre) W) (fun p W v hJ => hJ.set hbBn hlBn hDBn hwBn v) (fun p W k hJ => hJ.dn k) hyield W1 hcn1.1 hcn1.2 hM).mono ?_
   rintro e W2 ⟨⟨v0, rfl⟩, ys, rfl, h2⟩
   have hpe : (rec .ready none).pending = none := by rw [Hrec.out]
   obtain ⟨W3, hW3⟩ : ∃ W3, W2.putObj l (.loop { rec .ready none with state := .exhausted }) = W3 := ⟨_, rfl⟩
   have hend : (Instr.endLoop l).run Tryd.prog W2 = .ok none W3 := (run_endLoop (P := Tryd.prog) h2.L (by rw [Hrec.out]; simp)).trans (by rw [← hW3]; simp only [hpe])
   have hg3 : W2.grownBy W3 (some l) := by rw [← hW3]; exact grownBy_putObj' _ _ _
   have bld3 : Lib.IsBuilder 64 5 b b (Lib.strCells (plB (linesB s.size s))) W3 := bld_kept h2.bld hg3 (fun e => hbl (by cases e; rfl)) (fun r e => by cases e; exact ⟨_, h2.L, fun cur e => by cases e⟩)
   have hK3 : W3.heap[D]? = some (.deferred (some [])) := by rw [← hW3]; exact (World.putObj_heap_other hDl).trans h2.K
   have hb3 : Below w.heap.size w W3 := h2.below.grown hg3 h2.below.size (fun k e => by cases e; exact hwl)
   have hbW3 : b ≤ W3.heap.size := by rcases bld3 with h_ | h_ <;> exact Nat.le_of_lt h_.lt
   obtain ⟨acc, hacc⟩ : ∃ acc, plB (linesB s.size s) = acc := ⟨_, rfl⟩
   rw [hacc] at bld3
   have HAcc := a_ hacc
   rw [Lib.strCells_eq] at bld3
   have HSt := a_ (Any.Builder_String_any_k Tryd.lays169 Tryd.Builder_Extra_169 b b acc.data.toList W3 (Lib.IsBuilderF.of bld3) hbW3)
   clear hW3
   refine ⟨none, W3, hend, ?_⟩
   clear hyield hM hb1 hold hs1 hb0 hn0 hB1 hcn1 hpe hend h2 hW1 hasg hbdy Hrec hacc bld3
   gi_wp2_with (first
    | (gi_at_call 26; refine ((callsIn_wide).2 HSt.out).mono ?_; rintro e w6 ⟨rfl, h6, hb6, hk6⟩))
   have hK6 : w6.heap[D]? = some (.deferred (some [])) := hk6 D _ hK3 (fun e => hbD (by cases e; rfl)) (fun c fz e => by cases e)
   have hb7 : Below w.heap.size w w6 := hb3.trans (hb6.mono hwb)
   have hDb : D = b + 2 := by omega
   rw [hDb] at hK6
   refine ⟨by simp, .inl ⟨_, _, rfl, run_takeDeferred hK6, ?_⟩⟩
   exact ⟨_, results_tmp rfl _ _ _, by rw [HAcc.out]; rfl, hb7.grown (grownBy_putObj' _ _ _) hb7.size (fun k e => by cases e; omega)⟩
end
def lex_plain.f (s : ByteArray) : Option ByteArray := if s.size ≤ 2048 then some (plB (linesB s.size s)) else none
theorem lex_plain.calls (s r : ByteArray) (w : World) (h : lex_plain.f s = some r) :
 Calls Tryd.prog 17 #[.string s] w fun e w' => e = .returned (.string r) ∧ Below w.heap.size w w' := by
 unfold lex_plain.f at h
 by_cases c : s.size ≤ 2048
 case neg =>
  rw [if_neg c] at h; cases h

 rw [if_pos c] at h
 obtain rfl := Option.some.inj h
 exact (callsIn_wide (n := 4)).1 (plain.in_ 4 (by omega) s c w)
end Go.Proofs.YtljlmkbcichlpaaDoor.G
