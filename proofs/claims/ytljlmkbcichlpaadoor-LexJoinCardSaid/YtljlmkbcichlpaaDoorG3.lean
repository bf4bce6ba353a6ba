-- Laid by the session's own driver gp.py over the kit's printer. Not trusted: Lean checks it.
import Derived.Test.YtljlmkbcichlpaaDoorTHead
import Derived.Test.YtljlmkbcichlpaaDoorG0
import Derived.Test.YtljlmkbcichlpaaDoorG1
import Derived.Test.YtljlmkbcichlpaaDoorG2
namespace Go.Proofs.YtljlmkbcichlpaaDoor.G
open Go.RowKit Go.Proofs.YtljlmkbcichlpaaDoorW.PrintWords Go.Proofs.YtljlmkbcichlpaaDoorW.PrintLast Go.Proofs.YtljlmkbcichlpaaDoorW.PrintMore
set_option maxHeartbeats 8000000
set_option maxRecDepth 100000
attribute [local go_sem] max2_int min2_int max_two min_two max_three min_three max_four min_four   -- for this text's walks alone
set_option linter.unusedVariables false
set_option linter.unusedSimpArgs false

theorem infoStrL : (Tryd.prog.info? 9).map (fun i => (i.zero, i.size, i.bytes)) = some (some (.string ⟨#[]⟩), 1, 16) := by kernel_rfl
def repRow : List ByteArray := [⟨#[40]⟩, ⟨#[32, 40, 32]⟩, ⟨#[41]⟩, ⟨#[32, 41, 32]⟩]
/-- a Replacer that has not been used yet: m is what its lock holds -/
def RepAt (m : Int) (w : World) (R : Nat) : Prop := ∃ Ao co, w.heap[R]? = some (.cells #[.int .u32 0, .int .i32 m, .int .u32 0, .nilIface, .slice Ao repRow.length co] 60 (0, 0)) ∧ Kd.C Kd.string w Ao repRow.length repRow ∧ ∀ ad, Ao = some ad → 0 < repRow.length → ad.block ≠ R
theorem newrep_calls (A : Option Addr) (c : Nat) (w : World) (hr : Kd.C Kd.string w A repRow.length repRow) :
 Calls Tryd.prog 15 #[.slice A repRow.length c] w fun e w' => ∃ R, e = .returned (.pointer (some ⟨R, 0, none⟩)) ∧ w.heap.size ≤ R ∧ RepAt 0 w' R ∧ Below w.heap.size w w' := by
 have HR := a_ hr
 have HB := a_ (Below.refl w.heap.size w)
 obtain ⟨L, hL⟩ : ∃ L, L = repRow := ⟨_, rfl⟩
 rw [← hL] at HR ⊢
 have hln : (L.length : Int) = 4 := by rw [hL]; rfl
 have hlm : L.length = 4 := by rw [hL]; rfl
 have HLL := a_ hlm
 have ht : Int.tmod (L.length : Int) 2 = 0 := by rw [hln]; rfl
 have ht2 : ((L.length : Int) % 2 == 1) = false := by rw [hln]; rfl
 have ht3 : ((0 : Int) == 1) = false := rfl
 have HLq := a_ hL
 clear hr hln hlm hL
 go_enter Tryd.func15, Tryd.ntmps15
 go_upto_region 3 with (fail)
 apply wp_region_lit
 refine wpList_plain rfl (fun K hK => ?_)
 go_simp
 refine hK _ _ ?_
 clear hK K
 at_builtin
 refine Kd.R_append_rows Kd.string (w0 := w) w.heap.size rfl (.const (.slice none 0 0)) (.tmp 8) 22 9 (.string ⟨#[]⟩) 16 rfl Tryd.underlying22 infoStrL rfl (show 0 < 1 by decide) (by omega) (.slice none 0 0) [] L _ _ _ (fun _ => True) (fun _ => False) rfl rfl (Kd.R_nil _ _ _ _ _) HR.out (fun _ _ h => h) (fun _ h => h.elim) (fun _ _ => trivial) HB.out (Nat.le_refl _) (by have := HLL.out; simp only [List.length_nil, Nat.zero_add]; omega) ?_
 intro v7 w7 ho hb hg hat
 rw [List.nil_append] at ho
 obtain ⟨Ao, co, rfl⟩ := Kd.R_slice ho
 have HO := a_ ho
 have HB7 := a_ hb
 clear ho hb hg hat
 simp only [Act.put, List.setIfInBounds_toArray, List.set_cons_zero, List.set_cons_succ]
 go_wp2
 go_ret
 have hal := Below.heap_alloc w7 (.cells #[.int .u32 0, .int .i32 0, .int .u32 0, .nilIface, .slice Ao L.length co] 60)
 have hba : Below w7.heap.size w7 (w7.alloc (.cells #[.int .u32 0, .int .i32 0, .int .u32 0, .nilIface, .slice Ao L.length co] 60)) := (Below.refl _ w7).alloc (Nat.le_refl _) _
 refine ⟨w7.heap.size, rfl, HB7.out.size, ⟨Ao, co, ?_, ?_, ?_⟩, HB7.out.trans (hba.mono HB7.out.size)⟩
 · rw [← HLq.out]; exact World.alloc_heap_new w7 _
 · rw [← HLq.out]; exact Kd.C_below (Kd.R_reads' HO.out).2.2 hba
 · rw [← HLq.out]; exact Kd.far_C ByteArray.empty (Kd.R_reads' HO.out).2.2 (Nat.le_refl _)
/-- the table of a replacer of bytes, before it is filled -/
def tabZ (t : Nat) : Array Value := (Array.replicate 256 (Value.slice none 0 0)).push (.slice (some ⟨t, 0, none⟩) 0 2)
theorem tab_zero (W : World) : (zeroValue 100).run Tryd.prog W = .ok (.agg (Array.replicate 257 (Value.slice none 0 0))) W :=
 (zero_of_info (n := 257) (show (Tryd.prog.info? 100).map (fun i => (i.zero, i.size)) = some (some (.agg (Array.replicate 257 (Value.slice none 0 0))), 257) by kernel_rfl)).1 W
theorem tab_size : (Tryd.prog.info? 100).map (·.size) = some 257 := by kernel_rfl
theorem tab_build (W : World) (t : Nat) : (Instr.build 100 #[(1, .slice (some ⟨t, 0, none⟩) 0 2)]).run Tryd.prog W = .ok (.agg (tabZ t)) W :=
 run_build W _ _ _ (by kernel_rfl)
theorem tab_list (t : Nat) : (Array.replicate 257 (Value.slice none 0 0)).toList.set 256 (.slice (some ⟨t, 0, none⟩) 0 2) = (tabZ t).toList := by kernel_rfl
theorem tab_one (t : Nat) : (tabZ t).all (·.oneCell') = true := by kernel_rfl
theorem rep_even (x : Int) (hx : x = 0 ∨ x = 2) : (rdOf ByteArray.empty repRow x).size = 1 ∧ (rdOf ByteArray.empty repRow (x + 1)).size = 3 := by
 rcases hx with rfl | rfl <;> exact ⟨rfl, rfl⟩
theorem bw_below (w : World) (e : TypeId) (s : ByteArray) : Below w.heap.size w (Lib.bytesWorld w e s) := ⟨rfl, rfl, rfl, by rw [Lib.bytesWorld_size]; omega, fun k hk => Lib.bytesWorld_at_old w e s k hk⟩
theorem set_blk {W : World} {B : Nat} {cs : Array Value} {t : TypeId} {m : Nat × Nat} (o : Nat) (v : Value) (h : W.heap[B]? = some (.cells cs t m)) : (W.setCell ⟨B, o, none⟩ v).heap[B]? = some (.cells (cs.setIfInBounds o v) t m) := by
 obtain ⟨hlt, hk⟩ := Array.getElem?_eq_some_iff.1 h
 show (W.heap.modify B _)[B]? = _
 rw [Array.getElem?_eq_getElem (by rw [Array.size_modify]; exact hlt), Array.getElem_modify_self, hk]
 rfl
/-- the three bytes laid for one byte -/
def Triple (w : World) (A : Nat) (b : Int) : Prop := w.cell? ⟨A, 0, none⟩ = some (.int .u8 32) ∧ w.cell? ⟨A, 1, none⟩ = some (.int .u8 b) ∧ w.cell? ⟨A, 2, none⟩ = some (.int .u8 32)
theorem Triple.below {w w' : World} {A : Nat} {b : Int} (h : Triple w A b) (hb : Below w.heap.size w w') : Triple w' A b := ⟨cl_ hb h.1, cl_ hb h.2.1, cl_ hb h.2.2⟩
theorem Triple.set {w : World} {A : Nat} {b : Int} (h : Triple w A b) (B : Nat) {o : Nat} {v : Value} (hn : ¬ A = B) : Triple (w.setCell ⟨B, o, none⟩ v) A b := by
 have nb : ∀ j : Nat, (⟨B, o, none⟩ : Addr) ≠ ⟨A, j, none⟩ := fun j h => hn (congrArg Addr.block h).symm
 exact ⟨(World.cell?_setCell_other _ _ _ _ (nb 0)).trans h.1, (World.cell?_setCell_other _ _ _ _ (nb 1)).trans h.2.1, (World.cell?_setCell_other _ _ _ _ (nb 2)).trans h.2.2⟩
def tabA (t A cA : Nat) : Array Value := ((tabZ t).setIfInBounds 256 (.slice (some ⟨t, 0, none⟩) 1 2)).setIfInBounds 41 (.slice (some ⟨A, 0, none⟩) 3 cA)
def tabB (t A cA B cB : Nat) : Array Value := ((tabA t A cA).setIfInBounds 256 (.slice (some ⟨t, 0, none⟩) 2 2)).setIfInBounds 40 (.slice (some ⟨B, 0, none⟩) 3 cB)
/-- the table with one byte laid -/
def RepHalf (w : World) (t : Nat) : Prop := ∃ A cA, w.heap[t]? = some (.cells #[.string ⟨#[41]⟩, .string ⟨#[]⟩] 9 (0, 0)) ∧ w.heap[t + 1]? = some (.cells (tabA t A cA) 100 (0, 0)) ∧ Triple w A 41 ∧ t + 1 < A
/-- the table, whole -/
def RepTab (w : World) (t : Nat) : Prop := ∃ A cA B cB, w.heap[t]? = some (.cells #[.string ⟨#[41]⟩, .string ⟨#[40]⟩] 9 (0, 0)) ∧ w.heap[t + 1]? = some (.cells (tabB t A cA B cB) 100 (0, 0)) ∧ Triple w A 41 ∧ Triple w B 40 ∧ t + 1 < A ∧ t + 1 < B
theorem build_calls (R : Nat) (m : Int) (w : World) (hR : RepAt m w R) :
 Calls Tryd.prog 32 #[.pointer (some ⟨R, 0, none⟩)] w fun e w' => ∃ t, e = .returned (.iface 101 (.pointer (some ⟨t + 1, 0, none⟩))) ∧ RepTab w' t ∧ Below w.heap.size w w' ∧ w.heap.size ≤ t := by
 obtain ⟨Ao, co, hRb, hC, _⟩ := hR
 obtain ⟨L, hL⟩ : ∃ L, L = repRow := ⟨_, rfl⟩
 rw [← hL] at hRb hC
 have hlm : L.length = 4 := by rw [hL]; rfl
 obtain ⟨ad, e0, _⟩ := Kd.at_string hC 0 (by omega) (by omega)
 subst e0
 have c4 : w.cell? ⟨R, 4, none⟩ = some (.slice (some ad) L.length co) := (blk_cell hRb 4).trans rfl
 have HLQ := a_ hL
 have HLM := a_ hlm
 have HC := a_ hC
 have HB := a_ (Below.refl w.heap.size w)
 have hl2 : ((L.length : Int) == 2) = false := by rw [hlm]; rfl
 clear hL hlm hC hRb
 go_enter Tryd.func32, Tryd.ntmps32
 go_wp2
 go_loopg [4, 5] 2 (fun g v4 v5 w' => ∃ (b : Bool) (x : Int), v4 = .bool b ∧ v5 = .int .i64 x ∧ Aside0 ((x = 0 ∧ g = 2) ∨ (b = false ∧ x = 2 ∧ g = 1) ∨ (b = false ∧ x = 4 ∧ g = 0)) ∧ w' = w)
 case atStart => exact ⟨true, 0, rfl, rfl, ⟨.inl ⟨rfl, rfl⟩⟩, rfl⟩
 case round =>
  obtain ⟨b, x, rfl, rfl, HG, hwr⟩ := hrel
  obtain rfl : w = wr := hwr.symm
  cases gk with
  | zero =>
   obtain ⟨rfl, rfl⟩ : b = false ∧ x = 4 := by rcases HG.out with h | h | h <;> first | (exfalso; omega) | exact ⟨h.1, h.2.1⟩
   have hd : decide ((4 : Int) < (L.length : Int)) = false := decide_eq_false (by have := HLM.out; omega)
   obtain ⟨i9, hi9, hz9, hs9, hb9⟩ := info_parts infoStrL
   have hmk : ∀ W : World, (Instr.makeSlice 22 (.int .i64 0) (.int .i64 (wrap64 ((L.length : Int) / 2)))).run Tryd.prog W = .ok (.slice (some ⟨W.heap.size, 0, none⟩) 0 2) (W.alloc (.cells #[.string ⟨#[]⟩, .string ⟨#[]⟩] 9)) := by
    intro W
    rw [HLM.out, show wrap64 (((4 : Nat) : Int) / 2) = 2 by unfold wrap64; omega]
    have h_ := run_makeSlice (P := Tryd.prog) (w := W) 22 9 i9 (.string ⟨#[]⟩) Tryd.underlying22 hi9 hz9 .i64 .i64 0 2 (by decide) (by decide) (by rw [hs9]; decide) (by rw [hb9]; decide) (by decide)
    rw [hs9, show madeCells (Value.string ⟨#[]⟩).cells (Int.toNat 2 * 1) = #[.string ⟨#[]⟩, .string ⟨#[]⟩] by kernel_rfl] at h_
    exact h_
   clear hi9 hz9 hs9 hb9
   obtain ⟨Z, hZ⟩ : ∃ Z, Array.replicate 257 (Value.slice none 0 0) = Z := ⟨_, rfl⟩
   have hzs : Z.size = 257 := by rw [← hZ]; simp
   have hz0 := tab_zero
   rw [hZ] at hz0
   obtain ⟨cs, hcs⟩ : ∃ cs, tabZ w.heap.size = cs := ⟨_, rfl⟩
   have hbd := fun W => tab_build W w.heap.size
   rw [hcs] at hbd
   have hcz : cs.size = 257 := by rw [← hcs]; unfold tabZ; simp
   have hst := run_storeCells_new (P := Tryd.prog) (w.alloc (.cells #[.string ⟨#[]⟩, .string ⟨#[]⟩] 9)) 100 Z cs (by rw [hcz]; exact tab_size) (by rw [hzs, hcz]) (by rw [← hcs]; exact tab_one _)
   rw [World.size_alloc, ← hcs, ← tab_list, hZ, hcs] at hst
   have HCS := a_ hcs
   clear hZ hcs hbd
   have hw2 : wrap64 ((L.length : Int) - 2) = 2 := by rw [HLM.out]; unfold wrap64; omega
   have hw2w : IntKind.i64.wrap ((L.length : Int) - 2) = 2 := (i64_w _).trans hw2
   go_wp2
   clear hst hmk hz0 hd hw2 hw2w
   obtain ⟨t, ht⟩ : ∃ t, w.heap.size = t := ⟨_, rfl⟩
   have htT : (w.alloc (.cells #[.string ⟨#[]⟩, .string ⟨#[]⟩] 9)).heap.size = t + 1 := by rw [World.size_alloc, ht]
   have k1 : ((w.alloc (.cells #[.string ⟨#[]⟩, .string ⟨#[]⟩] 9)).alloc (.cells cs 100)).heap[t + 1]? = some (.cells cs 100 (0, 0)) := by rw [← htT]; exact World.alloc_heap_new _ _
   have k0 : ((w.alloc (.cells #[.string ⟨#[]⟩, .string ⟨#[]⟩] 9)).alloc (.cells cs 100)).heap[t]? = some (.cells #[.string ⟨#[]⟩, .string ⟨#[]⟩] 9 (0, 0)) := by rw [← ht]; exact (Below.heap_alloc _ _ _ (by rw [World.size_alloc]; omega)).trans (World.alloc_heap_new _ _)
   have hB1 : Below w.heap.size w ((w.alloc (.cells #[.string ⟨#[]⟩, .string ⟨#[]⟩] 9)).alloc (.cells cs 100)) := ((Below.refl _ w).alloc (Nat.le_refl _) _).alloc (by rw [World.size_alloc]; omega) _
   generalize (w.alloc (.cells #[.string ⟨#[]⟩, .string ⟨#[]⟩] 9)).alloc (.cells cs 100) = W6 at k0 k1 hB1 ⊢
   have hTB : tabZ t = cs := by rw [← ht]; exact HCS.out
   have HTBo := a_ hTB
   have htw : w.heap.size ≤ t := by omega
   have HTT := a_ ht
   clear hTB
   simp only [ht]
   clear ht
   go_loopg [12, 13, 14] 2 (fun g v0 v1 v2 w' => ∃ (x : Int), v0 = .int .i64 x ∧ Aside0 ((x = 2 ∧ g = 2 ∧ w' = W6) ∨ (x = 0 ∧ g = 1 ∧ RepHalf w' t ∧ Below w.heap.size w w') ∨ (x = -2 ∧ g = 0 ∧ RepTab w' t ∧ Below w.heap.size w w')))
   case atStart => exact ⟨2, by first | rfl | simp, ⟨.inl ⟨rfl, rfl, rfl⟩⟩⟩
   case round =>
    obtain ⟨x, rfl, X0⟩ := hrel
    rcases X0.out with ⟨hx, hg, hwr⟩ | ⟨hx, hg, hR, hBr⟩ | ⟨hx, hg, hR, hBr⟩
    all_goals clear X0
    all_goals have HX := a_ hx
    · obtain rfl : W6 = wr := hwr.symm
      obtain ⟨a1, e1, h1⟩ := Kd.at_string HC.out x (by omega) (by have := HLM.out; omega)
      cases e1
      obtain ⟨a2, e2, h2⟩ := Kd.at_string HC.out (x + 1) (by omega) (by have := HLM.out; omega)
      cases e2
      replace h1 := cl_ hB1 h1
      replace h2 := cl_ hB1 h2
      obtain ⟨o, ho⟩ : ∃ o, rdOf ByteArray.empty L x = o := ⟨_, rfl⟩
      have hob : o = ⟨#[41]⟩ := by rw [← ho, HLQ.out, hx]; rfl
      have hos : (0 < o.size) = True := eq_true (by rw [hob]; decide)
      have hox : ∀ h : 0 < o.size, ((o[0]'h).toNat : Int) = 41 := by subst hob; intro h; rfl
      rw [ho] at h1
      clear ho hob
      rw [HLQ.out, show rdOf ByteArray.empty repRow (x + 1) = (⟨#[32, 41, 32]⟩ : ByteArray) by rw [hx]; rfl] at h2
      have hw1 : wrap64 (x + 1) = x + 1 := by unfold wrap64; omega
      have hw1w : IntKind.i64.wrap (x + 1) = x + 1 := (i64_w _).trans hw1
      have p0 := eq_true (show 0 ≤ x by omega)
      have p0d : decide (0 ≤ x) = true := decide_eq_true (by omega)
      have p1 := eq_true (show x < (L.length : Int) by have := HLM.out; omega)
      have p2 := eq_true (show 0 ≤ x + 1 by omega)
      have p3 := eq_true (show x + 1 < (L.length : Int) by have := HLM.out; omega)
      have q_ : ∀ (w : World) (a : Option Addr) (n c n' c' : Nat), (binOp .eql 33 (.slice a n c) (.slice none n' c')).run Tryd.prog w = .ok (.bool a.isNone) w := fun w a n c n' c' => Lib.run_eql_slice_nil w _ _ a n c n' c' Tryd.underlying33
      have dB : W6.cell? ⟨t + 1, 41, none⟩ = some (.slice none 0 0) := (blk_cell k1 41).trans (by rw [← HCS.out]; kernel_rfl)
      have d256 : W6.cell? ⟨t + 1, 256, none⟩ = some (.slice (some ⟨t, 0, none⟩) 0 2) := (blk_cell k1 256).trans (by rw [← HCS.out]; rw [HTT.out]; kernel_rfl)
      have d0 : W6.cell? ⟨t, 0, none⟩ = some (.string ⟨#[]⟩) := (blk_cell k0 0).trans rfl
      have f0 := blk_frozen k0 0
      have f41 := blk_frozen k1 41
      have f256 := blk_frozen k1 256
      have ht0 : t < W6.heap.size := (Array.getElem?_eq_some_iff.1 k0).1
      have ht1 : t + 1 < W6.heap.size := (Array.getElem?_eq_some_iff.1 k1).1
      have ne0 := eq_false (show ¬ t = W6.heap.size by omega)
      have ne1 := eq_false (show ¬ t + 1 = W6.heap.size by omega)
      have ne2 := eq_false (show ¬ t = W6.heap.size + 1 by omega)
      have ne3 := eq_false (show ¬ t + 1 = W6.heap.size + 1 by omega)
      have ne4 := eq_false (show ¬ t + 1 = W6.heap.size + 1 + 1 by omega)
      have hcb : ∀ W : World, (convert 33 9 (.slice (some ⟨W.heap.size, 0, none⟩) 1 1)).run Tryd.prog (W.alloc (.cells #[.int .u8 41] 5)) = .ok (.string ⟨#[41]⟩) (W.alloc (.cells #[.int .u8 41] 5)) := fun W =>
       run_convert_bytes_back (P := Tryd.prog) (W.alloc (.cells #[.int .u8 41] 5)) 33 9 5 ⟨W.heap.size, 0, none⟩ 1 [41] Tryd.underlying33 Tryd.underlying5 Tryd.underlying9 (fun j hj => by
        have : j = 0 := by simpa using hj
        subst this
        exact (blk_cell (World.alloc_heap_new W _) 0).trans rfl)
      clear hx hw1
      go_wp2
      have b0 := set_blk 0 (.string ⟨#[41]⟩) k0
      have b1 := set_blk 256 (.slice (some ⟨t, 0, none⟩) 1 2) ((Go.Deep.blk_setCell_other W6 ⟨t, 0, none⟩ (.string ⟨#[41]⟩) (t + 1) (by simp)).trans k1)
      have hBt : w.heap.size ≤ t := by omega
      have hBs : Below w.heap.size w ((W6.setCell ⟨t, 0, none⟩ (.string ⟨#[41]⟩)).setCell ⟨t + 1, 256, none⟩ (.slice (some ⟨t, 0, none⟩) 1 2)) := (hB1.setCell (by show w.heap.size ≤ t; omega) _).setCell (by show w.heap.size ≤ t + 1; omega) _
      replace b0 := (Go.Deep.blk_setCell_other _ ⟨t + 1, 256, none⟩ (.slice (some ⟨t, 0, none⟩) 1 2) t (by simp)).trans b0
      generalize (W6.setCell ⟨t, 0, none⟩ (.string ⟨#[41]⟩)).setCell ⟨t + 1, 256, none⟩ (.slice (some ⟨t, 0, none⟩) 1 2) = W7 at b0 b1 hBs ⊢
      have hBa : Below W7.heap.size W7 ((W7.alloc (.cells #[.int .u8 41] 5)).alloc (.cells #[.string ⟨#[41]⟩] 9)) := ((Below.refl _ W7).alloc (Nat.le_refl _) _).alloc (by rw [World.size_alloc]; omega) _
      have l0 := (Array.getElem?_eq_some_iff.1 b0).1
      have l1 := (Array.getElem?_eq_some_iff.1 b1).1
      replace b0 := (hBa.block t l0).trans b0
      replace b1 := (hBa.block (t + 1) l1).trans b1
      replace hBs := hBs.trans (hBa.mono hBs.size)
      generalize (W7.alloc (.cells #[.int .u8 41] 5)).alloc (.cells #[.string ⟨#[41]⟩] 9) = W8 at b0 b1 hBs ⊢
      have hcv := Lib.run_convert_string_bytes (P := Tryd.prog) W8 9 33 5 ⟨#[32, 41, 32]⟩ Tryd.underlying9 Tryd.underlying33 Tryd.underlying5
      have hBb := bw_below W8 5 ⟨#[32, 41, 32]⟩
      have hT : Triple (Lib.bytesWorld W8 5 ⟨#[32, 41, 32]⟩) W8.heap.size 41 := ⟨(Lib.bytesWorld_cell W8 5 ⟨#[32, 41, 32]⟩ 0 (by decide)).trans rfl, (Lib.bytesWorld_cell W8 5 ⟨#[32, 41, 32]⟩ 1 (by decide)).trans rfl, (Lib.bytesWorld_cell W8 5 ⟨#[32, 41, 32]⟩ 2 (by decide)).trans rfl⟩
      have l0 := (Array.getElem?_eq_some_iff.1 b0).1
      have l1 := (Array.getElem?_eq_some_iff.1 b1).1
      replace b0 := (hBb.block t l0).trans b0
      replace b1 := (hBb.block (t + 1) l1).trans b1
      replace hBs := hBs.trans (hBb.mono hBs.size)
      have hne : ¬ W8.heap.size = t + 1 := by omega
      rw [show ((⟨#[32, 41, 32]⟩ : ByteArray).size) = 3 from rfl] at hcv
      generalize Lib.bytesWorld W8 5 ⟨#[32, 41, 32]⟩ = W9 at b0 b1 hBs hT hcv 
      generalize grownCap W8 3 0 5 = c9 at hcv
      obtain ⟨A9, hA9⟩ : ∃ A9, W8.heap.size = A9 := ⟨_, rfl⟩
      rw [hA9] at hT hne
      have dC : W9.cell? ⟨t + 1, 41, none⟩ = some (.slice none 0 0) := (blk_cell b1 41).trans (by rw [← HCS.out]; kernel_rfl)
      have fC := blk_frozen b1 41
      have hb9 := set_blk 41 (.slice (some ⟨A9, 0, none⟩) 3 c9) b1
      have hb8 := (Go.Deep.blk_setCell_other W9 ⟨t + 1, 41, none⟩ (.slice (some ⟨A9, 0, none⟩) 3 c9) t (by simp)).trans b0
      have hT9 : Triple (W9.setCell ⟨t + 1, 41, none⟩ (.slice (some ⟨A9, 0, none⟩) 3 c9)) A9 41 := hT.set (t + 1) hne
      have hB9 : Below w.heap.size w (W9.setCell ⟨t + 1, 41, none⟩ (.slice (some ⟨A9, 0, none⟩) 3 c9)) := hBs.setCell (by show w.heap.size ≤ t + 1; omega) _
      have H9 := a_ hb9
      have H8 := a_ hb8
      have HT := a_ hT9
      have HB9 := a_ hB9
      rw [hA9] at hcv
      clear hb9 hb8 hT9 hB9 hBs hT b0 hBb
      have hw2 : wrap64 (x - 2) = x - 2 := by have := HX.out; unfold wrap64; omega
      have hw2w : IntKind.i64.wrap (x - 2) = x - 2 := (i64_w _).trans hw2
      clear hw2
      rw [hcv, Result.andThen_ok]
      go_wp2
      go_roundg 1
      case measure => omega
      case rel => exact ⟨x - 2, by first | rfl | simp, ⟨.inr (.inl ⟨by have := HX.out; omega, rfl, ⟨A9, c9, H8.out, by rw [tabA, HTBo.out]; exact H9.out, HT.out, by omega⟩, HB9.out⟩)⟩⟩
    · obtain ⟨A, cA, j0, j1, hA, hAg⟩ := hR
      have hAt : ¬ A = t := by omega
      have hAt1 : ¬ A = t + 1 := by omega
      obtain ⟨a1, e1, h1⟩ := Kd.at_string HC.out x (by omega) (by have := HLM.out; omega)
      cases e1
      obtain ⟨a2, e2, h2⟩ := Kd.at_string HC.out (x + 1) (by omega) (by have := HLM.out; omega)
      cases e2
      replace h1 := cl_ hBr h1
      replace h2 := cl_ hBr h2
      obtain ⟨o, ho⟩ : ∃ o, rdOf ByteArray.empty L x = o := ⟨_, rfl⟩
      have hob : o = ⟨#[40]⟩ := by rw [← ho, HLQ.out, hx]; rfl
      have hos : (0 < o.size) = True := eq_true (by rw [hob]; decide)
      have hox : ∀ h : 0 < o.size, ((o[0]'h).toNat : Int) = 40 := by subst hob; intro h; rfl
      rw [ho] at h1
      clear ho hob
      rw [HLQ.out, show rdOf ByteArray.empty repRow (x + 1) = (⟨#[32, 40, 32]⟩ : ByteArray) by rw [hx]; rfl] at h2
      have hw1 : wrap64 (x + 1) = x + 1 := by unfold wrap64; omega
      have hw1w : IntKind.i64.wrap (x + 1) = x + 1 := (i64_w _).trans hw1
      have p0 := eq_true (show 0 ≤ x by omega)
      have p0d : decide (0 ≤ x) = true := decide_eq_true (by omega)
      have p1 := eq_true (show x < (L.length : Int) by have := HLM.out; omega)
      have p2 := eq_true (show 0 ≤ x + 1 by omega)
      have p3 := eq_true (show x + 1 < (L.length : Int) by have := HLM.out; omega)
      have q_ : ∀ (w : World) (a : Option Addr) (n c n' c' : Nat), (binOp .eql 33 (.slice a n c) (.slice none n' c')).run Tryd.prog w = .ok (.bool a.isNone) w := fun w a n c n' c' => Lib.run_eql_slice_nil w _ _ a n c n' c' Tryd.underlying33
      have dB : wr.cell? ⟨t + 1, 40, none⟩ = some (.slice none 0 0) := (blk_cell j1 40).trans (by unfold tabA; kernel_rfl)
      have d256 : wr.cell? ⟨t + 1, 256, none⟩ = some (.slice (some ⟨t, 0, none⟩) 1 2) := (blk_cell j1 256).trans (by unfold tabA; kernel_rfl)
      have d0 : wr.cell? ⟨t, 1, none⟩ = some (.string ⟨#[]⟩) := (blk_cell j0 1).trans rfl
      have f0 := blk_frozen j0 1
      have f41 := blk_frozen j1 40
      have f256 := blk_frozen j1 256
      have ht0 : t < wr.heap.size := (Array.getElem?_eq_some_iff.1 j0).1
      have ht1 : t + 1 < wr.heap.size := (Array.getElem?_eq_some_iff.1 j1).1
      have ne0 := eq_false (show ¬ t = wr.heap.size by omega)
      have ne1 := eq_false (show ¬ t + 1 = wr.heap.size by omega)
      have ne2 := eq_false (show ¬ t = wr.heap.size + 1 by omega)
      have ne3 := eq_false (show ¬ t + 1 = wr.heap.size + 1 by omega)
      have ne4 := eq_false (show ¬ t + 1 = wr.heap.size + 1 + 1 by omega)
      have hcb : ∀ W : World, (convert 33 9 (.slice (some ⟨W.heap.size, 0, none⟩) 1 1)).run Tryd.prog (W.alloc (.cells #[.int .u8 40] 5)) = .ok (.string ⟨#[40]⟩) (W.alloc (.cells #[.int .u8 40] 5)) := fun W =>
       run_convert_bytes_back (P := Tryd.prog) (W.alloc (.cells #[.int .u8 40] 5)) 33 9 5 ⟨W.heap.size, 0, none⟩ 1 [40] Tryd.underlying33 Tryd.underlying5 Tryd.underlying9 (fun j hj => by
        have : j = 0 := by simpa using hj
        subst this
        exact (blk_cell (World.alloc_heap_new W _) 0).trans rfl)
      clear hx hw1
      go_wp2
      have b0 := set_blk 1 (.string ⟨#[40]⟩) j0
      have b1 := set_blk 256 (.slice (some ⟨t, 0, none⟩) 2 2) ((Go.Deep.blk_setCell_other wr ⟨t, 1, none⟩ (.string ⟨#[40]⟩) (t + 1) (by simp)).trans j1)
      have hBt : w.heap.size ≤ t := by omega
      have hBs : Below w.heap.size w ((wr.setCell ⟨t, 1, none⟩ (.string ⟨#[40]⟩)).setCell ⟨t + 1, 256, none⟩ (.slice (some ⟨t, 0, none⟩) 2 2)) := (hBr.setCell (by show w.heap.size ≤ t; omega) _).setCell (by show w.heap.size ≤ t + 1; omega) _
      replace b0 := (Go.Deep.blk_setCell_other _ ⟨t + 1, 256, none⟩ (.slice (some ⟨t, 0, none⟩) 2 2) t (by simp)).trans b0
      have bA := (hA.set t (o := 1) (v := .string ⟨#[40]⟩) hAt).set (t + 1) (o := 256) (v := .slice (some ⟨t, 0, none⟩) 2 2) hAt1
      generalize (wr.setCell ⟨t, 1, none⟩ (.string ⟨#[40]⟩)).setCell ⟨t + 1, 256, none⟩ (.slice (some ⟨t, 0, none⟩) 2 2) = W7 at b0 b1 hBs bA ⊢
      have hBa : Below W7.heap.size W7 ((W7.alloc (.cells #[.int .u8 40] 5)).alloc (.cells #[.string ⟨#[40]⟩] 9)) := ((Below.refl _ W7).alloc (Nat.le_refl _) _).alloc (by rw [World.size_alloc]; omega) _
      have l0 := (Array.getElem?_eq_some_iff.1 b0).1
      have l1 := (Array.getElem?_eq_some_iff.1 b1).1
      replace b0 := (hBa.block t l0).trans b0
      replace b1 := (hBa.block (t + 1) l1).trans b1
      replace bA := bA.below hBa
      replace hBs := hBs.trans (hBa.mono hBs.size)
      generalize (W7.alloc (.cells #[.int .u8 40] 5)).alloc (.cells #[.string ⟨#[40]⟩] 9) = W8 at b0 b1 hBs bA ⊢
      have hcv := Lib.run_convert_string_bytes (P := Tryd.prog) W8 9 33 5 ⟨#[32, 40, 32]⟩ Tryd.underlying9 Tryd.underlying33 Tryd.underlying5
      have hBb := bw_below W8 5 ⟨#[32, 40, 32]⟩
      have hT : Triple (Lib.bytesWorld W8 5 ⟨#[32, 40, 32]⟩) W8.heap.size 40 := ⟨(Lib.bytesWorld_cell W8 5 ⟨#[32, 40, 32]⟩ 0 (by decide)).trans rfl, (Lib.bytesWorld_cell W8 5 ⟨#[32, 40, 32]⟩ 1 (by decide)).trans rfl, (Lib.bytesWorld_cell W8 5 ⟨#[32, 40, 32]⟩ 2 (by decide)).trans rfl⟩
      have l0 := (Array.getElem?_eq_some_iff.1 b0).1
      have l1 := (Array.getElem?_eq_some_iff.1 b1).1
      replace b0 := (hBb.block t l0).trans b0
      replace b1 := (hBb.block (t + 1) l1).trans b1
      replace bA := bA.below hBb
      replace hBs := hBs.trans (hBb.mono hBs.size)
      have hne : ¬ W8.heap.size = t + 1 := by omega
      rw [show ((⟨#[32, 40, 32]⟩ : ByteArray).size) = 3 from rfl] at hcv
      generalize Lib.bytesWorld W8 5 ⟨#[32, 40, 32]⟩ = W9 at b0 b1 hBs hT hcv bA 
      generalize grownCap W8 3 0 5 = c9 at hcv
      obtain ⟨A9, hA9⟩ : ∃ A9, W8.heap.size = A9 := ⟨_, rfl⟩
      rw [hA9] at hT hne
      have dC : W9.cell? ⟨t + 1, 40, none⟩ = some (.slice none 0 0) := (blk_cell b1 40).trans (by unfold tabA; kernel_rfl)
      have fC := blk_frozen b1 40
      have hb9 := set_blk 40 (.slice (some ⟨A9, 0, none⟩) 3 c9) b1
      have hb8 := (Go.Deep.blk_setCell_other W9 ⟨t + 1, 40, none⟩ (.slice (some ⟨A9, 0, none⟩) 3 c9) t (by simp)).trans b0
      have hT9 : Triple (W9.setCell ⟨t + 1, 40, none⟩ (.slice (some ⟨A9, 0, none⟩) 3 c9)) A9 40 := hT.set (t + 1) hne
      have bA9 := bA.set (t + 1) (o := 40) (v := .slice (some ⟨A9, 0, none⟩) 3 c9) hAt1
      have hB9 : Below w.heap.size w (W9.setCell ⟨t + 1, 40, none⟩ (.slice (some ⟨A9, 0, none⟩) 3 c9)) := hBs.setCell (by show w.heap.size ≤ t + 1; omega) _
      have H9 := a_ hb9
      have H8 := a_ hb8
      have HT := a_ hT9
      have HB9 := a_ hB9
      have HA9 := a_ bA9
      rw [hA9] at hcv
      clear hb9 hb8 hT9 hB9 hBs hT b0 bA bA9 hBb
      have hw2 : wrap64 (x - 2) = x - 2 := by have := HX.out; unfold wrap64; omega
      have hw2w : IntKind.i64.wrap (x - 2) = x - 2 := (i64_w _).trans hw2
      clear hw2
      rw [hcv, Result.andThen_ok]
      go_wp2
      go_roundg 0
      case measure => omega
      case rel => exact ⟨x - 2, by first | rfl | simp, ⟨.inr (.inr ⟨by have := HX.out; omega, rfl, ⟨A, cA, A9, c9, H8.out, H9.out, HA9.out, HT.out, hAg, by omega⟩, HB9.out⟩)⟩⟩
    · subst hx
      have HR := a_ hR
      have HBr := a_ hBr
      clear hR hBr
      go_wp2
      go_ret
      exact ⟨t, rfl, HR.out, by first | exact HBr.out | (rw [← HTT.out]; exact HBr.out), by omega⟩
  | succ g =>
   have hx : x = 0 ∨ x = 2 := by rcases HG.out with h | h | h <;> omega
   have hd : decide (x < (L.length : Int)) = true := decide_eq_true (by have := HLM.out; omega)
   have hev := rep_even x hx
   rw [← HLQ.out] at hev
   obtain ⟨a1, e1, h1⟩ := Kd.at_string HC.out x (by omega) (by have := HLM.out; omega)
   cases e1
   obtain ⟨a2, e2, h2⟩ := Kd.at_string HC.out (x + 1) (by omega) (by have := HLM.out; omega)
   cases e2
   obtain ⟨o, ho⟩ : ∃ o, rdOf ByteArray.empty L x = o := ⟨_, rfl⟩
   obtain ⟨m, hm⟩ : ∃ m, rdOf ByteArray.empty L (x + 1) = m := ⟨_, rfl⟩
   rw [ho, hm] at hev
   rw [ho] at h1
   rw [hm] at h2
   have hw1 : wrap64 (x + 1) = x + 1 := by unfold wrap64; omega
   have hw2 : wrap64 (x + 2) = x + 2 := by unfold wrap64; omega
   have hw1w : IntKind.i64.wrap (x + 1) = x + 1 := (i64_w _).trans hw1
   have hw2w : IntKind.i64.wrap (x + 2) = x + 2 := (i64_w _).trans hw2
   have p0 := eq_true (show 0 ≤ x by omega)
   have p1 := eq_true (show x < (L.length : Int) by have := HLM.out; omega)
   have p2 := eq_true (show 0 ≤ x + 1 by omega)
   have p3 := eq_true (show x + 1 < (L.length : Int) by have := HLM.out; omega)
   have s1 : ((o.size : Int) != 1) = false := by rw [hev.1]; rfl
   have s2 : ((m.size : Int) != 1) = true := by rw [hev.2]; rfl
   have s1n : (o.size != 1) = false := by rw [hev.1]; rfl
   have s2n : (m.size != 1) = true := by rw [hev.2]; rfl
   have HX := a_ hx
   clear ho hm hev hx hw1 hw2
   go_wp2
   go_roundg g
   case measure => omega
   case rel => exact ⟨false, x + 2, by first | rfl | simp, by first | rfl | simp, ⟨by rcases HX.out with h_ | h_ <;> rcases HG.out with h2_ | h2_ | h2_ <;> first | (exfalso; omega) | exact .inr (.inl ⟨rfl, by omega, by omega⟩) | exact .inr (.inr ⟨rfl, by omega, by omega⟩)⟩, rfl⟩
/-- a Replacer whose table stands: d is the mark of its Once, m its lock -/
def RepDone (d m : Int) (w : World) (R : Nat) : Prop := ∃ t, R < t ∧ w.heap[R]? = some (.cells #[.int .u32 d, .int .i32 m, .int .u32 0, .iface 101 (.pointer (some ⟨t + 1, 0, none⟩)), .slice none 0 0] 60 (0, 0)) ∧ RepTab w t
theorem RepTab.set {w : World} {t R : Nat} (h : RepTab w t) (hR : R < t) (o : Nat) (v : Value) : RepTab (w.setCell ⟨R, o, none⟩ v) t := by
 obtain ⟨A, cA, B, cB, h0, h1, hA, hB, ha, hb⟩ := h
 exact ⟨A, cA, B, cB, (Go.Deep.blk_setCell_other w ⟨R, o, none⟩ v t (by simp only; omega)).trans h0, (Go.Deep.blk_setCell_other w ⟨R, o, none⟩ v (t + 1) (by simp only; omega)).trans h1, hA.set R (by omega), hB.set R (by omega), ha, hb⟩
theorem RepTab.of_heap {w w' : World} {t : Nat} (h : RepTab w t) (he : w'.heap = w.heap) : RepTab w' t := by
 have hc : ∀ a, w'.cell? a = w.cell? a := fun a => by simp only [World.cell?, he]
 obtain ⟨A, cA, B, cB, h0, h1, hA, hB, ha, hb⟩ := h
 exact ⟨A, cA, B, cB, by rw [he]; exact h0, by rw [he]; exact h1, ⟨(hc _).trans hA.1, (hc _).trans hA.2.1, (hc _).trans hA.2.2⟩, ⟨(hc _).trans hB.1, (hc _).trans hB.2.1, (hc _).trans hB.2.2⟩, ha, hb⟩
theorem buildOnce_calls (R : Nat) (m : Int) (w : World) (hR : RepAt m w R) :
 Calls Tryd.prog 22 #[.pointer (some ⟨R, 0, none⟩)] w fun e w' => e = .returned (.tuple #[]) ∧ RepDone 0 m w' R ∧ Below R w w' := by
 obtain ⟨Ao, co, hRb, hC, hF⟩ := hR
 have hlt := (Array.getElem?_eq_some_iff.1 hRb).1
 have HRA := a_ (show RepAt m w R from ⟨Ao, co, hRb, hC, hF⟩)
 clear hC hF
 go_enter Tryd.func22, Tryd.ntmps22
 go_wp2_with (go_at_call 32; refine (build_calls R m _ HRA.out).mono ?_; rintro e w1 ⟨t, rfl, hT, hB, ht⟩; have k1 := (hB.block R hlt).trans hRb; have c3 := (blk_cell k1 3).trans rfl; have f3 := blk_frozen k1 3; have c4 := (blk_cell k1 4).trans rfl; have f4 := blk_frozen k1 4; clear hRb)
 go_end0
 have s1 := set_blk 4 (.slice none 0 0) (set_blk 3 (.iface 101 (.pointer (some ⟨t + 1, 0, none⟩))) k1)
 exact ⟨rfl, ⟨t, by omega, s1, (hT.set (by omega) 3 _).set (by omega) 4 _⟩, ((hB.mono (Nat.le_of_lt hlt)).setCell (by simp) _).setCell (by simp) _⟩
theorem rep_disable (w : World) : (callFunc 60 #[]).run Tryd.prog w = .ok (.value (.tuple #[])) w := run_call_mark0 Tryd.func60 (by kernel_rfl) (by kernel_rfl) (by kernel_rfl) .disable (by kernel_rfl) w
theorem rep_enable (w : World) : (callFunc 62 #[]).run Tryd.prog w = .ok (.value (.tuple #[])) w := run_call_mark0 Tryd.func62 (by kernel_rfl) (by kernel_rfl) (by kernel_rfl) .enable (by kernel_rfl) w
theorem rep_acquire (a : Addr) (w : World) : (callFunc 63 #[.pointer (some a)]).run Tryd.prog w = .ok (.value (.tuple #[])) w := run_call_marked Tryd.func63 (by kernel_rfl) (by kernel_rfl) (by kernel_rfl) .acquire (by kernel_rfl) a w
theorem rep_release (a : Addr) (w : World) : (callFunc 65 #[.pointer (some a)]).run Tryd.prog w = .ok (.value (.tuple #[])) w := run_call_marked Tryd.func65 (by kernel_rfl) (by kernel_rfl) (by kernel_rfl) .releaseMerge (by kernel_rfl) a w
theorem store_deferred (a : Addr) (x : Value) (u : FrameMode) (w : World) (hc : w.cell? a = some x) (hz : w.frozen? a = false) :
 CallsD Tryd.prog 42 #[.pointer (some a), .bool true] u w fun e u' w' => u' = u ∧ (e = .returned (.tuple #[]) ∧ w' = w.drew.setCell a (.int .u32 1)) := by
 have hc' : w.drew.cell? a = some x := by go_simp
 have hz' : w.drew.frozen? a = false := by go_simp
 have hst := run_call_store (P := Tryd.prog) Tryd.func52 (by kernel_rfl) (by kernel_rfl) (by kernel_rfl) (by kernel_rfl) (k := .u32) (y := 1) hc' hz'
 go_enter_d Tryd.func42, Tryd.ntmps42
 go_wp2
 go_region_calls
 all_goals (go_end0; exact ⟨rfl, rfl⟩)
theorem unlock_deferred (a : Addr) (u : FrameMode) (w : World) (hc : w.cell? a = some (.int .i32 1)) (hz : w.frozen? a = false) :
 CallsD Tryd.prog 41 #[.pointer (some a)] u w fun e u' w' => u' = u ∧ (e = .returned (.tuple #[]) ∧ w' = w.setCell a (.int .i32 0)) := by
 have hd := rep_disable
 have he := rep_enable
 have hr := rep_release
 have hadd := run_call_add (P := Tryd.prog) Tryd.func66 (by kernel_rfl) (by kernel_rfl) (by kernel_rfl) .i32 (by kernel_rfl) (y := -1) (s := 0) hc hz (by simp [go_sem]; rfl)
 have hcv := run_convert_to_unsafe (P := Tryd.prog) (src := 133) (dst := 103) Tryd.underlying133 Tryd.underlying103 (by kernel_rfl) hc
 go_enter_d Tryd.func41, Tryd.ntmps41
 go_wp2
 go_end0
 go_wp2
 go_end0
 exact ⟨rfl, rfl⟩
theorem lock_free (a : Addr) (w : World) (hc : w.cell? a = some (.int .i32 0)) (hz : w.frozen? a = false) :
 Calls Tryd.prog 40 #[.pointer (some a)] w fun e w' => e = .returned (.tuple #[]) ∧ w' = w.setCell a (.int .i32 1) := by
 have hd := rep_disable
 have he := rep_enable
 have ha := rep_acquire
 have hcas := run_call_cas_hit (P := Tryd.prog) Tryd.func61 (by kernel_rfl) (by kernel_rfl) (by kernel_rfl) .i32 (by kernel_rfl) (y := 1) hc hz
 have hc' : (w.setCell a (.int .i32 1)).cell? a = some (.int .i32 1) := World.cell?_setCell_same w a _ hc
 have hcv := run_convert_to_unsafe (P := Tryd.prog) (src := 133) (dst := 103) Tryd.underlying133 Tryd.underlying103 (by kernel_rfl) hc'
 go_enter Tryd.func40, Tryd.ntmps40
 go_wp2
 first | go_end0 | (simp only [Exit.inBlock, Exit.then]; refine bodyPost_ret (results_none rfl _ _ _) rfl ?_) | refine bodyPost_ret (results_none rfl _ _ _) rfl ?_
 go_wp2
 go_end0
 exact ⟨rfl, rfl⟩
theorem RepAt.locked {w : World} {R : Nat} (h : RepAt 0 w R) : RepAt 1 (w.setCell ⟨R, 1, none⟩ (.int .i32 1)) R := by
 obtain ⟨Ao, co, hb, hC, hF⟩ := h
 exact ⟨Ao, co, set_blk 1 _ hb, Kd.C_keep ByteArray.empty hC ((KeepBut.refl w R none).set_ 1 _) hF, hF⟩
theorem slow_calls (R : Nat) (w : World) (hR : RepAt 0 w R) :
 Calls Tryd.prog 31 #[.pointer (some ⟨R, 0, none⟩), .func (.func 22) #[.pointer (some ⟨R, 0, none⟩)] #[]] w fun e w' => e = .returned (.tuple #[]) ∧ RepDone 1 0 w' R ∧ Below R w w' := by
 have hR1 := hR.locked
 obtain ⟨Ao, co, hb, hC, _⟩ := hR
 obtain ⟨a0, o0, hb1, hC1, _⟩ := id hR1
 have HR1 := a_ hR1
 have h1 : w.cell? ⟨R, 1, none⟩ = some (.int .i32 0) := (blk_cell hb 1).trans rfl
 have f1 := blk_frozen hb 1
 have h0 : (w.setCell ⟨R, 1, none⟩ (.int .i32 1)).cell? ⟨R, 0, none⟩ = some (.int .u32 0) := (blk_cell hb1 0).trans rfl
 have hB1 : Below R w (w.setCell ⟨R, 1, none⟩ (.int .i32 1)) := (Below.refl R w).setCell (Nat.le_refl _) _
 have HB1 := a_ hB1
 have hl := run_call_load (P := Tryd.prog) Tryd.func39 (by kernel_rfl) (by kernel_rfl) (by kernel_rfl) .u32 (by kernel_rfl) (w := w.setCell ⟨R, 1, none⟩ (.int .i32 1)) (a := ⟨R, 0, none⟩) (x := 0) h0
 have hnot : ∀ (x : Bool) (w : World), (Op.unary .not (.bool x)).run Tryd.prog w = .ok (.bool (!x)) w := fun _ _ => rfl
 clear hb hb1 hC hC1 hR1 hB1
 go_enter_defers Tryd.func31, Tryd.ntmps31
 go_wp2_with (first | (go_at_call 40; refine (lock_free ⟨R, 1, none⟩ _ (by go_simp) (by go_simp)).mono ?_; rintro e w' ⟨rfl, rfl⟩) | (go_at_call 30; go_in) | (go_at_call 22; refine (buildOnce_calls R 1 _ HR1.out).mono ?_; rintro e w' ⟨rfl, hD, hB⟩; have HD := a_ hD; have HB2 := a_ hB; clear hD hB))
 obtain ⟨t, hRt, hk, hT⟩ := HD.out
 have g0 := (blk_cell hk 0).trans rfl
 have z0 := blk_frozen hk 0
 have z1 := blk_frozen hk 1
 have g1 := (blk_cell hk 1).trans rfl
 refine leaves_cons (f := 42) (args := #[.pointer (some ⟨R, 0, none⟩), .bool true]) (by simp) (by simp [go_sem]) ?_
 refine (store_deferred ⟨R, 0, none⟩ (.int .u32 0) .returning _ ?_ ?_).mono ?_
 · exact g0
 · exact z0
 rintro e u' w'' ⟨rfl, rfl, rfl⟩
 refine leaves_cons (f := 41) (args := #[.pointer (some ⟨R, 1, none⟩)]) (by simp [settle]) (by simp [go_sem]) ?_
 refine (unlock_deferred ⟨R, 1, none⟩ _ _ ?_ ?_).mono ?_
 · refine (World.cell?_setCell_other _ ⟨R, 0, none⟩ ⟨R, 1, none⟩ _ (by simp)).trans ?_
   rw [World.cell?_drew]
   exact g1
 · simp [z1]
 rintro e u' w'' ⟨rfl, rfl, rfl⟩
 simp [Leaves, settle, results, Tryd.results31]
 have hk' := set_blk 1 (.int .i32 0) (set_blk 0 (.int .u32 1) hk)
 refine ⟨⟨t, hRt, hk', ?_⟩, ?_⟩
 · exact RepTab.set (RepTab.set (hT.of_heap rfl) hRt 0 _) hRt 1 _
 · have hBo := HB1.out.trans HB2.out
   have hBd : Below R w (World.drew _) := hBo.trans ⟨rfl, rfl, rfl, Nat.le_refl _, fun _ _ => rfl⟩
   exact (hBd.setCell (p := ⟨R, 0, none⟩) (Nat.le_refl R) _).setCell (p := ⟨R, 1, none⟩) (Nat.le_refl R) _
theorem do_calls (R : Nat) (w : World) (hR : RepAt 0 w R) :
 Calls Tryd.prog 21 #[.pointer (some ⟨R, 0, none⟩), .func (.func 22) #[.pointer (some ⟨R, 0, none⟩)] #[]] w fun e w' => e = .returned (.tuple #[]) ∧ RepDone 1 0 w' R ∧ Below R w w' := by
 have HR := a_ hR
 obtain ⟨Ao, co, hb, hC, _⟩ := hR
 have h0 : w.cell? ⟨R, 0, none⟩ = some (.int .u32 0) := (blk_cell hb 0).trans rfl
 clear hb hC
 have hl := run_call_load (P := Tryd.prog) Tryd.func39 (by kernel_rfl) (by kernel_rfl) (by kernel_rfl) .u32 (by kernel_rfl) h0
 have hnot : ∀ (x : Bool) (w : World), (Op.unary .not (.bool x)).run Tryd.prog w = .ok (.bool (!x)) w := fun _ _ => rfl
 go_enter Tryd.func21, Tryd.ntmps21
 go_wp2_with (first | (go_at_call 31; refine (slow_calls R _ HR.out).mono ?_; rintro e w' ⟨rfl, hD, hB⟩) | (go_at_call 30; go_in))
 go_end0
 exact ⟨rfl, hD, hB⟩
theorem drewN_add_ (w : World) (m n : Nat) : (w.drewN m).drewN n = w.drewN (m + n) := by
 simp only [World.drewN, Nat.add_assoc]
/-- a bracket -/
def hitB (b : UInt8) : Bool := b == 40 || b == 41
def repL (l : List UInt8) : List UInt8 := l.flatMap fun b => if hitB b = true then [32, b, 32] else [b]
theorem repL_len (l : List UInt8) : (repL l).length = l.length + 2 * l.countP hitB := by
 induction l with
 | nil => rfl
 | cons b l ih =>
  unfold repL at ih ⊢
  rw [List.flatMap_cons, List.length_append, ih, List.countP_cons, List.length_cons]
  by_cases h : hitB b = true
  case pos =>
   rw [if_pos h, if_pos h]; simp only [List.length_cons, List.length_nil]; omega
  rw [if_neg h, if_neg h]; simp only [List.length_cons, List.length_nil]; omega
theorem repL_none (l : List UInt8) (h : l.countP hitB = 0) : repL l = l := by
 induction l with
 | nil => rfl
 | cons b l ih =>
  rw [List.countP_cons] at h
  have hb : ¬ hitB b = true := fun e => by rw [if_pos e] at h; omega
  rw [if_neg hb] at h
  unfold repL at ih ⊢
  rw [List.flatMap_cons, ih (by omega), if_neg hb]; rfl
theorem repL_take (l : List UInt8) (i : Nat) (b : UInt8) (h : l[i]? = some b) : repL (l.take (i + 1)) = repL (l.take i) ++ (if hitB b = true then [32, b, 32] else [b]) := by
 obtain ⟨h', rfl⟩ := List.getElem?_eq_some_iff.1 h
 rw [List.take_succ_eq_append_getElem h']
 unfold repL
 rw [List.flatMap_append]
 simp
theorem hit_count (l : List UInt8) : l.countP hitB = Lib.countByte l 41 + Lib.countByte l 40 := by
 unfold Lib.countByte
 induction l with
 | nil => rfl
 | cons b l ih =>
  rw [List.countP_cons, List.count_cons, List.count_cons, ih]
  unfold hitB
  by_cases h1 : b = 40
  case pos =>
   subst h1; simp; omega
  by_cases h2 : b = 41
  case neg =>
   simp [h1, h2]
  subst h2; simp; omega
theorem hit_take (l : List UInt8) (i : Nat) (b : UInt8) (h : l[i]? = some b) : (l.take (i + 1)).countP hitB = (l.take i).countP hitB + (if hitB b = true then 1 else 0) := by
 obtain ⟨h', rfl⟩ := List.getElem?_eq_some_iff.1 h
 rw [List.take_succ_eq_append_getElem h', List.countP_append, List.countP_cons, List.countP_nil]; omega
theorem hit_le (l : List UInt8) (i : Nat) : (l.take i).countP hitB ≤ l.length := Nat.le_trans List.countP_le_length (by rw [List.length_take]; omega)
theorem repL_take_le (l : List UInt8) (k : Nat) : (repL (l.take k)).length ≤ (repL l).length := by
 rw [repL_len, repL_len]
 have h1 : (l.take k).countP hitB ≤ l.countP hitB := (List.take_sublist k l).countP_le
 rw [List.length_take]; omega
theorem below_setRow_ {B g : Nat} {w0 w : World} (hb : Below B w0 w) (hBg : B ≤ g) (cs : Array Value) : Below B w0 (w.drew.setRow g cs) :=
 hb.trans ⟨rfl, rfl, rfl, by show w.heap.size ≤ (w.heap.modify g _).size; rw [Array.size_modify]; exact Nat.le_refl _, fun k hk => by
  show (w.heap.modify g _)[k]? = w.heap[k]?
  rw [Array.getElem?_modify, if_neg (by omega)]⟩
/-- a row of N bytes that is being filled -/
def FillAt (w : World) (G N : Nat) (xs : List UInt8) (W : World) : Prop := ∃ cur : Array Value, W.heap[G]? = some (.cells cur 5 (0, 0)) ∧ cur.size = N ∧ cur.toList.take xs.length = xs.map (fun b => Value.int .u8 (b.toNat : Int)) ∧ Below G w W
theorem FillAt.below_ {w : World} {N : Nat} {xs : List UInt8} {W : World} {G : Nat} (h : FillAt w G N xs W) : Below G w W := h.choose_spec.2.2.2
theorem FillAt.more {w : World} {N : Nat} {xs : List UInt8} {W : World} {G : Nat} (h : FillAt w G N xs W) {cur : Array Value} (hcur : W.heap[G]? = some (.cells cur 5 (0, 0))) (cs : List Value) (ys : List UInt8) (hy : cs = ys.map (fun b => Value.int .u8 (b.toNat : Int))) (j : Nat) (hj : j = xs.length) (hl : j + cs.length ≤ N) :
 FillAt w G N (xs ++ ys) (W.drew.setRow G (cur.toList.take j ++ cs ++ cur.toList.drop (j + cs.length)).toArray) := by
 obtain ⟨cur', h1, h2, h3, h4⟩ := h
 rw [hcur] at h1
 injection h1 with h1
 injection h1 with h1
 subst h1
 have hcl : cur.toList.length = N := by rw [Array.length_toList]; exact h2
 refine ⟨_, setRow_heap W.drew G cur _ _ _ hcur, ?_, ?_, ?_⟩
 · rw [List.size_toArray, List.length_append, List.length_append, List.length_take, List.length_drop, hcl]; omega
 · subst hj
   rw [h3, hy, ← List.map_append, List.take_append_of_le_length (by rw [List.length_map]; exact Nat.le_refl _)]
   exact List.take_of_length_le (by rw [List.length_map]; exact Nat.le_refl _)
 · exact Below.trans h4 (below_setRow_ (Below.refl G W) (Nat.le_refl _) _)
theorem FillAt.one {w : World} {N : Nat} {xs : List UInt8} {W : World} {G : Nat} (h : FillAt w G N xs W) (b : UInt8) (j : Nat) (hj : j = xs.length) (hl : j < N) :
 FillAt w G N (xs ++ [b]) (W.setCell ⟨G, j, none⟩ (.int .u8 (b.toNat : Int))) := by
 obtain ⟨cur, h1, h2, h3, h4⟩ := h
 have hcl : cur.toList.length = N := by rw [Array.length_toList]; exact h2
 refine ⟨_, set_blk j _ h1, ?_, ?_, h4.setCell (Nat.le_refl _) _⟩
 · rw [Array.size_setIfInBounds]; exact h2
 · subst hj
   rw [Array.toList_setIfInBounds, List.set_eq_take_append_cons_drop, if_pos (by omega), h3, List.length_append, List.map_append]
   rw [show (xs.map (fun b => Value.int .u8 (b.toNat : Int))) ++ Value.int .u8 (b.toNat : Int) :: cur.toList.drop (xs.length + 1) = (xs.map (fun b => Value.int .u8 (b.toNat : Int)) ++ [Value.int .u8 (b.toNat : Int)]) ++ cur.toList.drop (xs.length + 1) by rw [List.append_assoc]; rfl]
   exact List.take_left' (by rw [List.length_append, List.length_map]; rfl)
theorem FillAt.cells {w : World} {N : Nat} {xs : List UInt8} {W : World} {G : Nat} (h : FillAt w G N xs W) : ∀ q (hq : q < xs.length), W.cell? ((⟨G, 0, none⟩ : Addr).add q) = some (.int .u8 (xs[q].toNat : Int)) := by
 obtain ⟨cur, h1, h2, h3, h4⟩ := h
 intro q hq
 have he : (⟨G, 0, none⟩ : Addr).add q = ⟨G, q, none⟩ := by unfold Addr.add; split <;> simp_all
 rw [he]
 refine (blk_cell h1 q).trans ?_
 have h5 : (cur.toList.take xs.length)[q]? = cur.toList[q]? := by rw [List.getElem?_take, if_pos hq]
 rw [← Array.getElem?_toList, ← h5, h3, List.getElem?_map, List.getElem?_eq_getElem hq]; rfl
theorem tab_hit {w : World} {t : Nat} (h : RepTab w t) (b : UInt8) (hb : hitB b = true) : ∃ X c, w.cell? ⟨t + 1, b.toNat, none⟩ = some (.slice (some ⟨X, 0, none⟩) 3 c) ∧ Triple w X b.toNat ∧ X < w.heap.size := by
 have lt : ∀ {X : Nat} {b : Int}, Triple w X b → X < w.heap.size := fun hX => by
  rcases Nat.lt_or_ge _ w.heap.size with h' | h'
  · exact h'
  · have := hX.1; simp [World.cell?, Array.getElem?_eq_none h'] at this
 obtain ⟨A, cA, B, cB, h0, h1, hA, hB, ha, hb2⟩ := h
 unfold hitB at hb
 rw [Bool.or_eq_true, beq_iff_eq, beq_iff_eq] at hb
 rcases hb with rfl | rfl
 · exact ⟨B, cB, (blk_cell h1 40).trans (by simp [tabB, tabA, tabZ]), hB, lt hB⟩
 · exact ⟨A, cA, (blk_cell h1 41).trans (by simp [tabB, tabA, tabZ]), hA, lt hA⟩
theorem tab_miss {w : World} {t : Nat} (h : RepTab w t) (b : UInt8) (hb : hitB b = false) : w.cell? ⟨t + 1, b.toNat, none⟩ = some (.slice none 0 0) := by
 obtain ⟨A, cA, B, cB, h0, h1, hA, hB, ha, hb2⟩ := h
 unfold hitB at hb
 rw [Bool.or_eq_false_iff, beq_eq_false_iff_ne, beq_eq_false_iff_ne] at hb
 have n1 : ¬ 40 = b.toNat := fun e => hb.1 (by rw [← UInt8.toNat_inj]; exact e.symm)
 have n2 : ¬ 41 = b.toNat := fun e => hb.2 (by rw [← UInt8.toNat_inj]; exact e.symm)
 have n3 := UInt8.toNat_lt b
 have n4 : b.toNat < 256 := by omega
 refine (blk_cell h1 b.toNat).trans ?_
 unfold tabB tabA tabZ
 rw [Array.getElem?_setIfInBounds_ne n1, Array.getElem?_setIfInBounds_ne (by omega), Array.getElem?_setIfInBounds_ne n2, Array.getElem?_setIfInBounds_ne (by omega), Array.getElem?_push, if_neg (by simp; omega), Array.getElem?_replicate, if_pos n4]
theorem infoU8 : (Tryd.prog.info? 5).map (fun i => (i.zero, i.size, i.bytes)) = some (some (.int .u8 0), 1, 1) := by kernel_rfl
theorem bsr_calls (t : Nat) (s : ByteArray) (w : World) (hT : RepTab w t) (hs : s.size ≤ 5000000) :
 Calls Tryd.prog 108 #[.pointer (some ⟨t + 1, 0, none⟩), .string s] w fun e w' => e = .returned (.string ⟨(repL s.data.toList).toArray⟩) ∧ Below w.heap.size w w' := by
 have HT := a_ hT
 obtain ⟨A, cA, B, cB, h0, h1, _, _, _, _⟩ := hT
 have hsl : s.data.toList.length = s.size := by rw [Array.length_toList]; rfl
 have c256 : w.cell? ⟨t + 1, 256, none⟩ = some (.slice (some ⟨t, 0, none⟩) 2 2) := (blk_cell h1 256).trans (by simp [tabB, tabA, tabZ])
 have HR0 := a_ (show w.cell? ⟨t, 0, none⟩ = some (.string ⟨#[41]⟩) from (blk_cell h0 0).trans rfl)
 have HR1 := a_ (show w.cell? ⟨t, 1, none⟩ = some (.string ⟨#[40]⟩) from (blk_cell h0 1).trans rfl)
 have HS := a_ hs
 have q_ := fun a l c w => run_neq_slice_nil (P := Tryd.prog) w 33 5 a l c Tryd.underlying33
 clear h0 h1 hs
 go_enter Tryd.func108, Tryd.ntmps108
 have hHc := hit_count s.data.toList
 have hHl := Nat.le_trans (List.countP_le_length (p := hitB) (l := s.data.toList)) (Nat.le_of_eq hsl)
 obtain ⟨n1, hn1⟩ : ∃ n1, Lib.countByte s.data.toList 41 = n1 := ⟨_, rfl⟩
 obtain ⟨n0, hn0⟩ : ∃ n0, Lib.countByte s.data.toList 40 = n0 := ⟨_, rfl⟩
 rw [hn1, hn0] at hHc
 have hH : ∃ H, s.data.toList.countP hitB = H := ⟨_, rfl⟩
 obtain ⟨H, hH⟩ := hH
 rw [hH] at hHc hHl
 have HH := a_ (show s.data.toList.countP hitB = H ∧ H = n1 + n0 ∧ H ≤ s.size from ⟨hH, hHc, hHl⟩)
 have HN := a_ (show Lib.countByte s.data.toList 41 = n1 ∧ Lib.countByte s.data.toList 40 = n0 from ⟨hn1, hn0⟩)
 have HSL := a_ hsl
 clear hn1 hn0 hHc hHl hH hsl
 by_cases hbig : (16 : Int) ≤ (s.size : Int)
 case neg =>
  have hbd := decide_eq_false hbig
  clear hbig
  go_wp2
  go_loopg [5, 6, 10, 11] s.size (fun g v5 v6 v3 v11 w' => ∃ i c : Nat, v5 = .int .i64 ((s.size : Int) + 2 * (c : Int)) ∧ v6 = .bool (decide (c ≠ 0)) ∧ v3 = .int .i64 (i : Int) ∧ Aside0 (i + g = s.size ∧ c = (s.data.toList.take i).countP hitB) ∧ w' = w)
  case atStart => exact ⟨0, 0, by first | rfl | simp, by first | rfl | simp, by first | rfl | simp, ⟨by omega, rfl⟩, rfl⟩
  case round =>
   obtain ⟨i, c, rfl, rfl, rfl, HG, hwr⟩ := hrel
   obtain rfl : w = wr := hwr.symm
   clear hwr
   cases gk with
   | zero =>
    have hi := HG.out.1
    have hc := HG.out.2
    obtain rfl : i = s.size := by omega
    have hd : decide ((s.size : Int) < (s.size : Int)) = false := decide_eq_false (by omega)
    rw [List.take_of_length_le (by have := HSL.out; omega), HH.out.1] at hc
    obtain rfl : H = c := hc.symm
    clear hi HG hc
    have HTW := HT
    have HBW := a_ (Below.refl w.heap.size w)
    have hsw : w.heap.size = w.heap.size := rfl
    by_cases hz : H = 0
    case pos =>
     have hz1 : decide (H = 0) = true := decide_eq_true hz
     have hzn : decide (¬ H = 0) = false := decide_eq_false (fun e => e hz)
     have HZ := a_ hz
     clear hz
     go_wp2
     go_ret
     exact ⟨by rw [repL_none _ (HH.out.1.trans HZ.out)]; rfl, HBW.out⟩
    have hz1 : decide (H = 0) = false := decide_eq_false hz
    have hzn : decide (¬ H = 0) = true := decide_eq_true hz
    obtain ⟨N, hN⟩ : ∃ N, s.size + 2 * H = N := ⟨_, rfl⟩
    have hN1 : (s.size : Int) + 2 * (H : Int) = (N : Int) := by omega
    have hNl : (repL s.data.toList).length = N := by rw [repL_len, HH.out.1, HSL.out]; exact hN
    obtain ⟨i9, hi9, hz9, hs9, hb9⟩ := info_parts infoU8
    have hmk := run_makeSlice (P := Tryd.prog) (w := w) 33 5 i9 (.int .u8 0) Tryd.underlying33 hi9 hz9 .i64 .i64 (N : Int) (N : Int) (by omega) (by omega) (by rw [hs9]; have := HS.out; have := HH.out.2.2; omega) (by rw [hb9]; have := HS.out; have := HH.out.2.2; omega) (by have := HS.out; have := HH.out.2.2; omega)
    rw [hs9, Int.toNat_natCast, Nat.mul_one] at hmk
    obtain ⟨Z, hZ⟩ : ∃ Z, madeCells (Value.int IntKind.u8 0).cells N = Z := ⟨_, rfl⟩
    have hZs : Z.size = N := by rw [← hZ]; simp [madeCells, Value.cells]
    rw [hZ] at hmk
    obtain ⟨G, hG⟩ : ∃ G, w.heap.size = G := ⟨_, rfl⟩
    rw [hG] at hmk
    have hGt : t + 1 < G := by rw [← hG]; obtain ⟨_, _, _, _, _, h1, _⟩ := HTW.out; exact (Array.getElem?_eq_some_iff.1 h1).1
    have HF := a_ (show FillAt w G N [] (w.alloc (.cells Z 5)) from ⟨Z, by rw [← hG]; exact World.alloc_heap_new _ _, hZs, by simp, by rw [← hG]; exact (Below.refl _ _).alloc (Nat.le_refl _) _⟩)
    clear hi9 hz9 hs9 hb9 hZ hZs hz
    (try simp only [hN1])
    go_wp2
    (try simp only [hG])
    generalize w.alloc (.cells Z 5) = W0 at HF ⊢
    go_loopg [13, 14, 15] s.size (fun g v1 v2 v4 w' => ∃ i j : Nat, v1 = .int .i64 (j : Int) ∧ v2 = .int .i64 (i : Int) ∧ Aside0 (i + g = s.size ∧ j = (repL (s.data.toList.take i)).length) ∧ Aside0 (FillAt w G N (repL (s.data.toList.take i)) w'))
    case atStart => exact ⟨0, 0, by first | rfl | simp, by first | rfl | simp, ⟨by omega, rfl⟩, HF⟩
    case round =>
     clear HF
     obtain ⟨i, j, rfl, rfl, HG, HF⟩ := hrel
     cases gk with
     | zero =>
      have hi := HG.out.1
      obtain rfl : i = s.size := by omega
      have hd : decide ((s.size : Int) < (s.size : Int)) = false := decide_eq_false (by omega)
      have hF := HF.out
      rw [List.take_of_length_le (by have := HSL.out; omega)] at hF
      have hcv := run_convert_bytes_back (P := Tryd.prog) wr 33 9 5 ⟨G, 0, none⟩ N (repL s.data.toList) Tryd.underlying33 Tryd.underlying5 Tryd.underlying9 hF.cells
      rw [hNl] at hcv
      have HFB := a_ (show Below w.heap.size w wr by rw [hG]; exact hF.below_)
      clear hF hi HG HF
      go_wp2
      go_ret
      exact ⟨rfl, by first | exact HBW.out.trans HFB.out | exact HBW.out.trans (HFB.out.mono (Nat.le_of_eq hsw))⟩
     | succ g =>
      have hi := HG.out.1
      have hlt : i < s.data.toList.length := by have := HSL.out; omega
      have hd : decide ((i : Int) < (s.size : Int)) = true := decide_eq_true (by omega)
      have p0 := eq_true (show (0 : Int) ≤ (i : Int) by omega)
      have p1 := eq_true (show (i : Int) < (s.size : Int) by omega)
      have p2 := eq_true (show i < s.size by omega)
      obtain ⟨b, hb⟩ : ∃ b, s.data.toList[i]? = some b := ⟨_, List.getElem?_eq_getElem hlt⟩
      have hsb : ∀ h : i < s.size, s[i]'h = b := fun h => by rw [List.getElem?_eq_getElem hlt] at hb; injection hb
      have HB := a_ hb
      have q0 := eq_true (show (0 : Int) ≤ (b.toNat : Int) by omega)
      have q1 := eq_true (show (b.toNat : Int) < 256 by have := UInt8.toNat_lt b; omega)
      have hw1 : wrap64 ((i : Int) + 1) = (i : Int) + 1 := by have := HS.out; unfold wrap64; omega
      have hw1w : IntKind.i64.wrap ((i : Int) + 1) = (i : Int) + 1 := (i64_w _).trans hw1
      have hrt := repL_take s.data.toList i b hb
      have hle := repL_take_le s.data.toList (i + 1)
      rw [hNl, hrt, List.length_append, ← HG.out.2] at hle
      have HRT := a_ hrt
      clear hb hlt hw1 hi hrt
      by_cases hh : hitB b = true
      case neg =>
       rw [if_neg hh, List.length_cons, List.length_nil] at hle
       have hcx1 := tab_miss HTW.out b (by simpa using hh)
       have hFB : Below w.heap.size w wr := by rw [hG]; exact HF.out.below_
       have hcx : wr.cell? ⟨t + 1, b.toNat, none⟩ = some (.slice none 0 0) := cl_ hFB hcx1
       obtain ⟨cur, hcur, hcs, hct, hcB⟩ := HF.out
       have r0 := eq_true (show (0 : Int) ≤ (j : Int) by omega)
       have r1 := eq_true (show (j : Int) < (N : Int) by omega)
       obtain ⟨v0, hv0⟩ : ∃ v0, cur[j]? = some v0 := ⟨_, Array.getElem?_eq_getElem (by omega)⟩
       have hcj : wr.cell? ⟨G, j, none⟩ = some v0 := (blk_cell hcur j).trans hv0
       have hfj := blk_frozen hcur j
       have hF9 := FillAt.one HF.out b j HG.out.2 (by omega)
       have hrt := HRT.out
       rw [if_neg hh] at hrt
       rw [← hrt] at hF9
       have hw3 : wrap64 ((j : Int) + 1) = (j : Int) + 1 := by have := HS.out; have := HH.out.2.2; unfold wrap64; omega
       have hw3w : IntKind.i64.wrap ((j : Int) + 1) = (j : Int) + 1 := (i64_w _).trans hw3
       have HF9 := a_ hF9
       have hjl : j + 1 = (repL (s.data.toList.take (i + 1))).length := by rw [hrt, List.length_append, ← HG.out.2]; rfl
       have HJL := a_ hjl
       clear hcx1 hFB hct hcB hcs hle hF9 hrt hw3 hcur hh hjl hv0
       go_wp2
       go_roundg g
       all_goals first | exact ⟨i + 1, j + 1, by first | rfl | simp | (simp; rfl), by first | rfl | simp, ⟨by have := HG.out.1; omega, HJL.out⟩, HF9⟩ | omega

      rw [if_pos hh, List.length_cons, List.length_cons, List.length_cons, List.length_nil] at hle
      obtain ⟨X, cX, hcx1, hTr1, _⟩ := tab_hit HTW.out b hh
      have r0 := eq_true (show (0 : Int) ≤ (j : Int) by omega)
      have r1 := eq_true (show (j : Int) ≤ (N : Int) by omega)
      have hFB : Below w.heap.size w wr := by rw [hG]; exact HF.out.below_
      have hcx : wr.cell? ⟨t + 1, b.toNat, none⟩ = some (.slice (some ⟨X, 0, none⟩) 3 cX) := cl_ hFB hcx1
      have hTr := hTr1.below hFB
      obtain ⟨cur, hcur, hcs, hct, hcB⟩ := HF.out
      have hcopy := run_copy_row (P := Tryd.prog) wr.drew 33 33 3 5 G j (N - j) (N - j) ⟨X, 0, none⟩ 3 cX cur 5 [.int .u8 32, .int .u8 (b.toNat : Int), .int .u8 32] Tryd.underlying33 (by kernel_rfl) hcur ((Nat.min_eq_left (show 3 ≤ N - j by omega)).symm) (by
       intro q v hq
       match q, hq with
       | 0, hq => injection hq with hq; rw [← hq]; exact hTr.1
       | 1, hq => injection hq with hq; rw [← hq]; exact hTr.2.1
       | 2, hq => injection hq with hq; rw [← hq]; exact hTr.2.2
       | q + 3, hq => simp at hq) (by rw [hcs]; show j + 3 ≤ N; omega) (by simp [Value.oneCell'])
      have hF9 := FillAt.more HF.out hcur [.int .u8 32, .int .u8 (b.toNat : Int), .int .u8 32] [32, b, 32] rfl j HG.out.2 (by show j + 3 ≤ N; omega)
      have hrt := HRT.out
      rw [if_pos hh] at hrt
      rw [← hrt] at hF9
      generalize wr.drew.setRow G _ = W9 at hcopy hF9
      have hnj := eq_false (show ¬ N = j by omega)
      have hw3 : wrap64 ((j : Int) + 3) = (j : Int) + 3 := by have := HS.out; have := HH.out.2.2; unfold wrap64; omega
      have hw3w : IntKind.i64.wrap ((j : Int) + 3) = (j : Int) + 3 := (i64_w _).trans hw3
      have HF9 := a_ hF9
      have hjl : j + 3 = (repL (s.data.toList.take (i + 1))).length := by rw [hrt, List.length_append, ← HG.out.2]; rfl
      have HJL := a_ hjl
      clear hcx1 hTr1 hTr hFB hct hcB hcs hle hF9 hrt hw3 hcur hh hjl
      go_wp2
      go_region
      all_goals go_wp2
      all_goals go_roundg g
      all_goals first | exact ⟨i + 1, j + 3, by first | rfl | simp | (simp; rfl), by first | rfl | simp, ⟨by have := HG.out.1; omega, HJL.out⟩, HF9⟩ | omega
   | succ g =>
    have hi := HG.out.1
    have hlt : i < s.data.toList.length := by have := HSL.out; omega
    have hd : decide ((i : Int) < (s.size : Int)) = true := decide_eq_true (by omega)
    have p0 := eq_true (show (0 : Int) ≤ (i : Int) by omega)
    have p1 := eq_true (show (i : Int) < (s.size : Int) by omega)
    have p2 := eq_true (show i < s.size by omega)
    have hcl : c ≤ s.size := by have := HG.out.2; have := hit_le s.data.toList i; have := HSL.out; omega
    obtain ⟨b, hb⟩ : ∃ b, s.data.toList[i]? = some b := ⟨_, List.getElem?_eq_getElem hlt⟩
    have hsb : ∀ h : i < s.size, s[i]'h = b := fun h => by rw [List.getElem?_eq_getElem hlt] at hb; injection hb
    have HB := a_ hb
    have q0 := eq_true (show (0 : Int) ≤ (b.toNat : Int) by omega)
    have q1 := eq_true (show (b.toNat : Int) < 256 by have := UInt8.toNat_lt b; omega)
    have hw1 : wrap64 ((i : Int) + 1) = (i : Int) + 1 := by have := HS.out; unfold wrap64; omega
    have hw1w : IntKind.i64.wrap ((i : Int) + 1) = (i : Int) + 1 := (i64_w _).trans hw1
    have hw2 : wrap64 ((s.size : Int) + 2 * (c : Int) + 2) = (s.size : Int) + 2 * (c : Int) + 2 := by have := HS.out; unfold wrap64; omega
    have hw2w : IntKind.i64.wrap ((s.size : Int) + 2 * (c : Int) + 2) = (s.size : Int) + 2 * (c : Int) + 2 := (i64_w _).trans hw2
    clear hb hcl hlt hw1 hw2 hi
    have hce := HG.out.2
    by_cases hh : hitB b = true
    case neg =>
     have hcx := tab_miss HT.out b (by simpa using hh)
     have HH2 := a_ hh
     have HCE := a_ hce
     clear hh hce
     go_wp2
     go_roundg g
     case measure => omega
     case rel => exact ⟨i + 1, c, by simp, by simp, by simp, ⟨by have := HG.out.1; omega, by rw [hit_take _ _ _ HB.out, if_neg HH2.out, ← HCE.out]; rfl⟩, rfl⟩
    obtain ⟨X, cX, hcx, _, _⟩ := tab_hit HT.out b hh
    have HH2 := a_ hh
    have HCE := a_ hce
    clear hh hce
    go_wp2
    go_roundg g
    case measure => omega
    case rel => exact ⟨i + 1, c + 1, by simp; omega, by simp, by simp, ⟨by have := HG.out.1; omega, by rw [hit_take _ _ _ HB.out, if_pos HH2.out, ← HCE.out]⟩, rfl⟩
 have hbd := decide_eq_true hbig
 clear hbig
 go_wp2
 go_loopg [5, 6, 8, 9, 32] 2 (fun g v5 v6 v8 v9 v7 w' => ∃ k a : Nat, v5 = .int .i64 ((s.size : Int) + 2 * (a : Int)) ∧ v6 = .bool (decide (a ≠ 0)) ∧ v7 = .int .i64 (k : Int) ∧ Aside0 ((k = 0 ∧ g = 2 ∧ a = 0) ∨ (k = 1 ∧ g = 1 ∧ a = n1) ∨ (k = 2 ∧ g = 0 ∧ a = n1 + n0)) ∧ ∃ m, w' = w.drewN m)
 case atStart => exact ⟨0, 0, by first | rfl | simp, by first | rfl | simp, by first | rfl | simp, ⟨.inl ⟨rfl, rfl, rfl⟩⟩, 0, rfl⟩
 case round =>
  obtain ⟨k, a, rfl, rfl, rfl, HG, m, rfl⟩ := hrel
  rcases HG.out with ⟨hk, hg, ha⟩ | ⟨hk, hg, ha⟩ | ⟨hk, hg, ha⟩
  · subst hk
    have ha' := ha.symm
    subst ha'
    obtain ⟨X, cX, hcx0, _, _⟩ := tab_hit HT.out 41 rfl
    have hcx : w.cell? ⟨t + 1, 41, none⟩ = some (.slice (some ⟨X, 0, none⟩) 3 cX) := hcx0
    have hr0 := HR0.out
    obtain ⟨o, ho⟩ : ∃ o, (⟨#[41]⟩ : ByteArray) = o := ⟨_, rfl⟩
    have hos : (0 < o.size) = True := eq_true (by rw [← ho]; decide)
    have hox : ∀ h : 0 < o.size, ((o[0]'h).toNat : Int) = 41 := by subst ho; intro h; rfl
    have hct := fun W => Tryd.strings_Count_one s 41 W
    rw [ho] at hr0
    simp only [ho] at hct
    clear hcx0 ho
    have hw2 : wrap64 ((s.size : Int) + (n1 : Int) * 2) = (s.size : Int) + (n1 : Int) * 2 := by have := HS.out; have := HH.out.2; unfold wrap64; omega
    have hw2w : IntKind.i64.wrap ((s.size : Int) + (n1 : Int) * 2) = (s.size : Int) + (n1 : Int) * 2 := (i64_w _).trans hw2
    have hw3 : wrap64 ((n1 : Int) * 2) = (n1 : Int) * 2 := by have := HS.out; have := HH.out.2; unfold wrap64; omega
    have hw3w : IntKind.i64.wrap ((n1 : Int) * 2) = (n1 : Int) * 2 := (i64_w _).trans hw3
    clear hw2 hw3
    by_cases hz : n1 = 0
    case pos =>
     have hz1 : ((n1 : Int) != 0) = false := by rw [hz]; rfl
     have HZ := a_ hz
     clear hz
     go_wp2_with (go_at_call 110; refine (hct _).mono ?_; rintro e w9 ⟨rfl, hw9⟩; rw [hw9]; simp only [HN.out.1])
     go_roundg 1
     case measure => omega
     case rel => exact ⟨0 + 1, 0, by simp, by simp, by simp, ⟨by have := HZ.out; omega⟩, _, rfl⟩
    have hz1 : ((n1 : Int) != 0) = true := bne_iff_ne.2 (by omega)
    have HZ := a_ hz
    clear hz
    go_wp2_with (go_at_call 110; refine (hct _).mono ?_; rintro e w9 ⟨rfl, hw9⟩; rw [hw9]; simp only [HN.out.1])
    go_quiet (fail)
    go_wp2
    go_roundg 1
    case measure => omega
    case rel => exact ⟨0 + 1, n1, by simp; omega, by have := HZ.out; simp; omega, by simp, ⟨by omega⟩, _, by first | rfl | exact drewN_add_ _ _ _⟩
  · subst hk
    have ha' := ha.symm
    subst ha'
    obtain ⟨X, cX, hcx0, _, _⟩ := tab_hit HT.out 40 rfl
    have hcx : w.cell? ⟨t + 1, 40, none⟩ = some (.slice (some ⟨X, 0, none⟩) 3 cX) := hcx0
    have hr0 := HR1.out
    obtain ⟨o, ho⟩ : ∃ o, (⟨#[40]⟩ : ByteArray) = o := ⟨_, rfl⟩
    have hos : (0 < o.size) = True := eq_true (by rw [← ho]; decide)
    have hox : ∀ h : 0 < o.size, ((o[0]'h).toNat : Int) = 40 := by subst ho; intro h; rfl
    have hct := fun W => Tryd.strings_Count_one s 40 W
    rw [ho] at hr0
    simp only [ho] at hct
    clear hcx0 ho
    have hw2 : wrap64 ((s.size : Int) + 2 * (n1 : Int) + (n0 : Int) * 2) = (s.size : Int) + 2 * (n1 : Int) + (n0 : Int) * 2 := by have := HS.out; have := HH.out.2; unfold wrap64; omega
    have hw2w : IntKind.i64.wrap ((s.size : Int) + 2 * (n1 : Int) + (n0 : Int) * 2) = (s.size : Int) + 2 * (n1 : Int) + (n0 : Int) * 2 := (i64_w _).trans hw2
    have hw3 : wrap64 ((n0 : Int) * 2) = (n0 : Int) * 2 := by have := HS.out; have := HH.out.2; unfold wrap64; omega
    have hw3w : IntKind.i64.wrap ((n0 : Int) * 2) = (n0 : Int) * 2 := (i64_w _).trans hw3
    clear hw2 hw3
    by_cases hz : n0 = 0
    case pos =>
     have hz1 : ((n0 : Int) != 0) = false := by rw [hz]; rfl
     have HZ := a_ hz
     clear hz
     go_wp2_with (go_at_call 110; refine (hct _).mono ?_; rintro e w9 ⟨rfl, hw9⟩; rw [hw9]; simp only [HN.out.2])
     go_roundg 0
     case measure => omega
     case rel => exact ⟨1 + 1, n1, by simp, by simp, by simp, ⟨by have := HZ.out; omega⟩, _, rfl⟩
    have hz1 : ((n0 : Int) != 0) = true := bne_iff_ne.2 (by omega)
    have HZ := a_ hz
    clear hz
    go_wp2_with (go_at_call 110; refine (hct _).mono ?_; rintro e w9 ⟨rfl, hw9⟩; rw [hw9]; simp only [HN.out.2])
    go_quiet (fail)
    go_wp2
    go_roundg 0
    case measure => omega
    case rel => exact ⟨1 + 1, n1 + n0, by simp; omega, by have := HZ.out; simp; omega, by simp, ⟨by omega⟩, _, by first | rfl | exact drewN_add_ _ _ _⟩
  · obtain rfl : H = a := by have := HH.out.2.1; omega
    subst hk
    clear HG hg ha
    have HTW := a_ (HT.out.of_heap (w' := w.drewN m) rfl)
    have HBW := a_ (below_dn (Below.refl w.heap.size w) m)
    have hsw : w.heap.size = (w.drewN m).heap.size := rfl
    generalize w.drewN m = W at HTW HBW hsw ⊢
    by_cases hz : H = 0
    case pos =>
     have hz1 : decide (H = 0) = true := decide_eq_true hz
     have hzn : decide (¬ H = 0) = false := decide_eq_false (fun e => e hz)
     have HZ := a_ hz
     clear hz
     go_wp2
     go_ret
     exact ⟨by rw [repL_none _ (HH.out.1.trans HZ.out)]; rfl, HBW.out⟩
    have hz1 : decide (H = 0) = false := decide_eq_false hz
    have hzn : decide (¬ H = 0) = true := decide_eq_true hz
    obtain ⟨N, hN⟩ : ∃ N, s.size + 2 * H = N := ⟨_, rfl⟩
    have hN1 : (s.size : Int) + 2 * (H : Int) = (N : Int) := by omega
    have hNl : (repL s.data.toList).length = N := by rw [repL_len, HH.out.1, HSL.out]; exact hN
    obtain ⟨i9, hi9, hz9, hs9, hb9⟩ := info_parts infoU8
    have hmk := run_makeSlice (P := Tryd.prog) (w := W) 33 5 i9 (.int .u8 0) Tryd.underlying33 hi9 hz9 .i64 .i64 (N : Int) (N : Int) (by omega) (by omega) (by rw [hs9]; have := HS.out; have := HH.out.2.2; omega) (by rw [hb9]; have := HS.out; have := HH.out.2.2; omega) (by have := HS.out; have := HH.out.2.2; omega)
    rw [hs9, Int.toNat_natCast, Nat.mul_one] at hmk
    obtain ⟨Z, hZ⟩ : ∃ Z, madeCells (Value.int IntKind.u8 0).cells N = Z := ⟨_, rfl⟩
    have hZs : Z.size = N := by rw [← hZ]; simp [madeCells, Value.cells]
    rw [hZ] at hmk
    obtain ⟨G, hG⟩ : ∃ G, W.heap.size = G := ⟨_, rfl⟩
    rw [hG] at hmk
    have hGt : t + 1 < G := by rw [← hG]; obtain ⟨_, _, _, _, _, h1, _⟩ := HTW.out; exact (Array.getElem?_eq_some_iff.1 h1).1
    have HF := a_ (show FillAt W G N [] (W.alloc (.cells Z 5)) from ⟨Z, by rw [← hG]; exact World.alloc_heap_new _ _, hZs, by simp, by rw [← hG]; exact (Below.refl _ _).alloc (Nat.le_refl _) _⟩)
    clear hi9 hz9 hs9 hb9 hZ hZs hz
    (try simp only [hN1])
    go_wp2
    (try simp only [hG])
    generalize W.alloc (.cells Z 5) = W0 at HF ⊢
    go_loopg [13, 14, 15] s.size (fun g v1 v2 v4 w' => ∃ i j : Nat, v1 = .int .i64 (j : Int) ∧ v2 = .int .i64 (i : Int) ∧ Aside0 (i + g = s.size ∧ j = (repL (s.data.toList.take i)).length) ∧ Aside0 (FillAt W G N (repL (s.data.toList.take i)) w'))
    case atStart => exact ⟨0, 0, by first | rfl | simp, by first | rfl | simp, ⟨by omega, rfl⟩, HF⟩
    case round =>
     clear HF
     obtain ⟨i, j, rfl, rfl, HG, HF⟩ := hrel
     cases gk with
     | zero =>
      have hi := HG.out.1
      obtain rfl : i = s.size := by omega
      have hd : decide ((s.size : Int) < (s.size : Int)) = false := decide_eq_false (by omega)
      have hF := HF.out
      rw [List.take_of_length_le (by have := HSL.out; omega)] at hF
      have hcv := run_convert_bytes_back (P := Tryd.prog) wr 33 9 5 ⟨G, 0, none⟩ N (repL s.data.toList) Tryd.underlying33 Tryd.underlying5 Tryd.underlying9 hF.cells
      rw [hNl] at hcv
      have HFB := a_ (show Below W.heap.size W wr by rw [hG]; exact hF.below_)
      clear hF hi HG HF
      go_wp2
      go_ret
      exact ⟨rfl, by first | exact HBW.out.trans HFB.out | exact HBW.out.trans (HFB.out.mono (Nat.le_of_eq hsw))⟩
     | succ g =>
      have hi := HG.out.1
      have hlt : i < s.data.toList.length := by have := HSL.out; omega
      have hd : decide ((i : Int) < (s.size : Int)) = true := decide_eq_true (by omega)
      have p0 := eq_true (show (0 : Int) ≤ (i : Int) by omega)
      have p1 := eq_true (show (i : Int) < (s.size : Int) by omega)
      have p2 := eq_true (show i < s.size by omega)
      obtain ⟨b, hb⟩ : ∃ b, s.data.toList[i]? = some b := ⟨_, List.getElem?_eq_getElem hlt⟩
      have hsb : ∀ h : i < s.size, s[i]'h = b := fun h => by rw [List.getElem?_eq_getElem hlt] at hb; injection hb
      have HB := a_ hb
      have q0 := eq_true (show (0 : Int) ≤ (b.toNat : Int) by omega)
      have q1 := eq_true (show (b.toNat : Int) < 256 by have := UInt8.toNat_lt b; omega)
      have hw1 : wrap64 ((i : Int) + 1) = (i : Int) + 1 := by have := HS.out; unfold wrap64; omega
      have hw1w : IntKind.i64.wrap ((i : Int) + 1) = (i : Int) + 1 := (i64_w _).trans hw1
      have hrt := repL_take s.data.toList i b hb
      have hle := repL_take_le s.data.toList (i + 1)
      rw [hNl, hrt, List.length_append, ← HG.out.2] at hle
      have HRT := a_ hrt
      clear hb hlt hw1 hi hrt
      by_cases hh : hitB b = true
      case neg =>
       rw [if_neg hh, List.length_cons, List.length_nil] at hle
       have hcx1 := tab_miss HTW.out b (by simpa using hh)
       have hFB : Below W.heap.size W wr := by rw [hG]; exact HF.out.below_
       have hcx : wr.cell? ⟨t + 1, b.toNat, none⟩ = some (.slice none 0 0) := cl_ hFB hcx1
       obtain ⟨cur, hcur, hcs, hct, hcB⟩ := HF.out
       have r0 := eq_true (show (0 : Int) ≤ (j : Int) by omega)
       have r1 := eq_true (show (j : Int) < (N : Int) by omega)
       obtain ⟨v0, hv0⟩ : ∃ v0, cur[j]? = some v0 := ⟨_, Array.getElem?_eq_getElem (by omega)⟩
       have hcj : wr.cell? ⟨G, j, none⟩ = some v0 := (blk_cell hcur j).trans hv0
       have hfj := blk_frozen hcur j
       have hF9 := FillAt.one HF.out b j HG.out.2 (by omega)
       have hrt := HRT.out
       rw [if_neg hh] at hrt
       rw [← hrt] at hF9
       have hw3 : wrap64 ((j : Int) + 1) = (j : Int) + 1 := by have := HS.out; have := HH.out.2.2; unfold wrap64; omega
       have hw3w : IntKind.i64.wrap ((j : Int) + 1) = (j : Int) + 1 := (i64_w _).trans hw3
       have HF9 := a_ hF9
       have hjl : j + 1 = (repL (s.data.toList.take (i + 1))).length := by rw [hrt, List.length_append, ← HG.out.2]; rfl
       have HJL := a_ hjl
       clear hcx1 hFB hct hcB hcs hle hF9 hrt hw3 hcur hh hjl hv0
       go_wp2
       go_roundg g
       all_goals first | exact ⟨i + 1, j + 1, by first | rfl | simp | (simp; rfl), by first | rfl | simp, ⟨by have := HG.out.1; omega, HJL.out⟩, HF9⟩ | omega

      rw [if_pos hh, List.length_cons, List.length_cons, List.length_cons, List.length_nil] at hle
      obtain ⟨X, cX, hcx1, hTr1, _⟩ := tab_hit HTW.out b hh
      have r0 := eq_true (show (0 : Int) ≤ (j : Int) by omega)
      have r1 := eq_true (show (j : Int) ≤ (N : Int) by omega)
      have hFB : Below W.heap.size W wr := by rw [hG]; exact HF.out.below_
      have hcx : wr.cell? ⟨t + 1, b.toNat, none⟩ = some (.slice (some ⟨X, 0, none⟩) 3 cX) := cl_ hFB hcx1
      have hTr := hTr1.below hFB
      obtain ⟨cur, hcur, hcs, hct, hcB⟩ := HF.out
      have hcopy := run_copy_row (P := Tryd.prog) wr.drew 33 33 3 5 G j (N - j) (N - j) ⟨X, 0, none⟩ 3 cX cur 5 [.int .u8 32, .int .u8 (b.toNat : Int), .int .u8 32] Tryd.underlying33 (by kernel_rfl) hcur ((Nat.min_eq_left (show 3 ≤ N - j by omega)).symm) (by
       intro q v hq
       match q, hq with
       | 0, hq => injection hq with hq; rw [← hq]; exact hTr.1
       | 1, hq => injection hq with hq; rw [← hq]; exact hTr.2.1
       | 2, hq => injection hq with hq; rw [← hq]; exact hTr.2.2
       | q + 3, hq => simp at hq) (by rw [hcs]; show j + 3 ≤ N; omega) (by simp [Value.oneCell'])
      have hF9 := FillAt.more HF.out hcur [.int .u8 32, .int .u8 (b.toNat : Int), .int .u8 32] [32, b, 32] rfl j HG.out.2 (by show j + 3 ≤ N; omega)
      have hrt := HRT.out
      rw [if_pos hh] at hrt
      rw [← hrt] at hF9
      generalize wr.drew.setRow G _ = W9 at hcopy hF9
      have hnj := eq_false (show ¬ N = j by omega)
      have hw3 : wrap64 ((j : Int) + 3) = (j : Int) + 3 := by have := HS.out; have := HH.out.2.2; unfold wrap64; omega
      have hw3w : IntKind.i64.wrap ((j : Int) + 3) = (j : Int) + 3 := (i64_w _).trans hw3
      have HF9 := a_ hF9
      have hjl : j + 3 = (repL (s.data.toList.take (i + 1))).length := by rw [hrt, List.length_append, ← HG.out.2]; rfl
      have HJL := a_ hjl
      clear hcx1 hTr1 hTr hFB hct hcB hcs hle hF9 hrt hw3 hcur hh hjl
      go_wp2
      go_region
      all_goals go_wp2
      all_goals go_roundg g
      all_goals first | exact ⟨i + 1, j + 3, by first | rfl | simp | (simp; rfl), by first | rfl | simp, ⟨by have := HG.out.1; omega, HJL.out⟩, HF9⟩ | omega
theorem mem_extract_ {s : ByteArray} {a b : Nat} {x : UInt8} (h : x ∈ (s.extract a b).data.toList) : x ∈ s.data.toList := by
 rw [ByteArray.data_extract, Array.toList_extract] at h
 exact List.mem_of_mem_drop (List.mem_of_mem_take h)
theorem linesB_mem : ∀ (k : Nat) (s x : ByteArray), x ∈ linesB k s → ∀ b ∈ x.data.toList, b ∈ s.data.toList
 | 0, _, x, h => by rw [linesB] at h; cases h
 | k + 1, s, x, h => by
  rw [linesB] at h
  split at h
  · split at h
    · rcases List.mem_cons.1 h with rfl | h
      · exact fun b hb => mem_extract_ hb
      · exact fun b hb => mem_extract_ (linesB_mem k _ x h b hb)
    · rw [List.mem_singleton] at h; rw [h]; exact fun b hb => hb
  · cases h
theorem cutB_mem (x : ByteArray) : ∀ b ∈ (cutB x).data.toList, b ∈ x.data.toList := by
 unfold cutB
 split
 · exact fun b hb => mem_extract_ hb
 · exact fun b hb => hb
theorem plB_mem (p : UInt8 → Prop) (h10 : p 10) : ∀ (xs : List ByteArray) (a : ByteArray), (∀ x ∈ xs, ∀ b ∈ x.data.toList, p b) → (∀ b ∈ a.data.toList, p b) → ∀ b ∈ (xs.foldl plStep a).data.toList, p b
 | [], a, _, ha => ha
 | x :: xs, a, h, ha => by
  refine plB_mem p h10 xs (plStep a x) (fun y hy => h y (List.mem_cons_of_mem _ hy)) (fun b hb => ?_)
  unfold plStep at hb
  rw [ByteArray.data_append, ByteArray.data_append, Array.toList_append, Array.toList_append, List.mem_append, List.mem_append] at hb
  rcases hb with hb | hb | hb
  · exact ha b hb
  · exact h x List.mem_cons_self b (cutB_mem x b hb)
  · have : b = 10 := by simpa using hb
    rw [this]; exact h10
theorem repL_mem (p : UInt8 → Prop) (h32 : p 32) (l : List UInt8) (h : ∀ b ∈ l, p b) : ∀ b ∈ repL l, p b := by
 intro b hb
 unfold repL at hb
 obtain ⟨c, hc, hb⟩ := List.mem_flatMap.1 hb
 split at hb
 · rcases List.mem_cons.1 hb with rfl | hb
   · exact h32
   · rcases List.mem_cons.1 hb with rfl | hb
     · exact h _ hc
     · rw [List.mem_singleton] at hb; rw [hb]; exact h32
 · rw [List.mem_singleton] at hb; rw [hb]; exact h _ hc
/-- a text apart: without its remarks, its brackets by themselves -/
def apartB (s : ByteArray) : ByteArray := ⟨(repL (plB (linesB s.size s)).data.toList).toArray⟩
def wordsB (s : ByteArray) : List ByteArray := (Lib.fields (apartB s).data.toList).map fun l => ⟨l.toArray⟩
def lex_Words.f (s : ByteArray) : Option (List ByteArray × Int) := if (decide (s.size ≤ 2048) && s.data.toList.all okL) = true then some (wordsB s, 0) else some ([], 400)
theorem okL_lt (b : UInt8) (h : okL b = true) : b.toNat < 128 := by
 rcases Nat.lt_or_ge b.toNat 128 with h' | h'
 · exact h'
 · rw [okL_high b h'] at h; cases h
theorem plain_small (s : ByteArray) (hs : s.size ≤ 2048) : (plB (linesB s.size s)).size ≤ 5000000 := by
 have h1 := plB_size s.size (linesB s.size s) ⟨#[]⟩ (fun x hx => linesB_size _ _ _ hx)
 have h2 := linesB_len s.size s
 have h3 : (linesB s.size s).length * (s.size + 1) ≤ 2048 * 2049 := Nat.mul_le_mul (by omega) (by omega)
 have h4 : (⟨#[]⟩ : ByteArray).size = 0 := rfl
 unfold plB
 omega
theorem apart_small (s : ByteArray) (hs : s.size ≤ 2048) : (apartB s).size ≤ 15000000 := by
 have h1 := plain_small s hs
 have h2 := repL_len (plB (linesB s.size s)).data.toList
 have h3 := List.countP_le_length (p := hitB) (l := (plB (linesB s.size s)).data.toList)
 have h4 := str_len (plB (linesB s.size s))
 have h5 : (apartB s).size = (repL (plB (linesB s.size s)).data.toList).length := by unfold apartB; exact List.size_toArray
 omega
theorem apart_ascii (s : ByteArray) (h : s.data.toList.all okL = true) : ∀ (j : Nat) b, (apartB s).data.toList[j]? = some b → b.toNat < 128 := by
 intro j b hb
 refine okL_lt b ?_
 have hm : b ∈ repL (plB (linesB s.size s)).data.toList := by
  have := List.mem_of_getElem? hb
  unfold apartB at this
  simpa using this
 refine repL_mem (fun b => okL b = true) rfl _ (plB_mem (fun b => okL b = true) rfl _ _ (fun x hx c hc => ?_) (fun c hc => by cases hc)) b hm
 exact List.all_eq_true.1 h c (linesB_mem _ _ _ hx c hc)
theorem replace_calls (R : Nat) (s : ByteArray) (w : World) (hR : RepAt 0 w R) (hs : s.size ≤ 5000000) :
 Calls Tryd.prog 16 #[.pointer (some ⟨R, 0, none⟩), .string s] w fun e w' => e = .returned (.string ⟨(repL s.data.toList).toArray⟩) ∧ Below R w w' := by
 have HR := a_ hR
 have HS := a_ hs
 obtain ⟨Ao, co, hRb, _⟩ := hR
 have hlt := (Array.getElem?_eq_some_iff.1 hRb).1
 clear hRb hs
 have hmf : ∀ (fn : Fn) (first cap : Array Value) (w : World), (Instr.makeFunc fn first cap).run Tryd.prog w = .ok (.func fn first cap) w := fun _ _ _ _ => rfl
 have hm : ∀ (t : Nat) (w : World), (method 278 101 (.pointer (some ⟨t + 1, 0, none⟩)) "Replace").run Tryd.prog w = .ok (108, .pointer (some ⟨t + 1, 0, none⟩)) w := fun _ _ => by kernel_rfl
 go_enter Tryd.func16, Tryd.ntmps16
 go_wp2_with (first | (go_at_call 21; refine (do_calls R _ HR.out).mono ?_; rintro e w' ⟨rfl, hD, hB⟩; obtain ⟨t, hRt, hk, hT⟩ := hD; have HT := a_ hT; have HB := a_ hB; have g3 := (blk_cell hk 3).trans rfl; clear hT hB hk) | (go_at_call 108; refine (bsr_calls _ s _ HT.out HS.out).mono ?_; rintro e w2 ⟨rfl, hB2⟩; have HB2 := a_ hB2; clear hB2))
 go_ret
 exact ⟨rfl, HB.out.trans (HB2.out.mono (Nat.le_trans (Nat.le_of_lt hlt) HB.out.size))⟩
theorem cntF_le_ : ∀ (l : List UInt8) (ws : Bool), Lib.cntF ws l ≤ l.length
 | [], _ => Nat.le_refl _
 | b :: l, ws => by
  have := cntF_le_ l (Lib.isSp b)
  rw [Lib.cntF, List.length_cons]
  split <;> omega
theorem RepAt.below {m : Int} {w w' : World} {R : Nat} (h : RepAt m w R) (hb : Below w.heap.size w w') : RepAt m w' R := by
 obtain ⟨Ao, co, h1, h2, h3⟩ := h
 exact ⟨Ao, co, (hb.block R (Array.getElem?_eq_some_iff.1 h1).1).trans h1, Kd.C_below h2 hb, h3⟩
theorem RepAt.lt {m : Int} {w : World} {R : Nat} (h : RepAt m w R) : R < w.heap.size := by
 obtain ⟨Ao, co, h1, h2, h3⟩ := h
 exact (Array.getElem?_eq_some_iff.1 h1).1
theorem all_below {w w1 w2 w3 w4 : World} {o : Obj} {R : Nat} (h1 : Below w.heap.size w w1) (hR : (w1.alloc o).heap.size ≤ R) (h2 : Below (w1.alloc o).heap.size (w1.alloc o) w2) (h3 : Below w2.heap.size w2 w3) (h4 : Below R w3 w4) : Below w.heap.size w w4 := by
 have a1 : Below w1.heap.size w1 (w1.alloc o) := (Below.refl _ _).alloc (Nat.le_refl _) _
 have s1 := h1.size
 have s2 := a1.size
 have s3 := h2.size
 exact (((h1.trans (a1.mono s1)).trans (h2.mono (by omega))).trans (h3.mono (by omega))).trans (h4.mono (by omega))
theorem row_words (w : World) (base : Nat) (hb : base ≤ w.heap.size) (s : ByteArray) (hs : (apartB s).size ≤ 15000000) :
 Kd.R Kd.string 9 (w.alloc (.cells ((Lib.fields (apartB s).data.toList).map fun l => Value.string ⟨l.toArray⟩).toArray 9)) base (fun _ => True) (.slice (some ⟨w.heap.size, 0, none⟩) (Lib.fields (apartB s).data.toList).length (Lib.fields (apartB s).data.toList).length) (wordsB s) := by
 have hl : (wordsB s).length = (Lib.fields (apartB s).data.toList).length := by unfold wordsB; rw [List.length_map]
 have he : ((Lib.fields (apartB s).data.toList).map fun l => Value.string ⟨l.toArray⟩) = (wordsB s).map Value.string := by unfold wordsB; rw [List.map_map]; rfl
 have hm := cntF_le_ (apartB s).data.toList true
 rw [← Lib.fields_length, str_len] at hm
 rw [he, ← hl]
 exact Kd.R_of_own (own_lit_of w base 9 (wordsB s) hb (by omega)) (fun _ _ => trivial)
theorem row4 (w : World) : Kd.C Kd.string (w.alloc (.cells #[.string ⟨#[40]⟩, .string ⟨#[32, 40, 32]⟩, .string ⟨#[41]⟩, .string ⟨#[32, 41, 32]⟩] 9)) (some ⟨w.heap.size, 0, none⟩) repRow.length repRow := by
 have h : Kd.R Kd.string 9 (w.alloc (.cells (repRow.map Value.string).toArray 9)) w.heap.size (fun _ => True) (.slice (some ⟨w.heap.size, 0, none⟩) repRow.length repRow.length) repRow := Kd.R_of_own (own_lit_of w w.heap.size 9 repRow (Nat.le_refl _) (by decide)) (fun _ _ => trivial)
 exact (Kd.R_reads' h).2.2
theorem lex_Words.calls (s : ByteArray) (r0 : List ByteArray) (r1 : Int) (w : World) (h : lex_Words.f s = some (r0, r1)) (hG : GOK w) :
 Calls Tryd.prog 8 #[.string s] w fun e w' => ∃ v0_ : Value, e = .returned (.tuple #[v0_, .int .i64 r1]) ∧ Kd.R Kd.string 9 w' w.heap.size (fun _ => True) v0_ r0 ∧ Below w.heap.size w w' := by
 unfold lex_Words.f at h
 obtain ⟨b, hb⟩ : ∃ b, (decide (s.size ≤ 2048) && s.data.toList.all okL) = b := ⟨_, rfl⟩
 rw [hb] at h
 have HGo := a_ hG
 have hm : lex_may.f s = some b := by unfold lex_may.f; rw [hb]
 have HM := a_ hm
 have HBb := a_ hb
 clear hm hb hG
 cases b with
 | false =>
  rw [if_neg (by decide)] at h
  injection h with h
  injection h with h1 h2
  subst h1 h2
  go_enter Tryd.func8, Tryd.ntmps8
  go_wp2_with (go_at_call 14; refine (lex_may.calls s _ _ HM.out).mono ?_; rintro e w1 ⟨rfl, hB⟩; have HB := a_ hB; clear hB)
  go_ret2
  exact ⟨_, rfl, Kd.R_nil _ _ _ _ _, HB.out⟩
 | true =>
  rw [if_pos rfl] at h
  injection h with h
  injection h with h1 h2
  subst h1 h2
  have hs : s.size ≤ 2048 := by
   have := HBb.out
   rw [Bool.and_eq_true] at this
   exact of_decide_eq_true this.1
  have ha : s.data.toList.all okL = true := by
   have := HBb.out
   rw [Bool.and_eq_true] at this
   exact this.2
  have HPL := a_ (show lex_plain.f s = some (plB (linesB s.size s)) by unfold lex_plain.f; rw [if_pos hs])
  have HSM := a_ (plain_small s hs)
  have HAS := a_ (apart_small s hs)
  have HAA := a_ (apart_ascii s ha)
  clear hs ha HBb
  go_enter Tryd.func8, Tryd.ntmps8
  go_wp2_with (first | (go_at_call 14; refine (lex_may.calls s _ _ HM.out).mono ?_; rintro e w1 ⟨rfl, hB⟩; have HB := a_ hB; clear hB) | (go_at_call 15; refine (newrep_calls _ _ _ (row4 w1)).mono ?_; rintro e w2 ⟨R, rfl, hR, hRA, hB2⟩; have HR := a_ hR; have HRA := a_ hRA; have HB2 := a_ hB2; clear hR hRA hB2) | (go_at_call 17; refine (lex_plain.calls s _ _ HPL.out).mono ?_; rintro e w3 ⟨rfl, hB3⟩; have HB3 := a_ hB3; clear hB3) | (go_at_call 16; refine (replace_calls R _ _ (HRA.out.below HB3.out) HSM.out).mono ?_; rintro e w4 ⟨rfl, hB4⟩; have HB4 := a_ (all_below HB.out HR.out HB2.out HB3.out hB4); clear hB4) | (go_at_call 18; refine (Tryd.strings_Fields_laid (apartB s) _ (by have := HAS.out; omega) HAA.out (HGo.out.below HB4.out).tab).mono ?_; rintro e w5 ⟨rfl, hw5⟩; rw [hw5]))
  go_ret2
  exact ⟨_, rfl, row_words _ _ HB4.out.size s HAS.out, HB4.out.trans ((Below.refl _ _).alloc (Nat.le_refl _) _ |>.mono HB4.out.size)⟩

end Go.Proofs.YtljlmkbcichlpaaDoor.G
