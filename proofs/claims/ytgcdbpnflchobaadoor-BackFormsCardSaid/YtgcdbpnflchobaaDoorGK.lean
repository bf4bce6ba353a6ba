/- Parts of this proof, one behind the other: G15, G16, G17. -/
import Derived.Test.YtgcdbpnflchobaaDoorBase
import Derived.Test.YtgcdbpnflchobaaDoorGT
section
-- Laid by the session's own driver gp.py over the kit's printer. Not trusted: Lean checks it.
namespace Go.Proofs.YtgcdbpnflchobaaDoor.G
open Go.RowKit Go.Proofs.YtgcdbpnflchobaaDoorW.PrintWords Go.Proofs.YtgcdbpnflchobaaDoorW.PrintLast Go.Proofs.YtgcdbpnflchobaaDoorW.PrintMore
attribute [local go_sem] max2_int min2_int max_two min_two max_three min_three max_four min_four   -- for this text's walks alone
set_option linter.unusedVariables false
set_option linter.unusedSimpArgs false

/-! ### slices_Collect_int: function 33, given -/
/-! slices.Collect at whole numbers, against whatever iterator: by the worked proof of the kit's collecting test; here the iterator may keep a state of its own in cells (C) -/
section
open Go.Shelf
/-- what an iterator promises: whatever J the caller keeps (it abides an iterator's steps, and stores into the cells C), all of xs come -/
def SeqC {α : Type} (F : Fence) (n : Nat) (P : Program) (g : Nat) (lb : Array Value) (enc : α → Value) (S : List α → Prop) (N : Nat) (n₁ : Nat) (C : Nat → Prop) (w : World) : Prop :=
  ∀ (l : Nat) (J : List α → World → Prop) (W : World), Below w.heap.size w W → AbidesFrom W.heap.size J → (∀ s W b v, C b → J s W → J s (W.setCell ⟨b, 0, none⟩ v)) →
    (∀ pre x W1, J pre W1 → pre.length < N → YieldAt F (n - 1) P l #[enc x] W1 fun e W' => e = .returned (.bool true) ∧ J (pre ++ [x]) W' ∧ Below n₁ W1 W') →
    J [] W →
    CallsIn F n P g (#[.func (.yield l) #[] #[]] ++ lb) W fun e W' => (∃ v, e = .returned v) ∧ ∃ xs, S xs ∧ J xs W'
theorem SeqC.of_stops {α : Type} {F : Fence} {n : Nat} {P : Program} {g : Nat} {lb : Array Value} {enc : α → Value} {S Sp : List α → Prop} {N n₁ : Nat} {C : Nat → Prop} {w : World}
    (h : SeqStopsK F n P g lb (fun x => #[enc x]) (Below n₁) S Sp N w) : SeqC F n P g lb enc S N n₁ C w := fun l J W hW hJ _ hY h0 => by
  refine (h l J (fun _ _ => False) W hW hJ (fun _ _ _ _ h _ _ => h) (fun pre x W1 hj hl => (hY pre x W1 hj hl).mono fun e W' hr => .inl hr) h0).mono ?_
  rintro e W' ⟨hv, ⟨xs, hS, hJ'⟩ | ⟨_, _, hF⟩⟩
  · exact ⟨hv, xs, hS, hJ'⟩
  · exact hF.elim
theorem range_cut {F : Fence} {n : Nat} {P : Program} {g : Operand} {ps : Array Tmp} {assign body : Code} {Q : Exit → Act → World → Prop} {a : Act} {w : World}
    (h : ∀ asg bdy, asg = assign → bdy = body → (Code.rangeFunc g ps asg bdy).wpIn F n P Q a w) : (Code.rangeFunc g ps assign body).wpIn F n P Q a w := h _ _ rfl rfl
/-- between two rounds -/
structure ApAt {α : Type} (enc : α → Value) (tS tE : TypeId) (rec : LoopState → Option Code → Loop) (n₀ : Nat) (w0 : World) (Bs l D : Nat) (ss : List α) (W : World) : Prop where
  box : ∃ v, W.heap[Bs]? = some (.cells #[v] tS (0, 0)) ∧ W.ownsRow w0.heap.size tE 1 v ss.length (ss.map enc) ∧ (v = .slice none 0 0 ↔ ss = [])
  L : W.heap[l]? = some (.loop (rec .ready none))
  K : W.heap[D]? = some (.deferred (some []))
  below : Below n₀ w0 W
theorem own_ap_abides {W W' : World} {row : Option Nat} {base : Nat} {e : TypeId} {size : Nat} {v : Value} {k : Nat} {xs : List Value} (h : W.ownsRow base e size v k xs) (hg : W.grownBy W' row)
    (hrow : ∀ r, row = some r → ∃ o : Obj, W.heap[r]? = some o ∧ o.isWalk = true) : W'.ownsRow base e size v k xs := by
  refine h.kept hg ?_
  rcases h.2 with ⟨rfl, _⟩ | ⟨g, cap, cur, rfl, _, hgb, _⟩
  · exact .inl rfl
  · refine .inr fun e' => ?_
    obtain ⟨o, ho, hw⟩ := hrow g (by simpa [Value.ownBlock] using e'.symm)
    rw [hgb] at ho; cases ho; cases hw
theorem ap_abides {α : Type} (enc : α → Value) (tS tE : TypeId) (rec : LoopState → Option Code → Loop) (n₀ : Nat) (w0 : World) (Bs l D B : Nat) (hB : n₀ ≤ B) (hn : n₀ ≤ w0.heap.size) : AbidesFrom B (ApAt enc tS tE rec n₀ w0 Bs l D) := fun s W W' row h hg hrow => by
  have hrow' : ∀ r, row = some r → ∃ o : Obj, W.heap[r]? = some o ∧ o.isWalk = true := fun r e => (hrow r e).2
  obtain ⟨v, hv, hr, hn'⟩ := h.box
  exact ⟨⟨v, (grownBy_keeps hg hrow' hv rfl).trans hv, own_ap_abides hr hg hrow', hn'⟩, (grownBy_keeps hg hrow' h.L rfl).trans h.L, (grownBy_keeps hg hrow' h.K rfl).trans h.K,
    h.below.grown hg (Nat.le_trans hn h.below.size) (fun k e => Nat.le_trans hB (hrow k e).1)⟩
theorem own_ne_ap {W : World} {base : Nat} {e : TypeId} {size : Nat} {v : Value} {k : Nat} {xs : List Value} (h : W.ownsRow base e size v k xs) {j : Nat} {o : Obj} (hj : W.heap[j]? = some o) (hno : ∀ cur, o ≠ .cells cur e (0, 0)) :
    v.ownBlock = none ∨ v.ownBlock ≠ some j := by
  rcases h.2 with ⟨rfl, _⟩ | ⟨g, cap, cur, rfl, _, hgb, _⟩
  · exact .inl rfl
  · refine .inr fun e' => ?_
    have : g = j := by simpa [Value.ownBlock] using e'
    subst this; rw [hgb] at hj; cases hj; exact hno cur rfl
theorem ap_state {α : Type} {enc : α → Value} {tS tE : TypeId} {rec : LoopState → Option Code → Loop} {n₀ : Nat} {w0 : World} {Bs l D : Nat} {ss : List α} {W : World} (b : Nat) (v : Value) (h : ApAt enc tS tE rec n₀ w0 Bs l D ss W)
    (h0 : n₀ ≤ b) (h1 : b < w0.heap.size) (hB : w0.heap.size ≤ Bs) (hl : w0.heap.size ≤ l) (hD : w0.heap.size ≤ D) : ApAt enc tS tE rec n₀ w0 Bs l D ss (W.setCell ⟨b, 0, none⟩ v) := by
  obtain ⟨u, hv, hr, hn⟩ := h.box
  exact ⟨⟨u, (Below.heap_setCell W _ v Bs (by show Bs ≠ b; omega)).trans hv, hr.kept (grownBy_setCell' W b v) (by
      rcases hr.2 with ⟨rfl, _⟩ | ⟨g, cap, cur, rfl, hbg, _⟩
      · exact .inl rfl
      · refine .inr fun e' => ?_
        have : g = b := by simpa [Value.ownBlock] using e'
        omega), hn⟩,
    (Below.heap_setCell W _ v l (by show l ≠ b; omega)).trans h.L, (Below.heap_setCell W _ v D (by show D ≠ b; omega)).trans h.K, h.below.setCell (p := ⟨b, 0, none⟩) h0 v⟩
theorem box_cell {W : World} {B : Nat} {v : Value} {t : TypeId} (h : W.heap[B]? = some (.cells #[v] t (0, 0))) : W.cell? ⟨B, 0, none⟩ = some v ∧ W.frozen? ⟨B, 0, none⟩ = false := by
  constructor <;> simp [World.cell?, World.frozen?, h]
theorem box_set {W : World} {B : Nat} {v : Value} {t : TypeId} (v' : Value) (h : W.heap[B]? = some (.cells #[v] t (0, 0))) : (W.setCell ⟨B, 0, none⟩ v').heap[B]? = some (.cells #[v'] t (0, 0)) := by
  obtain ⟨hlt, hk⟩ := Array.getElem?_eq_some_iff.1 h
  show (W.heap.modify B _)[B]? = _
  rw [Array.getElem?_eq_getElem (by rw [Array.size_modify]; exact hlt), Array.getElem_modify_self, hk]
  rfl
theorem infoInt : (Tryd.prog.info? 3).map (fun i => (i.zero, i.size, i.bytes)) = some (some (.int .i64 0), 1, 8) := by kernel_rfl
set_option maxRecDepth 100000 in
set_option maxHeartbeats 4000000 in
theorem appendSeq_in (F : Fence) (n : Nat) (h11 : F.fn 44) (hro : F.round = none) (hn : 2 ≤ n) (g : Nat) (lb : Array Value) (hFg : F.fn g) (eg : ∀ args w, (callFunc g args).run Tryd.prog w = .ok (.enter g args) w)
    (S : List Int → Prop) (N : Nat) (hN : N ≤ maxLen) (hNb : N * 8 ≤ 140737488355328) (n₀ : Nat) (C : Nat → Prop) (w : World) (hn₀ : n₀ ≤ w.heap.size) (hC : ∀ b, C b → n₀ ≤ b ∧ b < w.heap.size) (hseq : SeqC F (n - 1) Tryd.prog g lb (Value.int .i64) S N w.heap.size C w) :
    CallsIn F n Tryd.prog 44 #[.slice none 0 0, .func (.func g) #[] lb] w fun e w' => ∃ (v : Value) (ss : List Int), e = .returned v ∧ S ss ∧ w'.ownsRow w.heap.size 3 1 v ss.length (ss.map (Value.int .i64)) ∧ (v = .slice none 0 0 ↔ ss = []) ∧ Below n₀ w w' := by
  have h1 : 1 ≤ n := by omega
  obtain ⟨i0, hi, hz0, hz1, hz2⟩ := info_parts infoInt
  refine callsIn_of_wp_marks Tryd.func44 rfl h11 ?_ hro
  simp only [Tryd.ntmps44, List.size_toArray, List.length_cons, List.length_nil, Nat.reduceAdd, Nat.reduceSub, Array.replicate_succ, Array.replicate_zero, List.push_toArray, List.append_toArray, List.nil_append, List.cons_append]
  gi_wp2
  refine range_cut ?_
  intro asg bdy hasg0 hbdy0
  have hasg := Aside0.mk hasg0
  have hbdy := Aside0.mk hbdy0
  clear hasg0 hbdy0
  refine wpIn_rangeFunc ?_
  intro fn hfn
  rw [hro]
  obtain ⟨W0, hW0⟩ : ∃ W0, w.alloc (.cells #[.slice none 0 0] 24) = W0 := ⟨_, rfl⟩
  have hs0 : W0.heap.size = w.heap.size + 1 := by rw [← hW0]; simp
  have hv0 : W0.heap[w.heap.size]? = some (.cells #[.slice none 0 0] 24 (0, 0)) := by rw [← hW0]; exact World.alloc_heap_new w _
  have hb0 : Below n₀ w W0 := by rw [← hW0]; exact (Below.refl _ w).alloc hn₀ _
  have hb0' : Below w.heap.size w W0 := by rw [← hW0]; exact (Below.refl _ w).alloc (Nat.le_refl _) _
  rw [hW0]
  obtain ⟨rec, hrec⟩ : ∃ rec : LoopState → Option Code → Loop, rec = fun st pend => { state := st, pending := pend, fn, tmps := #[.slice none 0 0, .func (.func g) #[] lb, .pointer (some ⟨w.heap.size, 0, none⟩), undef, .slice none 0 0, undef, .func (.func g) #[] lb, undef, undef, undef, undef, undef, undef], params := #[7], assign := asg, body := bdy, defers := W0.heap.size } := ⟨_, rfl⟩
  have Hrec := Aside0.mk hrec
  clear hrec
  obtain ⟨W1, hW1⟩ : ∃ W1, (W0.alloc (.deferred (some []))).alloc (.loop (rec .ready none)) = W1 := ⟨_, rfl⟩
  have hold : ∀ k, k < W0.heap.size → W1.heap[k]? = W0.heap[k]? := fun k hk => by
    rw [← hW1]; exact (Below.heap_alloc _ _ k (by simp; omega)).trans (Below.heap_alloc _ _ k hk)
  have hb1 : Below n₀ w W1 := by rw [← hW1]; exact (hb0.alloc (by omega) _).alloc (by simp; omega) _
  have hb1' : Below w.heap.size w W1 := by rw [← hW1]; exact (hb0'.alloc (by omega) _).alloc (by simp; omega) _
  have hs1 : W1.heap.size = W0.heap.size + 2 := by rw [← hW1]; simp
  obtain ⟨l, hl0⟩ : ∃ l, l = W0.heap.size + 1 := ⟨_, rfl⟩
  obtain ⟨D, hD0⟩ : ∃ D, D = W0.heap.size := ⟨_, rfl⟩
  obtain ⟨Bs, hBs0⟩ : ∃ Bs, Bs = w.heap.size := ⟨_, rfl⟩
  have hM : ApAt (Value.int .i64) 24 3 rec n₀ w Bs l D [] W1 := by
    subst hl0 hD0 hBs0
    exact ⟨⟨_, (hold w.heap.size (by omega)).trans hv0, ⟨rfl, .inl ⟨rfl, rfl⟩⟩, by simp⟩,
     by rw [← hW1]; have := World.alloc_heap_new (W0.alloc (.deferred (some []))) (.loop (rec .ready none)); rwa [World.size_alloc] at this,
     by rw [← hW1]; exact (Below.heap_alloc _ _ _ (by simp)).trans (World.alloc_heap_new W0 _), hb1⟩
  have hBl : Bs ≠ l := by omega
  have hDl : D ≠ l := by omega
  have hDB : D ≠ Bs := by omega
  have h0B : w.heap.size ≤ Bs := by omega
  have h0l : w.heap.size ≤ l := by omega
  have h0D : w.heap.size ≤ D := by omega
  have hyield : ∀ (ss : List Int) (x : Int) (W : World), ApAt (Value.int .i64) 24 3 rec n₀ w Bs l D ss W → ss.length < N → YieldAt F (n - 1 - 1) Tryd.prog l #[.int .i64 x] W fun e W' => e = .returned (.bool true) ∧ ApAt (Value.int .i64) 24 3 rec n₀ w Bs l D (ss ++ [x]) W' ∧ Below w.heap.size W W' := by
    intro ss x W h hlen
    clear hM hb1 hb1' hold hs1 hv0 hb0 hb0'
    obtain ⟨v, hv, hrow, _⟩ := h.box
    refine ⟨fn, #[.slice none 0 0, .func (.func g) #[] lb, .pointer (some ⟨Bs, 0, none⟩), undef, .slice none 0 0, undef, .func (.func g) #[] lb, .int .i64 x, undef, undef, undef, undef, undef], asg, bdy, by subst hBs0; simpa [Hrec.out] using run_yield (P := Tryd.prog) (args := #[.int .i64 x]) h.L (by rw [Hrec.out]; rfl), roundIn_of_wpIn hfn ?_⟩
    clear hl0 hD0 hBs0 hs0 hW0 hW1
    have hl : l < W.heap.size := (Array.getElem?_eq_some_iff.1 h.L).1
    have hbr := run_beginRound (P := Tryd.prog) h.L (by rw [Hrec.out])
    obtain ⟨W2, hW2⟩ : ∃ W2, W.putObj l (.loop { rec .ready none with state := .busy }) = W2 := ⟨_, rfl⟩
    rw [hW2] at hbr
    have hg2 : W.grownBy W2 (some l) := by rw [← hW2]; exact grownBy_putObj' _ _ _
    have hv2 : W2.heap[Bs]? = some (.cells #[v] 24 (0, 0)) := by rw [← hW2]; exact (World.putObj_heap_other hBl).trans hv
    have hK2 : W2.heap[D]? = some (.deferred (some [])) := by rw [← hW2]; exact (World.putObj_heap_other hDl).trans h.K
    have hL2 : W2.heap[l]? = some (.loop { rec .ready none with state := .busy }) := by rw [← hW2]; exact World.putObj_heap_same hl
    have hrow2 : W2.ownsRow w.heap.size 3 1 v ss.length (ss.map (Value.int .i64)) := hrow.kept hg2 (own_ne_ap hrow h.L (fun cur e => by cases e))
    have hwW : w.heap.size ≤ W.heap.size := h.below.size
    have hx2 : Below w.heap.size W W2 := (Below.refl _ W).grown hg2 hwW (fun k e => by cases e; exact h0l)
    obtain ⟨hc2, hf2⟩ := box_cell hv2
    have hBlt : Bs < W2.heap.size := (Array.getElem?_eq_some_iff.1 hv2).1
    have hl2 : l < W2.heap.size := (Array.getElem?_eq_some_iff.1 hL2).1
    have hDlt : D < W2.heap.size := (Array.getElem?_eq_some_iff.1 hK2).1
    have ne_of : ∀ {j : Nat} {o : Obj}, W2.heap[j]? = some o → (∀ cur, o ≠ .cells cur 3 (0, 0)) → some j ≠ v.ownBlock := fun hj hno => by
      rcases own_ne_ap hrow2 hj hno with e | e
      · rw [e]; simp
      · exact fun e' => e e'.symm
    clear hW2
    obtain rfl := hasg.out
    gi_wp2_with (rw [Oper.semAt_eq _ _ _ (fun c h => by cases h)]; go_simp; try go_bits)
    obtain rfl := hbdy.out
    gi_wp2_with (first
      | (gi_at_builtin; refine wpListIn_append_own _ rfl _ _ 24 rfl w.heap.size 3 i0 (.int .i64 0) 1 8 Tryd.underlying24 hi hz0 hz1 hz2 rfl (by decide) _ _ _ rfl (hrow2.alloc _) ⟨W2.heap.size, 0, none⟩ 1 1 [.int .i64 x] rfl rfl (cell_one_new _ _ _) (by simp [Value.oneCell']) (by omega) (by omega) (by have := hx2.size; simp; omega) ?_; intro v' w3 hown' hg3 hnil3
         have hv3 : w3.heap[Bs]? = some (.cells #[v] 24 (0, 0)) := (hg3.block Bs (by simp; omega) (ne_of hv2 (fun cur e => by cases e))).trans ((Below.heap_alloc _ _ Bs hBlt).trans hv2)
         obtain ⟨hc3, hf3⟩ := box_cell hv3
         obtain ⟨g', cap', cur', rfl, hbase', hgb', hr1, hr2, hr3, hr4⟩ : ∃ g' cap' cur', v' = .slice (some ⟨g', 0, none⟩) (ss.length + 1) cap' ∧ w.heap.size ≤ g' ∧ w3.heap[g']? = some (.cells cur' 3 (0, 0)) ∧ ss.length + 1 ≤ cap' ∧ cap' ≤ maxLen ∧ cur'.size = cap' * 1 ∧ cur'.toList.take ((ss.length + 1) * 1) = ss.map (Value.int .i64) ++ [.int .i64 x] := by
           rcases hown'.2 with ⟨_, h0⟩ | h'
           · exact absurd h0 (by omega)
           · exact h'
         simp only [Act.put, List.setIfInBounds_toArray, List.set_cons_succ, List.set_cons_zero])
      | (rw [Oper.semAt_eq _ _ _ (fun c h => by cases h)]; go_simp; try go_bits))
    have hg3' : (W2.alloc (.cells #[.int .i64 x] 3)).grownBy w3 v.ownBlock := hg3
    have hL3 : w3.heap[l]? = some (.loop { rec .ready none with state := .busy }) := (hg3'.block l (by simp; omega) (ne_of hL2 (fun cur e => by cases e))).trans ((Below.heap_alloc _ _ l hl2).trans hL2)
    have hK3 : w3.heap[D]? = some (.deferred (some [])) := (hg3'.block D (by simp; omega) (ne_of hK2 (fun cur e => by cases e))).trans ((Below.heap_alloc _ _ D hDlt).trans hK2)
    obtain ⟨w4, hw4⟩ : ∃ w4, w3.setCell ⟨Bs, 0, none⟩ (.slice (some ⟨g', 0, none⟩) (ss.length + 1) cap') = w4 := ⟨_, rfl⟩
    rw [hw4]
    have hg4 : w3.grownBy w4 (some Bs) := by rw [← hw4]; exact grownBy_setCell' _ _ _
    have hv4 : w4.heap[Bs]? = some (.cells #[.slice (some ⟨g', 0, none⟩) (ss.length + 1) cap'] 24 (0, 0)) := by rw [← hw4]; exact box_set _ hv3
    have hL4 : w4.heap[l]? = some (.loop { rec .ready none with state := .busy }) := (hg4.block l (Array.getElem?_eq_some_iff.1 hL3).1 (fun e => hBl (by cases e; rfl))).trans hL3
    have hK4 : w4.heap[D]? = some (.deferred (some [])) := (hg4.block D (Array.getElem?_eq_some_iff.1 hK3).1 (fun e => hDB (by cases e; rfl))).trans hK3
    have hrow4 := hown'.kept hg4 (own_ne_ap hown' hv3 (fun cur e => by cases e))
    have hl4 : l < w4.heap.size := (Array.getElem?_eq_some_iff.1 hL4).1
    have hx3 : Below w.heap.size W w3 := (hx2.alloc (by have := hx2.size; omega) _).grown hg3' (by have := hx2.size; simp; omega) (fun k e => (hrow2.lt k e).1)
    have hx4 : Below w.heap.size W w4 := hx3.grown hg4 (Nat.le_trans hwW hx3.size) (fun k e => by cases e; exact h0B)
    have hx5 := hx4.grown (grownBy_putObj' w4 l (.loop { { rec .ready none with state := .busy } with state := if (none : Option Code).isNone then .ready else .done, pending := none })) (Nat.le_trans hwW hx4.size) (fun k e => by cases e; exact h0l)
    clear hw4
    have hrr : ({ { rec .ready none with state := .busy } with state := if (none : Option Code).isNone then .ready else .done, pending := none } : Loop) = rec .ready none := by rw [Hrec.out]; rfl
    refine ⟨_, _, run_endRound none hL4, rfl, ⟨⟨_, (World.putObj_heap_other hBl).trans hv4, ?_, by simp⟩, ?_, (World.putObj_heap_other hDl).trans hK4, h.below.trans (hx5.mono hn₀)⟩, hx5⟩
    · have := hrow4.kept (grownBy_putObj' w4 l (.loop { { rec .ready none with state := .busy } with state := if (none : Option Code).isNone then .ready else .done, pending := none })) (own_ne_ap hrow4 hL4 (fun cur e => by cases e))
      simpa using this
    · rw [hrr]
      exact World.putObj_heap_same hl4
  refine ⟨l, [{ target := .collected D, args := #[] }], W1, { target := .fn (.func g) lb, args := #[.func (.yield l) #[] #[]] }, W1, g, #[.func (.yield l) #[] #[]] ++ lb, W1, ?_, ?_, ?_, ?_, fun _ => h1, ?_⟩
  · subst hl0 hD0
    rw [← hW1, Hrec.out]
    exact run_enterLoop_outer _ _ _ _ _
  · simp [resolve, go_sem]
  · intro f' hf'; simp [Target.leads] at hf'; subst hf'; exact hFg
  · simp [invoke, go_sem, eg]
  · refine (hseq l (ApAt (Value.int .i64) 24 3 rec n₀ w Bs l D) W1 hb1' (ap_abides _ _ _ _ _ _ _ _ _ _ (Nat.le_trans hn₀ hb1'.size) hn₀) (fun s W b v hb hJ => ap_state b v hJ (hC b hb).1 (hC b hb).2 h0B h0l h0D) hyield hM).mono ?_
    rintro e W2 ⟨⟨v0, rfl⟩, ss, hS, h2⟩
    obtain ⟨v, hv, hrow, hnil⟩ := h2.box
    have hpe : (rec .ready none).pending = none := by rw [Hrec.out]
    obtain ⟨W3, hW3⟩ : ∃ W3, W2.putObj l (.loop { rec .ready none with state := .exhausted }) = W3 := ⟨_, rfl⟩
    have hend : (Instr.endLoop l).run Tryd.prog W2 = .ok none W3 := (run_endLoop (P := Tryd.prog) h2.L (by rw [Hrec.out]; simp)).trans (by rw [← hW3]; simp only [hpe])
    have hg3 : W2.grownBy W3 (some l) := by rw [← hW3]; exact grownBy_putObj' _ _ _
    have hv3 : W3.heap[Bs]? = some (.cells #[v] 24 (0, 0)) := by rw [← hW3]; exact (World.putObj_heap_other hBl).trans hv
    have hK3 : W3.heap[D]? = some (.deferred (some [])) := by rw [← hW3]; exact (World.putObj_heap_other hDl).trans h2.K
    have hrow3 := hrow.kept hg3 (own_ne_ap hrow h2.L (fun cur e => by cases e))
    have hb3 : Below n₀ w W3 := h2.below.grown hg3 (Nat.le_trans hn₀ h2.below.size) (fun k e => by cases e; omega)
    have hsz3 := Nat.le_trans hn₀ hb3.size
    obtain ⟨hc3, hf3⟩ := box_cell hv3
    clear hW3
    refine ⟨none, W3, hend, ?_⟩
    clear hyield hM hb1 hb1' hold hs1 hv0 hb0 hb0' hpe hend h2 hv hrow hv3 hW1 hW0 hasg hbdy Hrec
    subst hBs0 hD0
    clear hl0
    rw [hs0] at hK3
    gi_wp2
    refine ⟨by simp, .inl ⟨_, _, rfl, run_takeDeferred hK3, ?_⟩⟩
    exact ⟨_, results_tmp rfl _ _ _, v, ss, rfl, hS, hrow3.kept (grownBy_putObj' _ _ _) (own_ne_ap hrow3 hK3 (fun cur e => by cases e)), hnil, hb3.grown (grownBy_putObj' _ _ _) hsz3 (fun k e => by cases e; omega)⟩
set_option maxRecDepth 100000 in
set_option maxHeartbeats 1000000 in
theorem collect_in (F : Fence) (n : Nat) (h8 : F.fn 33) (h11 : F.fn 44) (hro : F.round = none) (hn : 3 ≤ n) (g : Nat) (lb : Array Value) (hFg : F.fn g) (eg : ∀ args w, (callFunc g args).run Tryd.prog w = .ok (.enter g args) w)
    (S : List Int → Prop) (N : Nat) (hN : N ≤ maxLen) (hNb : N * 8 ≤ 140737488355328) (n₀ : Nat) (C : Nat → Prop) (w : World) (hn₀ : n₀ ≤ w.heap.size) (hC : ∀ b, C b → n₀ ≤ b ∧ b < w.heap.size) (hseq : SeqC F (n - 1 - 1) Tryd.prog g lb (Value.int .i64) S N w.heap.size C w) :
    CallsIn F n Tryd.prog 33 #[.func (.func g) #[] lb] w fun e w' => ∃ (v : Value) (ss : List Int), e = .returned v ∧ S ss ∧ w'.ownsRow w.heap.size 3 1 v ss.length (ss.map (Value.int .i64)) ∧ (v = .slice none 0 0 ↔ ss = []) ∧ Below n₀ w w' := by
  have h1 : 1 ≤ n := by omega
  refine callsIn_of_wp Tryd.func33 rfl h8 ?_ hro
  simp only [Tryd.ntmps33, List.size_toArray, List.length_cons, List.length_nil, Nat.reduceAdd, Nat.reduceSub, Array.replicate_succ, Array.replicate_zero, List.push_toArray, List.append_toArray, List.nil_append, List.cons_append]
  gi_wp2_with (gi_at_call 44; refine (appendSeq_in F (n - 1) h11 hro (by omega) g lb hFg eg S N hN hNb n₀ C _ hn₀ hC hseq).mono ?_; rintro e w' ⟨v, ss, rfl, hS, hrow, hnil, hb⟩)
  go_ret
  exact ⟨v, ss, rfl, hS, hrow, hnil, hb⟩
/-- the printer's form -/
theorem encs_map (xs : List Int) : encs (Value.int .i64) xs = xs.map (Value.int .i64) := by rfl
theorem collect_calls (g : Nat) (lb : Array Value) (eg : ∀ args w, (callFunc g args).run Tryd.prog w = .ok (.enter g args) w) (xs : List Int) (N : Nat) (hN : N ≤ 1000000) (n₀ : Nat) (C : Nat → Prop) (w : World) (hn₀ : n₀ ≤ w.heap.size) (hC : ∀ b, C b → n₀ ≤ b ∧ b < w.heap.size) (hseq : ∀ n, SeqC Fence.wide (n + 1) Tryd.prog g lb (Value.int .i64) (fun ys => ys = xs) N w.heap.size C w) :
    Calls Tryd.prog 33 #[.func (.func g) #[] lb] w fun e w' => ∃ v, e = .returned v ∧ (Kd.int .i64).R 3 w' w.heap.size (fun _ => True) v xs ∧ Below n₀ w w' := by
  refine (callsIn_wide (n := 3)).1 ((collect_in Fence.wide 3 trivial trivial rfl (by omega) g lb trivial eg (fun ys => ys = xs) N (by unfold maxLen; omega) (by omega) n₀ C w hn₀ hC (hseq 0)).mono ?_)
  rintro e w' ⟨v, ss, rfl, rfl, hrow, _, hb⟩
  exact ⟨v, rfl, Kd.R_of_own hrow (fun _ _ => trivial), hb⟩
end

end Go.Proofs.YtgcdbpnflchobaaDoor.G
end
section
-- Laid by the session's own driver gp.py over the kit's printer. Not trusted: Lean checks it.
namespace Go.Proofs.YtgcdbpnflchobaaDoor.G
open Go.RowKit Go.Proofs.YtgcdbpnflchobaaDoorW.PrintWords Go.Proofs.YtgcdbpnflchobaaDoorW.PrintLast Go.Proofs.YtgcdbpnflchobaaDoorW.PrintMore
attribute [local go_sem] max2_int min2_int max_two min_two max_three min_three max_four min_four   -- for this text's walks alone
set_option linter.unusedVariables false
set_option linter.unusedSimpArgs false

/-! ### tree_Below: function 34, given -/
/-- a node's kids among those ahead of place i -/
def kidsTo (ns : List S44) (a : Int) : Nat → List Int
  | 0 => []
  | i + 1 => if a < (i : Int) ∧ (rd_T44 ns (i : Int)).f1 = a then kidsTo ns a i ++ [(i : Int)] else kidsTo ns a i
theorem kidsTo_pre (ns : List S44) (a : Int) : ∀ {i j : Nat}, i ≤ j → kidsTo ns a i <+: kidsTo ns a j := by
  intro i j h
  induction h with
  | refl => exact List.prefix_refl _
  | step _ ih =>
    rw [kidsTo]
    split
    · exact ih.trans (List.prefix_append _ _)
    · exact ih
theorem kidsTo_none (ns : List S44) (a : Int) : ∀ (i : Nat), (i : Int) ≤ a + 1 → kidsTo ns a i = []
  | 0, _ => rfl
  | i + 1, h => by rw [kidsTo, if_neg (by omega), kidsTo_none ns a i (by omega)]
theorem kidsTo_len (ns : List S44) (a : Int) : ∀ (i : Nat), (kidsTo ns a i).length ≤ i
  | 0 => Nat.le_refl _
  | i + 1 => by
    have := kidsTo_len ns a i
    rw [kidsTo]
    split <;> simp <;> omega

section
attribute [local go_sem] Oper.semAt_some
set_option maxRecDepth 100000 in
set_option maxHeartbeats 2000000 in
theorem tree_Below_1.in_ (n : Nat) (hn : 1 ≤ n) (l Bn Ba n₁ N : Nat) (A0 : Option Addr) (c0 : Nat) (l0 : List S44) (a1 : Int) (ha0 : 0 ≤ a1) (ha1 : a1 < (l0.length : Int)) (hlen : l0.length ≤ 9223372036854775806) (w : World) (hC : Kd.C k44 w A0 l0.length l0)
    (hN : ∀ i, i < l0.length → (kidsTo l0 a1 i).length < N) (J Jx : List Int → World → Prop) (hJd : ∀ s W n, J s W → J s (W.drewN n))
    (hY : ∀ pre x W, J pre W → pre.length < N → YieldAt Fence.wide (n - 1) Tryd.prog l #[.int .i64 x] W fun e W' =>
      (e = .returned (.bool true) ∧ J (pre ++ [x]) W' ∧ Below n₁ W W') ∨ (e = .returned (.bool false) ∧ Jx (pre ++ [x]) W'))
    (W : World) (hB : Below w.heap.size w W) (hw : w.heap.size ≤ n₁) (hBn : W.cell? ⟨Bn, 0, none⟩ = some (.slice A0 l0.length c0)) (hBa : W.cell? ⟨Ba, 0, none⟩ = some (.int .i64 a1)) (hbn : Bn < n₁) (hba : Ba < n₁) (h0 : J [] W) :
    CallsIn Fence.wide n Tryd.prog 45 #[.func (.yield l) #[] #[], .pointer (some ⟨Ba, 0, none⟩), .pointer (some ⟨Bn, 0, none⟩)] W fun e W' => (∃ v, e = .returned v) ∧
      ((∃ ys, ys = kidsTo l0 a1 l0.length ∧ J ys W') ∨ (∃ pre, pre <+: kidsTo l0 a1 l0.length ∧ Jx pre W')) := by
  refine callsIn_of_wp Tryd.func45 rfl trivial ?_ rfl
  simp only [Tryd.ntmps45, List.size_toArray, List.length_cons, List.length_nil, Nat.reduceAdd, Nat.reduceSub, Array.replicate_succ, Array.replicate_zero, List.push_toArray, List.append_toArray, List.nil_append, List.cons_append]
  gi_wp2
  gi_loopw [4] (fun i wr => ∃ x : Int, i = .int .i64 x ∧ Aside0 (a1 < x ∧ x ≤ (l0.length : Int)) ∧ Aside0 (J (kidsTo l0 a1 x.toNat) wr ∧ Below n₁ W wr))
    (fun i _ => l0.length - (intOf i).toNat)
  case atStart => exact ⟨a1 + 1, by first | rfl | (congr 1; omega) | (simp; omega), ⟨by omega, by omega⟩, ⟨by rw [kidsTo_none _ _ _ (by omega)]; exact h0, Below.refl _ _⟩⟩
  case round =>
    obtain ⟨x, rfl, HX, HJ⟩ := hrel
    have hcn := (HJ.out.2.cell (p := ⟨Bn, 0, none⟩) hbn).trans hBn
    have hca := (HJ.out.2.cell (p := ⟨Ba, 0, none⟩) hba).trans hBa
    by_cases hlt : x < (l0.length : Int)
    · have hx0 : 0 ≤ x := by have := HX.out; omega
      obtain ⟨ad, A2, c2, e0, g0, g1, g2, g3, hl2, hi2⟩ := at_T44 hC x hx0 hlt
      cases e0
      have hbw : Below w.heap.size w wr := hB.trans (HJ.out.2.mono hw)
      have hp := (hbw.cell (World.block_lt_of_cell? w _ g1)).trans g1
      clear g0 g1 g2 g3 hl2 hi2
      have hxt : (x + 1).toNat = x.toNat + 1 := by omega
      have hxe : ((x.toNat : Nat) : Int) = x := by omega
      have hw1 : IntKind.i64.wrap (x + 1) = x + 1 := IntWalk.i64_in _ (by omega)
      have hw2 := Aside0.mk hw1
      clear hw1
      have hlt0 := Aside0.mk (And.intro hlt (And.intro hxt hxe))
      clear hxt hxe
      have hltb := decide_eq_true hlt
      replace hlt := eq_true hlt
      replace hx0 := eq_true hx0
      have hmix : Tryd.prog.follows .mixedOrders = true := by kernel_rfl
      by_cases hpar : (rd_T44 l0 x).f1 = a1
      · have hparb : ((rd_T44 l0 x).f1 == a1) = true := beq_iff_eq.2 hpar
        have hkid : kidsTo l0 a1 (x.toNat + 1) = kidsTo l0 a1 x.toNat ++ [x] := by rw [kidsTo, hlt0.out.2.2, if_pos ⟨HX.out.1, hpar⟩]
        have HK := Aside0.mk hkid
        clear hkid hpar
        have HY := Aside0.mk (fun nq => hY _ x (wr.drewN nq) (hJd _ _ nq HJ.out.1) (hN x.toNat (by have := hlt0.out.1; omega)))
        clear hY hJd hN hBa hBn hC h0
        gi_wp2
        refine wpIn_mono (Q := fun e a w' => e = .normal ∧ ∃ (b : Bool) (t7 t8 t9 t10 t11 t12 t13 t14 t15 t16 t17 t18 t19 t20 t21 t22 t23 t24 : Value), a = { tmps := #[.func (.yield l) #[] #[], .pointer (some ⟨Ba, 0, none⟩), .pointer (some ⟨Bn, 0, none⟩), undef, .int .i64 x, .int .i64 a1, .int .i64 (a1 + 1), t7, t8, t9, t10, t11, t12, t13, t14, t15, t16, t17, t18, t19, t20, t21, t22, t23, t24, .bool (!b)], defers := [] } ∧ Aside0 ((b = true ∧ J (kidsTo l0 a1 x.toNat ++ [x]) w' ∧ Below n₁ wr w') ∨ (b = false ∧ Jx (kidsTo l0 a1 x.toNat ++ [x]) w'))) ?reg ?post
        case reg =>
          clear HK HX HJ hlt0 hw2 hbw hB hw
          refine wpIn_region_head 10 rfl hmix (by kernel_rfl) ?_
          simp only [List.take_succ_cons, List.take_zero, List.drop_succ_cons, List.drop_zero]
          iterate 10 (quiet_step_in (fail))
          refine wpQuietIn_nil ?_
          intro _ hw'
          obtain ⟨nq, hw''⟩ := hw'
          subst hw''
          obtain ⟨fn, tmps, assign, body, hy, hR⟩ := HY.out nq
          clear HY
          have HR : RoundIn Fence.wide (n - 1) Tryd.prog l fn tmps assign body (wr.drewN nq) (fun e W' => ∃ b, e = .returned (.bool b) ∧ Aside0 ((b = true ∧ J (kidsTo l0 a1 x.toNat ++ [x]) W' ∧ Below n₁ wr W') ∨ (b = false ∧ Jx (kidsTo l0 a1 x.toNat ++ [x]) W'))) := hR.mono fun e W' hh => by
            rcases hh with ⟨rfl, h1, h2⟩ | ⟨rfl, h1⟩
            · exact ⟨true, rfl, ⟨.inl ⟨rfl, h1, (below_dn (Below.refl _ _) nq).trans h2⟩⟩⟩
            · exact ⟨false, rfl, ⟨.inr ⟨rfl, h1⟩⟩⟩
          clear hR
          gi_wp2
          refine HR.mono ?_
          rintro e W3 ⟨b, rfl, HQ⟩
          gi_wp2
        case post =>
          rintro e a W3 ⟨rfl, b, t7, t8, t9, t10, t11, t12, t13, t14, t15, t16, t17, t18, t19, t20, t21, t22, t23, t24, rfl, HQ⟩
          clear HY hparb hp
          cases b
          · gi_wp2
            refine bodyPost_ret (results_none rfl _ _ _) rfl ?_
            have hq := HQ.out
            simp only [Bool.false_eq_true, false_and, false_or, true_and] at hq
            exact ⟨⟨_, rfl⟩, .inr ⟨_, by rw [← HK.out]; exact kidsTo_pre _ _ (by have := hlt0.out.1; omega), hq⟩⟩
          · have hq := HQ.out
            simp only [Bool.true_eq_false, false_and, or_false, true_and] at hq
            have HQ2 := Aside0.mk hq
            clear hq HQ
            gi_wp2
            refine ⟨⟨x + 1, by rw [show wrap64 (x + 1) = x + 1 from by have := HX.out; have := hlt0.out.1; unfold wrap64; omega], ⟨by have := HX.out; omega, by have := hlt0.out.1; omega⟩, ⟨by rw [hlt0.out.2.1, HK.out]; exact HQ2.out.1, HJ.out.2.trans HQ2.out.2⟩⟩, ?_⟩
            rw [show wrap64 (x + 1) = x + 1 from by have := HX.out; have := hlt0.out.1; unfold wrap64; omega]
            have := HX.out
            have := hlt0.out.1
            simp only [intOf]
            omega
      · have hparb : ((rd_T44 l0 x).f1 == a1) = false := beq_eq_false_iff_ne.2 hpar
        have hkid : kidsTo l0 a1 (x.toNat + 1) = kidsTo l0 a1 x.toNat := by rw [kidsTo, hlt0.out.2.2, if_neg (fun h => hpar h.2)]
        have HK := Aside0.mk hkid
        clear hkid hpar
        have HY := Aside0.mk (And.intro hY hJd)
        clear hY hJd
        clear hN hBa hBn hC h0
        gi_wp2
        refine wpIn_mono (Q := fun e a w' => e = .normal ∧ ∃ (t7 t8 t9 t10 t11 t12 t13 t14 t15 t16 t17 t18 t19 t20 t21 t22 t23 t24 : Value), a = { tmps := #[.func (.yield l) #[] #[], .pointer (some ⟨Ba, 0, none⟩), .pointer (some ⟨Bn, 0, none⟩), undef, .int .i64 x, .int .i64 a1, .int .i64 (a1 + 1), t7, t8, t9, t10, t11, t12, t13, t14, t15, t16, t17, t18, t19, t20, t21, t22, t23, t24, .bool false], defers := [] } ∧ ∃ nq, w' = wr.drewN nq) ?reg ?post
        case reg =>
          clear HY HK HX HJ hlt0 hw2 hbw hB hw
          refine wpIn_region_quiet_lit rfl hmix (by kernel_rfl) ?_
          iterate 10 (quiet_step_in (fail))
          refine BigFrame.wpQuietIn_skip (fun _ _ _ _ => trivial) (by first | rfl | kernel_rfl | simp [Region.wanted, yielded]) ?_
          simp only [Act.put, List.setIfInBounds_toArray, List.set_cons_succ, List.set_cons_zero]
          iterate 2 (quiet_step_in (fail))
          refine wpQuietIn_nil ?_
          intro _ hw'
          obtain ⟨nq, hw''⟩ := hw'
          subst hw''
          exact ⟨trivial, _, _, _, _, _, _, _, _, _, _, _, _, _, _, _, _, _, _, rfl, _, rfl⟩
        case post =>
          rintro e a W3 ⟨rfl, t7, t8, t9, t10, t11, t12, t13, t14, t15, t16, t17, t18, t19, t20, t21, t22, t23, t24, rfl, nq, rfl⟩
          clear hparb hp
          gi_wp2
          refine ⟨⟨x + 1, by rw [show wrap64 (x + 1) = x + 1 from by have := HX.out; have := hlt0.out.1; unfold wrap64; omega], ⟨by have := HX.out; omega, by have := hlt0.out.1; omega⟩, ⟨by rw [hlt0.out.2.1, HK.out]; exact HY.out.2 _ _ nq HJ.out.1, below_dn HJ.out.2 nq⟩⟩, ?_⟩
          rw [show wrap64 (x + 1) = x + 1 from by have := HX.out; have := hlt0.out.1; unfold wrap64; omega]
          have := HX.out
          have := hlt0.out.1
          simp only [intOf]
          omega
    · have hltb := decide_eq_false hlt
      have hxl : x.toNat = l0.length := by have := HX.out; omega
      have HX2 := Aside0.mk hxl
      clear hxl hlt
      gi_wp2
      go_end0
      exact ⟨⟨_, rfl⟩, .inl ⟨_, rfl, by rw [← HX2.out]; exact HJ.out.1⟩⟩
/-- tree.Below: two boxes, a function value -/
theorem tree_Below.in_ (n : Nat) (hn : 1 ≤ n) (A0 : Option Addr) (len c0 : Nat) (a1 : Int) (w : World) :
    CallsIn Fence.wide n Tryd.prog 34 #[.slice A0 len c0, .int .i64 a1] w fun e w' => e = .returned (.func (.func 45) #[] #[.pointer (some ⟨w.heap.size + 1, 0, none⟩), .pointer (some ⟨w.heap.size, 0, none⟩)]) ∧ w' = (w.alloc (.cells #[.slice A0 len c0] 22)).alloc (.cells #[.int .i64 a1] 3) := by
  refine callsIn_of_wp Tryd.func34 rfl trivial ?_ rfl
  simp only [Tryd.ntmps34, List.size_toArray, List.length_cons, List.length_nil, Nat.reduceAdd, Nat.reduceSub, Array.replicate_succ, Array.replicate_zero, List.push_toArray, List.append_toArray, List.nil_append, List.cons_append]
  gi_wp2
  go_ret
  exact ⟨rfl, rfl⟩
theorem tree_Below.stops (n : Nat) (hn : 1 ≤ n) (A0 : Option Addr) (c0 : Nat) (l0 : List S44) (a1 : Int) (ha0 : 0 ≤ a1) (ha1 : a1 < (l0.length : Int)) (hlen : l0.length ≤ 9223372036854775806) (w : World) (hC : Kd.C k44 w A0 l0.length l0) (Bn Ba n₁ : Nat) (hn₁ : n₁ ≤ w.heap.size) (hbn : Bn < n₁) (hba : Ba < n₁)
    (hBn : w.cell? ⟨Bn, 0, none⟩ = some (.slice A0 l0.length c0)) (hBa : w.cell? ⟨Ba, 0, none⟩ = some (.int .i64 a1)) (w0 : World) (hw0 : Below w0.heap.size w0 w) (hC0 : Kd.C k44 w0 A0 l0.length l0) (hn0 : w0.heap.size ≤ n₁) :
    SeqStopsK Fence.wide n Tryd.prog 45 #[.pointer (some ⟨Ba, 0, none⟩), .pointer (some ⟨Bn, 0, none⟩)] (fun x : Int => #[Value.int .i64 x]) (Below n₁) (fun ys => ys = kidsTo l0 a1 l0.length) (fun pre => pre <+: kidsTo l0 a1 l0.length) l0.length w := fun l J Jx W hW hJ hJx hY h0 =>
  tree_Below_1.in_ n hn l Bn Ba n₁ l0.length A0 c0 l0 a1 ha0 ha1 hlen w0 hC0 (fun i hi => Nat.lt_of_le_of_lt (kidsTo_len l0 a1 i) hi) J Jx
    (fun s W1 m h => hJ s W1 (W1.drewN m) none h ⟨rfl, rfl, rfl, Nat.le_refl _, fun _ _ _ => rfl⟩ (fun r e => by cases e)) hY W (hw0.trans (hW.mono hw0.size)) hn0 ((hW.cell (p := ⟨Bn, 0, none⟩) (by show Bn < w.heap.size; omega)).trans hBn) ((hW.cell (p := ⟨Ba, 0, none⟩) (by show Ba < w.heap.size; omega)).trans hBa) hbn hba h0
end

end Go.Proofs.YtgcdbpnflchobaaDoor.G
end
section
-- Laid by the session's own driver gp.py over the kit's printer. Not trusted: Lean checks it.
namespace Go.Proofs.YtgcdbpnflchobaaDoor.G
open Go.RowKit Go.Proofs.YtgcdbpnflchobaaDoorW.PrintWords Go.Proofs.YtgcdbpnflchobaaDoorW.PrintLast Go.Proofs.YtgcdbpnflchobaaDoorW.PrintMore
attribute [local go_sem] max2_int min2_int max_two min_two max_three min_three max_four min_four   -- for this text's walks alone
set_option linter.unusedVariables false
set_option linter.unusedSimpArgs false

/-! ### tree_Kids: function 15, given -/
def tree_Kids.f (k : Nat) (l0 : List S44) (a1 : Int) : Option (List Int × Int) := (tree_there.f k l0 a1).bind fun t => if t = true then some (kidsTo l0 a1 l0.length, 0) else some ([], 1300)
theorem tree_Kids.mono : ∀ a0 a1 k, LeO (tree_Kids.f k a0 a1) (tree_Kids.f (k + 1) a0 a1) := by
  intro a0 a1 k
  unfold tree_Kids.f
  exact LeO.bind (tree_there.mono _ _ _) (fun _ => LeO.refl _)
theorem tree_there.true_spec {k : Nat} {l0 : List S44} {a1 : Int} (h : tree_there.f k l0 a1 = some true) : trail_May.f k l0 = some true ∧ 0 ≤ a1 ∧ a1 < (l0.length : Int) := by
  unfold tree_there.f at h
  obtain ⟨t, h1, h⟩ := Option.bind_eq_some_iff.mp h
  cases t with
  | false => simp at h
  | true =>
    rw [if_pos rfl] at h
    by_cases c : a1 ≥ 0
    · rw [if_pos c] at h
      exact ⟨h1, c, of_decide_eq_true (Option.some.inj h)⟩
    · rw [if_neg c] at h; simp at h
theorem cell_two (w : World) (u v : Value) (s t : TypeId) : ((w.alloc (.cells #[u] s)).alloc (.cells #[v] t)).cell? ⟨w.heap.size, 0, none⟩ = some u ∧ ((w.alloc (.cells #[u] s)).alloc (.cells #[v] t)).cell? ⟨w.heap.size + 1, 0, none⟩ = some v := by
  have h1 := (Boxed.new w s u).alloc (.cells #[v] t)
  have h2 := Boxed.new (w.alloc (.cells #[u] s)) t v
  rw [World.size_alloc] at h2
  exact ⟨h1.cell, h2.cell⟩
theorem collect_below (A0 : Option Addr) (c0 : Nat) (l0 : List (S44)) (a1 : Int) (h0 : 0 ≤ a1) (h1 : a1 < (l0.length : Int)) (h512 : l0.length ≤ 512) (w w6 w7 : World) (hC : Kd.C k44 w A0 l0.length l0) (hB : Below w.heap.size w w6)
    (hw7 : w7 = (w6.alloc (.cells #[.slice A0 l0.length c0] 22)).alloc (.cells #[.int .i64 a1] 3)) :
    Calls Tryd.prog 33 #[.func (.func 45) #[] #[.pointer (some ⟨w6.heap.size + 1, 0, none⟩), .pointer (some ⟨w6.heap.size, 0, none⟩)]] w7 fun e w' => ∃ v, e = .returned v ∧ (Kd.int .i64).R 3 w' w.heap.size (fun _ => True) v (kidsTo l0 a1 l0.length) ∧ Below w.heap.size w w' := by
  have hs : w7.heap.size = w6.heap.size + 2 := by rw [hw7]; simp
  have hc := cell_two w6 (.slice A0 l0.length c0) (.int .i64 a1) 22 3
  rw [← hw7] at hc
  have hb7 : Below w.heap.size w w7 := by rw [hw7]; exact (hB.alloc hB.size _).alloc (by have := hB.size; simp; omega) _
  have hsz := hB.size
  refine (collect_calls 45 _ (enters_of Tryd.func45 (by kernel_rfl) rfl) (kidsTo l0 a1 l0.length) l0.length (by omega) w7.heap.size (fun _ => False) w7 (Nat.le_refl _) (fun _ h => h.elim)
    (fun n => SeqC.of_stops (tree_Below.stops (n + 1) (by omega) A0 c0 l0 a1 h0 h1 (by omega) w7 (Kd.C_below hC hb7) w6.heap.size (w6.heap.size + 1) w7.heap.size (Nat.le_refl _) (by omega) (by omega) hc.1 hc.2 w hb7 hC (by omega)))).mono ?_
  rintro e w' ⟨v, rfl, hr, hb⟩
  exact ⟨v, rfl, Kd.R_lower hr (by omega), hb7.trans (hb.mono (by omega))⟩
set_option maxHeartbeats 8000000 in
set_option maxRecDepth 100000 in
theorem tree_Kids.calls (k : Nat) (A0 : Option Addr) (c0 : Nat) (l0 : List (S44)) (a1 : Int) (r1 : List Int) (r2 : Int) (w : World) (hr0 : Kd.C k44 w A0 l0.length l0) (hc0 : l0.length ≤ c0) (h : tree_Kids.f k l0 a1 = some (r1, r2)) (hG : GOK w) :
    Calls Tryd.prog 15 #[.slice A0 l0.length c0, .int .i64 a1] w fun e w' => ∃ v0_ : Value, e = .returned (.tuple #[v0_, .int .i64 r2]) ∧ Kd.R (Kd.int .i64) 3 w' w.heap.size (fun _ => True) v0_ r1 ∧ Below w.heap.size w w' := by
  have HR0 := Aside0.mk hr0
  have HC0 := Aside0.mk hc0
  clear hr0 hc0
  have HB := Aside0.mk (Below.refl w.heap.size w)
  unfold tree_Kids.f at h
  obtain ⟨t, A1, h⟩ := Option.bind_eq_some_iff.mp h
  have HA := Aside0.mk A1
  clear A1
  cases t with
  | true =>
    rw [if_pos rfl] at h
    have hp := Prod.mk.inj (Option.some.inj h)
    obtain rfl : r2 = 0 := hp.2.symm
    have HP := Aside0.mk hp.1
    clear h hp
    have hT := tree_there.true_spec HA.out
    have hM := trail_May.true_spec hT.1
    have HT := Aside0.mk (And.intro hT hM)
    clear hT hM
    go_enter Tryd.func15, Tryd.ntmps15
    go_wp2_with (first
      | (go_at_call 32; (with_reducible refine (tree_there.calls k _ _ l0 a1 true _ HR0.out HC0.out HA.out (by first | exact hG)).mono ?_); rintro e w6 ⟨rfl, hb⟩; have n1_ := Aside0.mk (below_step (by repeat (first | exact HB.out | apply below_alloc | apply pw_below_drewN | apply below_drew1)) hb); clear HB hb; have HB := n1_; clear n1_)
      | (go_at_call 34; (with_reducible refine ((callsIn_wide (n := 1)).1 (tree_Below.in_ 1 (by omega) _ _ _ _ _)).mono ?_); rintro e w7 ⟨rfl, hw7⟩; have HW := Aside0.mk hw7; clear hw7)
      | (go_at_call 33; (with_reducible refine (collect_below A0 c0 l0 a1 HT.out.1.2.1 HT.out.1.2.2 HT.out.2.2.1 w _ _ HR0.out HB.out HW.out).mono ?_); rintro e w8 ⟨v8, rfl, hr, hb⟩; have HR8 := Aside0.mk (And.intro hr hb); clear hr hb))
    go_ret2
    exact ⟨_, rfl, by rw [← HP.out]; exact HR8.out.1, HR8.out.2⟩
  | false =>
    rw [if_neg (by decide)] at h
    have hp := Prod.mk.inj (Option.some.inj h)
    obtain rfl : r2 = 1300 := hp.2.symm
    obtain rfl : r1 = [] := hp.1.symm
    clear h hp
    go_enter Tryd.func15, Tryd.ntmps15
    go_wp2_with (first
      | (go_at_call 32; (with_reducible refine (tree_there.calls k _ _ l0 a1 false _ HR0.out HC0.out HA.out (by first | exact hG)).mono ?_); rintro e w6 ⟨rfl, hb⟩; have n1_ := Aside0.mk (below_step (by repeat (first | exact HB.out | apply below_alloc | apply pw_below_drewN | apply below_drew1)) hb); clear HB hb; have HB := n1_; clear n1_))
    go_ret2
    exact ⟨_, rfl, Kd.R_nil _ _ _ _ _, by repeat (first | exact HB.out | apply below_alloc | apply pw_below_drewN | apply below_drew1)⟩

end Go.Proofs.YtgcdbpnflchobaaDoor.G
end
