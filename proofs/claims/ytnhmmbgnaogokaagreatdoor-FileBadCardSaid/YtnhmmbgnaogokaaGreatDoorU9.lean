/- Parts of this proof, one behind the other: G27, G28, TRec, TFile, G15, G29, G30, G34, G35, RecVals, RecGet. -/
import Derived.Test.YtnhmmbgnaogokaaGreatDoorU2
import Derived.Test.YtnhmmbgnaogokaaGreatDoorG0
import Derived.Test.YtnhmmbgnaogokaaGreatDoorU8
import Derived.Test.YtnhmmbgnaogokaaGreatDoorU7
section
namespace Go.Proofs.YtnhmmbgnaogokaaGreatDoor.G
open Go.RowKit Go.Proofs.YtnhmmbgnaogokaaGreatDoorW.PrintWords Go.Proofs.YtnhmmbgnaogokaaGreatDoorW.PrintLast Go.Proofs.YtnhmmbgnaogokaaGreatDoorW.PrintMore
set_option maxHeartbeats 8000000
set_option maxRecDepth 100000
attribute [local go_sem] max2_int min2_int max_two min_two max_three min_three max_four min_four   -- for this text's walks alone
set_option linter.unusedVariables false
set_option linter.unusedSimpArgs false

def sleuthref12_FileText.l0 : Nat → List (S41) → ByteArray → Int → Option (ByteArray × Int)
 | 0, _, _, _ => none
 | k + 1, x0, x4, x5 => if x5 < (x0.length : Int) then (if 0 ≤ x5 then ((sleuthref12_PutRecord.f k ((rd_T41 x0 x5).f0) ((rd_T41 x0 x5).f1) ((rd_T41 x0 x5).f2) ((rd_T41 x0 x5).f3)).bind fun bt302 => ((sleuthref12_PutFrame.f k bt302.1).bind fun bt304 => (if x4.size + bt304.1.size ≤ 9223372036854775807 then (sleuthref12_FileText.l0 k x0 (x4 ++ bt304.1) (wrap64 (x5 + 1))) else (none)))) else (none)) else (if (x4.size : Int) > 65536 then (some ((⟨#[]⟩ : ByteArray), 1700)) else (some (x4, 0)))
def sleuthref12_FileText.f (k : Nat) (l0 : List (S41)) : Option (ByteArray × Int) := (sleuthref12_TrailMay.f k l0).bind fun t300 => (if t300 = true then (sleuthref12_FileText.l0 k l0 (⟨#[]⟩ : ByteArray) 0) else (some ((⟨#[]⟩ : ByteArray), 1700)))
theorem sleuthref12_FileText.calls (k : Nat) (A0 : Option Addr) (c0 : Nat) (l0 : List (S41)) (r1 : ByteArray) (r2 : Int) (w : World) (hr0 : Kd.C k41 w A0 l0.length l0) (hc0 : l0.length ≤ c0) (h : sleuthref12_FileText.f k l0 = some (r1, r2)) :
 Calls Tryz.prog 7 #[.slice A0 l0.length c0] w fun e w' => e = .returned (.tuple #[.string r1, .int .i64 r2]) ∧ Below w.heap.size w w' := by
 have hu41 := Tryz.underlying41
 have HR0 := a_ hr0
 have HC0 := a_ hc0
 clear hr0 hc0
 have HB := a_ (Below.refl w.heap.size w)
 have H := h; unfold sleuthref12_FileText.f at H
 clear h
 replace H := Option.bind_eq_some_iff.mp H
 obtain ⟨t2, A20, H⟩ := H
 try dsimp only at H
 have A2 := a_ A20
 clear A20
 by_cases c3 : t2 = true
 case neg =>
  replace c3 := Bool.eq_false_iff.mpr c3
  subst c3
  rw [if_neg (show ¬ (false = true) by decide)] at H
  simp only [Option.some.injEq, Prod.mk.injEq] at H
  obtain ⟨rfl, rfl⟩ := H
  go_enter Tryz.func7, Tryz.ntmps7
  go_wp2_with (first | ((with_reducible refine gate_callee (f := 24) rfl ?_); refine goesL_ (some 11) rfl rfl Tryz.func24 (by kernel_rfl) rfl #[.slice A0 l0.length c0] rfl hL_ ?_; (with_reducible refine (sleuthref12_TrailMay.calls k _ _ l0 false _ ?s1 ?s2 A2.out).mono ?_); (case s1 => repeat (first | exact HR0.out | (with_reducible refine Kd.C_alloc ?_ _) | (with_reducible refine Kd.C_drewN ?_ _) | (with_reducible refine Kd.C_drew ?_))); (case s2 => exact HC0.out); rintro e w1 ⟨rfl, hb⟩; refine ⟨_, rfl, ?_⟩; replace HB := a_ (below_step hB_ hb); (try clear hb); (try clear hb2); (try clear hk); (try clear hi)))
  go_ret2
  exact ⟨hV_, hC_⟩

 subst c3
 rw [if_pos rfl] at H
 have H' := a_ H
 clear H
 go_enter Tryz.func7, Tryz.ntmps7
 go_wp2_with (first | ((with_reducible refine gate_callee (f := 24) rfl ?_); refine goesL_ (some 11) rfl rfl Tryz.func24 (by kernel_rfl) rfl #[.slice A0 l0.length c0] rfl hL_ ?_; (with_reducible refine (sleuthref12_TrailMay.calls k _ _ l0 true _ ?s1 ?s2 A2.out).mono ?_); (case s1 => repeat (first | exact HR0.out | (with_reducible refine Kd.C_alloc ?_ _) | (with_reducible refine Kd.C_drewN ?_ _) | (with_reducible refine Kd.C_drew ?_))); (case s2 => exact HC0.out); rintro e w4 ⟨rfl, hb⟩; refine ⟨_, rfl, ?_⟩; replace HB := a_ (below_step hB_ hb); (try clear hb); (try clear hb2); (try clear hk); (try clear hi)))
 go_loopg [4, 5] k (fun kq v4 v5 w' => ∃ (x1 : ByteArray) (x0 : Int), v4 = .string x1 ∧ v5 = .int .i64 x0 ∧ Aside0 (sleuthref12_FileText.l0 kq l0 x1 x0 = some (r1, r2)) ∧ Aside0 (kq ≤ k) ∧ Aside0 (Below w.heap.size w w'))
 case atStart => exact ⟨((⟨#[]⟩ : ByteArray)), (0), hW_, hW_, H', ⟨Nat.le_refl _⟩, ⟨hC_⟩⟩
 case round =>
  clear H'
  try clear c2
  try clear p2
  try clear c3
  obtain ⟨x1, x0, rfl, rfl, HA, HK1, HB⟩ := hrel
  cases gk with
  | zero => exact absurd HA.out (by simp [sleuthref12_FileText.l0])
  | succ k1 =>
   have H := HA.out
   clear HA
   simp only [sleuthref12_FileText.l0] at H
   by_cases c5 : x0 < (l0.length : Int)
   case neg =>
    rw [if_neg c5] at H
    have c5b0 : decide (x0 < (l0.length : Int)) = false := decide_eq_false c5
    clear c5
    by_cases c12 : (x1.size : Int) > 65536
    case pos =>
     rw [if_pos c12] at H
     have c12b0 : decide (65536 < (x1.size : Int)) = true := decide_eq_true c12
     have c12b1 : decide (65536 < x1.size) = true := decide_eq_true (by omega)
     clear c12
     simp only [Option.some.injEq, Prod.mk.injEq] at H
     obtain ⟨rfl, rfl⟩ := H
     go_wp2
     go_ret2
     exact ⟨hV_, hC_⟩
    rw [if_neg c12] at H
    have c12b0 : decide (65536 < (x1.size : Int)) = false := decide_eq_false c12
    have c12b1 : decide (65536 < x1.size) = false := decide_eq_false (by omega)
    clear c12
    simp only [Option.some.injEq, Prod.mk.injEq] at H
    obtain ⟨rfl, rfl⟩ := H
    go_wp2
    go_ret2
    exact ⟨hV_, hC_⟩
   rw [if_pos c5] at H
   have c5b0 : decide (x0 < (l0.length : Int)) = true := decide_eq_true c5
   clear c5
   replace H := ifI_ H; obtain ⟨c6, H⟩ := H
   have c6b0 : decide (0 ≤ x0) = true := decide_eq_true c6
   clear c6
   replace H := Option.bind_eq_some_iff.mp H
   obtain ⟨⟨t1, t3⟩, A70, H⟩ := H
   try dsimp only at H
   have A7 := a_ A70
   clear A70
   replace H := Option.bind_eq_some_iff.mp H
   obtain ⟨⟨t0, t4⟩, A80, H⟩ := H
   try dsimp only at H
   have A8 := a_ A80
   clear A80
   replace H := ifI_ H; obtain ⟨c9, H⟩ := H
   have c9b0 := eq_true c9
   have c9b1 : decide (x1.size + t0.size ≤ 9223372036854775807) = true := decide_eq_true c9
   try have c9b2 : (9223372036854775807 < x1.size + t0.size) = False := eq_false (Nat.not_lt.2 c9)
   have H' := a_ H
   clear H
   have p301 : 0 ≤ (x0 : Int) := of_decide_eq_true hA_
   have q301 : x0 < (l0.length : Int) := of_decide_eq_true hA_
   obtain ⟨d0, A301_2, c301_2, e301, h0, h1, h2, h3, hl301_2, hi301_2⟩ := at_T41 HR0.out x0 p301 q301
   cases e301
   replace h0 := cl_ HB.out h0
   replace h1 := cl_ HB.out h1
   replace h2 := cl_ HB.out h2
   replace h3 := cl_ HB.out h3
   have HR301_2 := a_ hi301_2
   have HC301_2 := a_ hl301_2
   clear hi301_2 hl301_2
   replace p301 := eq_true p301
   replace q301 := eq_true q301
   go_wp2_with (first | ((with_reducible refine gate_callee (f := 15) rfl ?_); refine goesL_ (some 24) rfl rfl Tryz.func15 (by kernel_rfl) rfl #[.agg #[.int .i64 ((rd_T41 l0 x0).f0), .int .i64 ((rd_T41 l0 x0).f1), .slice A301_2 ((rd_T41 l0 x0).f2).length c301_2, .string ((rd_T41 l0 x0).f3)]] rfl hL_ ?_; (with_reducible refine (sleuthref12_PutRecord.calls k1 ((rd_T41 l0 x0).f0) ((rd_T41 l0 x0).f1) _ _ ((rd_T41 l0 x0).f2) ((rd_T41 l0 x0).f3) t1 t3 _ ?s1 ?s2 A7.out).mono ?_); (case s1 => exact cB_ HR301_2.out); (case s2 => exact HC301_2.out); rintro e w2 ⟨rfl, hb⟩; refine ⟨_, rfl, ?_⟩; replace HB := a_ (below_step hB_ hb); (try clear hb); (try clear hb2); (try clear hk); (try clear hi)) | ((with_reducible refine gate_callee (f := 17) rfl ?_); refine goesL_ (some 29) rfl rfl Tryz.func17 (by kernel_rfl) rfl #[.string t1] rfl hL_ ?_; (with_reducible refine (sleuthref12_PutFrame.calls k1 t1 t0 t4 _ A8.out).mono ?_); rintro e w3 ⟨rfl, hb⟩; refine ⟨_, rfl, ?_⟩; replace HB := a_ (below_step hB_ hb); (try clear hb); (try clear hb2); (try clear hk); (try clear hi)))
   go_roundg k1
   case measure => have := HK1.out; omega
   case rel => exact ⟨(x1 ++ t0), (wrap64 (x0 + 1)), hW_, hW_, H', ⟨by have := HK1.out; omega⟩, ⟨hC_⟩⟩
/-- A state of type 86 at block g of W; what its slices lead to came in by w0. -/
def IsS86 (w0 W : World) (g : Nat) (f0 : ByteArray) : Prop := W.heap[g]? = some (.cells #[.string f0] 86 (0, 0)) ∧ w0.heap.size ≤ g
theorem IsS86.grown {w0 W : World} {g : Nat} {f0 : ByteArray} {W1 : World} {row : Option Nat} (h : IsS86 w0 W g f0) (hw : W.grownBy W1 row) (hne : some g ≠ row) : IsS86 w0 W1 g f0 := by
 obtain ⟨hb, hg⟩ := h
 exact ⟨blk_grown hb hw hne, hg⟩
theorem IsS86.kept {w0 W : World} {g : Nat} {f0 : ByteArray} {W1 : World} {S : Nat → Prop} (h : IsS86 w0 W g f0) (hk : Kept W W1 S) (hne : ¬ S g) : IsS86 w0 W1 g f0 := by
 obtain ⟨hb, hg⟩ := h
 exact ⟨blk_kept hb hk hne, hg⟩
theorem IsS86.below {w0 W : World} {g : Nat} {f0 : ByteArray} {W1 : World} (h : IsS86 w0 W g f0) (hw : Below W.heap.size W W1) : IsS86 w0 W1 g f0 := h.grown (grown_of_below hw none) (by simp)
theorem IsS86.alloc {w0 W : World} {g : Nat} {f0 : ByteArray} (h : IsS86 w0 W g f0) (o : Obj) : IsS86 w0 (W.alloc o) g f0 := h.below (below_alloc (Below.refl _ _) o)
theorem IsS86.drewN {w0 W : World} {g : Nat} {f0 : ByteArray} (h : IsS86 w0 W g f0) (m : Nat) : IsS86 w0 (W.drewN m) g f0 := h
theorem IsS86.drew {w0 W : World} {g : Nat} {f0 : ByteArray} (h : IsS86 w0 W g f0) : IsS86 w0 W.drew g f0 := h
theorem IsS86.at_ {w0 W : World} {g : Nat} {f0 : ByteArray} {w' : World} {m : Nat} (hq : W.drewN m = w') (h : IsS86 w0 W g f0) : IsS86 w0 w' g f0 := by subst hq; exact IsS86.drewN h m
theorem IsS86.apart {w0 W : World} {g : Nat} {f0 : ByteArray} {α : Type} {d : Kd α} {e : Nat} {base : Nat} {ok : Nat → Prop} {v : Value} {xs : List α} (h : IsS86 w0 W g f0) (ho : d.R e W base ok v xs) (ht : ∀ q, q ∈ e :: d.E → q ≠ 86) : d.R e W base (fun k => ok k ∧ k ≠ g) v xs := by
 obtain ⟨hb, hg⟩ := h
 exact Kd.R_types ho hb ht
theorem IsS86.own_ne {w0 W : World} {g : Nat} {f0 : ByteArray} {α : Type} {d : Kd α} {e : Nat} {base : Nat} {ok : Nat → Prop} {v : Value} {xs : List α} (h : IsS86 w0 W g f0) (ho : d.R e W base ok v xs) (ht : e ≠ 86) : some g ≠ v.ownBlock := by
 obtain ⟨hb, hg⟩ := h
 exact Kd.R_ne ho hb ht
theorem IsS86.lt {w0 W : World} {g : Nat} {f0 : ByteArray} (h : IsS86 w0 W g f0) : g < W.heap.size := by
 obtain ⟨hb, hg⟩ := h
 exact blk_lt hb
theorem IsS86.ge {w0 W : World} {g : Nat} {f0 : ByteArray} (h : IsS86 w0 W g f0) : w0.heap.size ≤ g := by
 obtain ⟨hb, hg⟩ := h
 exact hg
theorem cellS86_0 {W : World} {g : Nat} {f0 : ByteArray} (h : W.heap[g]? = some (.cells #[.string f0] 86 (0, 0))) : W.cell? ⟨g, 0, none⟩ = some (.string f0) := (blk_cell h 0).trans rfl
theorem IsS86.set_0 {w0 W : World} {g : Nat} {f0 : ByteArray} (h : IsS86 w0 W g f0) (x : ByteArray) : IsS86 w0 (W.setCell ⟨g, 0, none⟩ (.string x)) g x := by
 obtain ⟨hb, hg⟩ := h
 exact ⟨by simpa using blk_set hb 0 (.string x), hg⟩
theorem IsS86.set_0e {w0 W : World} {g : Nat} {f0 : ByteArray} (h : IsS86 w0 W g f0) (x y_ : ByteArray) (e_ : y_ = x) : IsS86 w0 (W.setCell ⟨g, 0, none⟩ (.string x)) g y_ := by subst e_; exact IsS86.set_0 h _
theorem IsS86.new (w0 W : World) (f0 : ByteArray) (hB : Below w0.heap.size w0 W) : IsS86 w0 (W.alloc (.cells #[.string f0] 86)) W.heap.size f0 := ⟨by simpa using heap_alloc_new W _, hB.size⟩

def record_taker_take.f (s0_0 : ByteArray) (a1 : Int) : Option (ByteArray × ByteArray) := if 0 ≤ (mn a1 (s0_0.size : Int)) then (if (mn a1 (s0_0.size : Int)) ≤ (s0_0.size : Int) then (if 0 ≤ ((s0_0.extract 0 ((mn a1 (s0_0.size : Int)) : Int).toNat).size : Int) then (if ((s0_0.extract 0 ((mn a1 (s0_0.size : Int)) : Int).toNat).size : Int) ≤ (s0_0.size : Int) then (some (s0_0.extract 0 ((mn a1 (s0_0.size : Int)) : Int).toNat, s0_0.extract (((s0_0.extract 0 ((mn a1 (s0_0.size : Int)) : Int).toNat).size : Int) : Int).toNat s0_0.size)) else (none)) else (none)) else (none)) else (none)
theorem record_taker_take.calls (g : Nat) (s0_0 : ByteArray) (a1 : Int) (r1 : ByteArray) (r2 : ByteArray) (w0 w : World) (hI : IsS86 w0 w g s0_0) (hB : Below w0.heap.size w0 w) (h : record_taker_take.f s0_0 a1 = some (r1, r2)) :
 Calls Tryz.prog 55 #[.pointer (some ⟨g, 0, none⟩), .int .i64 a1] w fun e w' => e = .returned (.string r1) ∧ IsS86 w0 w' g r2 ∧ Below w0.heap.size w0 w' ∧ KeepBut w w' g none := by
 have HI0 := a_ hI
 have HK := a_ (KeepBut.refl w g none)
 have HL := a_ hB.size
 clear hI
 have HW0 := a_ hB.size
 have HB := a_ hB
 clear hB
 have H := h; unfold record_taker_take.f at H
 clear h
 obtain ⟨ji3, hji3⟩ : ∃ j_ : Int, (mn a1 (s0_0.size : Int)) = j_ := ⟨_, rfl⟩
 replace H : (if 0 ≤ (ji3) then (if (ji3) ≤ (s0_0.size : Int) then (if 0 ≤ ((s0_0.extract 0 ((ji3) : Int).toNat).size : Int) then (if ((s0_0.extract 0 ((ji3) : Int).toNat).size : Int) ≤ (s0_0.size : Int) then (some (s0_0.extract 0 ((ji3) : Int).toNat, s0_0.extract (((s0_0.extract 0 ((ji3) : Int).toNat).size : Int) : Int).toNat s0_0.size)) else (none)) else (none)) else (none)) else (none)) = some (r1, r2) := by first | (rw [hji3] at H; exact H) | (simp only [hji3] at H ⊢; exact H)
 have hji3_ : (if (s0_0.size : Int) < a1 then (s0_0.size : Int) else a1) = ji3 := hji3
 replace H := ifI_ H; obtain ⟨c4, H⟩ := H
 have c4b0 := eq_true c4
 have c4b1 : decide (0 ≤ (ji3)) = true := decide_eq_true c4
 clear c4
 replace H := ifI_ H; obtain ⟨c5, H⟩ := H
 have c5b0 := eq_true c5
 have c5b1 : decide ((ji3) ≤ (s0_0.size : Int)) = true := decide_eq_true c5
 clear c5
 replace H := ifI_ H; obtain ⟨c6, H⟩ := H
 have c6b0 := eq_true c6
 (try (have c6b0s := c6b0; simp only [ByteArray.size_extract, Nat.min_self] at c6b0s))
 have c6b1 : decide (0 ≤ ((s0_0.extract 0 ((ji3) : Int).toNat).size : Int)) = true := decide_eq_true c6
 (try (have c6b1s := c6b1; simp only [ByteArray.size_extract, Nat.min_self] at c6b1s))
 clear c6
 replace H := ifI_ H; obtain ⟨c7, H⟩ := H
 have c7b0 := eq_true c7
 (try (have c7b0s := c7b0; simp only [ByteArray.size_extract, Nat.min_self] at c7b0s))
 have c7b1 : decide (((s0_0.extract 0 ((ji3) : Int).toNat).size : Int) ≤ (s0_0.size : Int)) = true := decide_eq_true c7
 (try (have c7b1s := c7b1; simp only [ByteArray.size_extract, Nat.min_self] at c7b1s))
 clear c7
 simp only [Option.some.injEq, Prod.mk.injEq] at H
 obtain ⟨rfl, rfl⟩ := H
 obtain ⟨HGz8, hgz8⟩ := HI0.out
 have z0 := cellS86_0 HGz8
 have f0 := blk_frozen HGz8 0
 clear HGz8 hgz8
 go_enter Tryz.func55, Tryz.ntmps55
 go_wp2
 repeat (go_quiet (fail); try go_wp2)
 go_ret
 exact ⟨by first | rfl | (simp [errW_none, errW_some] <;> rfl) | (simp only [← hji3]; first | rfl | (simp [errW_none, errW_some] <;> rfl)) | (simp [*, errW_none, errW_some] <;> rfl), by repeat (first | (with_reducible first | exact HI0.out | apply IsS86.alloc | apply IsS86.drewN | apply IsS86.drew | apply IsS86.set_0) | (apply IsS86.set_0e; case e_ => (congr 1 <;> first | rfl | (simp only [ByteArray.size_extract, eq_iff_iff, iff_true] at *; omega))) | exact HI0.out), by repeat (first | (with_reducible first | exact HB.out | apply below_alloc | apply pw_below_drewN | apply below_drew1 | refine below_set ?_ (IsS86.ge HI0.out)) | exact HB.out), by repeat (first | (with_reducible first | exact HK.out | apply KeepBut.set_ | apply keep_drewN | apply keep_drew | apply keep_alloc) | exact HK.out)⟩
set_option maxHeartbeats 8000000
set_option maxRecDepth 100000
attribute [local go_sem] max2_int min2_int max_two min_two max_three min_three max_four min_four   -- for this text's walks alone
set_option linter.unusedVariables false
set_option linter.unusedSimpArgs false

def numLE : List Int → Int
 | [] => 0
 | b :: t => b + 256 * numLE t
def record_taker_number.f (k : Nat) (s0_0 : ByteArray) (a1 : Int) : Option (Int × ByteArray) := (record_taker_take.f s0_0 a1).bind fun b => if b.1.size ≤ 2 then some (numLE (bytesOf b.1), b.2) else none
theorem record_taker_number.mono : ∀ a0 a1 k, LeO (record_taker_number.f k a0 a1) (record_taker_number.f (k + 1) a0 a1) := fun _ _ _ => LeO.refl _
theorem keep_bytes {w w2 : World} {g : Nat} (h : KeepBut w w2 g none) (e : TypeId) (s : ByteArray) : KeepBut w (Lib.bytesWorld w2 e s) g none :=
 ⟨by rw [Lib.bytesWorld_size]; exact Nat.le_succ_of_le h.1, fun k hk h1 h2 => (Lib.bytesWorld_at_old w2 e s k (Nat.lt_of_lt_of_le hk h.1)).trans (h.2 k hk h1 h2)⟩
theorem below_bytes {w0 w2 : World} (h : Below w0.heap.size w0 w2) (e : TypeId) (s : ByteArray) : Below w0.heap.size w0 (Lib.bytesWorld w2 e s) := below_step h (Lib.bytesWorld_below _ _ _)
theorem bt_cell {w2 : World} {e : TypeId} {s : ByteArray} (j : Nat) (hj : j < s.size) : (Lib.bytesWorld w2 e s).cell? ⟨w2.heap.size, j, none⟩ = some (.int .u8 (bt s (j : Int))) := by
 rw [Lib.bytesWorld_cell w2 e s j hj]
 unfold bt
 rw [Int.toNat_natCast, dif_pos hj]
 have hl : j < s.data.toList.length := by rw [Array.length_toList]; exact hj
 rw [List.getD_eq_getElem?_getD, List.getElem?_eq_getElem hl]
 rfl
theorem bt_rng (s : ByteArray) (i : Int) : 0 ≤ bt s i ∧ bt s i < 256 := by
 unfold bt
 split
 · have := (s[i.toNat]'(by assumption)).toNat_lt; omega
 · omega
theorem isS_bytes {w0 w2 : World} {g : Nat} {r : ByteArray} (h : IsS86 w0 w2 g r) (e : TypeId) (s : ByteArray) : IsS86 w0 (Lib.bytesWorld w2 e s) g r :=
 ⟨(Lib.bytesWorld_at_old w2 e s g (blk_lt h.1)).trans h.1, h.2⟩
theorem or_i64_nat (a b : Nat) (ha : a < 9223372036854775808) (hb : b < 9223372036854775808) : Go.bits .or .i64 (a : Int) (b : Int) = ((a ||| b : Nat) : Int) := by
 have hx : a ||| b < 2 ^ 63 := Nat.or_lt_two_pow (by omega) (by omega)
 have h1 : (BitVec.ofInt 64 (a : Int)).toNat = a := by
  rw [BitVec.ofInt_natCast, BitVec.toNat_ofNat]; exact Nat.mod_eq_of_lt (by omega)
 have h2 : (BitVec.ofInt 64 (b : Int)).toNat = b := by
  rw [BitVec.ofInt_natCast, BitVec.toNat_ofNat]; exact Nat.mod_eq_of_lt (by omega)
 show IntKind.i64.wrap ((BitVec.ofInt 64 (a : Int) ||| BitVec.ofInt 64 (b : Int)).toNat : Int) = _
 rw [BitVec.toNat_or, h1, h2, IntKind.wrap_i64]
 omega
theorem or_low (c0 c1 : Int) (h0 : 0 ≤ c0) (h1 : c0 < 256) (h2 : 0 ≤ c1) (h3 : c1 < 36028797018963968) : Go.bits .or .i64 c0 (c1 * 256) = c0 + 256 * c1 := by
 obtain ⟨a, rfl⟩ := Int.eq_ofNat_of_zero_le h0
 obtain ⟨b, rfl⟩ := Int.eq_ofNat_of_zero_le h2
 have e : ((b : Int) * 256) = ((b * 256 : Nat) : Int) := by omega
 rw [e, or_i64_nat a (b * 256) (by omega) (by omega)]
 have h := Nat.two_pow_add_eq_or_of_lt (i := 8) (b := a) (by omega) b
 rw [Nat.or_comm, Nat.mul_comm b 256]
 rw [show (2 : Nat) ^ 8 = 256 from rfl] at h
 rw [← h]
 omega
theorem or_zero' (c0 : Int) (h0 : 0 ≤ c0) (h1 : c0 < 256) : Go.bits .or .i64 0 c0 = c0 := by
 obtain ⟨a, rfl⟩ := Int.eq_ofNat_of_zero_le h0
 have := or_i64_nat 0 a (by omega) (by omega)
 rw [Nat.zero_or] at this
 exact this
theorem bytesOf_at (s : ByteArray) (j : Nat) (h : j < s.size) : (bytesOf s)[j]? = some (bt s (j : Int)) := by
 have hl : j < (bytesOf s).length := by rw [bytesOf_length]; exact h
 rw [List.getElem?_eq_getElem hl, ← rd_bytesOf]
 unfold rd
 rw [Int.toNat_natCast, List.getD_eq_getElem?_getD, List.getElem?_eq_getElem hl]; rfl
theorem numLE_0 (s : ByteArray) (h : s.size = 0) : numLE (bytesOf s) = 0 := by
 have e : (bytesOf s).length = 0 := by rw [bytesOf_length]; exact h
 rw [List.length_eq_zero_iff.1 e]; rfl
theorem numLE_1 (s : ByteArray) (h : s.size = 1) : numLE (bytesOf s) = bt s 0 := by
 have e : (bytesOf s).length = 1 := by rw [bytesOf_length]; exact h
 have h0 := bytesOf_at s 0 (by omega)
 generalize bytesOf s = l at e h0
 match l, e with
 | [a], _ => have h0 := Option.some.inj h0; rw [numLE, numLE, h0]; show bt s 0 + 256 * 0 = _; omega
theorem numLE_2 (s : ByteArray) (h : s.size = 2) : numLE (bytesOf s) = bt s 0 + 256 * bt s 1 := by
 have e : (bytesOf s).length = 2 := by rw [bytesOf_length]; exact h
 have h0 := bytesOf_at s 0 (by omega)
 have h1 := bytesOf_at s 1 (by omega)
 generalize bytesOf s = l at e h0 h1
 match l, e with
 | [a, b], _ =>
  have h0 := Option.some.inj h0
  have h1 := Option.some.inj h1
  rw [numLE, numLE, numLE, h0, h1]; show bt s 0 + 256 * (bt s 1 + 256 * 0) = _; omega
theorem record_taker_number.calls (k : Nat) (g : Nat) (s0_0 : ByteArray) (a1 : Int) (r1 : Int) (r2 : ByteArray) (w0 w : World) (hI : IsS86 w0 w g s0_0) (hB : Below w0.heap.size w0 w) (h : record_taker_number.f k s0_0 a1 = some (r1, r2)) :
 Calls Tryz.prog 46 #[.pointer (some ⟨g, 0, none⟩), .int .i64 a1] w fun e w' => e = .returned (.int .i64 r1) ∧ IsS86 w0 w' g r2 ∧ Below w0.heap.size w0 w' ∧ KeepBut w w' g none := by
 unfold record_taker_number.f at h
 obtain ⟨⟨b1, b2⟩, A1, h⟩ := Option.bind_eq_some_iff.mp h
 dsimp only at h
 by_cases c : b1.size ≤ 2
 case neg => rw [if_neg c] at h; cases h
 rw [if_pos c] at h
 obtain ⟨rfl, rfl⟩ := Prod.mk.inj (Option.some.inj h)
 clear h
 have HI := a_ hI
 have HB := a_ hB
 have A1 := a_ A1
 have HC := a_ c
 clear hI hB c
 go_enter Tryz.func46, Tryz.ntmps46
 go_wp2_with (first | ((with_reducible refine gate_callee (f := 55) rfl ?_); refine goesL_ _ rfl rfl Tryz.func55 (by kernel_rfl) rfl #[.pointer (some ⟨g, 0, none⟩), .int .i64 a1] rfl hL_ ?_; (with_reducible refine (record_taker_take.calls g s0_0 a1 b1 b2 w0 _ HI.out HB.out A1.out).mono ?_); rintro e w2 ⟨rfl, hI2, hB2, hK2⟩; refine ⟨_, rfl, ?_⟩; clear HI HB; have HI := a_ (isS_bytes hI2 5 b1); have HB := a_ (below_bytes hB2 5 b1); have HK := a_ (keep_bytes hK2 5 b1); have HCL := a_ (fun j hj => bt_cell (w2 := w2) (e := 5) (s := b1) j hj); have hconv := Lib.run_convert_string_bytes (P := Tryz.prog) w2 9 47 5 b1 Tryz.underlying9 Tryz.underlying47 Tryz.underlying5; clear hI2 hB2 hK2))
 clear hconv
 generalize Lib.bytesWorld w2 5 b1 = w3 at HI HB HK HCL ⊢
 generalize grownCap w2 b1.size 0 5 = cap
 generalize w2.heap.size = gb at HCL ⊢
 have hz := HC.out
 have HN := a_ (bytesOf_length b1)
 have hb0 := bt_rng b1 0
 have hb1 := bt_rng b1 1
 go_loopg [5, 13] (b1.size + 1) (fun kq v5 v0 w' => ∃ (x o : Int), v0 = .int .i64 x ∧ v5 = .int .i64 o ∧ Aside0 ((kq = b1.size + 1 ∧ x = 0 ∧ o = 0) ∨ (kq = b1.size ∧ 1 ≤ b1.size ∧ x = 1 ∧ o = bt b1 0) ∨ (kq + 1 = b1.size ∧ b1.size = 2 ∧ x = 2 ∧ o = bt b1 0 + 256 * bt b1 1)) ∧ w' = w3)
 case atStart => exact ⟨0, 0, rfl, rfl, ⟨.inl ⟨rfl, rfl, rfl⟩⟩, rfl⟩
 case round =>
  obtain ⟨x, o, rfl, rfl, HJ, rfl⟩ := hrel
  rcases HJ.out with ⟨h1, rfl, rfl⟩ | ⟨h1, h2, rfl, rfl⟩ | ⟨h1, h2, rfl, rfl⟩
  · by_cases c : 0 < b1.size
    case neg =>
     have cb : decide ((0 : Int) < (b1.size : Int)) = false := decide_eq_false (by omega)
     go_wp2
     go_ret
     exact ⟨by rw [numLE_0 b1 (by omega)]; rfl, HI.out, HB.out, HK.out⟩
    have cb : decide ((0 : Int) < (b1.size : Int)) = true := decide_eq_true (by omega)
    have cc : World.cell? _ ⟨gb, 0, none⟩ = some (Value.int .u8 (bt b1 0)) := HCL.out 0 c
    go_wp2
    go_roundg b1.size
    case measure => omega
    case rel => exact ⟨1, bt b1 0, rfl, by rw [or_zero' _ hb0.1 hb0.2], ⟨.inr (.inl ⟨rfl, c, rfl, rfl⟩)⟩, rfl⟩
  · by_cases c : 1 < b1.size
    case neg =>
     have cb : decide ((1 : Int) < (b1.size : Int)) = false := decide_eq_false (by omega)
     go_wp2
     go_ret
     exact ⟨by rw [numLE_1 b1 (by omega)]; rfl, HI.out, HB.out, HK.out⟩
    have cb : decide ((1 : Int) < (b1.size : Int)) = true := decide_eq_true (by omega)
    have cc : World.cell? _ ⟨gb, 1, none⟩ = some (Value.int .u8 (bt b1 1)) := HCL.out 1 c
    go_wp2
    go_roundg 1
    case measure => omega
    case rel => exact ⟨2, bt b1 0 + 256 * bt b1 1, rfl, by rw [or_low _ _ hb0.1 hb0.2 hb1.1 (by omega)], ⟨.inr (.inr ⟨by omega, by omega, rfl, rfl⟩)⟩, rfl⟩
  · have cb : decide ((2 : Int) < (b1.size : Int)) = false := decide_eq_false (by omega)
    go_wp2
    go_ret
    exact ⟨by rw [numLE_2 b1 (by omega)]; rfl, HI.out, HB.out, HK.out⟩

end Go.Proofs.YtnhmmbgnaogokaaGreatDoor.G
end
section
namespace Go.Proofs.YtnhmmbgnaogokaaGreatDoor.G
open Go.RowKit Go.Proofs.YtnhmmbgnaogokaaGreatDoorW.PrintWords Go.Proofs.YtnhmmbgnaogokaaGreatDoorW.PrintLast Go.Proofs.YtnhmmbgnaogokaaGreatDoorW.PrintMore
set_option linter.unusedVariables false
set_option linter.unusedSimpArgs false
def recS (x : Nd) : Bool := eqS x && (decide (-1 ≤ x.f1) && decide (x.f1 < 512))
def textL (s : ByteArray) : List Int := lowL 2 (s.size : Int) ++ bytesOf s
def recL (x : Nd) : List Int := (lowL 1 x.f0 ++ (lowL 2 (x.f1 + 1) ++ lowL 1 (x.f2.length : Int))) ++ (x.f2.flatMap textL ++ textL x.f3)
def recOf (x : Nd) : ByteArray := strOfNums (recL x)
def putR (x : Nd) : ByteArray × Int := if recS x = true then (recOf x, 0) else (⟨#[]⟩, 1500)
theorem numLE_low : ∀ (n : Nat) (x : Int), 0 ≤ x → x < 256 ^ n → numLE (lowL n x) = x
  | 0, x, h0, h1 => by rw [Int.pow_zero] at h1; rw [lowL, numLE]; omega
  | n + 1, x, h0, h1 => by
    rw [lowL, numLE, numLE_low n (x / 256) (by omega) (by rw [Int.pow_succ] at h1; omega)]
    omega
theorem numLE_range : ∀ L : List Int, (∀ y ∈ L, 0 ≤ y ∧ y < 256) → 0 ≤ numLE L ∧ numLE L < 256 ^ L.length
  | [], _ => ⟨Int.le_refl _, by decide⟩
  | b :: t, h => by
    obtain ⟨h0, h1⟩ := numLE_range t (fun y hy => h y (List.mem_cons_of_mem _ hy))
    have hb := h b (List.mem_cons_self ..)
    rw [numLE, List.length_cons, Int.pow_succ]
    omega
def textP (L : List Int) : ByteArray × List Int := (strOfNums ((L.drop 2).take (numLE (L.take 2)).toNat), (L.drop 2).drop (numLE (L.take 2)).toNat)
def argsP : Nat → List Int → List ByteArray × List Int
  | 0, L => ([], L)
  | n + 1, L => ((textP L).1 :: (argsP n (textP L).2).1, (argsP n (textP L).2).2)
def manyP (L : List Int) : Int := if numLE ((L.drop 3).take 1) < 3 then numLE ((L.drop 3).take 1) else 3
def getP (L : List Int) : Nd := ⟨numLE (L.take 1), numLE ((L.drop 1).take 2) - 1, (argsP (manyP L).toNat (L.drop 4)).1, (textP (argsP (manyP L).toNat (L.drop 4)).2).1⟩
theorem textP_text (s : ByteArray) (hs : s.size < 65536) (R : List Int) : textP (textL s ++ R) = (s, R) := by
  have hl : (lowL 2 (s.size : Int)).length = 2 := lowL_length _ _
  have e1 : (textL s ++ R).take 2 = lowL 2 (s.size : Int) := by
    unfold textL
    rw [List.append_assoc, List.take_append_of_le_length (by omega), List.take_of_length_le (by omega)]
  have e2 : (textL s ++ R).drop 2 = bytesOf s ++ R := by
    unfold textL
    rw [List.append_assoc, List.drop_append_of_le_length (by omega), List.drop_eq_nil_of_le (by omega), List.nil_append]
  have e3 : (numLE (lowL 2 (s.size : Int))).toNat = (bytesOf s).length := by
    rw [numLE_low 2 _ (by omega) (by show (s.size : Int) < 65536; omega), bytesOf_length]; rfl
  unfold textP
  rw [e1, e2, e3, List.take_append_of_le_length (Nat.le_refl _), List.take_of_length_le (Nat.le_refl _), List.drop_append_of_le_length (Nat.le_refl _), List.drop_eq_nil_of_le (Nat.le_refl _), List.nil_append, strOfNums_bytesOf]
theorem argsP_args : ∀ (l : List ByteArray) (R : List Int), (∀ s ∈ l, s.size < 65536) → argsP l.length (l.flatMap textL ++ R) = (l, R)
  | [], R, _ => rfl
  | s :: l, R, h => by
    rw [List.flatMap_cons, List.append_assoc, List.length_cons, argsP, textP_text s (h s (List.mem_cons_self ..)), argsP_args l R (fun x hx => h x (List.mem_cons_of_mem _ hx))]
theorem recS_spec {x : Nd} (h : recS x = true) : eqS x = true ∧ -1 ≤ x.f1 ∧ x.f1 < 512 := by
  unfold recS at h
  rw [Bool.and_eq_true, Bool.and_eq_true] at h
  exact ⟨h.1, of_decide_eq_true h.2.1, of_decide_eq_true h.2.2⟩
theorem eqS_spec {x : Nd} (h : eqS x = true) : 0 ≤ x.f0 ∧ x.f0 < 8 ∧ x.f2.length ≤ 3 ∧ (∀ s ∈ x.f2, mayS s = true) ∧ mayS x.f3 = true := by
  unfold eqS at h
  rw [Bool.and_eq_true, Bool.and_eq_true, Bool.and_eq_true, Bool.and_eq_true] at h
  exact ⟨of_decide_eq_true h.1.1.1.1, of_decide_eq_true h.1.1.1.2, of_decide_eq_true h.1.1.2, fun s hs => List.all_eq_true.1 h.1.2 s hs, h.2⟩
theorem mayS_size {s : ByteArray} (h : mayS s = true) : s.size ≤ 1024 := by
  unfold mayS cutS cutL at h
  have h := of_decide_eq_true h
  by_cases c : s.data.toList.length > 1024
  · rw [if_pos c] at h; exact absurd h (by decide)
  · have e : s.data.toList.length = s.size := by rw [Array.length_toList]; rfl
    omega
theorem recL_head (x : Nd) (R : List Int) : (recL x ++ R).take 1 = lowL 1 x.f0 ∧ ((recL x ++ R).drop 1).take 2 = lowL 2 (x.f1 + 1) ∧ ((recL x ++ R).drop 3).take 1 = lowL 1 (x.f2.length : Int) ∧ (recL x ++ R).drop 4 = x.f2.flatMap textL ++ (textL x.f3 ++ R) := by
  unfold recL
  refine ⟨rfl, rfl, rfl, ?_⟩
  show (x.f2.flatMap textL ++ textL x.f3) ++ R = _
  rw [List.append_assoc]
theorem getP_app (x : Nd) (h : recS x = true) (R : List Int) : getP (recL x ++ R) = x := by
  obtain ⟨h1, h2, h3, h4⟩ := recL_head x R
  obtain ⟨e, p0, p1⟩ := recS_spec h
  obtain ⟨q0, q1, q2, q3, q4⟩ := eqS_spec e
  have hm : manyP (recL x ++ R) = (x.f2.length : Int) := by
    unfold manyP
    rw [h3, numLE_low 1 _ (by omega) (by show (x.f2.length : Int) < 256; omega)]
    split <;> omega
  have ha := argsP_args x.f2 (textL x.f3 ++ R) (fun s hs => by have := mayS_size (q3 s hs); omega)
  have ht := textP_text x.f3 (by have := mayS_size q4; omega) R
  unfold getP
  rw [hm, h1, h2, h4, Int.toNat_natCast, ha, ht, numLE_low 1 _ q0 (by show x.f0 < 256; omega), numLE_low 2 _ (by omega) (by show x.f1 + 1 < 65536; omega), Int.add_sub_cancel]
theorem getP_rec (x : Nd) (h : recS x = true) : getP (recL x) = x := by
  have := getP_app x h []
  rw [List.append_nil] at this
  exact this
theorem recL_range (x : Nd) : ∀ y ∈ recL x, 0 ≤ y ∧ y < 256 := by
  have ht : ∀ s : ByteArray, ∀ y ∈ textL s, 0 ≤ y ∧ y < 256 := fun s y hy => by
    rcases List.mem_append.1 hy with hy | hy
    · exact lowL_range _ _ y hy
    · exact bytesOf_range _ y hy
  intro y hy
  unfold recL at hy
  rcases List.mem_append.1 hy with hy | hy
  · rcases List.mem_append.1 hy with hy | hy
    · exact lowL_range _ _ y hy
    · rcases List.mem_append.1 hy with hy | hy
      · exact lowL_range _ _ y hy
      · exact lowL_range _ _ y hy
  · rcases List.mem_append.1 hy with hy | hy
    · obtain ⟨s, _, hs⟩ := List.mem_flatMap.1 hy
      exact ht s y hs
    · exact ht _ y hy
theorem recOf_bytes (x : Nd) : bytesOf (recOf x) = recL x := bytesOf_strOfNums _ (recL_range x)
def getR (s : ByteArray) : Nd × Int := if recS (getP (bytesOf s)) = true ∧ recOf (getP (bytesOf s)) = s then (getP (bytesOf s), 0) else (⟨0, 0, [], ⟨#[]⟩⟩, 1500)
theorem getR_of {s : ByteArray} {x : Nd} (h : recS x = true) (hs : recOf x = s) : getR s = (x, 0) := by
  have e : getP (bytesOf s) = x := by rw [← hs, recOf_bytes, getP_rec x h]
  unfold getR
  rw [e, if_pos ⟨h, hs⟩]
theorem getR_not {s : ByteArray} (h : ∀ x, recS x = true → recOf x ≠ s) : getR s = (⟨0, 0, [], ⟨#[]⟩⟩, 1500) := by
  unfold getR
  rw [if_neg (fun hh => h _ hh.1 hh.2)]
/-- a node's frame -/
def frec (x : Nd) : ByteArray := frameOf (recOf x)
/-- a trail's bytes -/
def fileB : List Nd → ByteArray
  | [] => ⟨#[]⟩
  | x :: xs => frec x ++ fileB xs
theorem nil_app (b : ByteArray) : (⟨#[]⟩ : ByteArray) ++ b = b := by
  apply bytesOf_inj
  rw [bytesOf_append]; rfl
theorem app_nil (b : ByteArray) : b ++ (⟨#[]⟩ : ByteArray) = b := by
  apply bytesOf_inj
  rw [bytesOf_append]
  show bytesOf b ++ [] = _
  rw [List.append_nil]
theorem app_assoc (a b c : ByteArray) : (a ++ b) ++ c = a ++ (b ++ c) := by
  apply bytesOf_inj
  rw [bytesOf_append, bytesOf_append, bytesOf_append, bytesOf_append, List.append_assoc]
theorem app_cancel {a b c : ByteArray} (h : a ++ b = a ++ c) : b = c := by
  apply bytesOf_inj
  have := congrArg bytesOf h
  rw [bytesOf_append, bytesOf_append] at this
  exact List.append_cancel_left this
theorem app_inj {a b c d : ByteArray} (h : a ++ b = c ++ d) (hs : a.size = c.size) : a = c ∧ b = d := by
  have := congrArg bytesOf h
  rw [bytesOf_append, bytesOf_append] at this
  have h2 := List.append_inj this (by rw [bytesOf_length, bytesOf_length, hs])
  exact ⟨bytesOf_inj h2.1, bytesOf_inj h2.2⟩
theorem fileB_app (xs ys : List Nd) : fileB (xs ++ ys) = fileB xs ++ fileB ys := by
  induction xs with
  | nil => rw [List.nil_append, fileB, nil_app]
  | cons x xs ih => rw [List.cons_append, fileB, fileB, ih, app_assoc]
theorem fileB_one (x : Nd) : fileB [x] = frec x := by rw [fileB, fileB, app_nil]
theorem recL_size {x : Nd} (h : recS x = true) : (recL x).length ≤ 8192 := by
  have a := eqS_spec (recS_spec h).1
  have e : ∀ l : List ByteArray, (∀ s ∈ l, mayS s = true) → (l.flatMap textL).length ≤ 1026 * l.length := by
    intro l
    induction l with
    | nil => intro _; exact Nat.le_refl _
    | cons s l ih =>
      intro hl
      have h1 := mayS_size (hl s List.mem_cons_self)
      have h2 := ih (fun t ht => hl t (List.mem_cons_of_mem _ ht))
      rw [List.flatMap_cons, List.length_append, List.length_cons]
      have h3 : (textL s).length = 2 + s.size := by unfold textL; rw [List.length_append, lowL_length, bytesOf_length]
      omega
  have h1 := e x.f2 a.2.2.2.1
  have h2 := mayS_size a.2.2.2.2
  unfold recL
  have h3 : (textL x.f3).length = 2 + x.f3.size := by unfold textL; rw [List.length_append, lowL_length, bytesOf_length]
  simp only [List.length_append, lowL_length, h3]
  have := a.2.2.1
  omega
theorem recOf_size {x : Nd} (h : recS x = true) : (recOf x).size ≤ 8192 := by
  have := recL_size h
  unfold recOf
  rw [size_strOfNums]; exact this
theorem frec_size (x : Nd) : (frec x).size = 6 + (recOf x).size := frame_size _
theorem recS_of_next {x : Nd} {i : Int} (h : nextS x i = true) : recS x = true := by
  unfold nextS at h
  unfold recS
  simp only [Bool.and_eq_true, Bool.or_eq_true, decide_eq_true_iff] at h ⊢
  obtain ⟨⟨h1, h2⟩, h3⟩ := h
  exact ⟨h3, by omega, by omega⟩
/-- one node more -/
def stepF (t : ByteArray) (m : Nat) (at_ : Int) : Option (Nd × Int) :=
  if (getF t at_).2.2 = 0 then (if (getR (getF t at_).1).2 = 0 then (if nextS (getR (getF t at_).1).1 (m : Int) = true then some ((getR (getF t at_).1).1, (getF t at_).2.1) else none) else none) else none
theorem stepF_some (a r : ByteArray) (x : Nd) (m : Nat) (h : nextS x (m : Int) = true) : stepF (a ++ (frec x ++ r)) m (a.size : Int) = some (x, (a.size : Int) + (frec x).size) := by
  have hr := recS_of_next h
  have e := get_frame a (recOf x) r (recOf_size hr)
  rw [app_assoc] at e
  have e2 := getR_of hr rfl
  unfold stepF
  show (if (getF (a ++ (frameOf (recOf x) ++ r)) a.size).2.2 = 0 then _ else _) = _
  simp only [frec, e, e2, if_pos, h]
theorem getF_spec {t : ByteArray} {at_ : Int} {s : ByteArray} {to_ : Int} (h : getF t at_ = (s, to_, 0)) : 0 ≤ at_ ∧ at_ ≤ (t.size : Int) ∧ s.size ≤ 8192 ∧ to_ = at_ + (frameOf s).size ∧ to_ ≤ (t.size : Int) ∧ t.extract at_.toNat to_.toNat = frameOf s := by
  unfold getF at h
  have hne : badF ≠ (s, to_, 0) := by unfold badF; intro hh; have := (Prod.mk.inj (Prod.mk.inj hh).2).2; omega
  by_cases c1 : at_ < 0 ∨ at_ > (t.size : Int) ∨ (t.size : Int) - at_ < 6
  · rw [if_pos c1] at h; exact absurd h hne
  rw [if_neg c1] at h
  by_cases c2 : manyAt t at_ > (t.size : Int) - at_ - 6 ∨ manyAt t at_ > 8192
  · rw [if_pos c2] at h; exact absurd h hne
  rw [if_neg c2] at h
  by_cases c3 : frameOf (partOf t at_) = wholeOf t at_
  · rw [if_pos c3] at h
    obtain ⟨rfl, h2⟩ := Prod.mk.inj h
    have h3 := (Prod.mk.inj h2).1
    have m0 : 0 ≤ manyAt t at_ := by
      unfold manyAt
      have h1 := (bt_range t at_).1
      have h2 := (bt_range t (at_ + 1)).1
      omega
    have hps : ((partOf t at_).size : Int) = manyAt t at_ := by
      unfold partOf
      rw [size_extract _ _ _ (by omega)]
      omega
    have hfs := frame_size (partOf t at_)
    refine ⟨by omega, by omega, by omega, by omega, by omega, ?_⟩
    rw [c3]
    unfold wholeOf
    rw [← h3]
  · rw [if_neg c3] at h; exact absurd h hne
theorem split_at (t : ByteArray) (a b : Nat) (h : a ≤ b) (hb : b ≤ t.size) : t = t.extract 0 a ++ (t.extract a b ++ t.extract b t.size) := by
  apply bytesOf_inj
  rw [bytesOf_append, bytesOf_append, bytesOf_extract, bytesOf_extract, bytesOf_extract]
  have hl := bytesOf_length t
  rw [List.take_of_length_le (Nat.le_of_eq hl), List.drop_zero]
  have e : ((bytesOf t).take b).drop a ++ (bytesOf t).drop b = (bytesOf t).drop a := by
    have h1 : (bytesOf t).drop a = ((bytesOf t).take b ++ (bytesOf t).drop b).drop a := by rw [List.take_append_drop]
    rw [h1, List.drop_append_of_le_length (by rw [List.length_take]; omega)]
  rw [e, List.take_append_drop]
theorem stepF_of {t a r : ByteArray} {m : Nat} {x : Nd} {to_ : Int} (ht : t = a ++ r) (h : stepF t m (a.size : Int) = some (x, to_)) : nextS x (m : Int) = true ∧ to_ = (a.size : Int) + (frec x).size ∧ ∃ r', r = frec x ++ r' := by
  unfold stepF at h
  by_cases c1 : (getF t (a.size : Int)).2.2 = 0
  case neg => rw [if_neg c1] at h; cases h
  rw [if_pos c1] at h
  by_cases c2 : (getR (getF t (a.size : Int)).1).2 = 0
  case neg => rw [if_neg c2] at h; cases h
  rw [if_pos c2] at h
  by_cases c3 : nextS (getR (getF t (a.size : Int)).1).1 (m : Int) = true
  case neg => rw [if_neg c3] at h; cases h
  rw [if_pos c3] at h
  obtain ⟨hx, hto⟩ := Prod.mk.inj (Option.some.inj h)
  rw [hx] at c3
  have hg : getF t (a.size : Int) = ((getF t (a.size : Int)).1, (getF t (a.size : Int)).2.1, 0) := by rw [← c1]
  obtain ⟨g0, g1, g2, g3, g4, g5⟩ := getF_spec hg
  have hs : recOf x = (getF t (a.size : Int)).1 := by
    generalize (getF t (a.size : Int)).1 = s at c2 hx
    unfold getR at c2 hx
    by_cases c4 : recS (getP (bytesOf s)) = true ∧ recOf (getP (bytesOf s)) = s
    · rw [if_pos c4] at hx
      rw [← hx]
      exact c4.2
    · rw [if_neg c4] at c2
      exact absurd c2 (by decide)
  rw [← hs] at g3 g5
  rw [hto] at g3 g4 g5
  refine ⟨c3, g3, t.extract to_.toNat t.size, ?_⟩
  have hfr : frameOf (recOf x) = frec x := rfl
  rw [hfr] at g3 g5
  have e := split_at t a.size to_.toNat (by omega) (by omega)
  rw [Int.toNat_natCast] at g5
  rw [g5] at e
  have e2 : t.extract 0 a.size = a := by
    apply bytesOf_inj
    rw [bytesOf_extract, ht, bytesOf_append, List.drop_zero, List.take_append_of_le_length (by rw [bytesOf_length]; omega), List.take_of_length_le (by rw [bytesOf_length]; omega)]
  rw [e2] at e
  exact app_cancel (ht.symm.trans e)
/-- nodes that may stand where they stand -/
def validS (xs : List Nd) : Prop := ∀ (i : Nat) (h : i < xs.length), nextS xs[i] (i : Int) = true
theorem valid_len {xs : List Nd} (h : validS xs) : xs.length ≤ 512 := by
  rcases Nat.lt_or_ge 512 xs.length with c | c
  · exact absurd (nextS_512 (h 512 c)) (by decide)
  · exact c
theorem valid_snoc {xs : List Nd} {x : Nd} (h : validS xs) (hx : nextS x (xs.length : Int) = true) : validS (xs ++ [x]) := by
  intro i hi
  rw [List.length_append, List.length_singleton] at hi
  by_cases c : i < xs.length
  · rw [List.getElem_append_left c]; exact h i c
  · have e : i = xs.length := by omega
    subst e
    rw [List.getElem_append_right (Nat.le_refl _)]
    simpa using hx
theorem valid_left {xs ys : List Nd} (h : validS (xs ++ ys)) : validS xs := by
  intro i hi
  have := h i (by rw [List.length_append]; omega)
  rwa [List.getElem_append_left hi] at this
theorem valid_nil : validS [] := fun i h => absurd h (Nat.not_lt_zero _)
theorem mayT_iff (xs : List Nd) : mayT xs = true ↔ (0 < xs.length ∧ validS xs) := by
  unfold mayT validS
  rw [Bool.and_eq_true, decide_eq_true_iff, List.all_eq_true]
  constructor
  · rintro ⟨h1, h2⟩
    refine ⟨h1, fun i hi => ?_⟩
    have := h2 i (List.mem_range.2 hi)
    rwa [rn_eq xs i hi] at this
  · rintro ⟨h1, h2⟩
    refine ⟨h1, fun i hi => ?_⟩
    rw [List.mem_range] at hi
    rw [rn_eq xs i hi]
    exact h2 i hi
/-- what is loaded -/
def loadK (t : ByteArray) : Nat → List Nd → Int → List Nd × Int
  | 0, out, at_ => (out, at_)
  | k + 1, out, at_ => match stepF t out.length at_ with
    | some p => loadK t k (out ++ [p.1]) p.2
    | none => (out, at_)
def loadS (t : ByteArray) : List Nd × Int := loadK t 513 [] 0
theorem loadK_spec (t : ByteArray) : ∀ (k : Nat) (out : List Nd), k + out.length = 513 → validS out → (∃ r, t = fileB out ++ r) →
    validS (loadK t k out ((fileB out).size : Int)).1 ∧ (loadK t k out ((fileB out).size : Int)).2 = ((fileB (loadK t k out ((fileB out).size : Int)).1).size : Int) ∧ (∃ r, t = fileB (loadK t k out ((fileB out).size : Int)).1 ++ r) ∧ stepF t (loadK t k out ((fileB out).size : Int)).1.length (loadK t k out ((fileB out).size : Int)).2 = none := by
  intro k
  induction k with
  | zero =>
    intro out hk hv _
    have := valid_len hv
    omega
  | succ k ih =>
    intro out hk hv hr
    rw [loadK]
    cases hs : stepF t out.length ((fileB out).size : Int) with
    | none => exact ⟨hv, rfl, hr, hs⟩
    | some p =>
      obtain ⟨x, to_⟩ := p
      obtain ⟨r, hr⟩ := hr
      obtain ⟨h1, h2, r', h3⟩ := stepF_of hr hs
      have e : fileB (out ++ [x]) = fileB out ++ frec x := by rw [fileB_app, fileB_one]
      have e2 : to_ = ((fileB (out ++ [x])).size : Int) := by rw [e, ByteArray.size_append, h2]; omega
      simp only
      rw [e2]
      exact ih (out ++ [x]) (by rw [List.length_append, List.length_singleton]; omega) (valid_snoc hv h1) ⟨r', by rw [e, app_assoc, ← h3]; exact hr⟩
theorem loadS_spec (t : ByteArray) : validS (loadS t).1 ∧ (loadS t).2 = ((fileB (loadS t).1).size : Int) ∧ (∃ r, t = fileB (loadS t).1 ++ r) ∧ stepF t (loadS t).1.length (loadS t).2 = none :=
  loadK_spec t 513 [] rfl valid_nil ⟨t, by rw [fileB, nil_app]⟩
theorem loadK_grow (t : ByteArray) : ∀ (k : Nat) (out : List Nd) (at_ : Int), ∃ zs, (loadK t k out at_).1 = out ++ zs
  | 0, out, _ => ⟨[], (List.append_nil _).symm⟩
  | k + 1, out, at_ => by
    rw [loadK]
    cases stepF t out.length at_ with
    | none => exact ⟨[], (List.append_nil _).symm⟩
    | some p =>
      obtain ⟨zs, h⟩ := loadK_grow t k (out ++ [p.1]) p.2
      exact ⟨p.1 :: zs, by simp only; rw [h, List.append_assoc]; rfl⟩
theorem loadK_through (t : ByteArray) : ∀ (ys : List Nd) (k : Nat) (out : List Nd) (r : ByteArray), validS (out ++ ys) → t = fileB out ++ (fileB ys ++ r) → loadK t (k + ys.length) out ((fileB out).size : Int) = loadK t k (out ++ ys) ((fileB (out ++ ys)).size : Int)
  | [], k, out, r, _, _ => by rw [List.append_nil]; rfl
  | y :: ys, k, out, r, hv, ht => by
    have hn : nextS y (out.length : Int) = true := by
      have := hv out.length (by rw [List.length_append, List.length_cons]; omega)
      rw [List.getElem_append_right (Nat.le_refl _)] at this
      simpa using this
    rw [fileB, app_assoc] at ht
    have hs := stepF_some (fileB out) (fileB ys ++ r) y out.length hn
    rw [← ht] at hs
    have e : fileB (out ++ [y]) = fileB out ++ frec y := by rw [fileB_app, fileB_one]
    rw [List.length_cons, ← Nat.add_assoc, loadK, hs]
    simp only
    have e2 : ((fileB out).size : Int) + (frec y).size = ((fileB (out ++ [y])).size : Int) := by rw [e, ByteArray.size_append]; omega
    rw [e2, loadK_through t ys k (out ++ [y]) r (by rw [List.append_assoc]; exact hv) (by rw [e, app_assoc]; exact ht), List.append_assoc]
    rfl
/-- nodes that stand ahead are all loaded -/
theorem loadS_max {t r : ByteArray} {ys : List Nd} (hv : validS ys) (ht : t = fileB ys ++ r) : ∃ zs, (loadS t).1 = ys ++ zs := by
  have hl := valid_len hv
  have e := loadK_through t ys (513 - ys.length) [] r (by simpa using hv) (by rw [fileB, nil_app]; exact ht)
  rw [Nat.sub_add_cancel (by omega), List.nil_append] at e
  obtain ⟨zs, hz⟩ := loadK_grow t (513 - ys.length) ys ((fileB ys).size : Int)
  exact ⟨zs, by unfold loadS; rw [show ((0 : Int)) = ((fileB []).size : Int) from rfl, e]; exact hz⟩
theorem fileB_pos {x : Nd} {xs : List Nd} : 6 ≤ (fileB (x :: xs)).size := by
  rw [fileB, ByteArray.size_append, frec_size]; omega
theorem loadS_eq {t r : ByteArray} {ys : List Nd} (hv : validS ys) (ht : t = fileB ys ++ r) (hn : stepF t ys.length ((fileB ys).size : Int) = none) : loadS t = (ys, ((fileB ys).size : Int)) := by
  have hl := valid_len hv
  have e := loadK_through t ys (513 - ys.length) [] r (by simpa using hv) (by rw [fileB, nil_app]; exact ht)
  rw [Nat.sub_add_cancel (by omega), List.nil_append] at e
  obtain ⟨j, hj⟩ : ∃ j, 513 - ys.length = j + 1 := ⟨512 - ys.length, by omega⟩
  unfold loadS
  rw [show ((0 : Int)) = ((fileB []).size : Int) from rfl, e, hj, loadK, hn]
theorem stepF_short {t : ByteArray} {m : Nat} {at_ : Int} (h : (t.size : Int) - at_ < 6) : stepF t m at_ = none := by
  have hg : getF t at_ = badF := by unfold getF; exact if_pos (.inr (.inr h))
  unfold stepF
  rw [hg]
  exact if_neg (by decide)
theorem stepF_end {t : ByteArray} {m : Nat} : stepF t m (t.size : Int) = none := stepF_short (by omega)
/-- a file is loaded whole -/
theorem loadS_file {ns : List Nd} (hv : validS ns) : loadS (fileB ns) = (ns, ((fileB ns).size : Int)) :=
  loadS_eq (r := ⟨#[]⟩) hv (app_nil _).symm stepF_end
end Go.Proofs.YtnhmmbgnaogokaaGreatDoor.G
end
section
namespace Go.Proofs.YtnhmmbgnaogokaaGreatDoor.G
open Go.RowKit Go.Proofs.YtnhmmbgnaogokaaGreatDoorW.PrintWords Go.Proofs.YtnhmmbgnaogokaaGreatDoorW.PrintLast Go.Proofs.YtnhmmbgnaogokaaGreatDoorW.PrintMore
set_option maxHeartbeats 8000000
set_option maxRecDepth 100000
attribute [local go_sem] max2_int min2_int max_two min_two max_three min_three max_four min_four   -- for this text's walks alone
set_option linter.unusedVariables false
set_option linter.unusedSimpArgs false

def record_Put.l0 : Nat → ByteArray → Int → List ByteArray → ByteArray → Option (ByteArray × Int)
 | 0, _, _, _, _ => none
 | k + 1, o, x, l2, a3 => if x < (l2.length : Int) then (if 0 ≤ x then (record_text.f k (rdOf ByteArray.empty l2 x)).bind fun t => (if o.size + t.size ≤ 9223372036854775807 then record_Put.l0 k (o ++ t) (wrap64 (x + 1)) l2 a3 else none) else none) else (record_text.f k a3).bind fun t => (if o.size + t.size ≤ 9223372036854775807 then some (o ++ t, 0) else none)
def record_Put.m (k : Nat) (a0 : Int) (a1 : Int) (l2 : List ByteArray) (a3 : ByteArray) : Option (ByteArray × Int) := (record_low.f k a0 1).bind fun t0 => (record_low.f k (wrap64 (a1 + 1)) 2).bind fun t1 => (if t0.size + t1.size ≤ 9223372036854775807 then (record_low.f k (l2.length : Int) 1).bind fun t2 => (if (t0 ++ t1).size + t2.size ≤ 9223372036854775807 then record_Put.l0 k ((t0 ++ t1) ++ t2) 0 l2 a3 else none) else none)
def record_Put.f (k : Nat) (a0 : Int) (a1 : Int) (l2 : List ByteArray) (a3 : ByteArray) : Option (ByteArray × Int) := (trail_Equation.f k a0 a1 l2 a3).bind fun t => if t = true then (if a1 < -1 then some ((⟨#[]⟩ : ByteArray), 1500) else (if a1 ≥ 512 then some ((⟨#[]⟩ : ByteArray), 1500) else record_Put.m k a0 a1 l2 a3)) else some ((⟨#[]⟩ : ByteArray), 1500)
theorem record_Put.mono_l : ∀ k y0 y1 y2 y3, LeO (record_Put.l0 k y0 y1 y2 y3) (record_Put.l0 (k + 1) y0 y1 y2 y3)
 | 0 => fun _ _ _ _ r h => by simp [record_Put.l0] at h
 | k + 1 => by
  intro y0 y1 y2 y3
  unfold record_Put.l0
  repeat' first
   | (with_reducible exact record_Put.mono_l k _ _ _ _)
   | (with_reducible exact record_text.mono _ _)
   | (with_reducible exact LeO.refl _)
   | (with_reducible exact LeO.none _)
   | (with_reducible refine LeO.ite ?_ ?_)
   | (with_reducible refine LeO.bind ?_ (fun _ => ?_))
theorem record_Put.mono : ∀ a0 a1 a2 a3 k, LeO (record_Put.f k a0 a1 a2 a3) (record_Put.f (k + 1) a0 a1 a2 a3) := by
 intro a0 a1 a2 a3 k
 unfold record_Put.f record_Put.m
 repeat' first
  | (with_reducible exact record_Put.mono_l k _ _ _ _)
  | (with_reducible exact trail_Equation.mono _ _ _ _ _)
  | (with_reducible exact record_low.mono _ _ _)
  | (with_reducible exact LeO.refl _)
  | (with_reducible exact LeO.none _)
  | (with_reducible refine LeO.ite ?_ ?_)
  | (with_reducible refine LeO.bind ?_ (fun _ => ?_))
def record_Put.T3 : Bool × List (List Nat × List Nat) := (true, [([], []), ([0], [0]), ([1], [1]), ([], []), ([3], [3]), ([4], [4]), ([5, 2], [5]), ([2, 6], [2, 6]), ([], []), ([8], [8]), ([9], [9]), ([10, 6], [10]), ([7, 11], [7, 11]), ([12, 11, 0, 1, 2, 3, 4, 5, 6, 7, 8, 9, 10, 11, 12], [12])])
def record_Put.B3 : List Nat := [0, 1, 3, 0, 8, 24, 63, 127, 0, 256, 768, 1919, 4095, 8191]
theorem record_Put.tab3 : rtab .any (opsOf Tryz.f19 3) = record_Put.T3 := by kernel_rfl
theorem record_Put.bits3 : waitsOk record_Put.T3.2 record_Put.B3 = true := by kernel_rfl
theorem record_Put.calls (k : Nat) (a0 : Int) (a1 : Int) (A2 : Option Addr) (c2 : Nat) (l2 : List ByteArray) (a3 : ByteArray) (r1 : ByteArray) (r2 : Int) (w : World) (hr2 : Kd.C Kd.string w A2 l2.length l2) (hc2 : l2.length ≤ c2) (h : record_Put.f k a0 a1 l2 a3 = some (r1, r2)) (hG : GOK w) :
 Calls Tryz.prog 19 #[.agg #[.int .i64 a0, .int .i64 a1, .slice A2 l2.length c2, .string a3]] w fun e w' => e = .returned (.tuple #[.string r1, .int .i64 r2]) ∧ Below w.heap.size w w' := by
 have hu := Tryz.underlying41
 have HR2 := a_ hr2
 have HC2 := a_ hc2
 clear hr2 hc2
 have HB := a_ (Below.refl w.heap.size w)
 have HX := a_ (Below.refl w.heap.size w)
 unfold record_Put.f at h
 obtain ⟨t, B1, h⟩ := Option.bind_eq_some_iff.mp h
 have B1 := a_ B1
 cases t with
 | false =>
  rw [if_neg Bool.false_ne_true] at h
  obtain ⟨rfl, rfl⟩ := Prod.mk.inj (Option.some.inj h)
  clear h
  go_enter Tryz.func19, Tryz.ntmps19
  go_wp2_with (first
   | ((with_reducible refine gate_dst (N := 1) rfl ?_); refine boxE_ 1 #[.int .i64 a0, .int .i64 a1, .slice A2 l2.length c2, .string a3] 41 ?_; intro g0 hg wb1 hbox hb; have E0 := a_ (gE_ hg : w.heap.size ≤ g0); have B0 := a_ hbox; (try clear z0 f0 z1 f1 z2 f2 z3 f3); obtain ⟨z0, z1, z2, z3, f0, f1, f2, f3⟩ := bx4_ B0.out; have hs_ := below_step hC_ hb; replace HB := a_ hs_; clear hs_ hb hbox hg)
   | ((with_reducible refine gate_callee (f := 38) rfl ?_); refine goesL_ _ rfl rfl Tryz.func38 (by kernel_rfl) rfl #[.pointer (some ⟨g0, 0, none⟩)] rfl hL_ ?_; (with_reducible refine (trail_Equation.calls k ⟨g0, 0, none⟩ a0 a1 A2 c2 l2 a3 false _ ?s1 ?s2 ?s3 ?s4 ?s5 B1.out (GOK.below hG (below_step HX.out hC_))).mono ?_); (case s1 => exact (blk_cell (hK_ B0.out) 0).trans rfl); (case s2 => exact (blk_cell (hK_ B0.out) 2).trans rfl); (case s3 => exact (blk_cell (hK_ B0.out) 3).trans rfl); (case s4 => exact (Kd.C_below HR2.out (below_step HX.out hC_))); (case s5 => exact HC2.out); rintro e wc1 ⟨rfl, hb⟩; refine ⟨_, rfl, ?_⟩; have hs_ := below_step hC_ hb; replace B0 := a_ (blk_below (g := g0) (o := .cells #[.int .i64 a0, .int .i64 a1, .slice A2 l2.length c2, .string a3] 41 (0, 0)) (by (with_reducible repeat (first | refine blk_drewN ?_ _ | refine blk_drew ?_ | refine blk_alloc ?_ _)); exact (hK_ B0.out)) hb); replace HX := a_ (below_step HX.out hs_); replace HB := a_ (Below.refl wc1.heap.size wc1); clear hs_ hb; (try clear z0 f0 z1 f1 z2 f2 z3 f3); obtain ⟨z0, z1, z2, z3, f0, f1, f2, f3⟩ := bx4_ B0.out))
  go_ret2
  exact ⟨hV_, below_step HX.out hC_⟩
 | true =>
  rw [if_pos rfl] at h
  by_cases c1 : a1 < -1
  case pos =>
   rw [if_pos c1] at h
   obtain ⟨rfl, rfl⟩ := Prod.mk.inj (Option.some.inj h)
   have c1b := decide_eq_true c1
   clear h c1
   go_enter Tryz.func19, Tryz.ntmps19
   go_wp2_with (first
    | ((with_reducible refine gate_dst (N := 1) rfl ?_); refine boxE_ 1 #[.int .i64 a0, .int .i64 a1, .slice A2 l2.length c2, .string a3] 41 ?_; intro g0 hg wb1 hbox hb; have E0 := a_ (gE_ hg : w.heap.size ≤ g0); have B0 := a_ hbox; (try clear z0 f0 z1 f1 z2 f2 z3 f3); obtain ⟨z0, z1, z2, z3, f0, f1, f2, f3⟩ := bx4_ B0.out; have hs_ := below_step hC_ hb; replace HB := a_ hs_; clear hs_ hb hbox hg)
    | ((with_reducible refine gate_callee (f := 38) rfl ?_); refine goesL_ _ rfl rfl Tryz.func38 (by kernel_rfl) rfl #[.pointer (some ⟨g0, 0, none⟩)] rfl hL_ ?_; (with_reducible refine (trail_Equation.calls k ⟨g0, 0, none⟩ a0 a1 A2 c2 l2 a3 true _ ?s1 ?s2 ?s3 ?s4 ?s5 B1.out (GOK.below hG (below_step HX.out hC_))).mono ?_); (case s1 => exact (blk_cell (hK_ B0.out) 0).trans rfl); (case s2 => exact (blk_cell (hK_ B0.out) 2).trans rfl); (case s3 => exact (blk_cell (hK_ B0.out) 3).trans rfl); (case s4 => exact (Kd.C_below HR2.out (below_step HX.out hC_))); (case s5 => exact HC2.out); rintro e wc1 ⟨rfl, hb⟩; refine ⟨_, rfl, ?_⟩; have hs_ := below_step hC_ hb; replace B0 := a_ (blk_below (g := g0) (o := .cells #[.int .i64 a0, .int .i64 a1, .slice A2 l2.length c2, .string a3] 41 (0, 0)) (by (with_reducible repeat (first | refine blk_drewN ?_ _ | refine blk_drew ?_ | refine blk_alloc ?_ _)); exact (hK_ B0.out)) hb); replace HX := a_ (below_step HX.out hs_); replace HB := a_ (Below.refl wc1.heap.size wc1); clear hs_ hb; (try clear z0 f0 z1 f1 z2 f2 z3 f3); obtain ⟨z0, z1, z2, z3, f0, f1, f2, f3⟩ := bx4_ B0.out))
   go_ret2
   exact ⟨hV_, below_step HX.out hC_⟩
  rw [if_neg c1] at h
  have c1b := decide_eq_false c1
  clear c1
  by_cases c2_ : a1 ≥ 512
  case pos =>
   rw [if_pos c2_] at h
   obtain ⟨rfl, rfl⟩ := Prod.mk.inj (Option.some.inj h)
   have c2b : decide (512 ≤ a1) = true := decide_eq_true c2_
   clear h c2_
   go_enter Tryz.func19, Tryz.ntmps19
   go_wp2_with (first
    | ((with_reducible refine gate_dst (N := 1) rfl ?_); refine boxE_ 1 #[.int .i64 a0, .int .i64 a1, .slice A2 l2.length c2, .string a3] 41 ?_; intro g0 hg wb1 hbox hb; have E0 := a_ (gE_ hg : w.heap.size ≤ g0); have B0 := a_ hbox; (try clear z0 f0 z1 f1 z2 f2 z3 f3); obtain ⟨z0, z1, z2, z3, f0, f1, f2, f3⟩ := bx4_ B0.out; have hs_ := below_step hC_ hb; replace HB := a_ hs_; clear hs_ hb hbox hg)
    | ((with_reducible refine gate_callee (f := 38) rfl ?_); refine goesL_ _ rfl rfl Tryz.func38 (by kernel_rfl) rfl #[.pointer (some ⟨g0, 0, none⟩)] rfl hL_ ?_; (with_reducible refine (trail_Equation.calls k ⟨g0, 0, none⟩ a0 a1 A2 c2 l2 a3 true _ ?s1 ?s2 ?s3 ?s4 ?s5 B1.out (GOK.below hG (below_step HX.out hC_))).mono ?_); (case s1 => exact (blk_cell (hK_ B0.out) 0).trans rfl); (case s2 => exact (blk_cell (hK_ B0.out) 2).trans rfl); (case s3 => exact (blk_cell (hK_ B0.out) 3).trans rfl); (case s4 => exact (Kd.C_below HR2.out (below_step HX.out hC_))); (case s5 => exact HC2.out); rintro e wc1 ⟨rfl, hb⟩; refine ⟨_, rfl, ?_⟩; have hs_ := below_step hC_ hb; replace B0 := a_ (blk_below (g := g0) (o := .cells #[.int .i64 a0, .int .i64 a1, .slice A2 l2.length c2, .string a3] 41 (0, 0)) (by (with_reducible repeat (first | refine blk_drewN ?_ _ | refine blk_drew ?_ | refine blk_alloc ?_ _)); exact (hK_ B0.out)) hb); replace HX := a_ (below_step HX.out hs_); replace HB := a_ (Below.refl wc1.heap.size wc1); clear hs_ hb; (try clear z0 f0 z1 f1 z2 f2 z3 f3); obtain ⟨z0, z1, z2, z3, f0, f1, f2, f3⟩ := bx4_ B0.out))
   go_ret2
   exact ⟨hV_, below_step HX.out hC_⟩
  rw [if_neg c2_] at h
  have c2b : decide (512 ≤ a1) = false := decide_eq_false c2_
  clear c2_
  unfold record_Put.m at h
  obtain ⟨t0, B2, h⟩ := Option.bind_eq_some_iff.mp h
  have B2 := a_ B2
  obtain ⟨t1, B3, h⟩ := Option.bind_eq_some_iff.mp h
  have B3 := a_ B3
  by_cases c3 : t0.size + t1.size ≤ 9223372036854775807
  case neg => rw [if_neg c3] at h; cases h
  rw [if_pos c3] at h
  have c3b0 := eq_true c3
  have c3b1 : decide (t0.size + t1.size ≤ 9223372036854775807) = true := decide_eq_true c3
  have c3b2 : (9223372036854775807 < t0.size + t1.size) = False := eq_false (Nat.not_lt.2 c3)
  obtain ⟨t2, B4, h⟩ := Option.bind_eq_some_iff.mp h
  have B4 := a_ B4
  by_cases c4 : (t0 ++ t1).size + t2.size ≤ 9223372036854775807
  case neg => rw [if_neg c4] at h; cases h
  rw [if_pos c4] at h
  have c4b0 := eq_true c4
  have c4b1 : decide ((t0 ++ t1).size + t2.size ≤ 9223372036854775807) = true := decide_eq_true c4
  have c4b2 : (9223372036854775807 < (t0 ++ t1).size + t2.size) = False := eq_false (Nat.not_lt.2 c4)
  have c4b3 : (9223372036854775807 < t0.size + t1.size + t2.size) = False := eq_false (Nat.not_lt.2 (by have h_ := c4; simp only [ByteArray.size_append] at h_; omega))
  have H' := a_ h
  clear h c3 c4
  go_enter Tryz.func19, Tryz.ntmps19
  go_upto_region 3 with (first
   | ((with_reducible refine gate_dst (N := 1) rfl ?_); refine boxE_ 1 #[.int .i64 a0, .int .i64 a1, .slice A2 l2.length c2, .string a3] 41 ?_; intro g0 hg wb1 hbox hb; have E0 := a_ (gE_ hg : w.heap.size ≤ g0); have B0 := a_ hbox; (try clear z0 f0 z1 f1 z2 f2 z3 f3); obtain ⟨z0, z1, z2, z3, f0, f1, f2, f3⟩ := bx4_ B0.out; have hs_ := below_step hC_ hb; replace HB := a_ hs_; clear hs_ hb hbox hg)
   | ((with_reducible refine gate_callee (f := 38) rfl ?_); refine goesL_ _ rfl rfl Tryz.func38 (by kernel_rfl) rfl #[.pointer (some ⟨g0, 0, none⟩)] rfl hL_ ?_; (with_reducible refine (trail_Equation.calls k ⟨g0, 0, none⟩ a0 a1 A2 c2 l2 a3 true _ ?s1 ?s2 ?s3 ?s4 ?s5 B1.out (GOK.below hG (below_step HX.out hC_))).mono ?_); (case s1 => exact (blk_cell (hK_ B0.out) 0).trans rfl); (case s2 => exact (blk_cell (hK_ B0.out) 2).trans rfl); (case s3 => exact (blk_cell (hK_ B0.out) 3).trans rfl); (case s4 => exact (Kd.C_below HR2.out (below_step HX.out hC_))); (case s5 => exact HC2.out); rintro e wc1 ⟨rfl, hb⟩; refine ⟨_, rfl, ?_⟩; have hs_ := below_step hC_ hb; replace B0 := a_ (blk_below (g := g0) (o := .cells #[.int .i64 a0, .int .i64 a1, .slice A2 l2.length c2, .string a3] 41 (0, 0)) (by (with_reducible repeat (first | refine blk_drewN ?_ _ | refine blk_drew ?_ | refine blk_alloc ?_ _)); exact (hK_ B0.out)) hb); replace HX := a_ (below_step HX.out hs_); replace HB := a_ (Below.refl wc1.heap.size wc1); clear hs_ hb; (try clear z0 f0 z1 f1 z2 f2 z3 f3); obtain ⟨z0, z1, z2, z3, f0, f1, f2, f3⟩ := bx4_ B0.out))
  refine start_ (n := 14) (S := fun w' => w'.cell? ⟨g0, 0, none⟩ = some (.int .i64 a0) ∧ w'.cell? ⟨g0, 1, none⟩ = some (.int .i64 a1) ∧ w'.cell? ⟨g0, 2, none⟩ = some (.slice A2 l2.length c2) ∧ w'.cell? ⟨g0, 3, none⟩ = some (.string a3)) (ds := []) #[false, false, false, false, false, false, false, false, false, false, false, false, false, false] (by kernel_rfl) rfl rfl ⟨(blk_cell B0.out 0).trans rfl, (blk_cell B0.out 1).trans rfl, (blk_cell B0.out 2).trans rfl, (blk_cell B0.out 3).trans rfl⟩ (fun hHeld => ?_)
  refine with_tabW record_Put.tab3 record_Put.bits3 (fun HT_ HW_ => ?_)
  refine pB_ 0 19 HT_.out ?_
  refine pB_ 3 22 HT_.out ?_
  refine pB_ 8 27 HT_.out ?_
  refine tB_ 1 20 HT_.out HW_.out hHeld ?_
  refine tB_ 4 23 HT_.out HW_.out hHeld ?_
  refine pB_ 5 24 HT_.out ?_
  refine tB_ 9 28 HT_.out HW_.out hHeld ?_
  refine pB_ 10 29 HT_.out ?_
  refine one_ (i := 2) (N := some 21) #[true, true, true, true, true, true, false, false, true, true, true, false, false, false] rfl rfl (one_of HT_.out (by kernel_rfl)) (by decide) (fun K hK => ?_)
  refine goes_ Tryz.func39 (by kernel_rfl) rfl #[.int .i64 a0, .int .i64 1] (by rfl) rfl rfl hL_ ?_
  (with_reducible refine (record_low.calls k a0 1 t0 _ B2.out).mono ?_)
  rintro e wc2 ⟨rfl, hb⟩
  refine ⟨_, rfl, ?_⟩
  have hs_ := below_step hC_ hb
  replace B0 := a_ (blk_below B0.out hs_)
  replace HX := a_ (below_step HX.out hs_)
  replace HB := a_ (Below.refl wc2.heap.size wc2)
  clear hs_ hb
  refine hK.out _ _ ⟨(blk_cell B0.out 0).trans rfl, (blk_cell B0.out 1).trans rfl, (blk_cell B0.out 2).trans rfl, (blk_cell B0.out 3).trans rfl⟩ (fun hHeld => ?_)
  clear hK K
  refine norm_ (a' := ?_) ?_ ?_
  rotate_left
  · show Act.put _ (some 21) _ = _
    simp only [Act.put, List.setIfInBounds_toArray, List.set_cons_zero, List.set_cons_succ, i64_w, i32_w]
    rfl
  refine one_ (i := 6) (N := some 25) #[true, true, true, true, true, true, true, false, true, true, true, false, false, false] rfl rfl (one_of HT_.out (by kernel_rfl)) (by decide) (fun K hK => ?_)
  refine goes_ Tryz.func39 (by kernel_rfl) rfl #[.int .i64 (wrap64 (a1 + 1)), .int .i64 2] (by rfl) rfl rfl hL_ ?_
  (with_reducible refine (record_low.calls k (wrap64 (a1 + 1)) 2 t1 _ B3.out).mono ?_)
  rintro e wc3 ⟨rfl, hb⟩
  refine ⟨_, rfl, ?_⟩
  have hs_ := below_step hC_ hb
  replace B0 := a_ (blk_below B0.out hs_)
  replace HX := a_ (below_step HX.out hs_)
  replace HB := a_ (Below.refl wc3.heap.size wc3)
  clear hs_ hb
  refine hK.out _ _ ⟨(blk_cell B0.out 0).trans rfl, (blk_cell B0.out 1).trans rfl, (blk_cell B0.out 2).trans rfl, (blk_cell B0.out 3).trans rfl⟩ (fun hHeld => ?_)
  clear hK K
  refine norm_ (a' := ?_) ?_ ?_
  rotate_left
  · show Act.put _ (some 25) _ = _
    simp only [Act.put, List.setIfInBounds_toArray, List.set_cons_zero, List.set_cons_succ, i64_w, i32_w]
    rfl
  refine pB_ 7 26 HT_.out ?_
  refine one_ (i := 11) (N := some 30) #[true, true, true, true, true, true, true, true, true, true, true, true, false, false] rfl rfl (one_of HT_.out (by kernel_rfl)) (by decide) (fun K hK => ?_)
  refine goes_ Tryz.func39 (by kernel_rfl) rfl #[.int .i64 (l2.length : Int), .int .i64 1] (by rfl) rfl rfl hL_ ?_
  (with_reducible refine (record_low.calls k (l2.length : Int) 1 t2 _ B4.out).mono ?_)
  rintro e wc4 ⟨rfl, hb⟩
  refine ⟨_, rfl, ?_⟩
  have hs_ := below_step hC_ hb
  replace B0 := a_ (blk_below B0.out hs_)
  replace HX := a_ (below_step HX.out hs_)
  replace HB := a_ (Below.refl wc4.heap.size wc4)
  clear hs_ hb
  refine hK.out _ _ ⟨(blk_cell B0.out 0).trans rfl, (blk_cell B0.out 1).trans rfl, (blk_cell B0.out 2).trans rfl, (blk_cell B0.out 3).trans rfl⟩ (fun hHeld => ?_)
  clear hK K
  refine norm_ (a' := ?_) ?_ ?_
  rotate_left
  · show Act.put _ (some 30) _ = _
    simp only [Act.put, List.setIfInBounds_toArray, List.set_cons_zero, List.set_cons_succ, i64_w, i32_w]
    rfl
  refine pB_ 12 31 HT_.out ?_
  refine pB_ 13 4 HT_.out ?_
  refine done_ (done_of HT_.out (by kernel_rfl)) ?_
  (try clear z0 f0 z1 f1 z2 f2 z3 f3)
  obtain ⟨z0, z1, z2, z3, f0, f1, f2, f3⟩ := bx4_ B0.out
  go_wp2
  go_loopg [4, 35] k (fun kq v4 v0 w' => ∃ (o : ByteArray) (x : Int), v4 = .string o ∧ v0 = .int .i64 x ∧ Aside0 (record_Put.l0 kq o x l2 a3 = some (r1, r2)) ∧ Aside0 (kq ≤ k) ∧ Aside0 (w'.heap[g0]? = some (.cells #[.int .i64 a0, .int .i64 a1, .slice A2 l2.length c2, .string a3] 41 (0, 0))) ∧ Aside0 (Below w.heap.size w w'))
  case atStart => exact ⟨_, _, hW_, hW_, H', ⟨Nat.le_refl _⟩, ⟨(hK_ B0.out)⟩, ⟨below_step HX.out hC_⟩⟩
  case round =>
   clear H' HB HX B0
   obtain ⟨o, x, rfl, rfl, HA, HK2, B0, HB⟩ := hrel
   cases gk with
   | zero => exact absurd HA.out (by simp [record_Put.l0])
   | succ k2 =>
    have H := HA.out
    clear HA
    simp only [record_Put.l0] at H
    by_cases c22 : x < (l2.length : Int)
    case neg =>
     rw [if_neg c22] at H
     have c22b0 : decide (x < (l2.length : Int)) = false := decide_eq_false c22
     clear c22
     obtain ⟨t, A28, H⟩ := Option.bind_eq_some_iff.mp H
     have A28 := a_ A28
     replace H := ifI_ H; obtain ⟨c29, H⟩ := H
     have c29b0 := eq_true c29
     have c29b1 : decide (o.size + t.size ≤ 9223372036854775807) = true := decide_eq_true c29
     have c29b2 : (9223372036854775807 < o.size + t.size) = False := eq_false (Nat.not_lt.2 c29)
     simp only [Option.some.injEq, Prod.mk.injEq] at H
     obtain ⟨rfl, rfl⟩ := H
     obtain ⟨z4, z5, z6, z7, f4, f5, f6, f7⟩ := bx4_ B0.out
     go_wp2_with (first | ((with_reducible refine gate_callee (f := 40) rfl ?_); refine goesL_ _ rfl rfl Tryz.func40 (by kernel_rfl) rfl #[.string a3] rfl hL_ ?_; (with_reducible refine (record_text.calls k2 a3 t _ A28.out).mono ?_); rintro e w0 ⟨rfl, hb⟩; refine ⟨_, rfl, ?_⟩; replace HB := a_ (below_step hC_ hb); clear hb))
     go_ret2
     exact ⟨hV_, hC_⟩
    rw [if_pos c22] at H
    have c22b0 : decide (x < (l2.length : Int)) = true := decide_eq_true c22
    clear c22
    replace H := ifI_ H; obtain ⟨c23, H⟩ := H
    have c23b0 : decide (0 ≤ x) = true := decide_eq_true c23
    clear c23
    obtain ⟨t, A24, H⟩ := Option.bind_eq_some_iff.mp H
    have A24 := a_ A24
    replace H := ifI_ H; obtain ⟨c25, H⟩ := H
    have c25b0 := eq_true c25
    have c25b1 : decide (o.size + t.size ≤ 9223372036854775807) = true := decide_eq_true c25
    have c25b2 : (9223372036854775807 < o.size + t.size) = False := eq_false (Nat.not_lt.2 c25)
    have H' := a_ H
    clear H
    have p272 : 0 ≤ (x : Int) := of_decide_eq_true hA_
    have q272 : x < (l2.length : Int) := of_decide_eq_true hA_
    obtain ⟨d0, e272, h0⟩ := Kd.at_string HR2.out x p272 q272
    cases e272
    replace h0 := cl_ HB.out h0
    replace p272 := eq_true p272
    replace q272 := eq_true q272
    go_wp2_with (first | ((with_reducible refine gate_callee (f := 40) rfl ?_); refine goesL_ _ rfl rfl Tryz.func40 (by kernel_rfl) rfl #[.string (rdOf ByteArray.empty l2 x)] rfl hL_ ?_; (with_reducible refine (record_text.calls k2 (rdOf ByteArray.empty l2 x) t _ A24.out).mono ?_); rintro e w1 ⟨rfl, hb⟩; refine ⟨_, rfl, ?_⟩; replace B0 := a_ (bB_ B0.out hb); replace HB := a_ (below_step hC_ hb); clear hb))
    go_roundg k2
    case measure => have := HK2.out; omega
    case rel => exact ⟨(o ++ t), (wrap64 (x + 1)), hW_, hW_, H', ⟨by have := HK2.out; omega⟩, ⟨(hK_ B0.out)⟩, ⟨hC_⟩⟩

set_option maxHeartbeats 8000000
set_option maxRecDepth 100000
attribute [local go_sem] max2_int min2_int max_two min_two max_three min_three max_four min_four   -- for this text's walks alone
set_option linter.unusedVariables false
set_option linter.unusedSimpArgs false

def record_taker_text.f (k : Nat) (s0_0 : ByteArray) : Option (ByteArray × ByteArray) := (record_taker_number.f k s0_0 2).bind fun bt306 => ((record_taker_take.f bt306.2 bt306.1).bind fun bt308 => (some (bt308.1, bt308.2)))
theorem record_taker_text.mono : ∀ a0 k, LeO (record_taker_text.f k a0) (record_taker_text.f (k + 1) a0) := by
 intro a0 k
 unfold record_taker_text.f
 repeat' first
  | (with_reducible exact record_taker_number.mono _ _ _)
  | (with_reducible exact LeO.refl _)
  | (with_reducible exact LeO.none _)
  | (with_reducible refine LeO.ite ?_ ?_)
  | (with_reducible refine LeO.bind ?_ (fun _ => ?_))
  | exact record_taker_number.mono _ _ _
  | exact LeO.none _
  | refine LeO.ite ?_ ?_
  | refine LeO.bind ?_ (fun _ => ?_)
theorem record_taker_text.calls (k : Nat) (g : Nat) (s0_0 : ByteArray) (r1 : ByteArray) (r2 : ByteArray) (w0 w : World) (hI : IsS86 w0 w g s0_0) (hB : Below w0.heap.size w0 w) (h : record_taker_text.f k s0_0 = some (r1, r2)) :
 Calls Tryz.prog 47 #[.pointer (some ⟨g, 0, none⟩)] w fun e w' => e = .returned (.string r1) ∧ IsS86 w0 w' g r2 ∧ Below w0.heap.size w0 w' ∧ KeepBut w w' g none := by
 have HI0 := a_ hI
 have HK := a_ (KeepBut.refl w g none)
 have HL := a_ hB.size
 clear hI
 have HW0 := a_ hB.size
 have HB := a_ hB
 clear hB
 have H := h; unfold record_taker_text.f at H
 clear h
 replace H := Option.bind_eq_some_iff.mp H
 obtain ⟨⟨t0, t1⟩, A20, H⟩ := H
 try dsimp only at H
 have A2 := a_ A20
 clear A20
 replace H := Option.bind_eq_some_iff.mp H
 obtain ⟨⟨t2, t3⟩, A30, H⟩ := H
 try dsimp only at H
 have A3 := a_ A30
 clear A30
 simp only [Option.some.injEq, Prod.mk.injEq] at H
 obtain ⟨rfl, rfl⟩ := H
 go_enter Tryz.func47, Tryz.ntmps47
 go_wp2_with (first | ((with_reducible refine gate_callee (f := 46) rfl ?_); refine goesL_ (some 5) rfl rfl Tryz.func46 (by kernel_rfl) rfl #[.pointer (some ⟨g, 0, none⟩), .int .i64 2] rfl hL_ ?_; (with_reducible refine (record_taker_number.calls k g s0_0 2 t0 t1 w0 _ ?s1 ?s2 A2.out).mono ?_); (case s1 => repeat (first | (with_reducible first | exact HI0.out | apply IsS86.alloc | apply IsS86.drewN | apply IsS86.drew | apply IsS86.set_0) | exact HI0.out)); (case s2 => repeat (first | (with_reducible first | exact HB.out | apply below_alloc | apply pw_below_drewN | apply below_drew1 | refine below_set ?_ (IsS86.ge HI0.out)) | exact HB.out)); rintro e w4 ⟨rfl, hi, hb, hk⟩; refine ⟨_, rfl, ?_⟩; replace HK := a_ (KeepBut.trans (by repeat (first | (with_reducible first | exact HK.out | apply KeepBut.set_ | apply keep_drewN | apply keep_drew | apply keep_alloc) | exact HK.out)) hk (.inl rfl)); replace HB := a_ (hb); replace HI0 := a_ (hi); (try clear hb); (try clear hb2); (try clear hk); (try clear hi)) | ((with_reducible refine gate_callee (f := 55) rfl ?_); refine goesL_ (some 6) rfl rfl Tryz.func55 (by kernel_rfl) rfl #[.pointer (some ⟨g, 0, none⟩), .int .i64 t0] rfl hL_ ?_; (with_reducible refine (record_taker_take.calls g t1 t0 t2 t3 w0 _ ?s1 ?s2 A3.out).mono ?_); (case s1 => repeat (first | (with_reducible first | exact HI0.out | apply IsS86.alloc | apply IsS86.drewN | apply IsS86.drew | apply IsS86.set_0) | exact HI0.out)); (case s2 => repeat (first | (with_reducible first | exact HB.out | apply below_alloc | apply pw_below_drewN | apply below_drew1 | refine below_set ?_ (IsS86.ge HI0.out)) | exact HB.out)); rintro e w5 ⟨rfl, hi, hb, hk⟩; refine ⟨_, rfl, ?_⟩; replace HK := a_ (KeepBut.trans (by repeat (first | (with_reducible first | exact HK.out | apply KeepBut.set_ | apply keep_drewN | apply keep_drew | apply keep_alloc) | exact HK.out)) hk (.inl rfl)); replace HB := a_ (hb); replace HI0 := a_ (hi); (try clear hb); (try clear hb2); (try clear hk); (try clear hi)))
 go_ret
 exact ⟨hV_, by repeat (first | (with_reducible first | exact HI0.out | apply IsS86.alloc | apply IsS86.drewN | apply IsS86.drew | apply IsS86.set_0) | exact HI0.out), by repeat (first | (with_reducible first | exact HB.out | apply below_alloc | apply pw_below_drewN | apply below_drew1 | refine below_set ?_ (IsS86.ge HI0.out)) | exact HB.out), by repeat (first | (with_reducible first | exact HK.out | apply KeepBut.set_ | apply keep_drewN | apply keep_drew | apply keep_alloc) | exact HK.out)⟩

set_option maxHeartbeats 8000000
set_option maxRecDepth 100000
attribute [local go_sem] max2_int min2_int max_two min_two max_three min_three max_four min_four   -- for this text's walks alone
set_option linter.unusedVariables false
set_option linter.unusedSimpArgs false

def record_Get.l0 : Nat → Int → Int → List ByteArray → ByteArray → Option (List ByteArray × ByteArray)
 | 0, _, _, _, _ => none
 | k + 1, m, x, l, q => if x < m then (record_taker_text.f k q).bind fun b => (if l.length < 8 then record_Get.l0 k m (wrap64 (x + 1)) (l ++ [b.1]) b.2 else none) else some (l, q)
def record_Get.f (k : Nat) (s : ByteArray) : Option (Int × Int × List ByteArray × ByteArray × Int) := (record_taker_number.f k s 1).bind fun b1 => (record_taker_number.f k b1.2 2).bind fun b2 => (record_taker_number.f k b2.2 1).bind fun b3 => (record_Get.l0 k (mn b3.1 3) 0 [] b3.2).bind fun q => (record_taker_text.f k q.2).bind fun r => (record_Put.f k b1.1 (wrap64 (b2.1 - 1)) q.1 r.1).bind fun p => if p.2 = 0 then (if p.1.toList = s.toList then some (b1.1, wrap64 (b2.1 - 1), q.1, r.1, 0) else some (0, 0, [], (⟨#[]⟩ : ByteArray), 1500)) else some (0, 0, [], (⟨#[]⟩ : ByteArray), 1500)
theorem record_Get.mono_l : ∀ k y0 y1 y2 y3, LeO (record_Get.l0 k y0 y1 y2 y3) (record_Get.l0 (k + 1) y0 y1 y2 y3)
 | 0 => fun _ _ _ _ r h => by simp [record_Get.l0] at h
 | k + 1 => by
  intro y0 y1 y2 y3
  unfold record_Get.l0
  repeat' first
   | (with_reducible exact record_Get.mono_l k _ _ _ _)
   | (with_reducible exact record_taker_text.mono _ _)
   | (with_reducible exact LeO.refl _)
   | (with_reducible exact LeO.none _)
   | (with_reducible refine LeO.ite ?_ ?_)
   | (with_reducible refine LeO.bind ?_ (fun _ => ?_))
theorem record_Get.mono : ∀ a0 k, LeO (record_Get.f k a0) (record_Get.f (k + 1) a0) := by
 intro a0 k
 unfold record_Get.f
 repeat' first
  | (with_reducible exact record_Get.mono_l k _ _ _ _)
  | (with_reducible exact record_taker_number.mono _ _ _)
  | (with_reducible exact record_taker_text.mono _ _)
  | (with_reducible exact record_Put.mono _ _ _ _ _)
  | (with_reducible exact LeO.refl _)
  | (with_reducible exact LeO.none _)
  | (with_reducible refine LeO.ite ?_ ?_)
  | (with_reducible refine LeO.bind ?_ (fun _ => ?_))
theorem blk_keepb {W W2 : World} {g g' : Nat} {o : Obj} (h : W.heap[g']? = some o) (hk : KeepBut W W2 g none) (hne : g' ≠ g) : W2.heap[g']? = some o := (hk.2 g' (blk_lt h) hne (by simp)).trans h
def record_Get.T5 : Bool × List (List Nat × List Nat) := (true, [([], []), ([0], [0]), ([], []), ([2], [2]), ([3], [3]), ([1, 4, 3], [1, 4]), ([0, 1, 2, 3, 4, 5], []), ([6, 5, 5, 0, 1, 2, 3, 4, 5], [5, 6])])
def record_Get.B5 : List Nat := [0, 1, 0, 4, 12, 31, 63, 127]
theorem record_Get.tab5 : rtab .any (opsOf Tryz.f26 5) = record_Get.T5 := by kernel_rfl
theorem record_Get.bits5 : waitsOk record_Get.T5.2 record_Get.B5 = true := by kernel_rfl
theorem record_Get.calls (k : Nat) (s : ByteArray) (r1 r2 : Int) (r3 : List ByteArray) (r4 : ByteArray) (r5 : Int) (w : World) (h : record_Get.f k s = some (r1, r2, r3, r4, r5)) (hG : GOK w) :
 Calls Tryz.prog 26 #[.string s] w fun e w' => ∃ v2_ : Value, e = .returned (.tuple #[.agg #[.int .i64 r1, .int .i64 r2, v2_, .string r4], .int .i64 r5]) ∧ Kd.R Kd.string 9 w' w.heap.size (fun _ => True) v2_ r3 ∧ Below w.heap.size w w' := by
 have huN := Tryz.underlying41
 have huT := Tryz.underlying86
 have HB := a_ (Below.refl w.heap.size w)
 unfold record_Get.f at h
 obtain ⟨⟨n0, s1⟩, B1, h⟩ := Option.bind_eq_some_iff.mp h
 dsimp only at h
 obtain ⟨⟨n1, s2⟩, B2, h⟩ := Option.bind_eq_some_iff.mp h
 dsimp only at h
 obtain ⟨⟨n2, s3⟩, B3, h⟩ := Option.bind_eq_some_iff.mp h
 dsimp only at h
 obtain ⟨⟨ql, qs⟩, B4, h⟩ := Option.bind_eq_some_iff.mp h
 dsimp only at h
 obtain ⟨⟨t4, q5⟩, B5, h⟩ := Option.bind_eq_some_iff.mp h
 dsimp only at h
 obtain ⟨⟨p1, p2⟩, B6, h⟩ := Option.bind_eq_some_iff.mp h
 dsimp only at h
 obtain ⟨nn, hnn⟩ : ∃ y, wrap64 (n1 - 1) = y := ⟨_, rfl⟩
 obtain ⟨m, hm⟩ : ∃ y, mn n2 3 = y := ⟨_, rfl⟩
 rw [hnn] at B6 h
 rw [hm] at B4
 have hnnw : IntKind.i64.wrap (n1 - 1) = nn := (i64_w _).trans hnn
 have hm_ : (if 3 < n2 then 3 else n2) = m := hm
 have B1 := a_ B1
 have B2 := a_ B2
 have B3 := a_ B3
 have H' := a_ B4
 have B5 := a_ B5
 have B6 := a_ B6
 have HH := a_ h
 clear h
 go_enter Tryz.func26, Tryz.ntmps26
 go_wp2_with (first
  | ((with_reducible refine gate_dst (N := 2) rfl ?_); refine boxE_ 2 #[.int .i64 0, .int .i64 0, .slice none 0 0, .string ⟨#[]⟩] 41 ?_; intro gR hg w2 hbox hb; have GR := a_ (gE_ hg : w.heap.size ≤ gR); have BR := a_ hbox; replace HB := a_ (below_step hC_ hb); clear hg hbox hb)
  | ((with_reducible refine gate_dst (N := 10) rfl ?_); refine boxE_ 10 #[.string s] 86 ?_; intro gT hg w3 hbox hb; have hRT := (bL_ BR.out hg : gR ≠ gT); have HI := a_ (show IsS86 w w3 gT s from ⟨hbox, gE_ hg⟩); replace BR := a_ (bB_ BR.out hb); replace HB := a_ (below_step hC_ hb); clear hg hbox hb)
  | ((with_reducible refine gate_callee (f := 46) rfl ?_); refine goesL_ _ rfl rfl Tryz.func46 (by kernel_rfl) rfl #[.pointer (some ⟨gT, 0, none⟩), .int .i64 1] rfl hL_ ?_; (with_reducible refine (record_taker_number.calls k gT s 1 n0 s1 w _ ?hi ?hb B1.out).mono ?_); (case hi => exact ⟨hK_ HI.out.1, HI.out.2⟩); (case hb => exact hC_); rintro e w4 ⟨rfl, hI, hB, hK⟩; refine ⟨_, rfl, ?_⟩; replace BR := a_ (blk_keepb (hK_ BR.out) hK hRT); replace HI := a_ hI; replace HB := a_ hB; clear hI hB hK)
  | ((with_reducible refine gate_callee (f := 46) rfl ?_); refine goesL_ _ rfl rfl Tryz.func46 (by kernel_rfl) rfl #[.pointer (some ⟨gT, 0, none⟩), .int .i64 2] rfl hL_ ?_; (with_reducible refine (record_taker_number.calls k gT s1 2 n1 s2 w _ ?hi ?hb B2.out).mono ?_); (case hi => exact ⟨hK_ HI.out.1, HI.out.2⟩); (case hb => exact hC_); rintro e w5 ⟨rfl, hI, hB, hK⟩; refine ⟨_, rfl, ?_⟩; replace BR := a_ (blk_keepb (hK_ BR.out) hK hRT); replace HI := a_ hI; replace HB := a_ hB; clear hI hB hK)
  | ((with_reducible refine gate_dst (N := 5) rfl ?_); refine boxE_ 5 #[.int .i64 0, .int .i64 0, .slice none 0 0, .string ⟨#[]⟩] 41 ?_; intro gN hg w6 hbox hb; have GN := a_ (gE_ hg : w.heap.size ≤ gN); have hRN := (bL_ BR.out hg : gR ≠ gN); have hTN := (bL_ HI.out.1 hg : gT ≠ gN); have hNT := (bG_ HI.out.1 hg : gN ≠ gT); have hNR := (bG_ BR.out hg : gN ≠ gR); have BN := a_ hbox; replace BR := a_ (bB_ BR.out hb); replace HI := a_ (show IsS86 w w6 gT s2 from ⟨bB_ HI.out.1 hb, HI.out.2⟩); replace HB := a_ (below_step hC_ hb); clear hg hbox hb; obtain ⟨hz0, hz1, hz2, hz3, hf0, hf1, hf2, hf3⟩ := bx4_ BN.out)
  | ((with_reducible refine gate_callee (f := 46) rfl ?_); refine goesL_ _ rfl rfl Tryz.func46 (by kernel_rfl) rfl #[.pointer (some ⟨gT, 0, none⟩), .int .i64 1] rfl hL_ ?_; (with_reducible refine (record_taker_number.calls k gT s2 1 n2 s3 w _ ?hi ?hb B3.out).mono ?_); (case hi => exact ⟨by (with_reducible repeat (first | refine blk_drewN ?_ _ | refine blk_drew ?_ | refine blk_alloc ?_ _)); exact (bF_ (bF_ (bF_ (bF_ (hK_ HI.out.1) hTN) hTN) hTN) hTN), HI.out.2⟩); (case hb => exact hC_); rintro e w7 ⟨rfl, hI, hB, hK⟩; refine ⟨_, rfl, ?_⟩; replace BR := a_ (blk_keepb (by (with_reducible repeat (first | refine blk_drewN ?_ _ | refine blk_drew ?_ | refine blk_alloc ?_ _)); exact (bF_ (bF_ (bF_ (bF_ (hK_ BR.out) hRN) hRN) hRN) hRN)) hK hRT); have BN2 := a_ (blk_keepb (o := .cells #[.int .i64 n0, .int .i64 nn, .slice none 0 0, .string ⟨#[]⟩] 41 (0, 0)) (by (with_reducible repeat (first | refine blk_drewN ?_ _ | refine blk_drew ?_ | refine blk_alloc ?_ _)); exact (bP_ (bP_ (bP_ (bP_ (hK_ BN.out)))))) hK hNT); clear BN; have BN := BN2; clear BN2; replace HI := a_ hI; replace HB := a_ hB; clear hI hB hK))
 go_loopg [20] k (fun kq v1 w' => ∃ (x : Int) (l : List ByteArray) (q : ByteArray) (v : Value), v1 = .int .i64 x ∧ Aside0 (record_Get.l0 kq m x l q = some (ql, qs)) ∧ Aside0 (kq ≤ k) ∧ Aside0 (Kd.R Kd.string 9 w' w.heap.size (fun _ => True) v l) ∧ Aside0 (w'.heap[gN]? = some (.cells #[.int .i64 n0, .int .i64 nn, v, .string ⟨#[]⟩] 41 (0, 0))) ∧ Aside0 (w'.heap[gR]? = some (.cells #[.int .i64 0, .int .i64 0, .slice none 0 0, .string ⟨#[]⟩] 41 (0, 0))) ∧ Aside0 (IsS86 w w' gT q) ∧ Aside0 (Below w.heap.size w w'))
 case atStart => exact ⟨0, [], s3, .slice none 0 0, hW_, H', ⟨Nat.le_refl _⟩, ⟨Kd.R_nil _ _ _ _ _⟩, ⟨hK_ BN.out⟩, ⟨hK_ BR.out⟩, ⟨⟨hK_ HI.out.1, HI.out.2⟩⟩, ⟨hC_⟩⟩
 case round =>
  clear H' HB HI BN BR
  obtain ⟨x, l, q, v, rfl, HA, HK2, HO, BN, BR, HI, HB⟩ := hrel
  obtain ⟨A, c, rfl⟩ := Kd.R_slice HO.out
  cases gk with
  | zero => exact absurd HA.out (by simp [record_Get.l0])
  | succ k2 =>
   have H := HA.out
   clear HA
   simp only [record_Get.l0] at H
   by_cases c22 : x < m
   case neg =>
    rw [if_neg c22] at H
    have c22b0 : decide (x < m) = false := decide_eq_false c22
    clear c22
    obtain ⟨rfl, rfl⟩ := Prod.mk.inj (Option.some.inj H)
    clear H
    go_upto_region 9 with (first
     | ((with_reducible refine gate_callee (f := 47) rfl ?_); refine goesL_ _ rfl rfl Tryz.func47 (by kernel_rfl) rfl #[.pointer (some ⟨gT, 0, none⟩)] rfl hL_ ?_; (with_reducible refine (record_taker_text.calls k gT q t4 q5 w _ ?hi ?hb B5.out).mono ?_); (case hi => exact ⟨hK_ HI.out.1, HI.out.2⟩); (case hb => exact hC_); rintro e w8 ⟨rfl, hI, hB, hK⟩; refine ⟨_, rfl, ?_⟩; replace HO := a_ (Kd.R_mono (Kd.R_keep (IsS86.apart (show IsS86 w _ gT _ from ⟨hK_ HI.out.1, HI.out.2⟩) (hR_ HO.out) (by decide)) hK (fun _ h_ => h_.2)) (fun _ h_ => h_.1)); replace BR := a_ (blk_keepb (hK_ BR.out) hK hRT); replace BN := a_ (blk_keepb (hK_ BN.out) hK hNT); replace HI := a_ hI; replace HB := a_ hB; clear hI hB hK; obtain ⟨hz0, hz1, hz2, hz3, hf0, hf1, hf2, hf3⟩ := bx4_ BN.out)
     | ((with_reducible refine gate_callee (f := 19) rfl ?_); refine goesL_ _ rfl rfl Tryz.func19 (by kernel_rfl) rfl #[.agg #[.int .i64 n0, .int .i64 nn, .slice A l.length c, .string t4]] rfl hL_ ?_; (with_reducible refine (record_Put.calls k n0 nn A c l t4 p1 p2 _ ?hr ?hc B6.out (GOK.below hG hC_)).mono ?_); (case hr => exact (Kd.R_reads' (Kd.R_mono (rF_ (Kd.R_types (hR_ HO.out) (hK_ BN.out) (by decide))) (fun _ h_ => h_.1))).2.2); (case hc => exact (Kd.R_reads' HO.out).2.1); rintro e w9 ⟨rfl, hb⟩; refine ⟨_, rfl, ?_⟩; have P0 := a_ (Kd.R_below (Kd.R_mono (rF_ (Kd.R_types (hR_ HO.out) (hK_ BN.out) (by decide))) (fun _ h_ => h_.1)) hb); have BR2 := a_ (blk_below (bF_ (hK_ BR.out) hRN) hb); have BN2 := a_ (blk_below (g := gN) (o := .cells #[.int .i64 n0, .int .i64 nn, .slice A l.length c, .string t4] 41 (0, 0)) (bP_ (hK_ BN.out)) hb); replace HB := a_ (below_step hC_ hb); clear hb HO BR BN; have HO := P0; have BR := BR2; have BN := BN2; clear P0 BR2 BN2; obtain ⟨i0, i1, i2, i3, h0, h1, h2, h3⟩ := bx4_ BN.out; obtain ⟨hu0, hu1, hu2, hu3, hv0, hv1, hv2, hv3⟩ := bx4_ BR.out))
    have h := HH.out
    clear HH
    by_cases c30 : p2 = 0
    case neg =>
     rw [if_neg c30] at h
     simp only [Option.some.injEq, Prod.mk.injEq] at h
     obtain ⟨rfl, rfl, rfl, rfl, rfl⟩ := h
     have c30a : (p2 == 0) = false := beq_eq_false_iff_ne.mpr c30
     have c30b : (p2 != 0) = true := bne_iff_ne.mpr c30
     clear c30
     go_wp2
     refine bodyPost_ret (results_ct rfl _ _ gR 41 #[.int .i64 0, .int .i64 0, .slice none 0 0, .string ⟨#[]⟩] (0, 0) _ rfl (by (with_reducible repeat (first | refine blk_drewN ?_ _ | refine blk_drew ?_ | refine blk_alloc ?_ _)); exact (bP_ (bP_ (bP_ (bP_ (hK_ BR.out)))))) huN rfl (by kernel_rfl)) rfl ?_
     exact ⟨_, hV_, Kd.R_nil _ _ _ _ _, hC_⟩
    rw [if_pos c30] at h
    have c30a : (p2 == 0) = true := beq_iff_eq.mpr c30
    have c30b : (p2 != 0) = false := bne_eq_false_iff_eq.mpr c30
    clear c30
    by_cases c31 : p1.toList = s.toList
    case neg =>
     rw [if_neg c31] at h
     simp only [Option.some.injEq, Prod.mk.injEq] at h
     obtain ⟨rfl, rfl, rfl, rfl, rfl⟩ := h
     have c31a : (p1.toList == s.toList) = false := beq_eq_false_iff_ne.mpr c31
     have c31b : (p1.toList != s.toList) = true := bne_iff_ne.mpr c31
     clear c31
     go_wp2
     refine bodyPost_ret (results_ct rfl _ _ gR 41 #[.int .i64 0, .int .i64 0, .slice none 0 0, .string ⟨#[]⟩] (0, 0) _ rfl (by (with_reducible repeat (first | refine blk_drewN ?_ _ | refine blk_drew ?_ | refine blk_alloc ?_ _)); exact (bP_ (bP_ (bP_ (bP_ (hK_ BR.out)))))) huN rfl (by kernel_rfl)) rfl ?_
     exact ⟨_, hV_, Kd.R_nil _ _ _ _ _, hC_⟩
    rw [if_pos c31] at h
    simp only [Option.some.injEq, Prod.mk.injEq] at h
    obtain ⟨rfl, rfl, rfl, rfl, rfl⟩ := h
    have c31a : (p1.toList == s.toList) = true := beq_iff_eq.mpr c31
    have c31b : (p1.toList != s.toList) = false := bne_eq_false_iff_eq.mpr c31
    clear c31
    go_wp2
    refine bodyPost_ret (results_ct rfl _ _ gR 41 #[.int .i64 n0, .int .i64 nn, .slice A l.length c, .string t4] (0, 0) _ rfl (by (with_reducible repeat (first | refine blk_drewN ?_ _ | refine blk_drew ?_ | refine blk_alloc ?_ _)); exact (bP_ (bP_ (bP_ (bP_ (hK_ BR.out)))))) huN rfl (by kernel_rfl)) rfl ?_
    exact ⟨_, hV_, by skip; (with_reducible repeat (first | apply Kd.R_alloc | apply Kd.R_drewN | apply Kd.R_drew)); exact Kd.R_mono (rF_ (rF_ (rF_ (rF_ (Kd.R_types (hR_ HO.out) (hK_ BR.out) (by decide)))))) (fun _ h_ => h_.1), hC_⟩
   rw [if_pos c22] at H
   have c22b0 : decide (x < m) = true := decide_eq_true c22
   clear c22
   obtain ⟨⟨tt, q2⟩, A24, H⟩ := Option.bind_eq_some_iff.mp H
   have A24 := a_ A24
   dsimp only at H
   replace H := ifI_ H; obtain ⟨c25, H⟩ := H
   have LM := a_ c25
   obtain ⟨y, hy⟩ : ∃ y, y = l ++ [tt] := ⟨_, rfl⟩
   rw [← hy] at H
   have NY := a_ hy
   have H' := a_ H
   clear H hy c25
   try go_wp2
   refine start_ (n := 8) (S := fun w' => w'.cell? ⟨gN, 2, none⟩ = some (.slice A l.length c)) (ds := [7]) #[false, false, false, false, false, false, false, false] (by kernel_rfl) rfl rfl ((blk_cell BN.out 2).trans rfl) (fun hHeld => ?_)
   refine with_tabW record_Get.tab5 record_Get.bits5 (fun HT_ HW_ => ?_)
   refine pB_ 0 22 HT_.out ?_
   refine pB_ 2 24 HT_.out ?_
   refine tB_ 1 23 HT_.out HW_.out hHeld ?_
   refine one_ (i := 3) (N := some 25) #[true, true, true, true, false, false, false, false] rfl rfl (one_of HT_.out (by kernel_rfl)) (by decide) (fun K hK => ?_)
   refine goes_ Tryz.func47 (by kernel_rfl) rfl #[.pointer (some ⟨gT, 0, none⟩)] (by rfl) rfl rfl hL_ ?_
   with_reducible refine (record_taker_text.calls k2 gT q tt q2 w _ ?hi ?hb A24.out).mono ?_
   (case hi => exact ⟨hK_ HI.out.1, HI.out.2⟩)
   (case hb => exact hC_)
   rintro e w8 ⟨rfl, hI, hB, hkk⟩
   refine ⟨_, rfl, ?_⟩
   replace HO := a_ (Kd.R_mono (Kd.R_keep (IsS86.apart (show IsS86 w _ gT _ from ⟨hK_ HI.out.1, HI.out.2⟩) (hR_ HO.out) (by decide)) hkk (fun _ h_ => h_.2)) (fun _ h_ => h_.1))
   replace BR := a_ (blk_keepb (hK_ BR.out) hkk hRT)
   replace BN := a_ (blk_keepb (hK_ BN.out) hkk hNT)
   replace HI := a_ hI
   replace HB := a_ hB
   clear hI hB hkk
   refine hK.out _ _ ((blk_cell BN.out 2).trans rfl) (fun hHeld => ?_)
   clear hK K
   refine norm_ (a' := ?_) ?_ ?_
   rotate_left
   · show Act.put _ (some 25) _ = _
     simp only [Act.put, List.setIfInBounds_toArray, List.set_cons_zero, List.set_cons_succ, i64_w, i32_w]
     rfl
   refine one_ (i := 4) (N := some 26) #[true, true, true, true, true, false, false, false] rfl rfl (one_of HT_.out (by kernel_rfl)) (by decide) (fun K hK => ?_)
   refine value_ (w1 := ?_) (v := ?_) (by rfl) rfl ?_ ?_
   rotate_left 2
   · go_simp
     constructor
     · rfl
     · rfl
   refine hK.out _ _ ((blk_cell (blk_alloc BN.out _) 2).trans rfl) (fun hHeld => ?_)
   clear hK K
   refine norm_ (a' := ?_) ?_ ?_
   rotate_left
   · show Act.put _ (some 26) _ = _
     simp only [Act.put, List.setIfInBounds_toArray, List.set_cons_zero, List.set_cons_succ, i64_w, i32_w]
     rfl
   refine one_ (i := 5) (N := some 27) #[true, true, true, true, true, true, false, false] rfl rfl (one_of HT_.out (by kernel_rfl)) (by decide) (fun K hK => ?_)
   refine Kd.R_append_step Kd.string (w0 := w) w.heap.size (by rfl) (.tmp 23) (.tmp 26) 39 9 (.string ⟨#[]⟩) 16 rfl Tryz.underlying39 info9 rfl (by decide) (by omega) (.slice A l.length c) l tt [.string tt] (fun _ => True) (fun _ => False) rfl rfl ?aP (fun _ hk => hk.elim) ?aF ?aO ?aB ?aS ?aL ?_
   (case aP => exact rfl)
   (case aB => exact hC_)
   (case aF => exact fun _ _ => trivial)
   (case aO => exact (hR_ HO.out))
   (case aS => exact (below_size hC_))
   (case aL => have := LM.out; omega)
   intro v0 w9 ho hb hg hat
   rw [← NY.out] at ho
   have hne_ := IsS86.own_ne HI.out HO.out (by decide)
   replace BN := a_ (blk_grown (hK_ BN.out) hg (Kd.R_ne HO.out BN.out (by decide)))
   replace BR := a_ (blk_grown (hK_ BR.out) hg (Kd.R_ne HO.out BR.out (by decide)))
   replace HI := a_ (show IsS86 w w9 gT q2 from ⟨blk_grown (hK_ HI.out.1) hg hne_, HI.out.2⟩)
   replace HB := a_ hb
   replace HO := a_ ho
   clear ho hb hg hat hne_
   obtain ⟨A2, c2, rfl⟩ := Kd.R_slice HO.out
   refine hK.out _ _ ((blk_cell BN.out 2).trans rfl) (fun hHeld => ?_)
   clear hK K
   refine norm_ (a' := ?_) ?_ ?_
   rotate_left
   · show Act.put _ (some 27) _ = _
     simp only [Act.put, List.setIfInBounds_toArray, List.set_cons_zero, List.set_cons_succ, i64_w, i32_w]
     rfl
   refine pB_ 6 28 HT_.out ?_
   refine last_ (i := 7) (N := none) #[true, true, true, true, true, true, true, true] rfl rfl (one_of HT_.out (by kernel_rfl)) (by decide) (fun K hK => ?_)
   have hs44 := bc2_ BN.out
   have hfs44 := blk_frozen BN.out 2
   refine skip_ (w1 := ?_) (by rfl) rfl ?_ ?_
   rotate_left
   · go_simp
     rfl
   refine hK.out _ _ ?_
   clear hK K
   refine done_ (done_of HT_.out (by kernel_rfl)) ?_
   try go_wp2
   go_roundg k2
   case measure => have := HK2.out; omega
   case rel => exact ⟨(wrap64 (x + 1)), y, q2, _, hW_, H', ⟨by have := HK2.out; omega⟩, ⟨by skip; (with_reducible repeat (first | apply Kd.R_alloc | apply Kd.R_drewN | apply Kd.R_drew)); exact (Kd.R_mono (rF_ (Kd.R_types (hR_ HO.out) (hK_ BN.out) (by decide))) (fun _ h_ => h_.1))⟩, ⟨by (with_reducible repeat (first | refine blk_drewN ?_ _ | refine blk_drew ?_ | refine blk_alloc ?_ _)); exact (bP_ (hK_ BN.out))⟩, ⟨by (with_reducible repeat (first | refine blk_drewN ?_ _ | refine blk_drew ?_ | refine blk_alloc ?_ _)); exact (bF_ (hK_ BR.out) hRN)⟩, ⟨⟨by (with_reducible repeat (first | refine blk_drewN ?_ _ | refine blk_drew ?_ | refine blk_alloc ?_ _)); exact (bF_ (hK_ HI.out.1) hTN), HI.out.2⟩⟩, ⟨hC_⟩⟩

set_option maxHeartbeats 8000000
set_option maxRecDepth 100000
attribute [local go_sem] max2_int min2_int max_two min_two max_three min_three max_four min_four   -- for this text's walks alone
set_option linter.unusedVariables false
set_option linter.unusedSimpArgs false

/-- A state of type 90 at block g of W; what its slices lead to came in by w0. -/
def IsS90 (w0 W : World) (g : Nat) (f0 : ByteArray) (f1 : Bool) : Prop := W.heap[g]? = some (.cells #[.string f0, .bool f1] 90 (0, 0)) ∧ w0.heap.size ≤ g
theorem IsS90.grown {w0 W : World} {g : Nat} {f0 : ByteArray} {f1 : Bool} {W1 : World} {row : Option Nat} (h : IsS90 w0 W g f0 f1) (hw : W.grownBy W1 row) (hne : some g ≠ row) : IsS90 w0 W1 g f0 f1 := by
 obtain ⟨hb, hg⟩ := h
 exact ⟨blk_grown hb hw hne, hg⟩
theorem IsS90.kept {w0 W : World} {g : Nat} {f0 : ByteArray} {f1 : Bool} {W1 : World} {S : Nat → Prop} (h : IsS90 w0 W g f0 f1) (hk : Kept W W1 S) (hne : ¬ S g) : IsS90 w0 W1 g f0 f1 := by
 obtain ⟨hb, hg⟩ := h
 exact ⟨blk_kept hb hk hne, hg⟩
theorem IsS90.below {w0 W : World} {g : Nat} {f0 : ByteArray} {f1 : Bool} {W1 : World} (h : IsS90 w0 W g f0 f1) (hw : Below W.heap.size W W1) : IsS90 w0 W1 g f0 f1 := h.grown (grown_of_below hw none) (by simp)
theorem IsS90.alloc {w0 W : World} {g : Nat} {f0 : ByteArray} {f1 : Bool} (h : IsS90 w0 W g f0 f1) (o : Obj) : IsS90 w0 (W.alloc o) g f0 f1 := h.below (below_alloc (Below.refl _ _) o)
theorem IsS90.drewN {w0 W : World} {g : Nat} {f0 : ByteArray} {f1 : Bool} (h : IsS90 w0 W g f0 f1) (m : Nat) : IsS90 w0 (W.drewN m) g f0 f1 := h
theorem IsS90.drew {w0 W : World} {g : Nat} {f0 : ByteArray} {f1 : Bool} (h : IsS90 w0 W g f0 f1) : IsS90 w0 W.drew g f0 f1 := h
theorem IsS90.at_ {w0 W : World} {g : Nat} {f0 : ByteArray} {f1 : Bool} {w' : World} {m : Nat} (hq : W.drewN m = w') (h : IsS90 w0 W g f0 f1) : IsS90 w0 w' g f0 f1 := by subst hq; exact IsS90.drewN h m
theorem IsS90.apart {w0 W : World} {g : Nat} {f0 : ByteArray} {f1 : Bool} {α : Type} {d : Kd α} {e : Nat} {base : Nat} {ok : Nat → Prop} {v : Value} {xs : List α} (h : IsS90 w0 W g f0 f1) (ho : d.R e W base ok v xs) (ht : ∀ q, q ∈ e :: d.E → q ≠ 90) : d.R e W base (fun k => ok k ∧ k ≠ g) v xs := by
 obtain ⟨hb, hg⟩ := h
 exact Kd.R_types ho hb ht
theorem IsS90.own_ne {w0 W : World} {g : Nat} {f0 : ByteArray} {f1 : Bool} {α : Type} {d : Kd α} {e : Nat} {base : Nat} {ok : Nat → Prop} {v : Value} {xs : List α} (h : IsS90 w0 W g f0 f1) (ho : d.R e W base ok v xs) (ht : e ≠ 90) : some g ≠ v.ownBlock := by
 obtain ⟨hb, hg⟩ := h
 exact Kd.R_ne ho hb ht
theorem IsS90.lt {w0 W : World} {g : Nat} {f0 : ByteArray} {f1 : Bool} (h : IsS90 w0 W g f0 f1) : g < W.heap.size := by
 obtain ⟨hb, hg⟩ := h
 exact blk_lt hb
theorem IsS90.ge {w0 W : World} {g : Nat} {f0 : ByteArray} {f1 : Bool} (h : IsS90 w0 W g f0 f1) : w0.heap.size ≤ g := by
 obtain ⟨hb, hg⟩ := h
 exact hg
theorem cellS90_0 {W : World} {g : Nat} {f0 : ByteArray} {f1 : Bool} (h : W.heap[g]? = some (.cells #[.string f0, .bool f1] 90 (0, 0))) : W.cell? ⟨g, 0, none⟩ = some (.string f0) := (blk_cell h 0).trans rfl
theorem IsS90.set_0 {w0 W : World} {g : Nat} {f0 : ByteArray} {f1 : Bool} (h : IsS90 w0 W g f0 f1) (x : ByteArray) : IsS90 w0 (W.setCell ⟨g, 0, none⟩ (.string x)) g x f1 := by
 obtain ⟨hb, hg⟩ := h
 exact ⟨by simpa using blk_set hb 0 (.string x), hg⟩
theorem IsS90.set_0e {w0 W : World} {g : Nat} {f0 : ByteArray} {f1 : Bool} (h : IsS90 w0 W g f0 f1) (x y_ : ByteArray) (e_ : y_ = x) : IsS90 w0 (W.setCell ⟨g, 0, none⟩ (.string x)) g y_ f1 := by subst e_; exact IsS90.set_0 h _
theorem cellS90_1 {W : World} {g : Nat} {f0 : ByteArray} {f1 : Bool} (h : W.heap[g]? = some (.cells #[.string f0, .bool f1] 90 (0, 0))) : W.cell? ⟨g, 1, none⟩ = some (.bool f1) := (blk_cell h 1).trans rfl
theorem IsS90.set_1 {w0 W : World} {g : Nat} {f0 : ByteArray} {f1 : Bool} (h : IsS90 w0 W g f0 f1) (x : Bool) : IsS90 w0 (W.setCell ⟨g, 1, none⟩ (.bool x)) g f0 x := by
 obtain ⟨hb, hg⟩ := h
 exact ⟨by simpa using blk_set hb 1 (.bool x), hg⟩
theorem IsS90.new (w0 W : World) (f0 : ByteArray) (f1 : Bool) (hB : Below w0.heap.size w0 W) : IsS90 w0 (W.alloc (.cells #[.string f0, .bool f1] 90)) W.heap.size f0 f1 := ⟨by simpa using heap_alloc_new W _, hB.size⟩

def sleuthref12_reader_num.l0 : Nat → Int → Int → Int → ByteArray → Bool → Option (Int × ByteArray × Bool)
 | 0, _, _, _, _, _ => none
 | k + 1, x1, x5, x6, x1000, x1001 => if x6 ≥ 0 then (if 0 ≤ x6 then (if x6 < (x1000.size : Int) then (sleuthref12_reader_num.l0 k x1 (Go.bits .or .i64 (wrap64 (x5 * 256)) (wrap64 (bt x1000 x6))) (wrap64 (x6 - 1)) x1000 x1001) else (none)) else (none)) else (if 0 ≤ x1 then (if x1 ≤ (x1000.size : Int) then (some (x5, x1000.extract (x1 : Int).toNat x1000.size, x1001)) else (none)) else (none))
def sleuthref12_reader_num.f (k : Nat) (s0_0 : ByteArray) (s0_1 : Bool) (a1 : Int) : Option (Int × ByteArray × Bool) := if a1 > (s0_0.size : Int) then (some (0, s0_0, true)) else (sleuthref12_reader_num.l0 k a1 0 (wrap64 (a1 - 1)) s0_0 s0_1)
theorem sleuthref12_reader_num.calls (k : Nat) (g : Nat) (s0_0 : ByteArray) (s0_1 : Bool) (a1 : Int) (r1 : Int) (r2 : ByteArray) (r3 : Bool) (w0 w : World) (hI : IsS90 w0 w g s0_0 s0_1) (hB : Below w0.heap.size w0 w) (h : sleuthref12_reader_num.f k s0_0 s0_1 a1 = some (r1, r2, r3)) :
 Calls Tryz.prog 48 #[.pointer (some ⟨g, 0, none⟩), .int .i64 a1] w fun e w' => e = .returned (.int .i64 r1) ∧ IsS90 w0 w' g r2 r3 ∧ Below w0.heap.size w0 w' ∧ KeepBut w w' g none := by
 have HI0 := a_ hI
 have HK := a_ (KeepBut.refl w g none)
 have HL := a_ hB.size
 clear hI
 have HW0 := a_ hB.size
 have HB := a_ hB
 clear hB
 have H := h; unfold sleuthref12_reader_num.f at H
 clear h
 by_cases c3 : a1 > (s0_0.size : Int)
 case pos =>
  rw [if_pos c3] at H
  have c3b0 : decide ((s0_0.size : Int) < a1) = true := decide_eq_true c3
  clear c3
  simp only [Option.some.injEq, Prod.mk.injEq] at H
  obtain ⟨rfl, rfl, rfl⟩ := H
  obtain ⟨HGz4, hgz4⟩ := HI0.out
  have z0 := cellS90_0 HGz4
  have z1 := cellS90_1 HGz4
  have f0 := blk_frozen HGz4 0
  have f1 := blk_frozen HGz4 1
  clear HGz4 hgz4
  go_enter Tryz.func48, Tryz.ntmps48
  go_wp2
  go_ret
  exact ⟨hV_, by repeat (first | (with_reducible first | exact HI0.out | apply IsS90.alloc | apply IsS90.drewN | apply IsS90.drew | apply IsS90.set_0 | apply IsS90.set_1) | exact HI0.out), by repeat (first | (with_reducible first | exact HB.out | apply below_alloc | apply pw_below_drewN | apply below_drew1 | refine below_set ?_ (IsS90.ge HI0.out)) | exact HB.out), by repeat (first | (with_reducible first | exact HK.out | apply KeepBut.set_ | apply keep_drewN | apply keep_drew | apply keep_alloc) | exact HK.out)⟩
 rw [if_neg c3] at H
 have c3b0 : decide ((s0_0.size : Int) < a1) = false := decide_eq_false c3
 clear c3
 have H' := a_ H
 clear H
 obtain ⟨HGz5, hgz5⟩ := HI0.out
 have z2 := cellS90_0 HGz5
 have z3 := cellS90_1 HGz5
 have f2 := blk_frozen HGz5 0
 have f3 := blk_frozen HGz5 1
 clear HGz5 hgz5
 go_enter Tryz.func48, Tryz.ntmps48
 go_wp2
 go_loopg [5, 6] k (fun kq v5 v6 w' => ∃ (x1 : Int) (x0 : Int), v5 = .int .i64 x1 ∧ v6 = .int .i64 x0 ∧ Aside0 (sleuthref12_reader_num.l0 kq a1 x1 x0 s0_0 s0_1 = some (r1, r2, r3)) ∧ Aside0 (kq ≤ k) ∧ Aside0 (IsS90 w0 w' g s0_0 s0_1) ∧ Aside0 (KeepBut w w' g none) ∧ Aside0 (Below w0.heap.size w0 w'))
 case atStart => exact ⟨(0), (wrap64 (a1 - 1)), hW_, hW_, H', ⟨Nat.le_refl _⟩, ⟨by repeat (first | (with_reducible first | exact HI0.out | apply IsS90.alloc | apply IsS90.drewN | apply IsS90.drew | apply IsS90.set_0 | apply IsS90.set_1) | exact HI0.out)⟩, ⟨by repeat (first | (with_reducible first | exact HK.out | apply KeepBut.set_ | apply keep_drewN | apply keep_drew | apply keep_alloc) | exact HK.out)⟩, ⟨by repeat (first | (with_reducible first | exact HB.out | apply below_alloc | apply pw_below_drewN | apply below_drew1 | refine below_set ?_ (IsS90.ge HI0.out)) | exact HB.out)⟩⟩
 case round =>
  clear H'
  try clear p2
  try clear c3
  try clear c3b0
  try clear c4
  try clear z0
  try clear z1
  try clear z2
  try clear z3
  try clear f0
  try clear f1
  try clear f2
  try clear f3
  obtain ⟨x1, x0, rfl, rfl, HA, HK1, HI0, HK, HB⟩ := hrel
  cases gk with
  | zero => exact absurd HA.out (by simp [sleuthref12_reader_num.l0])
  | succ k1 =>
   have H := HA.out
   clear HA
   simp only [sleuthref12_reader_num.l0] at H
   by_cases c6 : x0 ≥ 0
   case neg =>
    rw [if_neg c6] at H
    have c6b0 : decide (0 ≤ x0) = false := decide_eq_false c6
    clear c6
    replace H := ifI_ H; obtain ⟨c11, H⟩ := H
    have c11b0 := eq_true c11
    have c11b1 : decide (0 ≤ a1) = true := decide_eq_true c11
    clear c11
    replace H := ifI_ H; obtain ⟨c12, H⟩ := H
    have c12b0 := eq_true c12
    have c12b1 : decide (a1 ≤ (s0_0.size : Int)) = true := decide_eq_true c12
    clear c12
    simp only [Option.some.injEq, Prod.mk.injEq] at H
    obtain ⟨rfl, rfl, rfl⟩ := H
    obtain ⟨HGz13, hgz13⟩ := HI0.out
    have z4 := cellS90_0 HGz13
    have z5 := cellS90_1 HGz13
    have f4 := blk_frozen HGz13 0
    have f5 := blk_frozen HGz13 1
    clear HGz13 hgz13
    go_wp2
    go_ret
    exact ⟨hV_, by repeat (first | (with_reducible first | exact HI0.out | apply IsS90.alloc | apply IsS90.drewN | apply IsS90.drew | apply IsS90.set_0 | apply IsS90.set_1) | exact HI0.out), by repeat (first | (with_reducible first | exact HB.out | apply below_alloc | apply pw_below_drewN | apply below_drew1 | refine below_set ?_ (IsS90.ge HI0.out)) | exact HB.out), by repeat (first | (with_reducible first | exact HK.out | apply KeepBut.set_ | apply keep_drewN | apply keep_drew | apply keep_alloc) | exact HK.out)⟩
   rw [if_pos c6] at H
   have c6b0 : decide (0 ≤ x0) = true := decide_eq_true c6
   clear c6
   replace H := ifI_ H; obtain ⟨c7, H⟩ := H
   have c7b0 : decide (0 ≤ x0) = true := decide_eq_true c7
   clear c7
   replace H := ifI_ H; obtain ⟨c8, H⟩ := H
   have c8b0 : decide (x0 < (s0_0.size : Int)) = true := decide_eq_true c8
   clear c8
   have H' := a_ H
   clear H
   obtain ⟨HGz10, hgz10⟩ := HI0.out
   have z6 := cellS90_0 HGz10
   have z7 := cellS90_1 HGz10
   have f6 := blk_frozen HGz10 0
   have f7 := blk_frozen HGz10 1
   clear HGz10 hgz10
   have p9 : 0 ≤ (x0 : Int) := of_decide_eq_true hA_
   have q9 : x0 < (s0_0.size : Int) := of_decide_eq_true hA_
   have h0 := bt_at s0_0 x0
   replace p9 := eq_true p9
   replace q9 := eq_true q9
   go_wp2
   go_roundg k1
   case measure => have := HK1.out; omega
   case rel => exact ⟨(Go.bits .or .i64 (wrap64 (x1 * 256)) (wrap64 (bt s0_0 x0))), (wrap64 (x0 - 1)), hW_, hW_, H', ⟨by have := HK1.out; omega⟩, ⟨by repeat (first | (with_reducible first | exact HI0.out | apply IsS90.alloc | apply IsS90.drewN | apply IsS90.drew | apply IsS90.set_0 | apply IsS90.set_1) | exact HI0.out)⟩, ⟨by repeat (first | (with_reducible first | exact HK.out | apply KeepBut.set_ | apply keep_drewN | apply keep_drew | apply keep_alloc) | exact HK.out)⟩, ⟨by repeat (first | (with_reducible first | exact HB.out | apply below_alloc | apply pw_below_drewN | apply below_drew1 | refine below_set ?_ (IsS90.ge HI0.out)) | exact HB.out)⟩⟩
def sleuthref12_reader_text.f (k : Nat) (s0_0 : ByteArray) (s0_1 : Bool) : Option (ByteArray × ByteArray × Bool) := (sleuthref12_reader_num.f k s0_0 s0_1 2).bind fun bt314 => (if bt314.1 > (bt314.2.1.size : Int) then (some ((⟨#[]⟩ : ByteArray), bt314.2.1, true)) else (if 0 ≤ bt314.1 then (if bt314.1 ≤ (bt314.2.1.size : Int) then (some (bt314.2.1.extract 0 (bt314.1 : Int).toNat, bt314.2.1.extract (bt314.1 : Int).toNat bt314.2.1.size, bt314.2.2)) else (none)) else (none)))
theorem sleuthref12_reader_text.calls (k : Nat) (g : Nat) (s0_0 : ByteArray) (s0_1 : Bool) (r1 : ByteArray) (r2 : ByteArray) (r3 : Bool) (w0 w : World) (hI : IsS90 w0 w g s0_0 s0_1) (hB : Below w0.heap.size w0 w) (h : sleuthref12_reader_text.f k s0_0 s0_1 = some (r1, r2, r3)) :
 Calls Tryz.prog 49 #[.pointer (some ⟨g, 0, none⟩)] w fun e w' => e = .returned (.string r1) ∧ IsS90 w0 w' g r2 r3 ∧ Below w0.heap.size w0 w' ∧ KeepBut w w' g none := by
 have HI0 := a_ hI
 have HK := a_ (KeepBut.refl w g none)
 have HL := a_ hB.size
 clear hI
 have HW0 := a_ hB.size
 have HB := a_ hB
 clear hB
 have H := h; unfold sleuthref12_reader_text.f at H
 clear h
 replace H := Option.bind_eq_some_iff.mp H
 obtain ⟨⟨t0, t1, t2⟩, A20, H⟩ := H
 try dsimp only at H
 have A2 := a_ A20
 clear A20
 by_cases c3 : t0 > (t1.size : Int)
 case pos =>
  rw [if_pos c3] at H
  have c3b0 : decide ((t1.size : Int) < t0) = true := decide_eq_true c3
  clear c3
  simp only [Option.some.injEq, Prod.mk.injEq] at H
  obtain ⟨rfl, rfl, rfl⟩ := H
  go_enter Tryz.func49, Tryz.ntmps49
  go_wp2_with (first | ((with_reducible refine gate_callee (f := 48) rfl ?_); refine goesL_ (some 6) rfl rfl Tryz.func48 (by kernel_rfl) rfl #[.pointer (some ⟨g, 0, none⟩), .int .i64 2] rfl hL_ ?_; (with_reducible refine (sleuthref12_reader_num.calls k g s0_0 s0_1 2 t0 t1 t2 w0 _ ?s1 ?s2 A2.out).mono ?_); (case s1 => repeat (first | (with_reducible first | exact HI0.out | apply IsS90.alloc | apply IsS90.drewN | apply IsS90.drew | apply IsS90.set_0 | apply IsS90.set_1) | exact HI0.out)); (case s2 => repeat (first | (with_reducible first | exact HB.out | apply below_alloc | apply pw_below_drewN | apply below_drew1 | refine below_set ?_ (IsS90.ge HI0.out)) | exact HB.out)); rintro e w4 ⟨rfl, hi, hb, hk⟩; refine ⟨_, rfl, ?_⟩; replace HK := a_ (KeepBut.trans (by repeat (first | (with_reducible first | exact HK.out | apply KeepBut.set_ | apply keep_drewN | apply keep_drew | apply keep_alloc) | exact HK.out)) hk (.inl rfl)); replace HB := a_ (hb); replace HI0 := a_ (hi); (try clear hb); (try clear hb2); (try clear hk); (try clear hi); obtain ⟨HGz5, hgz5⟩ := HI0.out; have z0 := cellS90_0 HGz5; have z1 := cellS90_1 HGz5; have f0 := blk_frozen HGz5 0; have f1 := blk_frozen HGz5 1; clear HGz5 hgz5))
  go_ret
  exact ⟨hV_, by repeat (first | (with_reducible first | exact HI0.out | apply IsS90.alloc | apply IsS90.drewN | apply IsS90.drew | apply IsS90.set_0 | apply IsS90.set_1) | exact HI0.out), by repeat (first | (with_reducible first | exact HB.out | apply below_alloc | apply pw_below_drewN | apply below_drew1 | refine below_set ?_ (IsS90.ge HI0.out)) | exact HB.out), by repeat (first | (with_reducible first | exact HK.out | apply KeepBut.set_ | apply keep_drewN | apply keep_drew | apply keep_alloc) | exact HK.out)⟩
 rw [if_neg c3] at H
 have c3b0 : decide ((t1.size : Int) < t0) = false := decide_eq_false c3
 clear c3
 replace H := ifI_ H; obtain ⟨c6, H⟩ := H
 have c6b0 := eq_true c6
 have c6b1 : decide (0 ≤ t0) = true := decide_eq_true c6
 clear c6
 replace H := ifI_ H; obtain ⟨c7, H⟩ := H
 have c7b0 := eq_true c7
 have c7b1 : decide (t0 ≤ (t1.size : Int)) = true := decide_eq_true c7
 clear c7
 have c8b0 := eq_true (of_decide_eq_true hA_ : 0 ≤ t0)
 have c9b0 := eq_true (of_decide_eq_true hA_ : t0 ≤ (t1.size : Int))
 simp only [Option.some.injEq, Prod.mk.injEq] at H
 obtain ⟨rfl, rfl, rfl⟩ := H
 go_enter Tryz.func49, Tryz.ntmps49
 go_wp2_with (first | ((with_reducible refine gate_callee (f := 48) rfl ?_); refine goesL_ (some 6) rfl rfl Tryz.func48 (by kernel_rfl) rfl #[.pointer (some ⟨g, 0, none⟩), .int .i64 2] rfl hL_ ?_; (with_reducible refine (sleuthref12_reader_num.calls k g s0_0 s0_1 2 t0 t1 t2 w0 _ ?s1 ?s2 A2.out).mono ?_); (case s1 => repeat (first | (with_reducible first | exact HI0.out | apply IsS90.alloc | apply IsS90.drewN | apply IsS90.drew | apply IsS90.set_0 | apply IsS90.set_1) | exact HI0.out)); (case s2 => repeat (first | (with_reducible first | exact HB.out | apply below_alloc | apply pw_below_drewN | apply below_drew1 | refine below_set ?_ (IsS90.ge HI0.out)) | exact HB.out)); rintro e w1 ⟨rfl, hi, hb, hk⟩; refine ⟨_, rfl, ?_⟩; replace HK := a_ (KeepBut.trans (by repeat (first | (with_reducible first | exact HK.out | apply KeepBut.set_ | apply keep_drewN | apply keep_drew | apply keep_alloc) | exact HK.out)) hk (.inl rfl)); replace HB := a_ (hb); replace HI0 := a_ (hi); (try clear hb); (try clear hb2); (try clear hk); (try clear hi); obtain ⟨HGz11, hgz11⟩ := HI0.out; have z2 := cellS90_0 HGz11; have z3 := cellS90_1 HGz11; have f2 := blk_frozen HGz11 0; have f3 := blk_frozen HGz11 1; clear HGz11 hgz11))
 go_ret
 exact ⟨hV_, by repeat (first | (with_reducible first | exact HI0.out | apply IsS90.alloc | apply IsS90.drewN | apply IsS90.drew | apply IsS90.set_0 | apply IsS90.set_1) | exact HI0.out), by repeat (first | (with_reducible first | exact HB.out | apply below_alloc | apply pw_below_drewN | apply below_drew1 | refine below_set ?_ (IsS90.ge HI0.out)) | exact HB.out), by repeat (first | (with_reducible first | exact HK.out | apply KeepBut.set_ | apply keep_drewN | apply keep_drew | apply keep_alloc) | exact HK.out)⟩
set_option maxHeartbeats 8000000
set_option maxRecDepth 100000
attribute [local go_sem] max2_int min2_int max_two min_two max_three min_three max_four min_four   -- for this text's walks alone
set_option linter.unusedVariables false
set_option linter.unusedSimpArgs false

def sleuthref12_GetRecord.l0 : Nat → Int → Int → List ByteArray → ByteArray → Bool → Option (List ByteArray × ByteArray × Bool)
 | 0, _, _, _, _, _ => none
 | k + 1, m, x, l, q, b => if x < m then (if b = true then some (l, q, b) else (sleuthref12_reader_text.f k q b).bind fun t => (if l.length < 1000 then sleuthref12_GetRecord.l0 k m (wrap64 (x + 1)) (l ++ [t.1]) t.2.1 t.2.2 else none)) else some (l, q, b)
def sleuthref12_GetRecord.f (k : Nat) (s : ByteArray) : Option (Int × Int × List ByteArray × ByteArray × Int) := (sleuthref12_reader_num.f k s false 1).bind fun b1 => (sleuthref12_reader_num.f k b1.2.1 b1.2.2 2).bind fun b2 => (sleuthref12_reader_num.f k b2.2.1 b2.2.2 1).bind fun b3 => (sleuthref12_GetRecord.l0 k b3.1 0 [] b3.2.1 b3.2.2).bind fun q => (sleuthref12_reader_text.f k q.2.1 q.2.2).bind fun r => (sleuthref12_PutRecord.f k b1.1 (wrap64 (b2.1 - 1)) q.1 r.1).bind fun p => if r.2.2 = true then some (0, 0, [], (⟨#[]⟩ : ByteArray), 1500) else if p.2 = 0 then (if p.1.toList = s.toList then some (b1.1, wrap64 (b2.1 - 1), q.1, r.1, 0) else some (0, 0, [], (⟨#[]⟩ : ByteArray), 1500)) else some (0, 0, [], (⟨#[]⟩ : ByteArray), 1500)
theorem blk_keepr {W W2 : World} {g g' : Nat} {o : Obj} (h : W.heap[g']? = some o) (hk : KeepBut W W2 g none) (hne : g' ≠ g) : W2.heap[g']? = some o := (hk.2 g' (blk_lt h) hne (by simp)).trans h
theorem sleuthref12_GetRecord.calls (k : Nat) (s : ByteArray) (r1 r2 : Int) (r3 : List ByteArray) (r4 : ByteArray) (r5 : Int) (w : World) (h : sleuthref12_GetRecord.f k s = some (r1, r2, r3, r4, r5)) :
 Calls Tryz.prog 29 #[.string s] w fun e w' => ∃ v2_ : Value, e = .returned (.tuple #[.agg #[.int .i64 r1, .int .i64 r2, v2_, .string r4], .int .i64 r5]) ∧ Kd.R Kd.string 9 w' w.heap.size (fun _ => True) v2_ r3 ∧ Below w.heap.size w w' := by
 have huN := Tryz.underlying41
 have huT := Tryz.underlying90
 have HB := a_ (Below.refl w.heap.size w)
 unfold sleuthref12_GetRecord.f at h
 obtain ⟨⟨n0, s1, b1⟩, B1, h⟩ := Option.bind_eq_some_iff.mp h
 dsimp only at h
 obtain ⟨⟨n1, s2, b2⟩, B2, h⟩ := Option.bind_eq_some_iff.mp h
 dsimp only at h
 obtain ⟨⟨n2, s3, b3⟩, B3, h⟩ := Option.bind_eq_some_iff.mp h
 dsimp only at h
 obtain ⟨⟨ql, qs, qb⟩, B4, h⟩ := Option.bind_eq_some_iff.mp h
 dsimp only at h
 obtain ⟨⟨t4, q5, b5⟩, B5, h⟩ := Option.bind_eq_some_iff.mp h
 dsimp only at h
 obtain ⟨⟨p1, p2⟩, B6, h⟩ := Option.bind_eq_some_iff.mp h
 dsimp only at h
 obtain ⟨nn, hnn⟩ : ∃ y, wrap64 (n1 - 1) = y := ⟨_, rfl⟩
 rw [hnn] at B6 h
 have hnnw : IntKind.i64.wrap (n1 - 1) = nn := (i64_w _).trans hnn
 have B1 := a_ B1
 have B2 := a_ B2
 have B3 := a_ B3
 have H' := a_ B4
 have B5 := a_ B5
 have B6 := a_ B6
 have HH := a_ h
 clear h
 go_enter Tryz.func29, Tryz.ntmps29
 go_wp2_with (first
  | ((with_reducible refine gate_dst (N := 2) rfl ?_); refine boxE_ 2 #[.int .i64 0, .int .i64 0, .slice none 0 0, .string ⟨#[]⟩] 41 ?_; intro gR hg w2 hbox hb; have GR := a_ (gE_ hg : w.heap.size ≤ gR); have BR := a_ hbox; replace HB := a_ (below_step hC_ hb); clear hg hbox hb)
  | ((with_reducible refine gate_dst (N := 13) rfl ?_); refine boxE_ 13 #[.string s, .bool false] 90 ?_; intro gT hg w3 hbox hb; have hRT := (bL_ BR.out hg : gR ≠ gT); have HI := a_ (show IsS90 w w3 gT s false from ⟨hbox, gE_ hg⟩); replace BR := a_ (bB_ BR.out hb); replace HB := a_ (below_step hC_ hb); clear hg hbox hb)
  | ((with_reducible refine gate_callee (f := 48) rfl ?_); refine goesL_ _ rfl rfl Tryz.func48 (by kernel_rfl) rfl #[.pointer (some ⟨gT, 0, none⟩), .int .i64 1] rfl hL_ ?_; (with_reducible refine (sleuthref12_reader_num.calls k gT s false 1 n0 s1 b1 w _ ?hi ?hb B1.out).mono ?_); (case hi => exact ⟨hK_ HI.out.1, HI.out.2⟩); (case hb => exact hC_); rintro e w4 ⟨rfl, hI, hB, hK⟩; refine ⟨_, rfl, ?_⟩; replace BR := a_ (blk_keepr (hK_ BR.out) hK hRT); replace HI := a_ hI; replace HB := a_ hB; clear hI hB hK)
  | ((with_reducible refine gate_callee (f := 48) rfl ?_); refine goesL_ _ rfl rfl Tryz.func48 (by kernel_rfl) rfl #[.pointer (some ⟨gT, 0, none⟩), .int .i64 2] rfl hL_ ?_; (with_reducible refine (sleuthref12_reader_num.calls k gT s1 b1 2 n1 s2 b2 w _ ?hi ?hb B2.out).mono ?_); (case hi => exact ⟨hK_ HI.out.1, HI.out.2⟩); (case hb => exact hC_); rintro e w5 ⟨rfl, hI, hB, hK⟩; refine ⟨_, rfl, ?_⟩; replace BR := a_ (blk_keepr (hK_ BR.out) hK hRT); replace HI := a_ hI; replace HB := a_ hB; clear hI hB hK)
  | ((with_reducible refine gate_dst (N := 5) rfl ?_); refine boxE_ 5 #[.int .i64 0, .int .i64 0, .slice none 0 0, .string ⟨#[]⟩] 41 ?_; intro gN hg w6 hbox hb; have GN := a_ (gE_ hg : w.heap.size ≤ gN); have hRN := (bL_ BR.out hg : gR ≠ gN); have hTN := (bL_ HI.out.1 hg : gT ≠ gN); have hNT := (bG_ HI.out.1 hg : gN ≠ gT); have hNR := (bG_ BR.out hg : gN ≠ gR); have BN := a_ hbox; replace BR := a_ (bB_ BR.out hb); replace HI := a_ (show IsS90 w w6 gT s2 b2 from ⟨bB_ HI.out.1 hb, HI.out.2⟩); replace HB := a_ (below_step hC_ hb); clear hg hbox hb; obtain ⟨hz0, hz1, hz2, hz3, hf0, hf1, hf2, hf3⟩ := bx4_ BN.out)
  | ((with_reducible refine gate_callee (f := 48) rfl ?_); refine goesL_ _ rfl rfl Tryz.func48 (by kernel_rfl) rfl #[.pointer (some ⟨gT, 0, none⟩), .int .i64 1] rfl hL_ ?_; (with_reducible refine (sleuthref12_reader_num.calls k gT s2 b2 1 n2 s3 b3 w _ ?hi ?hb B3.out).mono ?_); (case hi => exact ⟨by (with_reducible repeat (first | refine blk_drewN ?_ _ | refine blk_drew ?_ | refine blk_alloc ?_ _)); exact (bF_ (bF_ (bF_ (bF_ (hK_ HI.out.1) hTN) hTN) hTN) hTN), HI.out.2⟩); (case hb => exact hC_); rintro e w7 ⟨rfl, hI, hB, hK⟩; refine ⟨_, rfl, ?_⟩; replace BR := a_ (blk_keepr (by (with_reducible repeat (first | refine blk_drewN ?_ _ | refine blk_drew ?_ | refine blk_alloc ?_ _)); exact (bF_ (bF_ (bF_ (bF_ (hK_ BR.out) hRN) hRN) hRN) hRN)) hK hRT); have BN2 := a_ (blk_keepr (o := .cells #[.int .i64 n0, .int .i64 nn, .slice none 0 0, .string ⟨#[]⟩] 41 (0, 0)) (by (with_reducible repeat (first | refine blk_drewN ?_ _ | refine blk_drew ?_ | refine blk_alloc ?_ _)); exact (bP_ (bP_ (bP_ (bP_ (hK_ BN.out)))))) hK hNT); clear BN; have BN := BN2; clear BN2; replace HI := a_ hI; replace HB := a_ hB; clear hI hB hK))
 go_loopg [7] k (fun kq v7 w' => ∃ (x : Int) (l : List ByteArray) (q : ByteArray) (b : Bool) (v : Value), v7 = .int .i64 x ∧ Aside0 (sleuthref12_GetRecord.l0 kq n2 x l q b = some (ql, qs, qb)) ∧ Aside0 (kq ≤ k) ∧ Aside0 (Kd.R Kd.string 9 w' w.heap.size (fun _ => True) v l) ∧ Aside0 (w'.heap[gN]? = some (.cells #[.int .i64 n0, .int .i64 nn, v, .string ⟨#[]⟩] 41 (0, 0))) ∧ Aside0 (w'.heap[gR]? = some (.cells #[.int .i64 0, .int .i64 0, .slice none 0 0, .string ⟨#[]⟩] 41 (0, 0))) ∧ Aside0 (IsS90 w w' gT q b) ∧ Aside0 (Below w.heap.size w w'))
 case atStart => exact ⟨0, [], s3, b3, .slice none 0 0, hW_, H', ⟨Nat.le_refl _⟩, ⟨Kd.R_nil _ _ _ _ _⟩, ⟨hK_ BN.out⟩, ⟨hK_ BR.out⟩, ⟨⟨hK_ HI.out.1, HI.out.2⟩⟩, ⟨hC_⟩⟩
 case round =>
  clear H' HB HI BN BR
  obtain ⟨x, l, q, b, v, rfl, HA, HK2, HO, BN, BR, HI, HB⟩ := hrel
  obtain ⟨A, c, rfl⟩ := Kd.R_slice HO.out
  obtain ⟨ht0, ht1, ht2, ht3⟩ := bx2_ HI.out.1
  obtain ⟨hz0, hz1, hz2, hz3, hf0, hf1, hf2, hf3⟩ := bx4_ BN.out
  cases gk with
  | zero => exact absurd HA.out (by simp [sleuthref12_GetRecord.l0])
  | succ k2 =>
   have H := HA.out
   clear HA
   simp only [sleuthref12_GetRecord.l0] at H
   by_cases c22 : x < n2
   case neg =>
    rw [if_neg c22] at H
    have c22b0 : decide (x < n2) = false := decide_eq_false c22
    clear c22
    simp only [Option.some.injEq, Prod.mk.injEq] at H
    obtain ⟨rfl, rfl, rfl⟩ := H
    go_upto_region 11 with (first
     | ((with_reducible refine gate_callee (f := 49) rfl ?_); refine goesL_ _ rfl rfl Tryz.func49 (by kernel_rfl) rfl #[.pointer (some ⟨gT, 0, none⟩)] rfl hL_ ?_; (with_reducible refine (sleuthref12_reader_text.calls k gT q b t4 q5 b5 w _ ?hi ?hb B5.out).mono ?_); (case hi => exact ⟨hK_ HI.out.1, HI.out.2⟩); (case hb => exact hC_); rintro e w8 ⟨rfl, hI, hB, hK⟩; refine ⟨_, rfl, ?_⟩; replace HO := a_ (Kd.R_mono (Kd.R_keep (IsS90.apart (show IsS90 w _ gT _ _ from ⟨hK_ HI.out.1, HI.out.2⟩) (hR_ HO.out) (by decide)) hK (fun _ h_ => h_.2)) (fun _ h_ => h_.1)); replace BR := a_ (blk_keepr (hK_ BR.out) hK hRT); replace BN := a_ (blk_keepr (hK_ BN.out) hK hNT); replace HI := a_ hI; replace HB := a_ hB; clear hI hB hK; obtain ⟨hz0, hz1, hz2, hz3, hf0, hf1, hf2, hf3⟩ := bx4_ BN.out)
     | ((with_reducible refine gate_callee (f := 15) rfl ?_); refine goesL_ _ rfl rfl Tryz.func15 (by kernel_rfl) rfl #[.agg #[.int .i64 n0, .int .i64 nn, .slice A l.length c, .string t4]] rfl hL_ ?_; (with_reducible refine (sleuthref12_PutRecord.calls k n0 nn A c l t4 p1 p2 _ ?hr ?hc B6.out).mono ?_); (case hr => exact (Kd.R_reads' (Kd.R_mono (rF_ (Kd.R_types (hR_ HO.out) (hK_ BN.out) (by decide))) (fun _ h_ => h_.1))).2.2); (case hc => exact (Kd.R_reads' HO.out).2.1); rintro e w9 ⟨rfl, hb⟩; refine ⟨_, rfl, ?_⟩; have P0 := a_ (Kd.R_below (Kd.R_mono (rF_ (Kd.R_types (hR_ HO.out) (hK_ BN.out) (by decide))) (fun _ h_ => h_.1)) hb); have BR2 := a_ (blk_below (bF_ (hK_ BR.out) hRN) hb); have BN2 := a_ (blk_below (g := gN) (o := .cells #[.int .i64 n0, .int .i64 nn, .slice A l.length c, .string t4] 41 (0, 0)) (bP_ (hK_ BN.out)) hb); replace HI := a_ (show IsS90 w w9 gT q5 b5 from ⟨blk_below (bF_ (hK_ HI.out.1) hTN) hb, HI.out.2⟩); replace HB := a_ (below_step hC_ hb); clear hb HO BR BN; have HO := P0; have BR := BR2; have BN := BN2; clear P0 BR2 BN2; obtain ⟨i0, i1, i2, i3, h0, h1, h2, h3⟩ := bx4_ BN.out; obtain ⟨hu0, hu1, hu2, hu3, hv0, hv1, hv2, hv3⟩ := bx4_ BR.out; obtain ⟨ht0, ht1, ht2, ht3⟩ := bx2_ HI.out.1))
    have h := HH.out
    clear HH
    cases b5 with
    | true =>
     rw [if_pos rfl] at h
     simp only [Option.some.injEq, Prod.mk.injEq] at h
     obtain ⟨rfl, rfl, rfl, rfl, rfl⟩ := h
     go_wp2
     refine bodyPost_ret (results_ct rfl _ _ gR 41 #[.int .i64 0, .int .i64 0, .slice none 0 0, .string ⟨#[]⟩] (0, 0) _ rfl (by (with_reducible repeat (first | refine blk_drewN ?_ _ | refine blk_drew ?_ | refine blk_alloc ?_ _)); exact (bP_ (bP_ (bP_ (bP_ (hK_ BR.out)))))) huN rfl (by kernel_rfl)) rfl ?_
     exact ⟨_, hV_, Kd.R_nil _ _ _ _ _, hC_⟩
    | false =>
     rw [if_neg Bool.false_ne_true] at h
     by_cases c30 : p2 = 0
     case neg =>
      rw [if_neg c30] at h
      simp only [Option.some.injEq, Prod.mk.injEq] at h
      obtain ⟨rfl, rfl, rfl, rfl, rfl⟩ := h
      have c30a : (p2 == 0) = false := beq_eq_false_iff_ne.mpr c30
      have c30b : (p2 != 0) = true := bne_iff_ne.mpr c30
      clear c30
      go_wp2
      refine bodyPost_ret (results_ct rfl _ _ gR 41 #[.int .i64 0, .int .i64 0, .slice none 0 0, .string ⟨#[]⟩] (0, 0) _ rfl (by (with_reducible repeat (first | refine blk_drewN ?_ _ | refine blk_drew ?_ | refine blk_alloc ?_ _)); exact (bP_ (bP_ (bP_ (bP_ (hK_ BR.out)))))) huN rfl (by kernel_rfl)) rfl ?_
      exact ⟨_, hV_, Kd.R_nil _ _ _ _ _, hC_⟩
     rw [if_pos c30] at h
     have c30a : (p2 == 0) = true := beq_iff_eq.mpr c30
     have c30b : (p2 != 0) = false := bne_eq_false_iff_eq.mpr c30
     clear c30
     by_cases c31 : p1.toList = s.toList
     case neg =>
      rw [if_neg c31] at h
      simp only [Option.some.injEq, Prod.mk.injEq] at h
      obtain ⟨rfl, rfl, rfl, rfl, rfl⟩ := h
      have c31a : (p1.toList == s.toList) = false := beq_eq_false_iff_ne.mpr c31
      have c31b : (p1.toList != s.toList) = true := bne_iff_ne.mpr c31
      clear c31
      go_wp2
      refine bodyPost_ret (results_ct rfl _ _ gR 41 #[.int .i64 0, .int .i64 0, .slice none 0 0, .string ⟨#[]⟩] (0, 0) _ rfl (by (with_reducible repeat (first | refine blk_drewN ?_ _ | refine blk_drew ?_ | refine blk_alloc ?_ _)); exact (bP_ (bP_ (bP_ (bP_ (hK_ BR.out)))))) huN rfl (by kernel_rfl)) rfl ?_
      exact ⟨_, hV_, Kd.R_nil _ _ _ _ _, hC_⟩
     rw [if_pos c31] at h
     simp only [Option.some.injEq, Prod.mk.injEq] at h
     obtain ⟨rfl, rfl, rfl, rfl, rfl⟩ := h
     have c31a : (p1.toList == s.toList) = true := beq_iff_eq.mpr c31
     have c31b : (p1.toList != s.toList) = false := bne_eq_false_iff_eq.mpr c31
     clear c31
     go_wp2
     refine bodyPost_ret (results_ct rfl _ _ gR 41 #[.int .i64 n0, .int .i64 nn, .slice A l.length c, .string t4] (0, 0) _ rfl (by (with_reducible repeat (first | refine blk_drewN ?_ _ | refine blk_drew ?_ | refine blk_alloc ?_ _)); exact (bP_ (bP_ (bP_ (bP_ (hK_ BR.out)))))) huN rfl (by kernel_rfl)) rfl ?_
     exact ⟨_, hV_, by skip; (with_reducible repeat (first | apply Kd.R_alloc | apply Kd.R_drewN | apply Kd.R_drew)); exact Kd.R_mono (rF_ (rF_ (rF_ (rF_ (Kd.R_types (hR_ HO.out) (hK_ BR.out) (by decide)))))) (fun _ h_ => h_.1), hC_⟩
   rw [if_pos c22] at H
   have c22b0 : decide (x < n2) = true := decide_eq_true c22
   clear c22
   by_cases c23 : b = true
   case pos =>
    rw [if_pos c23] at H
    subst c23
    simp only [Option.some.injEq, Prod.mk.injEq] at H
    obtain ⟨rfl, rfl, rfl⟩ := H
    go_upto_region 11 with (first
     | ((with_reducible refine gate_callee (f := 49) rfl ?_); refine goesL_ _ rfl rfl Tryz.func49 (by kernel_rfl) rfl #[.pointer (some ⟨gT, 0, none⟩)] rfl hL_ ?_; (with_reducible refine (sleuthref12_reader_text.calls k gT q true t4 q5 b5 w _ ?hi ?hb B5.out).mono ?_); (case hi => exact ⟨hK_ HI.out.1, HI.out.2⟩); (case hb => exact hC_); rintro e w8 ⟨rfl, hI, hB, hK⟩; refine ⟨_, rfl, ?_⟩; replace HO := a_ (Kd.R_mono (Kd.R_keep (IsS90.apart (show IsS90 w _ gT _ _ from ⟨hK_ HI.out.1, HI.out.2⟩) (hR_ HO.out) (by decide)) hK (fun _ h_ => h_.2)) (fun _ h_ => h_.1)); replace BR := a_ (blk_keepr (hK_ BR.out) hK hRT); replace BN := a_ (blk_keepr (hK_ BN.out) hK hNT); replace HI := a_ hI; replace HB := a_ hB; clear hI hB hK; obtain ⟨hz0, hz1, hz2, hz3, hf0, hf1, hf2, hf3⟩ := bx4_ BN.out)
     | ((with_reducible refine gate_callee (f := 15) rfl ?_); refine goesL_ _ rfl rfl Tryz.func15 (by kernel_rfl) rfl #[.agg #[.int .i64 n0, .int .i64 nn, .slice A l.length c, .string t4]] rfl hL_ ?_; (with_reducible refine (sleuthref12_PutRecord.calls k n0 nn A c l t4 p1 p2 _ ?hr ?hc B6.out).mono ?_); (case hr => exact (Kd.R_reads' (Kd.R_mono (rF_ (Kd.R_types (hR_ HO.out) (hK_ BN.out) (by decide))) (fun _ h_ => h_.1))).2.2); (case hc => exact (Kd.R_reads' HO.out).2.1); rintro e w9 ⟨rfl, hb⟩; refine ⟨_, rfl, ?_⟩; have P0 := a_ (Kd.R_below (Kd.R_mono (rF_ (Kd.R_types (hR_ HO.out) (hK_ BN.out) (by decide))) (fun _ h_ => h_.1)) hb); have BR2 := a_ (blk_below (bF_ (hK_ BR.out) hRN) hb); have BN2 := a_ (blk_below (g := gN) (o := .cells #[.int .i64 n0, .int .i64 nn, .slice A l.length c, .string t4] 41 (0, 0)) (bP_ (hK_ BN.out)) hb); replace HI := a_ (show IsS90 w w9 gT q5 b5 from ⟨blk_below (bF_ (hK_ HI.out.1) hTN) hb, HI.out.2⟩); replace HB := a_ (below_step hC_ hb); clear hb HO BR BN; have HO := P0; have BR := BR2; have BN := BN2; clear P0 BR2 BN2; obtain ⟨i0, i1, i2, i3, h0, h1, h2, h3⟩ := bx4_ BN.out; obtain ⟨hu0, hu1, hu2, hu3, hv0, hv1, hv2, hv3⟩ := bx4_ BR.out; obtain ⟨ht0, ht1, ht2, ht3⟩ := bx2_ HI.out.1))
    have h := HH.out
    clear HH
    cases b5 with
    | true =>
     rw [if_pos rfl] at h
     simp only [Option.some.injEq, Prod.mk.injEq] at h
     obtain ⟨rfl, rfl, rfl, rfl, rfl⟩ := h
     go_wp2
     refine bodyPost_ret (results_ct rfl _ _ gR 41 #[.int .i64 0, .int .i64 0, .slice none 0 0, .string ⟨#[]⟩] (0, 0) _ rfl (by (with_reducible repeat (first | refine blk_drewN ?_ _ | refine blk_drew ?_ | refine blk_alloc ?_ _)); exact (bP_ (bP_ (bP_ (bP_ (hK_ BR.out)))))) huN rfl (by kernel_rfl)) rfl ?_
     exact ⟨_, hV_, Kd.R_nil _ _ _ _ _, hC_⟩
    | false =>
     rw [if_neg Bool.false_ne_true] at h
     by_cases c30 : p2 = 0
     case neg =>
      rw [if_neg c30] at h
      simp only [Option.some.injEq, Prod.mk.injEq] at h
      obtain ⟨rfl, rfl, rfl, rfl, rfl⟩ := h
      have c30a : (p2 == 0) = false := beq_eq_false_iff_ne.mpr c30
      have c30b : (p2 != 0) = true := bne_iff_ne.mpr c30
      clear c30
      go_wp2
      refine bodyPost_ret (results_ct rfl _ _ gR 41 #[.int .i64 0, .int .i64 0, .slice none 0 0, .string ⟨#[]⟩] (0, 0) _ rfl (by (with_reducible repeat (first | refine blk_drewN ?_ _ | refine blk_drew ?_ | refine blk_alloc ?_ _)); exact (bP_ (bP_ (bP_ (bP_ (hK_ BR.out)))))) huN rfl (by kernel_rfl)) rfl ?_
      exact ⟨_, hV_, Kd.R_nil _ _ _ _ _, hC_⟩
     rw [if_pos c30] at h
     have c30a : (p2 == 0) = true := beq_iff_eq.mpr c30
     have c30b : (p2 != 0) = false := bne_eq_false_iff_eq.mpr c30
     clear c30
     by_cases c31 : p1.toList = s.toList
     case neg =>
      rw [if_neg c31] at h
      simp only [Option.some.injEq, Prod.mk.injEq] at h
      obtain ⟨rfl, rfl, rfl, rfl, rfl⟩ := h
      have c31a : (p1.toList == s.toList) = false := beq_eq_false_iff_ne.mpr c31
      have c31b : (p1.toList != s.toList) = true := bne_iff_ne.mpr c31
      clear c31
      go_wp2
      refine bodyPost_ret (results_ct rfl _ _ gR 41 #[.int .i64 0, .int .i64 0, .slice none 0 0, .string ⟨#[]⟩] (0, 0) _ rfl (by (with_reducible repeat (first | refine blk_drewN ?_ _ | refine blk_drew ?_ | refine blk_alloc ?_ _)); exact (bP_ (bP_ (bP_ (bP_ (hK_ BR.out)))))) huN rfl (by kernel_rfl)) rfl ?_
      exact ⟨_, hV_, Kd.R_nil _ _ _ _ _, hC_⟩
     rw [if_pos c31] at h
     simp only [Option.some.injEq, Prod.mk.injEq] at h
     obtain ⟨rfl, rfl, rfl, rfl, rfl⟩ := h
     have c31a : (p1.toList == s.toList) = true := beq_iff_eq.mpr c31
     have c31b : (p1.toList != s.toList) = false := bne_eq_false_iff_eq.mpr c31
     clear c31
     go_wp2
     refine bodyPost_ret (results_ct rfl _ _ gR 41 #[.int .i64 n0, .int .i64 nn, .slice A l.length c, .string t4] (0, 0) _ rfl (by (with_reducible repeat (first | refine blk_drewN ?_ _ | refine blk_drew ?_ | refine blk_alloc ?_ _)); exact (bP_ (bP_ (bP_ (bP_ (hK_ BR.out)))))) huN rfl (by kernel_rfl)) rfl ?_
     exact ⟨_, hV_, by skip; (with_reducible repeat (first | apply Kd.R_alloc | apply Kd.R_drewN | apply Kd.R_drew)); exact Kd.R_mono (rF_ (rF_ (rF_ (rF_ (Kd.R_types (hR_ HO.out) (hK_ BR.out) (by decide)))))) (fun _ h_ => h_.1), hC_⟩
   rw [if_neg c23] at H
   replace c23 := Bool.eq_false_iff.mpr c23
   subst c23
   obtain ⟨⟨tt, q2, b2'⟩, A24, H⟩ := Option.bind_eq_some_iff.mp H
   have A24 := a_ A24
   dsimp only at H
   replace H := ifI_ H; obtain ⟨c25, H⟩ := H
   have LM := a_ c25
   obtain ⟨y, hy⟩ : ∃ y, y = l ++ [tt] := ⟨_, rfl⟩
   rw [← hy] at H
   have NY := a_ hy
   have H' := a_ H
   clear H hy c25
   go_wp2_with (first
    | ((with_reducible refine gate_callee (f := 49) rfl ?_); refine goesL_ _ rfl rfl Tryz.func49 (by kernel_rfl) rfl #[.pointer (some ⟨gT, 0, none⟩)] rfl hL_ ?_; (with_reducible refine (sleuthref12_reader_text.calls k2 gT q false tt q2 b2' w _ ?hi ?hb A24.out).mono ?_); (case hi => exact ⟨hK_ HI.out.1, HI.out.2⟩); (case hb => exact hC_); rintro e w8 ⟨rfl, hI, hB, hK⟩; refine ⟨_, rfl, ?_⟩; replace HO := a_ (Kd.R_mono (Kd.R_keep (IsS90.apart (show IsS90 w _ gT _ _ from ⟨hK_ HI.out.1, HI.out.2⟩) (hR_ HO.out) (by decide)) hK (fun _ h_ => h_.2)) (fun _ h_ => h_.1)); replace BR := a_ (blk_keepr (hK_ BR.out) hK hRT); replace BN := a_ (blk_keepr (hK_ BN.out) hK hNT); replace HI := a_ hI; replace HB := a_ hB; clear hI hB hK; obtain ⟨hz0, hz1, hz2, hz3, hf0, hf1, hf2, hf3⟩ := bx4_ BN.out)
    | ((with_reducible refine gate_builtin (b := .append) (xs := #[.tmp 37, .tmp 39]) rfl ?_); at_builtin; refine Kd.R_append Kd.string (w0 := w) w.heap.size rfl (.tmp 37) (.tmp 39) 39 9 (.string ⟨#[]⟩) 16 rfl Tryz.underlying39 info9 rfl (by decide) (by omega) (.slice A l.length c) l tt [.string tt] (fun _ => True) (fun _ => False) rfl rfl ?aP (fun _ hk => hk.elim) ?aF ?aO ?aB ?aS ?aL ?_; (case aP => exact rfl); (case aB => exact hC_); (case aF => exact fun _ _ => trivial); (case aO => exact (hR_ HO.out)); (case aS => exact (below_size hC_)); (case aL => have := LM.out; omega); intro v0 w9 ho hb hg hat; rw [← NY.out] at ho; have hne_ := IsS90.own_ne HI.out HO.out (by decide); replace BN := a_ (blk_grown (hK_ BN.out) hg (Kd.R_ne HO.out BN.out (by decide))); replace BR := a_ (blk_grown (hK_ BR.out) hg (Kd.R_ne HO.out BR.out (by decide))); replace HI := a_ (show IsS90 w w9 gT q2 b2' from ⟨blk_grown (hK_ HI.out.1) hg hne_, HI.out.2⟩); replace HB := a_ hb; replace HO := a_ ho; clear ho hb hg hat hne_; obtain ⟨A2, c2, rfl⟩ := Kd.R_slice HO.out; obtain ⟨hz0, hz1, hz2, hz3, hf0, hf1, hf2, hf3⟩ := bx4_ BN.out))
   go_roundg k2
   case measure => have := HK2.out; omega
   case rel => exact ⟨(wrap64 (x + 1)), y, q2, b2', _, hW_, H', ⟨by have := HK2.out; omega⟩, ⟨by skip; (with_reducible repeat (first | apply Kd.R_alloc | apply Kd.R_drewN | apply Kd.R_drew)); exact (Kd.R_mono (rF_ (Kd.R_types (hR_ HO.out) (hK_ BN.out) (by decide))) (fun _ h_ => h_.1))⟩, ⟨by (with_reducible repeat (first | refine blk_drewN ?_ _ | refine blk_drew ?_ | refine blk_alloc ?_ _)); exact (bP_ (hK_ BN.out))⟩, ⟨by (with_reducible repeat (first | refine blk_drewN ?_ _ | refine blk_drew ?_ | refine blk_alloc ?_ _)); exact (bF_ (hK_ BR.out) hRN)⟩, ⟨⟨by (with_reducible repeat (first | refine blk_drewN ?_ _ | refine blk_drew ?_ | refine blk_alloc ?_ _)); exact (bF_ (hK_ HI.out.1) hTN), HI.out.2⟩⟩, ⟨hC_⟩⟩

end Go.Proofs.YtnhmmbgnaogokaaGreatDoor.G
end
section
namespace Go.Proofs.YtnhmmbgnaogokaaGreatDoor.G
open Go.RowKit Go.Proofs.YtnhmmbgnaogokaaGreatDoorW.PrintWords Go.Proofs.YtnhmmbgnaogokaaGreatDoorW.PrintLast Go.Proofs.YtnhmmbgnaogokaaGreatDoorW.PrintMore
set_option linter.unusedVariables false
set_option linter.unusedSimpArgs false
theorem recLow_l0 (x : Int) (m : Nat) (hm : m ≤ 7) (n : Nat) : ∀ (l : List Int) (j : Nat), j + n = m → l.length = m → (∀ i, i < j → l[i]? = some (x / 256 ^ i % 256)) → Ev (fun k => record_low.l0 k x l (m : Int) (j : Int)) (strOfNums (lowL m x)) := by
  induction n with
  | zero =>
    intro l j hj hl h
    refine Ev.step (f := fun _ => some (strOfNums l)) (fun k => ?_) ?_
    · simp only [record_low.l0]
      rw [if_neg (by omega)]
    · have e : l = lowL m x := by
        apply List.ext_getElem?
        intro i
        by_cases hi : i < m
        · rw [h i (by omega), lowL_get m x i hi]
        · rw [List.getElem?_eq_none (by omega), List.getElem?_eq_none (by rw [lowL_length]; omega)]
      rw [e]
      exact Ev.now _
  | succ n ih =>
    intro l j hj hl h
    have hw : wrap64 ((j : Int) + 1) = ((j + 1 : Nat) : Int) := by rw [w64 (by omega) (by omega)]; omega
    have hw8 : wrap64 (8 * (j : Int)) = 8 * (j : Int) := w64 (by omega) (by omega)
    refine Ev.step (f := fun k => record_low.l0 k x (l.set (j : Int).toNat ((shr .i64 x (8 * (j : Int))) % 256)) (m : Int) ((j + 1 : Nat) : Int)) (fun k => ?_) ?_
    · simp only [record_low.l0]
      rw [if_pos (by omega), hw8, if_pos (by omega), if_pos (by omega), if_pos (by omega), hw]
    · refine ih _ (j + 1) (by omega) (by rw [List.length_set]; exact hl) ?_
      intro i hi
      rw [Int.toNat_natCast]
      by_cases e : i = j
      · subst e
        rw [List.getElem?_set_self (by omega)]
        congr 2
        unfold shr
        have e1 : (8 * (i : Int)).toNat = 8 * i := by omega
        rw [e1, Nat.min_eq_left (by simp only [IntKind.bits]; omega), Int.pow_mul, show (2 : Int) ^ 8 = 256 from rfl]
      · rw [List.getElem?_set_ne (by omega)]
        exact h i (by omega)
theorem recLow_ev (x : Int) (m : Nat) (hm : m ≤ 7) : Ev (fun k => record_low.f k x (m : Int)) (strOfNums (lowL m x)) := by
  have h := recLow_l0 x m hm m (List.replicate m 0) 0 (by omega) (by simp) (by intro i hi; omega)
  refine Ev.congr (fun k => ?_) h
  unfold record_low.f
  rw [if_pos (by omega), if_pos (by omega), Int.toNat_natCast]
  simp only [Option.bind_some, List.length_replicate]
  rfl
theorem textL_str (s : ByteArray) : strOfNums (lowL 2 (s.size : Int)) ++ s = strOfNums (textL s) := by
  unfold textL
  rw [strOfNums_append, strOfNums_bytesOf]
theorem recText_ev (s : ByteArray) (hs : s.size ≤ 1024) : Ev (fun k => record_text.f k s) (strOfNums (textL s)) := by
  unfold record_text.f
  refine Ev.bind (recLow_ev (s.size : Int) 2 (by omega)) ?_
  have hl : (strOfNums (lowL 2 (s.size : Int))).size = 2 := by rw [size_strOfNums, lowL_length]
  simp only [hl, if_pos (show 2 + s.size ≤ 9223372036854775807 by omega), textL_str]
  exact Ev.now _
theorem refSized_ev (s : ByteArray) (hs : s.size ≤ 1024) : Ev (fun k => sleuthref12_sized.f k s) (strOfNums (textL s)) := by
  rw [← textL_str]
  exact sized_ev s (by omega)
theorem textL_length (s : ByteArray) : (textL s).length = 2 + s.size := by
  unfold textL
  rw [List.length_append, lowL_length, bytesOf_length]
def headOf (x : Nd) : List Int := lowL 1 x.f0 ++ (lowL 2 (x.f1 + 1) ++ lowL 1 (x.f2.length : Int))
theorem flat_length : ∀ l : List ByteArray, (∀ s ∈ l, s.size ≤ 1024) → (l.flatMap textL).length ≤ 1026 * l.length
  | [], _ => Nat.le_refl _
  | s :: l, h => by
    have := flat_length l (fun x hx => h x (List.mem_cons_of_mem _ hx))
    have hs := h s (List.mem_cons_self ..)
    rw [List.flatMap_cons, List.length_append, textL_length, List.length_cons]
    omega
theorem put_l0 (x : Nd) (h : recS x = true) : ∀ (n i : Nat), i + n = x.f2.length → Ev (fun k => record_Put.l0 k (strOfNums (headOf x ++ (x.f2.take i).flatMap textL)) (i : Int) x.f2 x.f3) (recOf x, 0) := by
  obtain ⟨e, _, _⟩ := recS_spec h
  obtain ⟨_, _, q2, q3, q4⟩ := eqS_spec e
  have hz : ∀ i, (strOfNums (headOf x ++ (x.f2.take i).flatMap textL)).size ≤ 4000 := fun i => by
    have := flat_length (x.f2.take i) (fun s hs => mayS_size (q3 s (List.mem_of_mem_take hs)))
    have h2 : (x.f2.take i).length ≤ 3 := by rw [List.length_take]; omega
    rw [size_strOfNums, List.length_append]
    have h3 : (headOf x).length = 4 := by unfold headOf; rw [List.length_append, List.length_append, lowL_length, lowL_length, lowL_length]
    omega
  intro n
  induction n with
  | zero =>
    intro i hi
    have hs3 := mayS_size q4
    have hr := recText_ev x.f3 hs3
    have e1 : (strOfNums (textL x.f3)).size = 2 + x.f3.size := by rw [size_strOfNums, textL_length]
    refine Ev.step (f := fun k => (record_text.f k x.f3).bind fun t => (if (strOfNums (headOf x ++ (x.f2.take i).flatMap textL)).size + t.size ≤ 9223372036854775807 then some (strOfNums (headOf x ++ (x.f2.take i).flatMap textL) ++ t, 0) else none)) (fun k => by rw [record_Put.l0, if_neg (by omega)]) ?_
    refine Ev.bind hr ?_
    simp only [if_pos (show (strOfNums (headOf x ++ (x.f2.take i).flatMap textL)).size + (strOfNums (textL x.f3)).size ≤ 9223372036854775807 by have := hz i; omega)]
    have e2 : strOfNums (headOf x ++ (x.f2.take i).flatMap textL) ++ strOfNums (textL x.f3) = recOf x := by
      rw [← strOfNums_append, List.take_of_length_le (by omega)]
      unfold recOf recL headOf
      rw [List.append_assoc]
    rw [e2]
    exact Ev.now _
  | succ n ih =>
    intro i hi
    have hlt : i < x.f2.length := by omega
    have hw : wrap64 ((i : Int) + 1) = ((i + 1 : Nat) : Int) := by rw [w64 (by omega) (by omega)]; omega
    have hrd : rdOf ByteArray.empty x.f2 (i : Int) = x.f2[i] := by
      show x.f2.getD _ _ = _
      rw [Int.toNat_natCast, List.getD_eq_getElem?_getD, List.getElem?_eq_getElem hlt]; rfl
    have hsz := mayS_size (q3 _ (List.getElem_mem hlt))
    have e1 : (strOfNums (textL x.f2[i])).size = 2 + x.f2[i].size := by rw [size_strOfNums, textL_length]
    refine Ev.step (f := fun k => (record_text.f k x.f2[i]).bind fun t => (if (strOfNums (headOf x ++ (x.f2.take i).flatMap textL)).size + t.size ≤ 9223372036854775807 then record_Put.l0 k (strOfNums (headOf x ++ (x.f2.take i).flatMap textL) ++ t) ((i + 1 : Nat) : Int) x.f2 x.f3 else none)) (fun k => by rw [record_Put.l0, if_pos (by omega), if_pos (by omega), hrd, hw]) ?_
    refine Ev.bind (recText_ev _ hsz) ?_
    simp only [if_pos (show (strOfNums (headOf x ++ (x.f2.take i).flatMap textL)).size + (strOfNums (textL x.f2[i])).size ≤ 9223372036854775807 by have := hz i; omega)]
    have e2 : strOfNums (headOf x ++ (x.f2.take i).flatMap textL) ++ strOfNums (textL x.f2[i]) = strOfNums (headOf x ++ (x.f2.take (i + 1)).flatMap textL) := by
      rw [← strOfNums_append, List.take_succ_eq_append_getElem hlt, List.flatMap_append, List.append_assoc]
      simp only [List.flatMap_cons, List.flatMap_nil, List.append_nil]
    rw [e2]
    exact ih (i + 1) (by omega)
theorem putRec_ev (x : Nd) (hp0 : -9223372036854775808 ≤ x.f1) (hp1 : x.f1 ≤ 9223372036854775807) : Ev (fun k => record_Put.f k x.f0 x.f1 x.f2 x.f3) (putR x) := by
  unfold record_Put.f putR recS
  refine Ev.bind (equation_ev x) ?_
  cases he : eqS x with
  | false => simp only [if_neg Bool.false_ne_true, Bool.false_and]; exact Ev.now _
  | true =>
    simp only [if_pos, Bool.true_and]
    by_cases c1 : x.f1 < -1
    · rw [decide_eq_false (show ¬ -1 ≤ x.f1 by omega), Bool.false_and]
      simp only [if_pos c1, if_neg Bool.false_ne_true]; exact Ev.now _
    · rw [decide_eq_true (show -1 ≤ x.f1 by omega), Bool.true_and]
      by_cases c2 : x.f1 ≥ 512
      · rw [decide_eq_false (show ¬ x.f1 < 512 by omega)]
        simp only [if_neg c1, if_pos c2, if_neg Bool.false_ne_true]; exact Ev.now _
      · have c3 : x.f1 < 512 := by omega
        rw [decide_eq_true c3]
        simp only [if_neg c1, if_neg c2, if_pos]
        have hrs : recS x = true := by
          unfold recS
          rw [he, decide_eq_true (show -1 ≤ x.f1 by omega), decide_eq_true c3]; rfl
        obtain ⟨_, _, q2, _, _⟩ := eqS_spec he
        have hw : wrap64 (x.f1 + 1) = x.f1 + 1 := w64 (by omega) (by omega)
        unfold record_Put.m
        rw [hw]
        have s1 : (strOfNums (lowL 1 x.f0)).size = 1 := by rw [size_strOfNums, lowL_length]
        have s2 : (strOfNums (lowL 2 (x.f1 + 1))).size = 2 := by rw [size_strOfNums, lowL_length]
        have s3 : (strOfNums (lowL 1 (x.f2.length : Int))).size = 1 := by rw [size_strOfNums, lowL_length]
        refine Ev.bind (recLow_ev x.f0 1 (by omega)) (Ev.bind (recLow_ev (x.f1 + 1) 2 (by omega)) ?_)
        simp only [s1, s2, if_pos (show 1 + 2 ≤ 9223372036854775807 by omega)]
        refine Ev.bind (recLow_ev (x.f2.length : Int) 1 (by omega)) ?_
        simp only [ByteArray.size_append, s1, s2, s3, if_pos (show 1 + 2 + 1 ≤ 9223372036854775807 by omega)]
        have h0 := put_l0 x hrs x.f2.length 0 (by omega)
        have e0 : strOfNums (headOf x ++ (x.f2.take 0).flatMap textL) = (strOfNums (lowL 1 x.f0) ++ strOfNums (lowL 2 (x.f1 + 1))) ++ strOfNums (lowL 1 (x.f2.length : Int)) := by
          rw [List.take_zero, List.flatMap_nil, List.append_nil]
          unfold headOf
          rw [strOfNums_append, strOfNums_append, ByteArray.append_assoc]
        rw [e0] at h0
        exact h0
theorem take_min (L : List Int) (a : Nat) : L.take (min a L.length) = L.take a := by
  by_cases h : a ≤ L.length
  · rw [Nat.min_eq_left h]
  · rw [Nat.min_eq_right (by omega), List.take_of_length_le (Nat.le_refl _), List.take_of_length_le (by omega)]
theorem drop_min (L : List Int) (a : Nat) : L.drop (min a L.length) = L.drop a := by
  by_cases h : a ≤ L.length
  · rw [Nat.min_eq_left h]
  · rw [Nat.min_eq_right (by omega), List.drop_eq_nil_of_le (Nat.le_refl _), List.drop_eq_nil_of_le (by omega)]
theorem ext_take (s : ByteArray) (a : Nat) : bytesOf (s.extract 0 (min a s.size)) = (bytesOf s).take a := by
  rw [bytesOf_extract, List.drop_zero, ← bytesOf_length s, take_min]
theorem ext_drop (s : ByteArray) (a : Nat) : bytesOf (s.extract (min a s.size) s.size) = (bytesOf s).drop a := by
  rw [bytesOf_extract, ← bytesOf_length s, List.take_of_length_le (Nat.le_refl _), drop_min]
theorem takeB (s : ByteArray) (a : Nat) : ∃ t r, record_taker_take.f s (a : Int) = some (t, r) ∧ bytesOf t = (bytesOf s).take a ∧ bytesOf r = (bytesOf s).drop a := by
  refine ⟨s.extract 0 (min a s.size), s.extract (min a s.size) s.size, ?_, ext_take s a, ext_drop s a⟩
  have hm : mn (a : Int) (s.size : Int) = ((min a s.size : Nat) : Int) := by
    unfold mn
    split <;> omega
  have hz : (s.extract 0 (min a s.size)).size = min a s.size := by
    have := congrArg List.length (ext_take s a)
    rw [bytesOf_length, List.length_take, bytesOf_length] at this
    exact this
  have h1 : ((min a s.size : Nat) : Int) ≤ (s.size : Int) := by omega
  unfold record_taker_take.f
  rw [hm, Int.toNat_natCast, hz, if_pos (by omega), if_pos h1, if_pos (by omega), if_pos h1, Int.toNat_natCast]
theorem numB (s : ByteArray) (a : Nat) (ha : a ≤ 2) : ∃ r, (∀ k, record_taker_number.f k s (a : Int) = some (numLE ((bytesOf s).take a), r)) ∧ bytesOf r = (bytesOf s).drop a := by
  obtain ⟨t, r, h1, h2, h3⟩ := takeB s a
  refine ⟨r, fun k => ?_, h3⟩
  have hz : t.size ≤ 2 := by
    have := congrArg List.length h2
    rw [bytesOf_length, List.length_take] at this
    omega
  unfold record_taker_number.f
  rw [h1]
  simp only [Option.bind_some, if_pos hz, h2]
theorem num_rng (L : List Int) (h : ∀ y ∈ L, 0 ≤ y ∧ y < 256) (a : Nat) (ha : a ≤ 2) : 0 ≤ numLE (L.take a) ∧ numLE (L.take a) < 65536 := by
  obtain ⟨h0, h1⟩ := numLE_range (L.take a) (fun y hy => h y (List.mem_of_mem_take hy))
  refine ⟨h0, Int.lt_of_lt_of_le h1 ?_⟩
  have hl : (L.take a).length ≤ 2 := by rw [List.length_take]; omega
  have : (L.take a).length = 0 ∨ (L.take a).length = 1 ∨ (L.take a).length = 2 := by omega
  rcases this with e | e | e <;> rw [e] <;> decide
theorem textB (s : ByteArray) : ∃ r, (∀ k, record_taker_text.f k s = some ((textP (bytesOf s)).1, r)) ∧ bytesOf r = (textP (bytesOf s)).2 := by
  obtain ⟨q, h1, h2⟩ := numB s 2 (by omega)
  obtain ⟨n0, n1⟩ := num_rng (bytesOf s) (bytesOf_range s) 2 (by omega)
  obtain ⟨t, r, g1, g2, g3⟩ := takeB q (numLE ((bytesOf s).take 2)).toNat
  rw [h2] at g2 g3
  have e : ((numLE ((bytesOf s).take 2)).toNat : Int) = numLE ((bytesOf s).take 2) := by omega
  rw [e] at g1
  refine ⟨r, fun k => ?_, g3⟩
  have h1' := h1 k
  unfold record_taker_text.f
  rw [show ((2 : Nat) : Int) = 2 from rfl] at h1'
  rw [h1']
  simp only [Option.bind_some, g1]
  have et : t = (textP (bytesOf s)).1 := by
    unfold textP
    rw [← g2, strOfNums_bytesOf]
  rw [et]
theorem argsB : ∀ (n x m : Nat) (l : List ByteArray) (s : ByteArray), x + n = m → m ≤ 3 → l.length = x → ∃ r, Ev (fun k => record_Get.l0 k (m : Int) (x : Int) l s) (l ++ (argsP n (bytesOf s)).1, r) ∧ bytesOf r = (argsP n (bytesOf s)).2
  | 0, x, m, l, s, hx, hm, hl => ⟨s, Ev.step (f := fun _ => some (l, s)) (fun k => by rw [record_Get.l0, if_neg (by omega)]) (by rw [argsP, List.append_nil]; exact Ev.now _), rfl⟩
  | n + 1, x, m, l, s, hx, hm, hl => by
    obtain ⟨q, h1, h2⟩ := textB s
    obtain ⟨r, g1, g2⟩ := argsB n (x + 1) m (l ++ [(textP (bytesOf s)).1]) q (by omega) hm (by rw [List.length_append, hl]; rfl)
    rw [h2] at g1 g2
    refine ⟨r, ?_, by rw [argsP]; exact g2⟩
    have hw : wrap64 ((x : Int) + 1) = ((x + 1 : Nat) : Int) := by rw [w64 (by omega) (by omega)]; omega
    refine Ev.step (f := fun k => record_Get.l0 k (m : Int) ((x + 1 : Nat) : Int) (l ++ [(textP (bytesOf s)).1]) q) (fun k => by rw [record_Get.l0, if_pos (by omega), h1 k]; simp only [Option.bind_some]; rw [if_pos (by omega), hw]) ?_
    rw [argsP]
    rw [List.append_assoc] at g1
    exact g1
def flatR (p : Nd × Int) : Int × Int × List ByteArray × ByteArray × Int := (p.1.f0, p.1.f1, p.1.f2, p.1.f3, p.2)
theorem getRec_ev (s : ByteArray) : Ev (fun k => record_Get.f k s) (flatR (getR s)) := by
  obtain ⟨s1, a1, b1⟩ := numB s 1 (by omega)
  obtain ⟨s2, a2, b2⟩ := numB s1 2 (by omega)
  obtain ⟨s3, a3, b3⟩ := numB s2 1 (by omega)
  rw [b1] at a2 b2
  rw [b2, List.drop_drop] at a3 b3
  rw [List.drop_drop] at b3
  have hr := bytesOf_range s
  have hr1 : ∀ n, ∀ y ∈ (bytesOf s).drop n, 0 ≤ y ∧ y < 256 := fun n y hy => hr y (List.mem_of_mem_drop hy)
  have n1 := num_rng _ (hr1 1) 2 (by omega)
  have n3 := num_rng _ (hr1 3) 1 (by omega)
  have hmany : mn (numLE (((bytesOf s).drop 3).take 1)) 3 = ((manyP (bytesOf s)).toNat : Int) ∧ (manyP (bytesOf s)).toNat ≤ 3 := by
    unfold mn manyP
    generalize numLE (((bytesOf s).drop 3).take 1) = v at n3
    split <;> split <;> omega
  obtain ⟨q, g1, g2⟩ := argsB (manyP (bytesOf s)).toNat 0 (manyP (bytesOf s)).toNat [] s3 (Nat.zero_add _) hmany.2 rfl
  rw [b3, List.nil_append] at g1
  rw [b3] at g2
  obtain ⟨z, h1, h2⟩ := textB q
  rw [g2] at h1
  have hw : wrap64 (numLE (((bytesOf s).drop 1).take 2) - 1) = numLE (((bytesOf s).drop 1).take 2) - 1 := w64 (by omega) (by omega)
  have hp := putRec_ev (getP (bytesOf s)) (by show _ ≤ numLE (((bytesOf s).drop 1).take 2) - 1; omega) (by show numLE (((bytesOf s).drop 1).take 2) - 1 ≤ _; omega)
  unfold record_Get.f
  refine Ev.bind (Ev.congr (fun k => a1 k) (Ev.now _)) (Ev.bind (Ev.congr (fun k => a2 k) (Ev.now _)) (Ev.bind (Ev.congr (fun k => a3 k) (Ev.now _)) ?_))
  simp only [hmany.1]
  refine Ev.bind g1 (Ev.bind (Ev.congr (fun k => h1 k) (Ev.now _)) ?_)
  simp only [hw]
  refine Ev.bind hp ?_
  unfold getR putR flatR
  by_cases c : recS (getP (bytesOf s)) = true
  · simp only [if_pos c, if_pos, toList_inj]
    by_cases d : recOf (getP (bytesOf s)) = s
    · simp only [if_pos d, c, d, and_self, if_true]; exact Ev.now _
    · simp only [if_neg d, d, and_false, if_false]; exact Ev.now _
  · have g : ¬ (1500 : Int) = 0 := by decide
    simp only [if_neg c, if_neg g, c, false_and, if_false]; exact Ev.now _
end Go.Proofs.YtnhmmbgnaogokaaGreatDoor.G
end
