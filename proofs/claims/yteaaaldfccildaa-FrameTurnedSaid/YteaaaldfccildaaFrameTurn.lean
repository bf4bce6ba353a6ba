import Derived.RegionTactic
import Derived.IntWalk
import Derived.Lib.AtoiErrMem
import Derived.Test.YteaaaldfccildaaFrameCrc
namespace Go.Proofs.Yteaaaldfccildaa.FrameLib
open Go.RowKit Go.Proofs.Yteaaaldfccildaa.G Go.Proofs.YteaaaldfccildaaW.PrintWords Go.Proofs.YteaaaldfccildaaW.PrintLast Go.Proofs.YteaaaldfccildaaW.PrintMore
set_option linter.unusedVariables false
set_option linter.unusedSimpArgs false

set_option maxHeartbeats 4000000 in
set_option maxRecDepth 100000 in
theorem turned_great (k : Nat) (s : ByteArray) (a1 a2 : Int) (w : World) (A1 : Aside0 (sleuthlaw16_awake.f k = some true)) (A2 : Aside0 (frame_Put.f k s = some (⟨#[]⟩, 1600))) :
    Calls Try.prog 4 #[.string s, .int .i64 a1, .int .i64 a2] w fun e w' => e = .returned (.bool true) ∧ Below w.heap.size w w' := by
  have HB := Aside0.mk (Below.refl w.heap.size w)
  go_enter Try.func4, Try.ntmps4
  go_wp2_with (first
    | (go_at_call 13; refine (sleuthlaw16_awake.calls k true _ A1.out).mono ?_; rintro e w1 ⟨rfl, hb⟩; have n0_ := Aside0.mk (below_step (by repeat (first | (with_reducible first | exact HB.out | apply below_alloc | apply pw_below_drewN | apply below_drew1) | exact HB.out)) hb); clear HB; have HB := n0_; clear n0_ hb)
    | (go_at_call 8; refine (frame_Put.calls k s _ _ _ A2.out).mono ?_; rintro e w1 ⟨rfl, hb⟩; have n0_ := Aside0.mk (below_step (by repeat (first | (with_reducible first | exact HB.out | apply below_alloc | apply pw_below_drewN | apply below_drew1) | exact HB.out)) hb); clear HB; have HB := n0_; clear n0_ hb)
    | (go_at_call 12; refine (sleuthlaw0_Num.calls _ _ _ rfl).mono ?_; rintro e w1 ⟨rfl, ⟨nd, rfl⟩⟩))
  go_ret
  exact ⟨rfl, by repeat (first | (with_reducible first | exact HB.out | apply below_alloc | apply pw_below_drewN | apply below_drew1) | exact HB.out)⟩

/-- byte j of what is turned, i bytes having been turned -/
def tb (f : ByteArray) (K : Nat) (X : Int) (i j : Nat) : Int := if K ≤ j ∧ j < K + i then Go.bits .xor .u8 (bt f (j : Int)) (X / 256 ^ (j - K) % 256) else bt f (j : Int)
def TRel (f : ByteArray) (K : Nat) (X : Int) (B m : Nat) (w : World) (i : Nat) (wr : World) : Prop :=
  ∃ C : Array Value, wr.heap[B]? = some (.cells C 5 (m, m + 1)) ∧ C.size = m ∧ f.size ≤ m ∧ (∀ j, j < f.size → C[j]? = some (.int .u8 (tb f K X i j))) ∧ Below w.heap.size w wr
theorem heap_set_mark (w : World) (g i : Nat) (cs : Array Value) (t : TypeId) (fr : Nat × Nat) (v : Value) (hg : w.heap[g]? = some (.cells cs t fr)) :
    (w.setCell ⟨g, i, none⟩ v).heap[g]? = some (.cells (cs.setIfInBounds i v) t fr) := by
  simp [World.setCell, Array.getElem?_modify, hg]
theorem TRel.next {f : ByteArray} {K : Nat} {X : Int} {B m : Nat} {w wr : World} {i : Nat} (h : TRel f K X B m w i wr) (hB : w.heap.size ≤ B) (hK : K + 4 ≤ f.size) (hi : i < 4) :
    TRel f K X B m w (i + 1) ((wr.setCell ⟨B, K + i, none⟩ (.int .u8 (Go.bits .xor .u8 (bt f ((K : Int) + (i : Int))) (X / 2 ^ (8 * i) % 256)))).drew) := by
  obtain ⟨C, hC, hCs, hfm, hcs, hbel⟩ := h
  refine ⟨_, heap_set_mark wr B (K + i) C 5 _ _ hC, ?_, hfm, fun j hj => ?_, below_drew1 (below_set hbel hB)⟩
  · rw [Array.size_setIfInBounds]; exact hCs
  · have hjs : j < C.size := by omega
    by_cases e : j = K + i
    · subst e
      rw [Array.getElem?_setIfInBounds_self_of_lt hjs]
      unfold tb
      rw [if_pos (by omega)]
      have e1 : ((K + i : Nat) : Int) = (K : Int) + (i : Int) := by omega
      have e2 : K + i - K = i := by omega
      rw [e1, e2, Int.pow_mul]
      rfl
    · rw [Array.getElem?_setIfInBounds_ne (by omega), hcs j hj]
      unfold tb
      by_cases c : K ≤ j ∧ j < K + i
      · rw [if_pos c, if_pos (by omega)]
      · rw [if_neg c, if_neg (by omega)]
theorem TRel.cell {f : ByteArray} {K : Nat} {X : Int} {B m : Nat} {w wr : World} {i : Nat} (h : TRel f K X B m w i wr) (j : Nat) (hj : j < f.size) : wr.cell? ⟨B, j, none⟩ = some (.int .u8 (tb f K X i j)) ∧ wr.frozen? ⟨B, j, none⟩ = false := by
  obtain ⟨C, hC, hCs, hfm, hcs, hbel⟩ := h
  constructor
  · simp [World.cell?, hC, hcs j hj]
  · simp [World.frozen?, hC]
    omega
def turned (f : ByteArray) (K : Nat) (X : Int) : List Int := (List.range f.size).map (tb f K X 4)
theorem TRel.reads {f : ByteArray} {K : Nat} {X : Int} {B m : Nat} {w wr : World} (h : TRel f K X B m w 4 wr) (hf : f.size ≤ 8198) : ReadsInt wr .u8 (some ⟨B, 0, none⟩) f.size (turned f K X) := by
  refine ⟨by unfold turned; rw [List.length_map, List.length_range], by omega, fun _ => ⟨_, rfl, fun j hj => ?_⟩⟩
  have := (h.cell j hj).1
  unfold turned
  by_cases e0 : j = 0
  · subst e0
    simpa [Addr.add, List.getD_eq_getElem?_getD, List.getElem?_map, List.getElem?_range hj] using this
  · simp [Addr.add, List.getD_eq_getElem?_getD, List.getElem?_map, List.getElem?_range hj, this, e0]
theorem shr_i (X : Int) (i : Nat) (hi : i < 4) : X / 2 ^ (8 * (i : Int)).toNat = X / 256 ^ i := by
  have e : (8 * (i : Int)).toNat = 8 * i := by omega
  rw [e, Int.pow_mul]; rfl
set_option maxHeartbeats 4000000 in
set_option maxRecDepth 100000 in
theorem turned_small (k : Nat) (s f : ByteArray) (a1 a2 : Int) (w : World) (A1 : Aside0 (sleuthlaw16_awake.f k = some true)) (A2 : Aside0 (frame_Put.f k s = some (f, 0))) (hf : 6 ≤ f.size) (hf2 : f.size ≤ 8198)
    (K : Nat) (X : Int) (hK : wrap64 (2 + wrap64 ((IntKind.u64.wrap a1).tmod ((f.size : Int) - 5))) = (K : Int)) (hK1 : 2 ≤ K) (hK2 : K + 4 ≤ f.size)
    (hX : wrap64 (1 + wrap64 ((IntKind.u64.wrap a2).tmod 4294967295)) = X) (hX1 : 1 ≤ X) (hX2 : X < 4294967296) (A3 : Aside0 (frame_Get.f k (strOfNums (turned f K X)) 0 = some (⟨#[]⟩, 0, 1600))) :
    Calls Try.prog 4 #[.string s, .int .i64 a1, .int .i64 a2] w fun e w' => e = .returned (.bool true) ∧ Below w.heap.size w w' := by
  have HB := Aside0.mk (Below.refl w.heap.size w)
  have hcv := fun (W : World) => Lib.run_convert_string_bytes (P := Try.prog) W 9 34 5 f Try.underlying9 Try.underlying34 Try.underlying5
  have h6 : decide ((f.size : Int) < 6) = false := decide_eq_false (by omega)
  go_enter Try.func4, Try.ntmps4
  go_wp2_with (first
    | (go_at_call 13; refine (sleuthlaw16_awake.calls k true _ A1.out).mono ?_; rintro e w1 ⟨rfl, hb⟩; have n0_ := Aside0.mk (below_step (by repeat (first | (with_reducible first | exact HB.out | apply below_alloc | apply pw_below_drewN | apply below_drew1) | exact HB.out)) hb); clear HB; have HB := n0_; clear n0_ hb)
    | (go_at_call 8; refine (frame_Put.calls k s _ _ _ A2.out).mono ?_; rintro e w1 ⟨rfl, hb⟩; have n0_ := Aside0.mk (below_step (by repeat (first | (with_reducible first | exact HB.out | apply below_alloc | apply pw_below_drewN | apply below_drew1) | exact HB.out)) hb); clear HB; have HB := n0_; clear n0_ hb)
    | (go_at_call 12; refine (sleuthlaw0_Num.calls _ _ _ rfl).mono ?_; rintro e w1 ⟨rfl, ⟨nd, rfl⟩⟩))
  rw [hK, hX]
  clear hK hX hcv h6
  have hB0 : w.heap.size ≤ w1.heap.size := below_size HB.out
  have hcells : (Lib.bytesWorld (w1.drewN nd) 5 f).heap[w1.heap.size]? = some (.cells (Lib.bytesCells (w1.drewN nd) 5 f) 5 ((Lib.bytesCells (w1.drewN nd) 5 f).size, (Lib.bytesCells (w1.drewN nd) 5 f).size + 1)) := Lib.bytesWorld_at_new (w1.drewN nd) 5 f
  have hmsz : f.size ≤ (Lib.bytesCells (w1.drewN nd) 5 f).size := by
    unfold Lib.bytesCells
    rw [Array.size_append, Array.size_map]
    exact Nat.le_add_right _ _
  have hrel0 : TRel f K X w1.heap.size (Lib.bytesCells (w1.drewN nd) 5 f).size w 0 (Lib.bytesWorld (w1.drewN nd) 5 f) := by
    refine ⟨_, hcells, rfl, hmsz, fun j hj => ?_, ?_⟩
    · unfold tb
      rw [if_neg (by omega)]
      unfold Lib.bytesCells
      rw [Array.getElem?_append_left (by rw [Array.size_map]; exact hj), Array.getElem?_map]
      have e : f.data[j]? = some (f.data[j]'hj) := Array.getElem?_eq_getElem hj
      rw [e]
      unfold bt
      rw [dif_pos (by rw [Int.toNat_natCast]; exact hj)]
      rfl
    · exact (pw_below_drewN HB.out nd).trans ((Lib.bytesWorld_below (w1.drewN nd) 5 f).mono hB0)
  generalize Lib.bytesWorld (w1.drewN nd) 5 f = wB at hrel0 ⊢
  generalize (Lib.bytesCells (w1.drewN nd) 5 f).size = m at hrel0
  have HR := Aside0.mk hrel0
  clear hcells hmsz hrel0
  go_loopw [12] (fun v wr => ∃ i : Nat, i ≤ 4 ∧ v = .int .i64 i ∧ Aside0 (TRel f K X w1.heap.size m w i wr)) (fun v _ => 4 - (intOf v).toNat)
  case atStart => exact ⟨0, by omega, rfl, HR⟩
  case round =>
    obtain ⟨i, hi, rfl, HR2⟩ := hrel
    by_cases hlt : i < 4
    · obtain ⟨hcell, hfr⟩ := HR2.out.cell (K + i) (by omega)
      have htb : tb f K X i (K + i) = bt f ((K : Int) + (i : Int)) := by unfold tb; rw [if_neg (by omega)]; congr 1
      rw [htb] at hcell
      clear htb
      have e1 : ((K : Int) + (i : Int)).toNat = K + i := by omega
      have e2 : IntKind.i64.wrap ((K : Int) + (i : Int)) = (K : Int) + (i : Int) := IntWalk.i64_in _ (by omega)
      have e3 : (0 : Int) ≤ (K : Int) + (i : Int) := by omega
      have e4 : (K : Int) + (i : Int) < (f.size : Int) := by omega
      go_wp2
      go_region
      go_wp2
      go_roundw
      case measure => simp [intOf]; omega
      case rel =>
        exact ⟨i + 1, by omega, by go_num, ⟨HR2.out.next hB0 hK2 hlt⟩⟩
    · obtain rfl : i = 4 := by omega
      have hrd := HR2.out.reads hf2
      have hcv2 := string_of_reads (P := Try.prog) (c := grownCap (w1.drewN nd) f.size 0 5) Try.underlying34 Try.underlying5 Try.underlying9 hrd
      have HB2 : Aside0 (Below w.heap.size w wr) := ⟨by obtain ⟨C, hC, hCs, hfm, hcs, hbel⟩ := HR2.out; exact hbel⟩
      clear HB HR2 hrd
      have HB := HB2
      clear HB2
      go_wp2_with (first
        | (go_at_call 10; refine (frame_Get.calls k _ _ _ _ _ _ A3.out).mono ?_; rintro e w2 ⟨rfl, hb⟩; have n0_ := Aside0.mk (below_step (by repeat (first | (with_reducible first | exact HB.out | apply below_alloc | apply pw_below_drewN | apply below_drew1) | exact HB.out)) hb); clear HB; have HB := n0_; clear n0_ hb)
        | (go_at_call 12; refine (sleuthlaw0_Num.calls _ _ _ rfl).mono ?_; rintro e w2 ⟨rfl, ⟨nd, rfl⟩⟩))
      go_ret
      exact ⟨rfl, by repeat (first | (with_reducible first | exact HB.out | apply below_alloc | apply pw_below_drewN | apply below_drew1) | exact HB.out)⟩

/-! what is turned is no frame -/
theorem xor_u8 (a b : Nat) (ha : a < 256) (hb : b < 256) : Go.bits .xor .u8 (a : Int) (b : Int) = ((a ^^^ b : Nat) : Int) := by
  unfold Go.bits
  simp only [IntKind.wrap_u8]
  show (((BitVec.ofInt 8 (a : Int)) ^^^ (BitVec.ofInt 8 (b : Int))).toNat : Int) % 256 = ((a ^^^ b : Nat) : Int)
  rw [BitVec.toNat_xor, BitVec.ofInt_natCast, BitVec.ofInt_natCast, BitVec.toNat_ofNat, BitVec.toNat_ofNat, Nat.mod_eq_of_lt (by omega), Nat.mod_eq_of_lt (by omega)]
  have h : a ^^^ b < 2 ^ 8 := Nat.xor_lt_two_pow (by omega) (by omega)
  omega
theorem xor_u8_bv (x y : Int) (hx : 0 ≤ x ∧ x < 256) (hy : 0 ≤ y ∧ y < 256) : 0 ≤ Go.bits .xor .u8 x y ∧ Go.bits .xor .u8 x y < 256 ∧ BitVec.ofInt 32 (Go.bits .xor .u8 x y) = BitVec.ofInt 32 x ^^^ BitVec.ofInt 32 y := by
  obtain ⟨a, rfl⟩ := Int.eq_ofNat_of_zero_le hx.1
  obtain ⟨b, rfl⟩ := Int.eq_ofNat_of_zero_le hy.1
  have ha : a < 256 := by omega
  have hb : b < 256 := by omega
  rw [xor_u8 a b ha hb]
  have h : a ^^^ b < 2 ^ 8 := Nat.xor_lt_two_pow (by omega) (by omega)
  refine ⟨by omega, by omega, ?_⟩
  apply BitVec.eq_of_toNat_eq
  rw [BitVec.toNat_xor, BitVec.ofInt_natCast, BitVec.ofInt_natCast, BitVec.ofInt_natCast, BitVec.toNat_ofNat, BitVec.toNat_ofNat, BitVec.toNat_ofNat, Nat.mod_eq_of_lt (by omega), Nat.mod_eq_of_lt (by omega), Nat.mod_eq_of_lt (by omega)]
theorem byte_div (X : Int) (hX : 0 ≤ X ∧ X < 4294967296) (i : Nat) (hi : i < 4) : BitVec.ofInt 32 (X / 256 ^ i % 256) = byteB (BitVec.ofInt 32 X) i := by
  have h := lowL_bytesB (BitVec.ofInt 32 X)
  rw [ofInt_byte X hX.1 hX.2] at h
  have h2 := congrArg (fun l => l[i]?) h
  unfold bvs at h2
  simp only [List.getElem?_map, lowL_get 4 X i hi, Option.map_some] at h2
  rcases (by omega : i = 0 ∨ i = 1 ∨ i = 2 ∨ i = 3) with rfl | rfl | rfl | rfl <;> exact Option.some.inj h2
theorem turned_length (f : ByteArray) (K : Nat) (X : Int) : (turned f K X).length = f.size := by unfold turned; rw [List.length_map, List.length_range]
theorem tb_range (f : ByteArray) (K : Nat) (X : Int) (i j : Nat) : 0 ≤ tb f K X i j ∧ tb f K X i j < 256 := by
  unfold tb
  split
  · have := xor_u8_bv (bt f (j : Int)) (X / 256 ^ (j - K) % 256) (bt_range _ _) (by omega)
    exact ⟨this.1, this.2.1⟩
  · exact bt_range _ _
theorem turned_range (f : ByteArray) (K : Nat) (X : Int) : ∀ x ∈ turned f K X, 0 ≤ x ∧ x < 256 := by
  intro x hx
  unfold turned at hx
  obtain ⟨j, _, rfl⟩ := List.mem_map.1 hx
  exact tb_range _ _ _ _ _
theorem turned_bvs (f : ByteArray) (K : Nat) (X : Int) (hX : 0 ≤ X ∧ X < 4294967296) (r : Nat) (hr : K + 4 + r = f.size) :
    bvs (turned f K X) = List.zipWith (· ^^^ ·) (bvs (bytesOf f)) (List.replicate K 0#32 ++ bytesB (BitVec.ofInt 32 X) ++ List.replicate r 0#32) := by
  have hlb : (bytesB (BitVec.ofInt 32 X)).length = 4 := rfl
  apply List.ext_getElem?
  intro j
  rw [List.getElem?_zipWith]
  unfold bvs
  rw [List.getElem?_map, List.getElem?_map]
  by_cases hj : j < f.size
  · have e1 : (turned f K X)[j]? = some (tb f K X 4 j) := by
      unfold turned
      rw [List.getElem?_map, List.getElem?_range hj]
      rfl
    have e2 : (bytesOf f)[j]? = some (bt f (j : Int)) := by
      rw [bt_get, List.getD_eq_getElem?_getD, List.getElem?_eq_getElem (by rw [bytesOf_length]; exact hj)]
      rfl
    rw [e1, e2]
    simp only [Option.map_some]
    unfold tb
    by_cases c : K ≤ j ∧ j < K + 4
    · have e3 : (List.replicate K 0#32 ++ bytesB (BitVec.ofInt 32 X) ++ List.replicate r 0#32)[j]? = some (byteB (BitVec.ofInt 32 X) (j - K)) := by
        rw [List.getElem?_append_left (by simp only [List.length_append, List.length_replicate, hlb]; omega), List.getElem?_append_right (by simp only [List.length_replicate]; omega), List.length_replicate]
        rcases (by omega : j - K = 0 ∨ j - K = 1 ∨ j - K = 2 ∨ j - K = 3) with e | e | e | e <;> rw [e] <;> rfl
      rw [if_pos c, e3]
      simp only [Option.some.injEq]
      rw [(xor_u8_bv _ _ (bt_range _ _) (by omega)).2.2, byte_div X hX _ (by omega)]
    · have e3 : (List.replicate K 0#32 ++ bytesB (BitVec.ofInt 32 X) ++ List.replicate r 0#32)[j]? = some 0#32 := by
        by_cases c2 : j < K
        · rw [List.getElem?_append_left (by simp only [List.length_append, List.length_replicate, hlb]; omega), List.getElem?_append_left (by simp only [List.length_replicate]; omega), List.getElem?_replicate, if_pos c2]
        · rw [List.getElem?_append_right (by simp only [List.length_append, List.length_replicate, hlb]; omega), List.getElem?_replicate, if_pos (by simp only [List.length_append, List.length_replicate, hlb]; omega)]
      rw [if_neg c, e3]
      simp only [BitVec.xor_zero]
  · rw [List.getElem?_eq_none (by rw [turned_length]; omega), List.getElem?_eq_none (by rw [bytesOf_length]; omega)]
    rfl
theorem turned_bad (s : ByteArray) (hs : s.size ≤ 8192) (K : Nat) (X : Int) (hK1 : 2 ≤ K) (hK2 : K + 4 ≤ (frameOf s).size) (hX1 : 1 ≤ X) (hX2 : X < 4294967296) : getF (strOfNums (turned (frameOf s) K X)) 0 = badF := by
  have hz : (strOfNums (turned (frameOf s) K X)).size = 6 + s.size := by rw [size_strOfNums, turned_length, frame_size]
  have hfz := frame_size s
  have hb : bytesOf (strOfNums (turned (frameOf s) K X)) = turned (frameOf s) K X := bytesOf_strOfNums _ (turned_range _ _ _)
  have hh : headL s = [(s.size : Int) % 4294967296 % 256, (s.size : Int) % 4294967296 / 256 % 256] ++ bytesOf s := rfl
  have hbt : ∀ j : Nat, j < 2 → bt (strOfNums (turned (frameOf s) K X)) (j : Int) = bt (frameOf s) (j : Int) := by
    intro j hj
    rw [bt_get, hb, List.getD_eq_getElem?_getD]
    unfold turned
    rw [List.getElem?_map, List.getElem?_range (by omega)]
    show tb (frameOf s) K X 4 j = _
    unfold tb
    rw [if_neg (by omega)]
  have f0 : bt (frameOf s) 0 = (s.size : Int) % 256 := by
    have := bt_get (frameOf s) 0
    rw [frame_bytes, hh] at this
    simp only [List.cons_append, List.getD_cons_zero] at this
    rw [show ((0 : Nat) : Int) = 0 from rfl] at this
    rw [this]; omega
  have f1 : bt (frameOf s) 1 = (s.size : Int) / 256 := by
    have := bt_get (frameOf s) 1
    rw [frame_bytes, hh] at this
    simp only [List.cons_append, List.getD_cons_succ, List.getD_cons_zero] at this
    rw [show ((1 : Nat) : Int) = 1 from rfl] at this
    rw [this]; omega
  have hm : manyAt (strOfNums (turned (frameOf s) K X)) 0 = (s.size : Int) := by
    unfold manyAt
    have h0 := hbt 0 (by omega)
    have h1 := hbt 1 (by omega)
    rw [show ((0 : Nat) : Int) = 0 from rfl] at h0
    rw [show ((1 : Nat) : Int) = 1 from rfl] at h1
    rw [show (0 : Int) + 1 = 1 from rfl, h0, h1, f0, f1]
    omega
  unfold getF
  rw [hz, hm, if_neg (by omega), if_neg (by omega), if_neg]
  intro h
  have hw : bytesOf (wholeOf (strOfNums (turned (frameOf s) K X)) 0) = turned (frameOf s) K X := by
    unfold wholeOf
    rw [hm, bytesOf_extract, hb]
    rw [show ((0 : Int)).toNat = 0 from rfl, List.drop_zero, List.take_of_length_le (by rw [turned_length]; omega)]
  have h' := congrArg bytesOf h
  rw [hw, frame_bytes] at h'
  have hg := whole_foldB (headL (partOf (strOfNums (turned (frameOf s) K X)) 0)) (headL_range _)
  rw [h'] at hg
  have hf := whole_foldB (headL s) (headL_range s)
  rw [← frame_bytes] at hf
  obtain ⟨r, hr⟩ : ∃ r, K + 4 + r = (frameOf s).size := ⟨(frameOf s).size - K - 4, by omega⟩
  have hv : BitVec.ofInt 32 X ≠ 0#32 := by
    intro e
    have := congrArg (fun v : BitVec 32 => (v.toNat : Int)) e
    simp only [ofInt_byte X (by omega) hX2] at this
    have e0 : (((0#32 : BitVec 32).toNat : Nat) : Int) = 0 := rfl
    omega
  exact burst (bytesOf (frameOf s)) (turned (frameOf s) K X) K r _ hv hf hg (turned_bvs _ _ _ (by omega) r hr) (by rw [bytesOf_length]; omega)
theorem turned_walk (s : ByteArray) (a1 a2 : Int) (w : World) (hs : s.size ≤ 140737488351232) (h1 : (Lit.int .i64 a1).wf = true) (h2 : (Lit.int .i64 a2).wf = true) :
    Calls Try.prog 4 #[.string s, .int .i64 a1, .int .i64 a2] w fun e w' => e = .returned (.bool true) ∧ Below w.heap.size w w' := by
  obtain ⟨k1, hk1⟩ := awake_ev
  obtain ⟨k2, hk2⟩ := put_ev s
  by_cases c : s.size ≤ 8192
  · rw [putF_small s c] at hk2
    have hz := frame_size s
    have hw1 : 0 ≤ IntKind.u64.wrap a1 := by simp [IntKind.wrap, IntKind.bits, IntKind.signed]; omega
    have hw2 : 0 ≤ IntKind.u64.wrap a2 := by simp [IntKind.wrap, IntKind.bits, IntKind.signed]; omega
    have t1 : 0 ≤ (IntKind.u64.wrap a1).tmod (((frameOf s).size : Int) - 5) ∧ (IntKind.u64.wrap a1).tmod (((frameOf s).size : Int) - 5) < ((frameOf s).size : Int) - 5 := by
      rw [Int.tmod_eq_emod_of_nonneg hw1]
      exact ⟨Int.emod_nonneg _ (by omega), Int.emod_lt_of_pos _ (by omega)⟩
    have t2 : 0 ≤ (IntKind.u64.wrap a2).tmod 4294967295 ∧ (IntKind.u64.wrap a2).tmod 4294967295 < 4294967295 := by
      rw [Int.tmod_eq_emod_of_nonneg hw2]
      omega
    obtain ⟨K, hK⟩ := Int.eq_ofNat_of_zero_le (show 0 ≤ 2 + (IntKind.u64.wrap a1).tmod (((frameOf s).size : Int) - 5) by omega)
    have hX : wrap64 (1 + wrap64 ((IntKind.u64.wrap a2).tmod 4294967295)) = 1 + (IntKind.u64.wrap a2).tmod 4294967295 := by
      rw [w64 (x := (IntKind.u64.wrap a2).tmod 4294967295) (by omega) (by omega), w64 (by omega) (by omega)]
    have hKK : wrap64 (2 + wrap64 ((IntKind.u64.wrap a1).tmod (((frameOf s).size : Int) - 5))) = (K : Int) := by
      rw [w64 (x := (IntKind.u64.wrap a1).tmod (((frameOf s).size : Int) - 5)) (by omega) (by omega), w64 (by omega) (by omega), hK]
    have hb := turned_bad s c K (1 + (IntKind.u64.wrap a2).tmod 4294967295) (by omega) (by omega) (by omega) (by omega)
    obtain ⟨k3, hk3⟩ := get_is _ _ _ hb (by rw [size_strOfNums, turned_length]; omega) (by omega) (by omega)
    exact turned_small (max k1 (max k2 k3)) s (frameOf s) a1 a2 w ⟨hk1 _ (by omega)⟩ ⟨hk2 _ (by omega)⟩ (by omega) (by omega) K _ hKK (by omega) (by omega) hX (by omega) (by omega) ⟨hk3 _ (by omega)⟩
  · rw [putF_great s (by omega)] at hk2
    exact turned_great (max k1 k2) s a1 a2 w ⟨hk1 _ (by omega)⟩ ⟨hk2 _ (by omega)⟩
end Go.Proofs.Yteaaaldfccildaa.FrameLib
