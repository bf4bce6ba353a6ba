/- Parts of this proof, one behind the other: G1, G2, G3, G4, G5, G6, G7, G8, G9, G10, G11, G12, G13, G14, G15, G16. -/
import Derived.Test.YtjodjfbhaojhjaaDoorG0
section
namespace Go.Proofs.YtjodjfbhaojhjaaDoor.G
open Go.RowKit Go.Proofs.YtjodjfbhaojhjaaDoorW.PrintWords Go.Proofs.YtjodjfbhaojhjaaDoorW.PrintLast Go.Proofs.YtjodjfbhaojhjaaDoorW.PrintMore
attribute [local go_sem] max2_int min2_int max_two min_two max_three min_three max_four min_four
set_option linter.unusedVariables false
set_option linter.unusedSimpArgs false
/-- where the first blank or bracket stands -/
abbrev seps : ByteArray := ⟨#[32, 40, 41]⟩
set_option maxHeartbeats 4000000 in
set_option maxRecDepth 100000 in
theorem rune_err (w : World) :
    Calls Tryd.prog 48 #[.string seps, .int .i32 65533] w fun e w' => e = .returned (.int .i64 (-1)) ∧ Below w.heap.size w w' := by
  have hnx0 := fun ty => run_next_ascii (P := Tryd.prog) w seps 0 ty (by decide) (by decide)
  have hnx1 := fun ty => run_next_ascii (P := Tryd.prog) w seps 1 ty (by decide) (by decide)
  have hnx2 := fun ty => run_next_ascii (P := Tryd.prog) w seps 2 ty (by decide) (by decide)
  have hnx3 := fun ty => run_next_end (P := Tryd.prog) w seps 3 ty (by decide)
  go_enter Tryd.func48, Tryd.ntmps48
  go_wp2
  go_loopg [5, 6] 3 (fun g _ _ wx => ∃ i : Nat, i + g = 3 ∧ wx = w.iter seps i)
  case atStart => exact ⟨0, rfl, rfl⟩
  case round =>
    obtain ⟨i, hi, rfl⟩ := hrel
    cases gk with
    | zero =>
      obtain rfl : i = 3 := by omega
      go_wp2
      go_ret
      exact ⟨rfl, by apply below_alloc; exact Below.refl _ _⟩
    | succ g =>
      rcases (show i = 0 ∨ i = 1 ∨ i = 2 by omega) with rfl | rfl | rfl
      all_goals go_wp2
      all_goals go_roundg g
      all_goals first | omega | exact ⟨_, by omega, rfl⟩
set_option maxHeartbeats 4000000 in
set_option maxRecDepth 100000 in
theorem rune_two (w : World) (c : Int) (hc : 128 ≤ c) (hc2 : c < 2048) (hv : Lib.validRune c = true) (hc3 : c ≠ 65533) :
    Calls Tryd.prog 48 #[.string seps, .int .i32 c] w fun e w' => e = .returned (.int .i64 (-1)) ∧ Below w.heap.size w w' := by
  obtain ⟨p1, p2, hxy, hy⟩ : ∃ p1 p2 : UInt8, Utf8.encode c = ⟨#[p1, p2]⟩ ∧ 128 ≤ p2.toNat := by
    have hv2 : Utf8.valid c = true := by
      rw [← hv]; unfold Utf8.valid Lib.validRune
      rw [Bool.eq_iff_iff]; simp; omega
    refine ⟨UInt8.ofNat (0xC0 + c.toNat / 64), UInt8.ofNat (0x80 + c.toNat % 64), ?_, ?_⟩
    · unfold Utf8.encode
      simp only [hv2, if_true]
      rw [if_neg (by omega), if_pos (by omega)]
    · simp; omega
  have hcv : ∀ W : World, (convert 21 9 (.int .i32 c)).run Tryd.prog W = .ok (.string ⟨#[p1, p2]⟩) W := by
    intro W
    rw [← hxy]
    simp [convert, run_underlying Tryd.underlying21, run_underlying Tryd.underlying9, Conv.intToString, Result.andThen]
  have n1 : (c == 65533) = false := beq_eq_false_iff_ne.2 (by omega)
  have n2 : decide (c < 128) = false := decide_eq_false (by omega)
  clear hxy
  go_enter Tryd.func48, Tryd.ntmps48
  go_wp2_with (first
    | (go_at_call 56; refine (Tryd.utf8_ValidRune _ _).mono ?_; rintro e w1 ⟨rfl, hw⟩; rw [hw, hv])
    )
  go_step3
  go_wp2
  go_loopg [9, 10] 1 (fun g v9 v0 wx => v9 = .int .i64 1 ∧ v0 = .int .i64 0 ∧ wx = w)
  case atStart => exact ⟨rfl, rfl, rfl⟩
  case round =>
    obtain ⟨rfl, rfl, rfl⟩ := hrel
    have hne : ((40 : Int) == (p2.toNat : Int)) = false := beq_eq_false_iff_ne.2 (by omega)
    have hb : 1 < ({ data := #[p1, p2] } : ByteArray).size := by show 1 < 2; decide
    have hne2 : ((seps[1].toNat : Int) != ((({ data := #[p1, p2] } : ByteArray)[1]'hb).toNat : Int)) = true := by
      show ((40 : Int) != (p2.toNat : Int)) = true
      rw [bne, hne]; rfl
    have hix : Lib.indexByte (seps.extract 2 3).data.toList ((p2.toNat : Int)).toNat.toUInt8 = -1 := by
      rw [show ((p2.toNat : Int)).toNat.toUInt8 = p2 by simp]
      show Lib.indexByte [41] p2 = -1
      unfold Lib.indexByte
      rw [if_neg (by intro h; have := beq_iff_eq.1 h; subst this; revert hy; decide)]; rfl
    have hw2 : IntKind.i64.wrap 2 = 2 := by decide
    have hwi : IntKind.i64.wrap (1 + 1) = 2 := by decide
    go_wp2
    go_step3
    go_wp2
    go_region
    simp only [Exit.then, hne2]
    go_wp2
    go_region_with (go_at_call 55; refine (Tryd.strings_IndexByte (seps.extract 2 3) (p2.toNat : Int) _).mono ?_; rintro e w2 ⟨rfl, hw2⟩; rw [hw2, hix])
    all_goals simp only [Exit.then]
    all_goals go_wp2
    all_goals simp only [Exit.noGoto, Exit.inBlock, Exit.then]
    all_goals go_ret
    all_goals exact ⟨rfl, by repeat (first | exact Below.refl _ _ | apply Below.drew)⟩
set_option maxHeartbeats 4000000 in
set_option maxRecDepth 100000 in
theorem rune_three (w : World) (c : Int) (hc : 2048 ≤ c) (hc2 : c < 65536) (hv : Lib.validRune c = true) (hc3 : c ≠ 65533) :
    Calls Tryd.prog 48 #[.string seps, .int .i32 c] w fun e w' => e = .returned (.int .i64 (-1)) ∧ Below w.heap.size w w' := by
  obtain ⟨p1, p2, p3, hxy, hy⟩ : ∃ p1 p2 p3 : UInt8, Utf8.encode c = ⟨#[p1, p2, p3]⟩ ∧ 128 ≤ p3.toNat := by
    have hv2 : Utf8.valid c = true := by
      rw [← hv]; unfold Utf8.valid Lib.validRune
      rw [Bool.eq_iff_iff]; simp; omega
    refine ⟨UInt8.ofNat (0xE0 + c.toNat / 4096), UInt8.ofNat (0x80 + c.toNat / 64 % 64), UInt8.ofNat (0x80 + c.toNat % 64), ?_, ?_⟩
    · unfold Utf8.encode
      simp only [hv2, if_true]
      rw [if_neg (by omega), if_neg (by omega), if_pos (by omega)]
    · simp; omega
  have hcv : ∀ W : World, (convert 21 9 (.int .i32 c)).run Tryd.prog W = .ok (.string ⟨#[p1, p2, p3]⟩) W := by
    intro W
    rw [← hxy]
    simp [convert, run_underlying Tryd.underlying21, run_underlying Tryd.underlying9, Conv.intToString, Result.andThen]
  have n1 : (c == 65533) = false := beq_eq_false_iff_ne.2 (by omega)
  have n2 : decide (c < 128) = false := decide_eq_false (by omega)
  clear hxy
  go_enter Tryd.func48, Tryd.ntmps48
  go_wp2_with (first
    | (go_at_call 56; refine (Tryd.utf8_ValidRune _ _).mono ?_; rintro e w1 ⟨rfl, hw⟩; rw [hw, hv])
    )
  go_step3
  go_wp2
  go_loopg [9, 10] 1 (fun g v9 v0 wx => v9 = .int .i64 2 ∧ v0 = .int .i64 0 ∧ wx = w)
  case atStart => exact ⟨rfl, rfl, rfl⟩
  case round =>
    obtain ⟨rfl, rfl, rfl⟩ := hrel
    have hne : ((41 : Int) == (p3.toNat : Int)) = false := beq_eq_false_iff_ne.2 (by omega)
    have hb : 2 < ({ data := #[p1, p2, p3] } : ByteArray).size := by show 2 < 3; decide
    have hne2 : ((seps[2].toNat : Int) != ((({ data := #[p1, p2, p3] } : ByteArray)[2]'hb).toNat : Int)) = true := by
      show ((41 : Int) != (p3.toNat : Int)) = true
      rw [bne, hne]; rfl
    have hix : Lib.indexByte (seps.extract 3 3).data.toList ((p3.toNat : Int)).toNat.toUInt8 = -1 := by
      rw [show ((p3.toNat : Int)).toNat.toUInt8 = p3 by simp]
      show Lib.indexByte [] p3 = -1
      unfold Lib.indexByte
      rfl
    have hw2 : IntKind.i64.wrap 3 = 3 := by decide
    have hwi : IntKind.i64.wrap (2 + 1) = 3 := by decide
    go_wp2
    go_step3
    go_wp2
    go_region
    simp only [Exit.then, hne2]
    go_wp2
    go_region_with (go_at_call 55; refine (Tryd.strings_IndexByte (seps.extract 3 3) (p3.toNat : Int) _).mono ?_; rintro e w2 ⟨rfl, hw2⟩; rw [hw2, hix])
    all_goals simp only [Exit.then]
    all_goals go_wp2
    all_goals simp only [Exit.noGoto, Exit.inBlock, Exit.then]
    all_goals go_ret
    all_goals exact ⟨rfl, by repeat (first | exact Below.refl _ _ | apply Below.drew)⟩
set_option maxHeartbeats 4000000 in
set_option maxRecDepth 100000 in
theorem rune_four (w : World) (c : Int) (hc : 65536 ≤ c) (hc2 : c < 2147483648) (hv : Lib.validRune c = true) (hc3 : c ≠ 65533) :
    Calls Tryd.prog 48 #[.string seps, .int .i32 c] w fun e w' => e = .returned (.int .i64 (-1)) ∧ Below w.heap.size w w' := by
  obtain ⟨p1, p2, p3, p4, hxy, hy⟩ : ∃ p1 p2 p3 p4 : UInt8, Utf8.encode c = ⟨#[p1, p2, p3, p4]⟩ ∧ 128 ≤ p4.toNat := by
    have hv2 : Utf8.valid c = true := by
      rw [← hv]; unfold Utf8.valid Lib.validRune
      rw [Bool.eq_iff_iff]; simp; omega
    refine ⟨UInt8.ofNat (0xF0 + c.toNat / 262144), UInt8.ofNat (0x80 + c.toNat / 4096 % 64), UInt8.ofNat (0x80 + c.toNat / 64 % 64), UInt8.ofNat (0x80 + c.toNat % 64), ?_, ?_⟩
    · unfold Utf8.encode
      simp only [hv2, if_true]
      rw [if_neg (by omega), if_neg (by omega), if_neg (by omega)]
    · simp; omega
  have hcv : ∀ W : World, (convert 21 9 (.int .i32 c)).run Tryd.prog W = .ok (.string ⟨#[p1, p2, p3, p4]⟩) W := by
    intro W
    rw [← hxy]
    simp [convert, run_underlying Tryd.underlying21, run_underlying Tryd.underlying9, Conv.intToString, Result.andThen]
  have n1 : (c == 65533) = false := beq_eq_false_iff_ne.2 (by omega)
  have n2 : decide (c < 128) = false := decide_eq_false (by omega)
  clear hxy
  go_enter Tryd.func48, Tryd.ntmps48
  go_wp2_with (first
    | (go_at_call 56; refine (Tryd.utf8_ValidRune _ _).mono ?_; rintro e w1 ⟨rfl, hw⟩; rw [hw, hv])
    )
  go_step3
  go_wp2
  go_loopg [9, 10] 1 (fun g v9 v0 wx => v9 = .int .i64 3 ∧ v0 = .int .i64 0 ∧ wx = w)
  case atStart => exact ⟨rfl, rfl, rfl⟩
  case round =>
    obtain ⟨rfl, rfl, rfl⟩ := hrel
    go_wp2
    simp only [Exit.noGoto_ret, Exit.noGoto_normal]
    go_ret
    exact ⟨rfl, Below.refl _ _⟩
theorem rune_high (w : World) (c : Int) (hc : 128 ≤ c) (hm : c ≤ 2147483647) (hv : c = 65533 ∨ Lib.validRune c = true) :
    Calls Tryd.prog 48 #[.string seps, .int .i32 c] w fun e w' => e = .returned (.int .i64 (-1)) ∧ Below w.heap.size w w' := by
  by_cases h3 : c = 65533
  case pos =>
    subst h3; exact rune_err w
  have hv := hv.resolve_left h3
  by_cases h1 : c < 2048
  case pos =>
    exact rune_two w c hc h1 hv h3
  by_cases h2 : c < 65536
  case pos =>
    exact rune_three w c (by omega) h2 hv h3
  exact rune_four w c (by omega) (by omega) hv h3
theorem get_bang (s : ByteArray) (i : Nat) (h : i < s.size) : s.get! i = s[i]'h := by
  simp [ByteArray.get!, getElem!_pos, h]; rfl
theorem dec_valid (s : ByteArray) (p : Nat) (h : p < s.size) (ha : 128 ≤ (s[p]'h).toNat) :
    ((Utf8.decode s p).1 : Int) = 65533 ∨ Lib.validRune ((Utf8.decode s p).1 : Int) = true := by
  have hb : ∀ k, (s.get! (p + k)).toNat < 256 := fun k => (s.get! (p + k)).toNat_lt
  have h0 := hb 0; have h1 := hb 1; have h2 := hb 2; have h3 := hb 3
  have hn : ¬ (s.get! (p + 0)).toNat < 128 := by rw [show p + 0 = p from rfl, get_bang s p h]; omega
  simp only [Utf8.decode, hn, if_false]
  repeat' split
  all_goals simp_all [Utf8.runeError, Lib.validRune, Utf8.valid]
  all_goals omega
theorem dec_high (s : ByteArray) (p : Nat) (h : p < s.size) (ha : 128 ≤ (s[p]'h).toNat) (j : Nat) (hj : p ≤ j) (hj2 : j < p + (Utf8.decode s p).2) (hjs : j < s.size) : 128 ≤ (s[j]'hjs).toNat := by
  have hn : ¬ (s.get! (p + 0)).toNat < 128 := by rw [show p + 0 = p from rfl, get_bang s p h]; omega
  have e1 : ∀ k, p + k < s.size → (s.get! (p + k)).toNat / 64 = 2 → ∀ hk : p + k < s.size, 128 ≤ (s[p + k]'hk).toNat := by
    intro k hk h2 hk'
    rw [get_bang s (p + k) hk] at h2
    omega
  obtain ⟨k, rfl⟩ : ∃ k, j = p + k := ⟨j - p, by omega⟩
  have hk4 : k < 4 := by
    revert hj2
    simp only [Utf8.decode, hn, if_false]
    repeat' split
    all_goals simp
    all_goals omega
  have hc : k = 0 ∨ (s.get! (p + k)).toNat / 64 = 2 := by
    revert hj2
    simp only [Utf8.decode, hn, if_false]
    rcases (show k = 0 ∨ k = 1 ∨ k = 2 ∨ k = 3 by omega) with rfl | rfl | rfl | rfl
    · intro _; exact .inl rfl
    all_goals repeat' split
    all_goals simp_all
  rcases hc with rfl | hc
  · exact ha
  · exact e1 k hjs hc hjs
theorem noany_skip (s : ByteArray) (p : Nat) (h : p < s.size) (ha : 128 ≤ (s[p]'h).toNat) (hno : Lib.NoAny s.data.toList seps.data.toList p) :
    Lib.NoAny s.data.toList seps.data.toList (p + (Utf8.decode s p).2) := by
  intro j b hj hb
  by_cases hjp : j < p
  case pos =>
    exact hno j b hjp hb
  have hjs : j < s.size := by
    have := (List.getElem?_eq_some_iff.1 hb).1
    rwa [← Lib.size_eq] at this
  have h1 := dec_high s p h ha j (by omega) hj hjs
  have h2 : s.data.toList[j]? = some (s[j]'hjs) := Lib.data_getElem? s j hjs
  rw [h2] at hb
  obtain rfl := Option.some.inj hb
  show [(32 : UInt8), 40, 41].contains (s[j]'hjs) = false
  generalize s[j]'hjs = b at h1
  rw [Bool.eq_false_iff]
  intro hc
  simp at hc
  rcases hc with rfl | rfl | rfl <;> revert h1 <;> decide
set_option maxHeartbeats 8000000 in
set_option maxRecDepth 1000000 in
theorem any_short (s : ByteArray) (w : World) (h8 : s.size ≤ 8) :
    Calls Tryd.prog 41 #[.string s, .string seps] w fun e w' => e = .returned (.int .i64 (Lib.indexAny s.data.toList seps.data.toList)) ∧ Below w.heap.size w w' := by
  have hemp : seps.toList.isEmpty = false := by rw [Lib.toList_data]; rfl
  have hn1 : ((seps.size : Int) == 1) = false := by decide
  have h8z : decide ((8 : Int) < (s.size : Int)) = false := decide_eq_false (by omega)
  go_enter Tryd.func41, Tryd.ntmps41
  go_wp2_with (go_at_call 49; refine (Tryd.strings_shouldUseASCIISet _ _).mono ?_; rintro e w' ⟨rfl, hw⟩; rw [hw, h8z])
  go_loopg [9, 10] s.size (fun g _ _ wx => ∃ i : Nat, s.size ≤ i + g ∧ Below w.heap.size w wx ∧ wx.heap[w.heap.size]? = some (.stringIter s i) ∧ Lib.NoAny s.data.toList seps.data.toList i)
  case atStart => exact ⟨0, by omega, by apply below_alloc; exact Below.refl _ _, World.iter_heap _ _ _, Lib.NoAny.zero _ _⟩
  case round =>
    obtain ⟨i, hig, hB, hit, hno⟩ := hrel
    have HB : Aside (Below w.heap.size w wr) := hB
    have HN : Aside (Lib.NoAny s.data.toList seps.data.toList i) := hno
    clear hno
    by_cases hi : i < s.size
    case neg =>
      have hnx := fun ty => Lib.run_next_end_at (P := Tryd.prog) wr w.heap.size s i ty hit hi
      go_wp2
      go_ret
      exact ⟨by rw [Lib.indexAny_none (fun j b hj hb => HN.out j b (by have := (List.getElem?_eq_some_iff.1 hb).1; rw [← Lib.size_eq] at this; omega) hb)]; rfl, HB.out⟩
    cases gk with
    | zero => exact absurd hig (by omega)
    | succ g =>
      have hws : w.heap.size < wr.heap.size := (Array.getElem?_eq_some_iff.1 hit).1
      have hnx := fun ty => Lib.run_next_any_at (P := Tryd.prog) wr w.heap.size s i ty hit hi
      have hit2 := Lib.iterAt_heap wr w.heap.size s i (i + (Utf8.decode s i).2) hit
      have hB2 : Below w.heap.size w (wr.iterAt w.heap.size s (i + (Utf8.decode s i).2)) := Lib.below_iterAt hB (Nat.le_refl _) s _
      have hsz2 : (wr.iterAt w.heap.size s (i + (Utf8.decode s i).2)).heap.size = wr.heap.size := Lib.iterAt_size _ _ _ _
      generalize hx : s[i]'hi = x at *
      by_cases h0 : x.toNat < 128
      case neg =>
        have hxh : 128 ≤ (s[i]'hi).toNat := by rw [hx]; omega
        have hd := decode_high s i hi hxh
        have hdl := decode_le s i
        have hv := dec_valid s i hi hxh
        have HN2 : Aside (Lib.NoAny s.data.toList seps.data.toList (i + (Utf8.decode s i).2)) := noany_skip s i hi hxh HN.out
        clear hx hxh
        generalize Utf8.decode s i = d at *
        obtain ⟨d1, d2⟩ := d
        dsimp only at *
        have HB2 : Aside (Below w.heap.size w (wr.iterAt w.heap.size s (i + d2))) := hB2
        have HI2 : Aside ((wr.iterAt w.heap.size s (i + d2)).heap[w.heap.size]? = some (.stringIter s (i + d2))) := hit2
        clear hB2 hit2
        generalize wr.iterAt w.heap.size s (i + d2) = wx at *
        have hneg : ¬ ((0 : Int) ≤ -1) := by omega
        have HR : Aside (Calls Tryd.prog 48 #[.string seps, .int .i32 (d1 : Int)] wx fun e w' => e = .returned (.int .i64 (-1)) ∧ Below wx.heap.size wx w') := rune_high wx d1 (by omega) (by omega) hv
        clear hv hdl
        go_wp2_with (go_at_call 48; refine (HR.out).mono ?_; rintro e w' ⟨rfl, hb⟩; have HBr : Aside (Below wx.heap.size wx w') := hb; clear hb)
        go_roundg g
        case measure => omega
        case rel =>
          refine ⟨i + d2, by omega, below_step HB2.out HBr.out, ?_, HN2.out⟩
          rw [← HI2.out]
          exact (HBr.out.block _ (by omega))
      have hd := decode_ascii s i hi (by rw [hx]; exact h0)
      rw [hd] at hnx hit2 hB2 hsz2
      rw [hx] at hnx
      have hxl : s.data.toList[i]? = some x := by rw [← hx]; exact Lib.data_getElem? s i hi
      have hcon := Lib.contains_iff_indexByte seps.data.toList x
      have hback : ((x.toNat : Int)).toNat.toUInt8 = x := by simp
      have HB2 : Aside (Below w.heap.size w (wr.iterAt w.heap.size s (i + 1))) := hB2
      have HI2 : Aside ((wr.iterAt w.heap.size s (i + 1)).heap[w.heap.size]? = some (.stringIter s (i + 1))) := hit2
      have Hx : Aside (s.data.toList[i]? = some x) := hxl
      clear hxl hx hd hB2 hit2 hsz2
      generalize wr.iterAt w.heap.size s (i + 1) = wx at *
      cases hin : seps.data.toList.contains x
      · rw [hin] at hcon
        have hlt : ¬ ((0 : Int) ≤ Lib.indexByte seps.data.toList x) := of_decide_eq_false hcon.symm
        clear hcon
        go_wp2_with (go_at_call 48; refine (Tryd.strings_IndexRune_ascii _ _ _ (by omega) (by omega)).mono ?_; rintro e w' ⟨rfl, hw⟩; rw [hw, hback])
        go_roundg g
        case measure => omega
        case rel => exact ⟨i + 1, by omega, HB2.out, HI2.out, HN.out.succ Hx.out hin⟩
      · rw [hin] at hcon
        have hge : (0 : Int) ≤ Lib.indexByte seps.data.toList x := of_decide_eq_true hcon.symm
        clear hcon
        go_wp2_with (go_at_call 48; refine (Tryd.strings_IndexRune_ascii _ _ _ (by omega) (by omega)).mono ?_; rintro e w' ⟨rfl, hw⟩; rw [hw, hback])
        go_ret
        exact ⟨by rw [Lib.indexAny_hit HN.out Hx.out hin]; rfl, HB2.out⟩
def strings_IndexAny.f (a0 : ByteArray) (a1 : ByteArray) : Option Int := if a1 = seps ∧ a0.size < 4294967281 then some (Lib.indexAny a0.data.toList seps.data.toList) else none
theorem strings_IndexAny.calls (a0 : ByteArray) (a1 : ByteArray) (r : Int) (w : World) (h : strings_IndexAny.f a0 a1 = some r) :
    Calls Tryd.prog 41 #[.string a0, .string a1] w fun e w' => e = .returned (.int .i64 r) ∧ Below w.heap.size w w' := by
  unfold strings_IndexAny.f at h
  by_cases hc : a1 = seps ∧ a0.size < 4294967281
  case neg =>
    rw [if_neg hc] at h; cases h

  rw [if_pos hc] at h
  obtain rfl := Option.some.inj h
  obtain ⟨rfl, hs⟩ := hc
  by_cases h8 : a0.size ≤ 8
  case pos =>
    exact any_short a0 w h8
  refine (Tryd.strings_IndexAny_long (zero_of_info (n := 256) (by kernel_rfl)).1 a0 seps w (by decide) (by omega) hs (by decide) ?_).mono ?_
  · intro j b hb
    have : j < 3 := (List.getElem?_eq_some_iff.1 hb).1
    rcases (show j = 0 ∨ j = 1 ∨ j = 2 by omega) with rfl | rfl | rfl <;> (obtain rfl := Option.some.inj hb; decide)
  · rintro e w' ⟨rfl, rfl⟩
    exact ⟨rfl, by apply below_alloc; apply below_alloc; exact Below.refl _ _⟩
def term_word.f (a0 : ByteArray) : Option (ByteArray × ByteArray) := (strings_IndexAny.f a0 (⟨#[32, 40, 41]⟩ : ByteArray)).bind fun t101 => (if t101 < 0 then (if 0 ≤ (a0.size : Int) then (if (a0.size : Int) ≤ (a0.size : Int) then (some (a0.extract 0 ((a0.size : Int) : Int).toNat, a0.extract ((a0.size : Int) : Int).toNat a0.size)) else (none)) else (none)) else (if 0 ≤ t101 then (if t101 ≤ (a0.size : Int) then (some (a0.extract 0 (t101 : Int).toNat, a0.extract (t101 : Int).toNat a0.size)) else (none)) else (none)))
set_option maxHeartbeats 8000000 in
set_option maxRecDepth 100000 in
theorem term_word.calls (a0 : ByteArray) (r1 : ByteArray) (r2 : ByteArray) (w : World) (h : term_word.f a0 = some (r1, r2)) :
    Calls Tryd.prog 35 #[.string a0] w fun e w' => e = .returned (.tuple #[.string r1, .string r2]) ∧ Below w.heap.size w w' := by
  have HB := Aside0.mk (Below.refl w.heap.size w)
  have H : ((strings_IndexAny.f a0 (⟨#[32, 40, 41]⟩ : ByteArray)).bind fun t0 => (if t0 < 0 then (if 0 ≤ (a0.size : Int) then (if (a0.size : Int) ≤ (a0.size : Int) then (some (a0.extract 0 ((a0.size : Int) : Int).toNat, a0.extract ((a0.size : Int) : Int).toNat a0.size)) else (none)) else (none)) else (if 0 ≤ t0 then (if t0 ≤ (a0.size : Int) then (some (a0.extract 0 (t0 : Int).toNat, a0.extract (t0 : Int).toNat a0.size)) else (none)) else (none)))) = some (r1, r2) := h
  clear h
  replace H := Option.bind_eq_some_iff.mp H
  obtain ⟨t0, A20, H⟩ := H
  replace H : (if t0 < 0 then (if 0 ≤ (a0.size : Int) then (if (a0.size : Int) ≤ (a0.size : Int) then (some (a0.extract 0 ((a0.size : Int) : Int).toNat, a0.extract ((a0.size : Int) : Int).toNat a0.size)) else (none)) else (none)) else (if 0 ≤ t0 then (if t0 ≤ (a0.size : Int) then (some (a0.extract 0 (t0 : Int).toNat, a0.extract (t0 : Int).toNat a0.size)) else (none)) else (none))) = some (r1, r2) := H
  have A2 := Aside0.mk A20
  clear A20
  by_cases c3 : t0 < 0
  case neg =>
    rw [if_neg c3] at H
    have c3b0 : decide (t0 < 0) = false := decide_eq_false c3
    clear c3
    replace H := ifI_ H; obtain ⟨c9, H⟩ := H
    have c9b0 := eq_true c9
    have c9b1 : decide (0 ≤ t0) = true := decide_eq_true c9
    clear c9
    replace H := ifI_ H; obtain ⟨c10, H⟩ := H
    have c10b0 := eq_true c10
    have c10b1 : decide (t0 ≤ (a0.size : Int)) = true := decide_eq_true c10
    clear c10
    have c11b0 := eq_true (of_decide_eq_true hA_ : 0 ≤ t0)
    have c12b0 := eq_true (of_decide_eq_true hA_ : t0 ≤ (a0.size : Int))
    simp only [Option.some.injEq, Prod.mk.injEq] at H
    obtain ⟨rfl, rfl⟩ := H
    go_enter Tryd.func35, Tryd.ntmps35
    go_wp2_with (first | (go_at_call 41; (with_reducible refine (strings_IndexAny.calls a0 (⟨#[32, 40, 41]⟩ : ByteArray) t0 _ A2.out).mono ?_); rintro e w0 ⟨rfl, hb⟩; have n0_ := Aside0.mk (below_step hB_ hb); clear HB; have HB := n0_; clear n0_; (try clear hb); (try clear hb2); (try clear hk); (try clear hi)))
    repeat (go_quiet (first | (go_at_call 41; (with_reducible refine (strings_IndexAny.calls a0 (⟨#[32, 40, 41]⟩ : ByteArray) t0 _ A2.out).mono ?_); rintro e w0 ⟨rfl, hb⟩; have n0_ := Aside0.mk (below_step hB_ hb); clear HB; have HB := n0_; clear n0_; (try clear hb); (try clear hb2); (try clear hk); (try clear hi))); try go_wp2_with (first | (go_at_call 41; (with_reducible refine (strings_IndexAny.calls a0 (⟨#[32, 40, 41]⟩ : ByteArray) t0 _ A2.out).mono ?_); rintro e w0 ⟨rfl, hb⟩; have n0_ := Aside0.mk (below_step hB_ hb); clear HB; have HB := n0_; clear n0_; (try clear hb); (try clear hb2); (try clear hk); (try clear hi))))
    go_ret2
    exact ⟨hV_, hC_⟩
  rw [if_pos c3] at H
  have c3b0 : decide (t0 < 0) = true := decide_eq_true c3
  clear c3
  replace H := ifI_ H; obtain ⟨c4, H⟩ := H
  have c4b0 := eq_true c4
  have c4b1 : decide (0 ≤ (a0.size : Int)) = true := decide_eq_true c4
  clear c4
  replace H := ifI_ H; obtain ⟨c5, H⟩ := H
  have c5b0 := eq_true c5
  have c5b1 : decide ((a0.size : Int) ≤ (a0.size : Int)) = true := decide_eq_true c5
  clear c5
  have c6b0 := eq_true (of_decide_eq_true hA_ : 0 ≤ (a0.size : Int))
  have c7b0 := eq_true (of_decide_eq_true hA_ : (a0.size : Int) ≤ (a0.size : Int))
  simp only [Option.some.injEq, Prod.mk.injEq] at H
  obtain ⟨rfl, rfl⟩ := H
  go_enter Tryd.func35, Tryd.ntmps35
  go_wp2_with (first | (go_at_call 41; (with_reducible refine (strings_IndexAny.calls a0 (⟨#[32, 40, 41]⟩ : ByteArray) t0 _ A2.out).mono ?_); rintro e w8 ⟨rfl, hb⟩; have n0_ := Aside0.mk (below_step hB_ hb); clear HB; have HB := n0_; clear n0_; (try clear hb); (try clear hb2); (try clear hk); (try clear hi)))
  repeat (go_quiet (first | (go_at_call 41; (with_reducible refine (strings_IndexAny.calls a0 (⟨#[32, 40, 41]⟩ : ByteArray) t0 _ A2.out).mono ?_); rintro e w8 ⟨rfl, hb⟩; have n0_ := Aside0.mk (below_step hB_ hb); clear HB; have HB := n0_; clear n0_; (try clear hb); (try clear hb2); (try clear hk); (try clear hi))); try go_wp2_with (first | (go_at_call 41; (with_reducible refine (strings_IndexAny.calls a0 (⟨#[32, 40, 41]⟩ : ByteArray) t0 _ A2.out).mono ?_); rintro e w8 ⟨rfl, hb⟩; have n0_ := Aside0.mk (below_step hB_ hb); clear HB; have HB := n0_; clear n0_; (try clear hb); (try clear hb2); (try clear hk); (try clear hi))))
  go_ret2
  exact ⟨hV_, hC_⟩
def term_Number.f (a0 : ByteArray) : Option (Int × Bool) := if a0.size ≤ 281474976710656 then some (numF a0) else none
set_option maxHeartbeats 4000000 in
set_option maxRecDepth 100000 in
theorem term_Number.calls (a0 : ByteArray) (r1 : Int) (r2 : Bool) (w : World) (h : term_Number.f a0 = some (r1, r2)) (hG : GOK w) :
    Calls Tryd.prog 36 #[.string a0] w fun e w' => e = .returned (.tuple #[.int .i64 r1, .bool r2]) ∧ Below w.heap.size w w' := by
  unfold term_Number.f at h
  by_cases hs : a0.size ≤ 281474976710656
  case neg =>
    rw [if_neg hs] at h
    cases h

  rw [if_pos hs] at h
  have h := Option.some.inj h
  obtain ⟨rfl, rfl⟩ : r1 = (numF a0).1 ∧ r2 = (numF a0).2 := by rw [h]; exact ⟨rfl, rfl⟩
  clear h
  have hr := atoiF_range a0
  have hC := Aside0.mk (atoi_calls a0 hs w hG)
  have hn : (numF a0).1 = (atoiF a0).1 := by unfold numF atoiF; cases Lib.atoiAll a0.data.toList <;> rfl
  rw [hn]
  have hb : (numF a0).2 = ((atoiF a0).2 && ((decide (-32768 ≤ (atoiF a0).1) && decide ((atoiF a0).1 ≤ 32767)) && itoaK (atoiF a0).1 == a0.data.toList)) := by
    unfold numF atoiF; cases Lib.atoiAll a0.data.toList <;> rfl
  rw [hb]
  clear hn hb
  generalize (atoiF a0).1 = v at hr hC ⊢
  generalize (atoiF a0).2 = ok at hC ⊢
  cases ok with
  | false =>
    go_enter Tryd.func36, Tryd.ntmps36
    go_wp2_with (go_at_call 42; refine (hC.out).mono ?_; rintro e w1 ⟨⟨N, rfl⟩, hb⟩; have HB := Aside0.mk hb; clear hb; simp only [errV, Bool.false_eq_true, if_false])
    go_ret2
    exact ⟨rfl, by repeat (first | exact HB.out | apply below_alloc | apply pw_below_drewN | apply below_drew1)⟩
  | true =>
    by_cases c1 : -32768 ≤ v
    case neg =>
      have k1 : decide (-32768 ≤ v) = false := decide_eq_false c1
      have e1 : (true && ((decide (-32768 ≤ v) && decide (v ≤ 32767)) && itoaK v == a0.data.toList)) = false := by rw [k1]; rfl
      rw [e1]
      clear e1
      go_enter Tryd.func36, Tryd.ntmps36
      go_wp2_with (first
        | (go_at_call 42; refine (hC.out).mono ?_; rintro e w1 ⟨⟨N, rfl⟩, hb⟩; have HB := Aside0.mk hb; clear hb; simp only [errV, if_true])
        | go_in)
      go_ret2
      exact ⟨rfl, by repeat (first | exact HB.out | apply below_alloc | apply pw_below_drewN | apply below_drew1)⟩
    by_cases c2 : v ≤ 32767
    case neg =>
      have k1 : decide (-32768 ≤ v) = true := decide_eq_true c1
      have k2 : decide (v ≤ 32767) = false := decide_eq_false c2
      have e1 : (true && ((decide (-32768 ≤ v) && decide (v ≤ 32767)) && itoaK v == a0.data.toList)) = false := by rw [k1, k2]; rfl
      rw [e1]
      clear e1
      go_enter Tryd.func36, Tryd.ntmps36
      go_wp2_with (first
        | (go_at_call 42; refine (hC.out).mono ?_; rintro e w1 ⟨⟨N, rfl⟩, hb⟩; have HB := Aside0.mk hb; clear hb; simp only [errV, if_true])
        | go_in)
      go_ret2
      exact ⟨rfl, by repeat (first | exact HB.out | apply below_alloc | apply pw_below_drewN | apply below_drew1)⟩
    have k1 : decide (-32768 ≤ v) = true := decide_eq_true c1
    have k2 : decide (v ≤ 32767) = true := decide_eq_true c2
    have e1 : (true && ((decide (-32768 ≤ v) && decide (v ≤ 32767)) && itoaK v == a0.data.toList)) = (itoaK v == a0.data.toList) := by rw [k1, k2]; rfl
    rw [e1]
    clear e1
    go_enter Tryd.func36, Tryd.ntmps36
    go_wp2_with (first
      | (go_at_call 42; refine (hC.out).mono ?_; rintro e w1 ⟨⟨N, rfl⟩, hb⟩; have HB := Aside0.mk hb; have HG1 := hG.below hb; clear hb; simp only [errV, if_true])
      | (go_at_call 44; refine (itoa_calls v (by omega) (by omega) _ HG1).mono ?_; rintro e w2 ⟨rfl, hb⟩; have HB2 := Aside0.mk (below_step HB.out hb); clear hb)
      | go_in)
    go_ret2
    exact ⟨by rw [Lib.toList_data]; rfl, by repeat (first | exact HB2.out | apply below_alloc | apply pw_below_drewN | apply below_drew1)⟩
def strings_CutPrefix.f (a0 : ByteArray) (a1 : ByteArray) : Option (ByteArray × Bool) := some (⟨(Lib.trimPrefix a0.data.toList a1.data.toList).toArray⟩, Lib.hasPrefix a0.data.toList a1.data.toList)
theorem strings_CutPrefix.calls (a0 : ByteArray) (a1 : ByteArray) (r1 : ByteArray) (r2 : Bool) (w : World) (h : strings_CutPrefix.f a0 a1 = some (r1, r2)) :
    Calls Tryd.prog 39 #[.string a0, .string a1] w fun e w' => e = .returned (.tuple #[.string r1, .bool r2]) ∧ Drawn0 w w' := by
  have h := Option.some.inj h
  obtain ⟨rfl, rfl⟩ := Prod.mk.inj h
  refine (Tryd.strings_CutPrefix a0 a1 w).mono ?_
  rintro e w' ⟨rfl, rfl⟩
  exact ⟨rfl, Drawn0.refl _⟩

def term_Digits.f (a0 : ByteArray) (a1 : Int) : Option (Int × Bool) := if a0.size ≤ 281474976710656 then some (digF a0 a1) else none
set_option maxHeartbeats 4000000 in
set_option maxRecDepth 100000 in
theorem term_Digits.calls (a0 : ByteArray) (a1 : Int) (r1 : Int) (r2 : Bool) (w : World) (h : term_Digits.f a0 a1 = some (r1, r2)) (hG : GOK w) :
    Calls Tryd.prog 45 #[.string a0, .int .i64 a1] w fun e w' => e = .returned (.tuple #[.int .i64 r1, .bool r2]) ∧ Below w.heap.size w w' := by
  unfold term_Digits.f at h
  by_cases hs : a0.size ≤ 281474976710656
  case neg =>
    rw [if_neg hs] at h
    cases h

  rw [if_pos hs] at h
  have h := Option.some.inj h
  obtain ⟨rfl, rfl⟩ : r1 = (digF a0 a1).1 ∧ r2 = (digF a0 a1).2 := by rw [h]; exact ⟨rfl, rfl⟩
  clear h
  have hr := atoiF_range a0
  have hC := Aside0.mk (atoi_calls a0 hs w hG)
  have hn : (digF a0 a1).1 = (atoiF a0).1 := by unfold digF atoiF; cases Lib.atoiAll a0.data.toList <;> rfl
  rw [hn]
  have hb : (digF a0 a1).2 = ((atoiF a0).2 && ((decide (0 ≤ (atoiF a0).1) && decide ((atoiF a0).1 ≤ a1)) && itoaK (atoiF a0).1 == a0.data.toList)) := by
    unfold digF atoiF; cases Lib.atoiAll a0.data.toList <;> rfl
  rw [hb]
  clear hn hb
  generalize (atoiF a0).1 = v at hr hC ⊢
  generalize (atoiF a0).2 = ok at hC ⊢
  cases ok with
  | false =>
    go_enter Tryd.func45, Tryd.ntmps45
    go_wp2_with (go_at_call 42; refine (hC.out).mono ?_; rintro e w1 ⟨⟨N, rfl⟩, hb⟩; have HB := Aside0.mk hb; clear hb; simp only [errV, Bool.false_eq_true, if_false])
    go_ret2
    exact ⟨rfl, by repeat (first | exact HB.out | apply below_alloc | apply pw_below_drewN | apply below_drew1)⟩
  | true =>
    by_cases c1 : 0 ≤ v
    case neg =>
      have k1 : decide (0 ≤ v) = false := decide_eq_false c1
      have e1 : (true && ((decide (0 ≤ v) && decide (v ≤ a1)) && itoaK v == a0.data.toList)) = false := by rw [k1]; rfl
      rw [e1]
      clear e1
      go_enter Tryd.func45, Tryd.ntmps45
      go_wp2_with (first
        | (go_at_call 42; refine (hC.out).mono ?_; rintro e w1 ⟨⟨N, rfl⟩, hb⟩; have HB := Aside0.mk hb; clear hb; simp only [errV, if_true])
        | go_in)
      go_ret2
      exact ⟨rfl, by repeat (first | exact HB.out | apply below_alloc | apply pw_below_drewN | apply below_drew1)⟩
    by_cases c2 : v ≤ a1
    case neg =>
      have k1 : decide (0 ≤ v) = true := decide_eq_true c1
      have k2 : decide (v ≤ a1) = false := decide_eq_false c2
      have e1 : (true && ((decide (0 ≤ v) && decide (v ≤ a1)) && itoaK v == a0.data.toList)) = false := by rw [k1, k2]; rfl
      rw [e1]
      clear e1
      go_enter Tryd.func45, Tryd.ntmps45
      go_wp2_with (first
        | (go_at_call 42; refine (hC.out).mono ?_; rintro e w1 ⟨⟨N, rfl⟩, hb⟩; have HB := Aside0.mk hb; clear hb; simp only [errV, if_true])
        | go_in)
      go_ret2
      exact ⟨rfl, by repeat (first | exact HB.out | apply below_alloc | apply pw_below_drewN | apply below_drew1)⟩
    have k1 : decide (0 ≤ v) = true := decide_eq_true c1
    have k2 : decide (v ≤ a1) = true := decide_eq_true c2
    have e1 : (true && ((decide (0 ≤ v) && decide (v ≤ a1)) && itoaK v == a0.data.toList)) = (itoaK v == a0.data.toList) := by rw [k1, k2]; rfl
    rw [e1]
    clear e1
    go_enter Tryd.func45, Tryd.ntmps45
    go_wp2_with (first
      | (go_at_call 42; refine (hC.out).mono ?_; rintro e w1 ⟨⟨N, rfl⟩, hb⟩; have HB := Aside0.mk hb; have HG1 := hG.below hb; clear hb; simp only [errV, if_true])
      | (go_at_call 44; refine (itoa_calls v (by omega) (by omega) _ HG1).mono ?_; rintro e w2 ⟨rfl, hb⟩; have HB2 := Aside0.mk (below_step HB.out hb); clear hb)
      | go_in)
    go_ret2
    exact ⟨by rw [Lib.toList_data]; rfl, by repeat (first | exact HB2.out | apply below_alloc | apply pw_below_drewN | apply below_drew1)⟩
def term_Tag.f (a0 : ByteArray) : Option (Int × Bool) := (strings_CutPrefix.f a0 (⟨#[64]⟩ : ByteArray)).bind fun bt102 => ((term_Digits.f bt102.1 99).bind fun bt104 => (if bt102.2 = true then (some (bt104.1, bt104.2)) else (some (bt104.1, false))))
set_option maxHeartbeats 8000000 in
set_option maxRecDepth 100000 in
theorem term_Tag.calls (a0 : ByteArray) (r1 : Int) (r2 : Bool) (w : World) (h : term_Tag.f a0 = some (r1, r2)) (hG : GOK w) :
    Calls Tryd.prog 37 #[.string a0] w fun e w' => e = .returned (.tuple #[.int .i64 r1, .bool r2]) ∧ Below w.heap.size w w' := by
  have HB := Aside0.mk (Below.refl w.heap.size w)
  have H : ((strings_CutPrefix.f a0 (⟨#[64]⟩ : ByteArray)).bind fun bt102 => ((term_Digits.f bt102.1 99).bind fun bt104 => (if bt102.2 = true then (some (bt104.1, bt104.2)) else (some (bt104.1, false))))) = some (r1, r2) := h
  clear h
  replace H := Option.bind_eq_some_iff.mp H
  obtain ⟨⟨t0, t3⟩, A20, H⟩ := H
  replace H : ((term_Digits.f t0 99).bind fun bt104 => (if t3 = true then (some (bt104.1, bt104.2)) else (some (bt104.1, false)))) = some (r1, r2) := H
  have A2 := Aside0.mk A20
  clear A20
  replace H := Option.bind_eq_some_iff.mp H
  obtain ⟨⟨t1, t2⟩, A30, H⟩ := H
  replace H : (if t3 = true then (some (t1, t2)) else (some (t1, false))) = some (r1, r2) := H
  have A3 := Aside0.mk A30
  clear A30
  by_cases c4 : t3 = true
  case pos =>
    subst c4
    have H1 : (some (t1, t2)) = some (r1, r2) := by rw [if_pos rfl] at H; exact H
    clear H
    have H := H1
    clear H1
    simp only [Option.some.injEq, Prod.mk.injEq] at H
    obtain ⟨rfl, rfl⟩ := H
    go_enter Tryd.func37, Tryd.ntmps37
    go_wp2_with (first | ((with_reducible refine gate_callee (f := 39) rfl ?_); refine goesL_ _ rfl rfl Tryd.func39 (by kernel_rfl) rfl #[.string a0, .string (⟨#[64]⟩ : ByteArray)] rfl hL_ ?_; (with_reducible refine (strings_CutPrefix.calls a0 (⟨#[64]⟩ : ByteArray) t0 true _ A2.out).mono ?_); rintro e w' ⟨rfl, ⟨nd, rfl⟩⟩; refine ⟨_, rfl, ?_⟩) | ((with_reducible refine gate_callee (f := 45) rfl ?_); refine goesL_ (some 15) rfl rfl Tryd.func45 (by kernel_rfl) rfl #[.string t0, .int .i64 99] rfl hL_ ?_; (with_reducible refine (term_Digits.calls t0 99 t1 t2 _ A3.out hG_).mono ?_); rintro e w5 ⟨rfl, hb⟩; refine ⟨_, rfl, ?_⟩; have n0_ := Aside0.mk (below_step hB_ hb); clear HB; have HB := n0_; clear n0_; (try clear hb); (try clear hb2); (try clear hk); (try clear hi)))
    go_ret2
    exact ⟨hV_, hC_⟩
  replace c4 := Bool.eq_false_iff.mpr c4
  subst c4
  have H1 : (some (t1, false)) = some (r1, r2) := by rw [if_neg (show ¬ (false = true) by decide)] at H; exact H
  clear H
  have H := H1
  clear H1
  simp only [Option.some.injEq, Prod.mk.injEq] at H
  obtain ⟨rfl, rfl⟩ := H
  go_enter Tryd.func37, Tryd.ntmps37
  go_wp2_with (first | ((with_reducible refine gate_callee (f := 39) rfl ?_); refine goesL_ _ rfl rfl Tryd.func39 (by kernel_rfl) rfl #[.string a0, .string (⟨#[64]⟩ : ByteArray)] rfl hL_ ?_; (with_reducible refine (strings_CutPrefix.calls a0 (⟨#[64]⟩ : ByteArray) t0 false _ A2.out).mono ?_); rintro e w' ⟨rfl, ⟨nd, rfl⟩⟩; refine ⟨_, rfl, ?_⟩) | ((with_reducible refine gate_callee (f := 45) rfl ?_); refine goesL_ (some 15) rfl rfl Tryd.func45 (by kernel_rfl) rfl #[.string t0, .int .i64 99] rfl hL_ ?_; (with_reducible refine (term_Digits.calls t0 99 t1 t2 _ A3.out hG_).mono ?_); rintro e w6 ⟨rfl, hb⟩; refine ⟨_, rfl, ?_⟩; have n0_ := Aside0.mk (below_step hB_ hb); clear HB; have HB := n0_; clear n0_; (try clear hb); (try clear hb2); (try clear hk); (try clear hi)))
  go_ret2
  exact ⟨hV_, hC_⟩

def strings_HasPrefix.f (a0 : ByteArray) (a1 : ByteArray) : Option Bool := some (Lib.hasPrefix a0.data.toList a1.data.toList)
theorem strings_HasPrefix.calls (a0 : ByteArray) (a1 : ByteArray) (r : Bool) (w : World) (h : strings_HasPrefix.f a0 a1 = some r) :
    Calls Tryd.prog 38 #[.string a0, .string a1] w fun e w' => e = .returned (.bool r) ∧ Drawn0 w w' := by
  obtain rfl := Option.some.inj h
  refine (Tryd.strings_HasPrefix a0 a1 w).mono ?_
  rintro e w' ⟨rfl, rfl⟩
  exact ⟨rfl, Drawn0.refl _⟩

mutual
def term_cut.j0 : Nat → ByteArray → Int → Bool → Bool → Option (Int × Int × List ByteArray × ByteArray × Bool)
  | 0, _, _, _, _ => none
  | k + 1, x8, x11, x12, x52 => if x52 = true then (some (2, x11, ([] : List ByteArray), x8, x12)) else (term_cut.l0 k x8 x11 ([] : List ByteArray))
def term_cut.l0 : Nat → ByteArray → Int → List ByteArray → Option (Int × Int × List ByteArray × ByteArray × Bool)
  | 0, _, _, _ => none
  | k + 1, x8, x11, x13 => if (x13.length : Int) < 3 then (if 1 ≤ (x8.size : Int) then ((term_cut.f k (x8.extract 1 x8.size)).bind fun bt115 => (if bt115.2.2.2.2 = true then (if 0 ≤ (wrap64 (((x8.extract 1 x8.size).size : Int) - (bt115.2.2.2.1.size : Int))) then (if (wrap64 (((x8.extract 1 x8.size).size : Int) - (bt115.2.2.2.1.size : Int))) ≤ ((x8.extract 1 x8.size).size : Int) then (if x13.length < 8796093022208 then ((some (x13 ++ [(x8.extract 1 x8.size).extract 0 ((wrap64 (((x8.extract 1 x8.size).size : Int) - (bt115.2.2.2.1.size : Int))) : Int).toNat] : List ByteArray)).bind fun y122 => ((strings_HasPrefix.f bt115.2.2.2.1 (⟨#[32]⟩ : ByteArray)).bind fun t125 => (if t125 = true then (term_cut.l0 k bt115.2.2.2.1 x11 y122) else ((strings_CutPrefix.f bt115.2.2.2.1 (⟨#[41]⟩ : ByteArray)).bind fun bt126 => (some (2, x11, y122, bt126.1, bt126.2)))))) else (none)) else (none)) else (none)) else (some (0, 0, ([] : List ByteArray), (⟨#[]⟩ : ByteArray), false)))) else (none)) else ((strings_CutPrefix.f x8 (⟨#[41]⟩ : ByteArray)).bind fun bt113 => (some (2, x11, x13, bt113.1, bt113.2)))
def term_cut.f : Nat → ByteArray → Option (Int × Int × List ByteArray × ByteArray × Bool)
  | 0, _ => none
  | k + 1, a0 => (term_word.f a0).bind fun bt106 => (if bt106.1.toList = ([95] : List UInt8) then (some (0, 0, ([] : List ByteArray), bt106.2, true)) else (if bt106.1.toList = ([33] : List UInt8) then (some (3, 0, ([] : List ByteArray), bt106.2, true)) else ((term_Number.f bt106.1).bind fun bt108 => (if bt108.2 = true then (some (1, bt108.1, ([] : List ByteArray), bt106.2, true)) else ((term_Tag.f bt106.1).bind fun bt110 => (if bt110.2 = true then ((strings_HasPrefix.f bt106.2 (⟨#[40]⟩ : ByteArray)).bind fun t112 => (term_cut.j0 k bt106.2 bt110.1 bt110.2 (!t112))) else (term_cut.j0 k bt106.2 bt110.1 bt110.2 true)))))))
end
set_option maxHeartbeats 8000000 in
set_option maxRecDepth 100000 in
theorem term_cut.calls (k : Nat) : ∀ (a0 : ByteArray) (r1 : Int) (r2 : Int) (r3 : List ByteArray) (r4 : ByteArray) (r5 : Bool) (w : World) (h : term_cut.f k a0 = some (r1, r2, r3, r4, r5)) (hG : GOK w),
    Calls Tryd.prog 30 #[.string a0] w fun e w' => ∃ v2_ : Value, e = .returned (.tuple #[.int .i64 r1, .int .i64 r2, v2_, .string r4, .bool r5]) ∧ Kd.R Kd.string 9 w' w.heap.size (fun _ => True) v2_ r3 ∧ Below w.heap.size w w' := by
  induction k using Nat.strongRecOn with
  | _ k ih =>
  intro a0 r1 r2 r3 r4 r5 w h hG
  cases k with
  | zero => exact absurd h (by simp [term_cut.f])
  | succ k =>
  simp only [term_cut.f] at h
  have HB := Aside0.mk (Below.refl w.heap.size w)
  have H : ((term_word.f a0).bind fun bt106 => (if bt106.1.toList = ([95] : List UInt8) then (some (0, 0, ([] : List ByteArray), bt106.2, true)) else (if bt106.1.toList = ([33] : List UInt8) then (some (3, 0, ([] : List ByteArray), bt106.2, true)) else ((term_Number.f bt106.1).bind fun bt108 => (if bt108.2 = true then (some (1, bt108.1, ([] : List ByteArray), bt106.2, true)) else ((term_Tag.f bt106.1).bind fun bt110 => (if bt110.2 = true then ((strings_HasPrefix.f bt106.2 (⟨#[40]⟩ : ByteArray)).bind fun t4 => (term_cut.j0 k bt106.2 bt110.1 bt110.2 (!t4))) else (term_cut.j0 k bt106.2 bt110.1 bt110.2 true)))))))) = some (r1, r2, r3, r4, r5) := h
  clear h
  replace H := Option.bind_eq_some_iff.mp H
  obtain ⟨⟨t2, t1⟩, A20, H⟩ := H
  replace H : (if t2.toList = ([95] : List UInt8) then (some (0, 0, ([] : List ByteArray), t1, true)) else (if t2.toList = ([33] : List UInt8) then (some (3, 0, ([] : List ByteArray), t1, true)) else ((term_Number.f t2).bind fun bt108 => (if bt108.2 = true then (some (1, bt108.1, ([] : List ByteArray), t1, true)) else ((term_Tag.f t2).bind fun bt110 => (if bt110.2 = true then ((strings_HasPrefix.f t1 (⟨#[40]⟩ : ByteArray)).bind fun t4 => (term_cut.j0 k t1 bt110.1 bt110.2 (!t4))) else (term_cut.j0 k t1 bt110.1 bt110.2 true))))))) = some (r1, r2, r3, r4, r5) := H
  have A2 := Aside0.mk A20
  clear A20
  by_cases c3 : t2.toList = ([95] : List UInt8)
  case pos =>
    rw [if_pos c3] at H
    have c3b0 : (t2.toList == ([95] : List UInt8)) = true := beq_iff_eq.mpr c3
    have c3b1 : (t2.toList != ([95] : List UInt8)) = false := bne_eq_false_iff_eq.mpr c3
    clear c3
    simp only [Option.some.injEq, Prod.mk.injEq] at H
    obtain ⟨rfl, rfl, rfl, rfl, rfl⟩ := H
    go_enter Tryd.func30, Tryd.ntmps30
    go_wp2_with (first | ((with_reducible refine gate_callee (f := 35) rfl ?_); refine goesL_ (some 24) rfl rfl Tryd.func35 (by kernel_rfl) rfl #[.string a0] rfl hL_ ?_; (with_reducible refine (term_word.calls a0 t2 t1 _ A2.out).mono ?_); rintro e w4 ⟨rfl, hb⟩; refine ⟨_, rfl, ?_⟩; have n0_ := Aside0.mk (below_step hB_ hb); clear HB; have HB := n0_; clear n0_; (try clear hb); (try clear hb2); (try clear hk); (try clear hi)))
    refine bodyPost_ret (results_list (rs := [.tmp 2, .tmp 3, .tmp 4, .tmp 5, .tmp 6]) rfl (by simp) (.tmp (.tmp (.tmp (.tmp (.tmp .nil)))))) rfl ?_
    exact ⟨_, hV_, by first | exact Kd.R_nil _ _ _ _ _ | exact Kd.N_nil _ _ _ _ _ | exact Kd.V_nil _ _ _ _ _ | exact Kd.Q_nil _ _ _ _ _ | exact Kd.S_nil _ _ _ _ _, hC_⟩
  rw [if_neg c3] at H
  have c3b0 : (t2.toList == ([95] : List UInt8)) = false := beq_eq_false_iff_ne.mpr c3
  have c3b1 : (t2.toList != ([95] : List UInt8)) = true := bne_iff_ne.mpr c3
  by_cases c5 : t2.toList = ([33] : List UInt8)
  case pos =>
    rw [if_pos c5] at H
    have c5b0 : (t2.toList == ([33] : List UInt8)) = true := beq_iff_eq.mpr c5
    have c5b1 : (t2.toList != ([33] : List UInt8)) = false := bne_eq_false_iff_eq.mpr c5
    clear c5
    simp only [Option.some.injEq, Prod.mk.injEq] at H
    obtain ⟨rfl, rfl, rfl, rfl, rfl⟩ := H
    go_enter Tryd.func30, Tryd.ntmps30
    go_wp2_with (first | ((with_reducible refine gate_callee (f := 35) rfl ?_); refine goesL_ (some 24) rfl rfl Tryd.func35 (by kernel_rfl) rfl #[.string a0] rfl hL_ ?_; (with_reducible refine (term_word.calls a0 t2 t1 _ A2.out).mono ?_); rintro e w6 ⟨rfl, hb⟩; refine ⟨_, rfl, ?_⟩; have n0_ := Aside0.mk (below_step hB_ hb); clear HB; have HB := n0_; clear n0_; (try clear hb); (try clear hb2); (try clear hk); (try clear hi)))
    refine bodyPost_ret (results_list (rs := [.tmp 2, .tmp 3, .tmp 4, .tmp 5, .tmp 6]) rfl (by simp) (.tmp (.tmp (.tmp (.tmp (.tmp .nil)))))) rfl ?_
    exact ⟨_, hV_, by first | exact Kd.R_nil _ _ _ _ _ | exact Kd.N_nil _ _ _ _ _ | exact Kd.V_nil _ _ _ _ _ | exact Kd.Q_nil _ _ _ _ _ | exact Kd.S_nil _ _ _ _ _, hC_⟩
  rw [if_neg c5] at H
  have c5b0 : (t2.toList == ([33] : List UInt8)) = false := beq_eq_false_iff_ne.mpr c5
  have c5b1 : (t2.toList != ([33] : List UInt8)) = true := bne_iff_ne.mpr c5
  replace H := Option.bind_eq_some_iff.mp H
  obtain ⟨⟨t7, t11⟩, A70, H⟩ := H
  replace H : (if t11 = true then (some (1, t7, ([] : List ByteArray), t1, true)) else ((term_Tag.f t2).bind fun bt110 => (if bt110.2 = true then ((strings_HasPrefix.f t1 (⟨#[40]⟩ : ByteArray)).bind fun t4 => (term_cut.j0 k t1 bt110.1 bt110.2 (!t4))) else (term_cut.j0 k t1 bt110.1 bt110.2 true)))) = some (r1, r2, r3, r4, r5) := H
  have A7 := Aside0.mk A70
  clear A70
  by_cases c8 : t11 = true
  case pos =>
    subst c8
    have H1 : (some (1, t7, ([] : List ByteArray), t1, true)) = some (r1, r2, r3, r4, r5) := by rw [if_pos rfl] at H; exact H
    clear H
    have H := H1
    clear H1
    simp only [Option.some.injEq, Prod.mk.injEq] at H
    obtain ⟨rfl, rfl, rfl, rfl, rfl⟩ := H
    go_enter Tryd.func30, Tryd.ntmps30
    go_wp2_with (first | ((with_reducible refine gate_callee (f := 35) rfl ?_); refine goesL_ (some 24) rfl rfl Tryd.func35 (by kernel_rfl) rfl #[.string a0] rfl hL_ ?_; (with_reducible refine (term_word.calls a0 t2 t1 _ A2.out).mono ?_); rintro e w9 ⟨rfl, hb⟩; refine ⟨_, rfl, ?_⟩; have n0_ := Aside0.mk (below_step hB_ hb); clear HB; have HB := n0_; clear n0_; (try clear hb); (try clear hb2); (try clear hk); (try clear hi)) | ((with_reducible refine gate_callee (f := 36) rfl ?_); refine goesL_ (some 35) rfl rfl Tryd.func36 (by kernel_rfl) rfl #[.string t2] rfl hL_ ?_; (with_reducible refine (term_Number.calls t2 t7 true _ A7.out hG_).mono ?_); rintro e w1 ⟨rfl, hb⟩; refine ⟨_, rfl, ?_⟩; have n0_ := Aside0.mk (below_step hB_ hb); clear HB; have HB := n0_; clear n0_; (try clear hb); (try clear hb2); (try clear hk); (try clear hi)))
    refine bodyPost_ret (results_list (rs := [.tmp 2, .tmp 3, .tmp 4, .tmp 5, .tmp 6]) rfl (by simp) (.tmp (.tmp (.tmp (.tmp (.tmp .nil)))))) rfl ?_
    exact ⟨_, hV_, by first | exact Kd.R_nil _ _ _ _ _ | exact Kd.N_nil _ _ _ _ _ | exact Kd.V_nil _ _ _ _ _ | exact Kd.Q_nil _ _ _ _ _ | exact Kd.S_nil _ _ _ _ _, hC_⟩
  replace c8 := Bool.eq_false_iff.mpr c8
  subst c8
  have H1 : ((term_Tag.f t2).bind fun bt110 => (if bt110.2 = true then ((strings_HasPrefix.f t1 (⟨#[40]⟩ : ByteArray)).bind fun t4 => (term_cut.j0 k t1 bt110.1 bt110.2 (!t4))) else (term_cut.j0 k t1 bt110.1 bt110.2 true))) = some (r1, r2, r3, r4, r5) := by rw [if_neg (show ¬ (false = true) by decide)] at H; exact H
  clear H
  have H := H1
  clear H1
  replace H := Option.bind_eq_some_iff.mp H
  obtain ⟨⟨t3, t6⟩, A110, H⟩ := H
  replace H : (if t6 = true then ((strings_HasPrefix.f t1 (⟨#[40]⟩ : ByteArray)).bind fun t4 => (term_cut.j0 k t1 t3 t6 (!t4))) else (term_cut.j0 k t1 t3 t6 true)) = some (r1, r2, r3, r4, r5) := H
  have A11 := Aside0.mk A110
  clear A110
  have HC12 := Aside0.mk H
  clear H
  go_enter Tryd.func30, Tryd.ntmps30
  go_upto_region 10 with (first | ((with_reducible refine gate_callee (f := 35) rfl ?_); refine goesL_ (some 24) rfl rfl Tryd.func35 (by kernel_rfl) rfl #[.string a0] rfl hL_ ?_; (with_reducible refine (term_word.calls a0 t2 t1 _ A2.out).mono ?_); rintro e w2 ⟨rfl, hb⟩; refine ⟨_, rfl, ?_⟩; have n0_ := Aside0.mk (below_step hB_ hb); clear HB; have HB := n0_; clear n0_; (try clear hb); (try clear hb2); (try clear hk); (try clear hi)) | ((with_reducible refine gate_callee (f := 36) rfl ?_); refine goesL_ (some 35) rfl rfl Tryd.func36 (by kernel_rfl) rfl #[.string t2] rfl hL_ ?_; (with_reducible refine (term_Number.calls t2 t7 false _ A7.out hG_).mono ?_); rintro e w3 ⟨rfl, hb⟩; refine ⟨_, rfl, ?_⟩; have n0_ := Aside0.mk (below_step hB_ hb); clear HB; have HB := n0_; clear n0_; (try clear hb); (try clear hb2); (try clear hk); (try clear hi)) | ((with_reducible refine gate_callee (f := 37) rfl ?_); refine goesL_ (some 43) rfl rfl Tryd.func37 (by kernel_rfl) rfl #[.string t2] rfl hL_ ?_; (with_reducible refine (term_Tag.calls t2 t3 t6 _ A11.out hG_).mono ?_); rintro e w5 ⟨rfl, hb⟩; refine ⟨_, rfl, ?_⟩; have n0_ := Aside0.mk (below_step hB_ hb); clear HB; have HB := n0_; clear n0_; (try clear hb); (try clear hb2); (try clear hk); (try clear hi)))
  (try simp only [Act.put, List.setIfInBounds_toArray, List.set_cons_zero, List.set_cons_succ])
  go_cut [52] (fun v1 wc => ∃ (kq : Nat) (x2 : Bool), v1 = .bool x2 ∧ Aside0 (term_cut.j0 kq t1 t3 t6 x2 = some (r1, r2, r3, r4, r5)) ∧ Aside0 (kq ≤ k) ∧ Aside0 (Below w.heap.size w wc))
  case first =>
    have H := HC12.out
    clear HC12
    by_cases c16 : t6 = true
    case neg =>
      replace c16 := Bool.eq_false_iff.mpr c16
      subst c16
      have H1 : (term_cut.j0 k t1 t3 false true) = some (r1, r2, r3, r4, r5) := by rw [if_neg (show ¬ (false = true) by decide)] at H; exact H
      clear H
      have H := H1
      clear H1
      have H' := Aside0.mk H
      clear H
      go_wp2
      go_meet
      case rel => exact ⟨_, (true), hW_, H', ⟨by first | omega | exact Nat.le_refl _⟩, ⟨hC_⟩⟩
    subst c16
    have H1 : ((strings_HasPrefix.f t1 (⟨#[40]⟩ : ByteArray)).bind fun t4 => (term_cut.j0 k t1 t3 true (!t4))) = some (r1, r2, r3, r4, r5) := by rw [if_pos rfl] at H; exact H
    clear H
    have H := H1
    clear H1
    replace H := Option.bind_eq_some_iff.mp H
    obtain ⟨t4, A170, H⟩ := H
    replace H : (term_cut.j0 k t1 t3 true (!t4)) = some (r1, r2, r3, r4, r5) := H
    have A17 := Aside0.mk A170
    clear A170
    have H' := Aside0.mk H
    clear H
    go_wp2_with (first | (go_at_call 38; (with_reducible refine (strings_HasPrefix.calls t1 (⟨#[40]⟩ : ByteArray) t4 _ A17.out).mono ?_); rintro e w' ⟨rfl, ⟨nd, rfl⟩⟩))
    go_meet
    case rel => exact ⟨_, (!t4), hW_, H', ⟨by first | omega | exact Nat.le_refl _⟩, ⟨hC_⟩⟩
  case rest =>
    clear HC12
    try clear c1
    try clear p2
    try clear c3
    try clear c3b0
    try clear c3b1
    try clear c5
    try clear c5b0
    try clear c5b1
    try clear c8
    try clear c16
    obtain ⟨kq, x2, rfl, HA, HJ11, HB⟩ := hcut
    cases kq with
    | zero => exact absurd HA.out (by simp [term_cut.j0])
    | succ kj11 =>
      have H := HA.out
      clear HA
      simp only [term_cut.j0] at H
      by_cases c18 : x2 = true
      case pos =>
        subst c18
        have H1 : (some (2, t3, ([] : List ByteArray), t1, t6)) = some (r1, r2, r3, r4, r5) := by rw [if_pos rfl] at H; exact H
        clear H
        have H := H1
        clear H1
        simp only [Option.some.injEq, Prod.mk.injEq] at H
        obtain ⟨rfl, rfl, rfl, rfl, rfl⟩ := H
        go_wp2
        refine bodyPost_ret (results_list (rs := [.tmp 2, .tmp 3, .tmp 4, .tmp 5, .tmp 6]) rfl (by simp) (.tmp (.tmp (.tmp (.tmp (.tmp .nil)))))) rfl ?_
        exact ⟨_, hV_, by first | exact Kd.R_nil _ _ _ _ _ | exact Kd.N_nil _ _ _ _ _ | exact Kd.V_nil _ _ _ _ _ | exact Kd.Q_nil _ _ _ _ _ | exact Kd.S_nil _ _ _ _ _, hC_⟩
      replace c18 := Bool.eq_false_iff.mpr c18
      subst c18
      have H1 : (term_cut.l0 kj11 t1 t3 ([] : List ByteArray)) = some (r1, r2, r3, r4, r5) := by rw [if_neg (show ¬ (false = true) by decide)] at H; exact H
      clear H
      have H := H1
      clear H1
      have H' := Aside0.mk H
      clear H
      go_wp2
      go_loopg [8, 13] kj11 (fun kq v8 v2 w' => ∃ (x0 : ByteArray) (x1 : List ByteArray), v8 = .string x0 ∧ Aside0 (term_cut.l0 kq x0 t3 x1 = some (r1, r2, r3, r4, r5)) ∧ Aside0 (kq ≤ kj11) ∧ Aside0 (Kd.R Kd.string 9 w' w.heap.size (fun _ => True) v2 x1) ∧ Aside0 (Below w.heap.size w w'))
      case atStart => exact ⟨(t1), (([] : List ByteArray)), hW_, H', ⟨Nat.le_refl _⟩, ⟨by first | exact Kd.R_nil _ _ _ _ _ | exact Kd.N_nil _ _ _ _ _ | exact Kd.V_nil _ _ _ _ _ | exact Kd.Q_nil _ _ _ _ _ | exact Kd.S_nil _ _ _ _ _⟩, ⟨hC_⟩⟩
      case round =>
        clear H'
        try clear c1
        try clear p2
        try clear c3
        try clear c3b0
        try clear c3b1
        try clear c5
        try clear c5b0
        try clear c5b1
        try clear c8
        try clear c16
        try clear c18
        try clear p2
        obtain ⟨x0, x1, rfl, HA, HK2, O0, HB⟩ := hrel
        cases gk with
        | zero => exact absurd HA.out (by simp [term_cut.l0])
        | succ k2 =>
          have H := HA.out
          clear HA
          simp only [term_cut.l0] at H
          by_cases c19 : (x1.length : Int) < 3
          case neg =>
            rw [if_neg c19] at H
            have c19b0 : decide ((x1.length : Int) < 3) = false := decide_eq_false c19
            have c19b1 : decide (x1.length < 3) = false := decide_eq_false (by omega)
            clear c19
            replace H := Option.bind_eq_some_iff.mp H
            obtain ⟨⟨t12, t13⟩, A380, H⟩ := H
            replace H : (some (2, t3, x1, t12, t13)) = some (r1, r2, r3, r4, r5) := H
            have A38 := Aside0.mk A380
            clear A380
            simp only [Option.some.injEq, Prod.mk.injEq] at H
            obtain ⟨rfl, rfl, rfl, rfl, rfl⟩ := H
            obtain ⟨a3, o2, e0⟩ := Kd.R_slice O0.out
            subst e0
            go_wp2_with (first | ((with_reducible refine gate_callee (f := 39) rfl ?_); refine goesL_ _ rfl rfl Tryd.func39 (by kernel_rfl) rfl #[.string x0, .string (⟨#[41]⟩ : ByteArray)] rfl hL_ ?_; (with_reducible refine (strings_CutPrefix.calls x0 (⟨#[41]⟩ : ByteArray) t12 t13 _ A38.out).mono ?_); rintro e w' ⟨rfl, ⟨nd, rfl⟩⟩; refine ⟨_, rfl, ?_⟩))
            refine bodyPost_ret (results_list (rs := [.tmp 2, .tmp 3, .tmp 4, .tmp 5, .tmp 6]) rfl (by simp) (.tmp (.tmp (.tmp (.tmp (.tmp .nil)))))) rfl ?_
            exact ⟨_, hV_, hR_ O0.out, hC_⟩

          rw [if_pos c19] at H
          have c19b0 : decide ((x1.length : Int) < 3) = true := decide_eq_true c19
          have c19b1 : decide (x1.length < 3) = true := decide_eq_true (by omega)
          clear c19
          replace H := ifI_ H; obtain ⟨c20, H⟩ := H
          have c20b0 := eq_true c20
          have c20b1 : decide (1 ≤ (x0.size : Int)) = true := decide_eq_true c20
          clear c20
          replace H := Option.bind_eq_some_iff.mp H
          obtain ⟨⟨t8, t9, t10, t0, t14⟩, A210, H⟩ := H
          replace H : (if t14 = true then (if 0 ≤ (wrap64 (((x0.extract 1 x0.size).size : Int) - (t0.size : Int))) then (if (wrap64 (((x0.extract 1 x0.size).size : Int) - (t0.size : Int))) ≤ ((x0.extract 1 x0.size).size : Int) then (if x1.length < 8796093022208 then ((some (x1 ++ [(x0.extract 1 x0.size).extract 0 ((wrap64 (((x0.extract 1 x0.size).size : Int) - (t0.size : Int))) : Int).toNat] : List ByteArray)).bind fun y0 => ((strings_HasPrefix.f t0 (⟨#[32]⟩ : ByteArray)).bind fun t5 => (if t5 = true then (term_cut.l0 k2 t0 t3 y0) else ((strings_CutPrefix.f t0 (⟨#[41]⟩ : ByteArray)).bind fun bt126 => (some (2, t3, y0, bt126.1, bt126.2)))))) else (none)) else (none)) else (none)) else (some (0, 0, ([] : List ByteArray), (⟨#[]⟩ : ByteArray), false))) = some (r1, r2, r3, r4, r5) := H
          have A21 := Aside0.mk A210
          clear A210
          by_cases c22 : t14 = true
          case neg =>
            replace c22 := Bool.eq_false_iff.mpr c22
            subst c22
            have H1 : (some (0, 0, ([] : List ByteArray), (⟨#[]⟩ : ByteArray), false)) = some (r1, r2, r3, r4, r5) := by rw [if_neg (show ¬ (false = true) by decide)] at H; exact H
            clear H
            have H := H1
            clear H1
            simp only [Option.some.injEq, Prod.mk.injEq] at H
            obtain ⟨rfl, rfl, rfl, rfl, rfl⟩ := H
            obtain ⟨a4, o3, e1⟩ := Kd.R_slice O0.out
            subst e1
            go_wp2_with (first | ((with_reducible refine gate_callee (f := 30) rfl ?_); refine goesL_ (some 63) rfl rfl Tryd.func30 (by kernel_rfl) rfl #[.string (x0.extract 1 x0.size)] rfl hL_ ?_; (with_reducible refine (ih k2 (by have := HJ11.out; have := HK2.out; omega) (x0.extract 1 x0.size) t8 t9 t10 t0 false _ A21.out hG_).mono ?_); rintro e w7 ⟨v0, rfl, ho0, hb⟩; refine ⟨_, rfl, ?_⟩; have n0_ := Aside0.mk (Kd.R_elder' (hR_ O0.out) (Kd.R_base ho0) hb); have n1_ := Aside0.mk (Kd.R_lower (Kd.R_new' ho0 (Kd.R_lt (hR_ O0.out))) hS_); have n2_ := Aside0.mk (below_step hB_ hb); clear O0 HB; have O0 := n0_; have P0 := n1_; have HB := n2_; clear n0_ n1_ n2_; (try clear hb); (try clear hb2); (try clear hk); (try clear hi); (try clear ho0)))
            refine bodyPost_ret (results_list (rs := [.tmp 2, .tmp 3, .tmp 4, .tmp 5, .tmp 6]) rfl (by simp) (.tmp (.tmp (.tmp (.tmp (.tmp .nil)))))) rfl ?_
            exact ⟨_, hV_, by first | exact Kd.R_nil _ _ _ _ _ | exact Kd.N_nil _ _ _ _ _ | exact Kd.V_nil _ _ _ _ _ | exact Kd.Q_nil _ _ _ _ _ | exact Kd.S_nil _ _ _ _ _, hC_⟩
          subst c22
          have H1 : (if 0 ≤ (wrap64 (((x0.extract 1 x0.size).size : Int) - (t0.size : Int))) then (if (wrap64 (((x0.extract 1 x0.size).size : Int) - (t0.size : Int))) ≤ ((x0.extract 1 x0.size).size : Int) then (if x1.length < 8796093022208 then ((some (x1 ++ [(x0.extract 1 x0.size).extract 0 ((wrap64 (((x0.extract 1 x0.size).size : Int) - (t0.size : Int))) : Int).toNat] : List ByteArray)).bind fun y0 => ((strings_HasPrefix.f t0 (⟨#[32]⟩ : ByteArray)).bind fun t5 => (if t5 = true then (term_cut.l0 k2 t0 t3 y0) else ((strings_CutPrefix.f t0 (⟨#[41]⟩ : ByteArray)).bind fun bt126 => (some (2, t3, y0, bt126.1, bt126.2)))))) else (none)) else (none)) else (none)) = some (r1, r2, r3, r4, r5) := by rw [if_pos rfl] at H; exact H
          clear H
          have H := H1
          clear H1
          obtain ⟨ji23, hji23⟩ : ∃ j_ : Int, (wrap64 (((x0.extract 1 x0.size).size : Int) - (t0.size : Int))) = j_ := ⟨_, rfl⟩
          replace H : (if 0 ≤ (ji23) then (if (ji23) ≤ ((x0.extract 1 x0.size).size : Int) then (if x1.length < 8796093022208 then ((some (x1 ++ [(x0.extract 1 x0.size).extract 0 ((ji23) : Int).toNat] : List ByteArray)).bind fun y0 => ((strings_HasPrefix.f t0 (⟨#[32]⟩ : ByteArray)).bind fun t5 => (if t5 = true then (term_cut.l0 k2 t0 t3 y0) else ((strings_CutPrefix.f t0 (⟨#[41]⟩ : ByteArray)).bind fun bt126 => (some (2, t3, y0, bt126.1, bt126.2)))))) else (none)) else (none)) else (none)) = some (r1, r2, r3, r4, r5) := by first | (rw [hji23] at H; exact H) | (simp only [hji23] at H ⊢; exact H)
          (try rw [hji23] at A21)
          have hji23w : (IntKind.i64.wrap (((x0.extract 1 x0.size).size : Int) - (t0.size : Int))) = ji23 := (i64_w _).trans hji23
          (try (have hji23s := hji23; simp only [ByteArray.size_extract, Nat.min_self] at hji23s; have hji23sw := hji23w; simp only [ByteArray.size_extract, Nat.min_self] at hji23sw))
          replace H := ifI_ H; obtain ⟨c24, H⟩ := H
          have c24b0 := eq_true c24
          have c24b1 : decide (0 ≤ (ji23)) = true := decide_eq_true c24
          clear c24
          replace H := ifI_ H; obtain ⟨c25, H⟩ := H
          have c25b0 := eq_true c25
          (try (have c25b0s := c25b0; simp only [ByteArray.size_extract, Nat.min_self] at c25b0s))
          have c25b1 : decide ((ji23) ≤ ((x0.extract 1 x0.size).size : Int)) = true := decide_eq_true c25
          (try (have c25b1s := c25b1; simp only [ByteArray.size_extract, Nat.min_self] at c25b1s))
          clear c25
          replace H := ifI_ H; obtain ⟨c26, H⟩ := H
          have LMc26 := Aside0.mk c26
          clear c26
          obtain ⟨y0, i0⟩ : ∃ y_ : List ByteArray, y_ = (x1 ++ [(x0.extract 1 x0.size).extract 0 ((ji23) : Int).toNat]) := ⟨_, rfl⟩
          replace H : ((strings_HasPrefix.f t0 (⟨#[32]⟩ : ByteArray)).bind fun t5 => (if t5 = true then (term_cut.l0 k2 t0 t3 y0) else ((strings_CutPrefix.f t0 (⟨#[41]⟩ : ByteArray)).bind fun bt126 => (some (2, t3, y0, bt126.1, bt126.2))))) = some (r1, r2, r3, r4, r5) := by first | (rw [i0]; with_reducible exact H) | (have H2_ := (Option.bind_some _ _).symm.trans H; rw [i0]; with_reducible exact H2_) | (have H2_ := (Option.bind_some _ _).symm.trans H; with_reducible exact H2_) | with_reducible exact H | (rw [i0]; exact H) | exact H
          have Y0 := Aside0.mk i0
          clear i0
          replace H := Option.bind_eq_some_iff.mp H
          obtain ⟨t5, A270, H⟩ := H
          replace H : (if t5 = true then (term_cut.l0 k2 t0 t3 y0) else ((strings_CutPrefix.f t0 (⟨#[41]⟩ : ByteArray)).bind fun bt126 => (some (2, t3, y0, bt126.1, bt126.2)))) = some (r1, r2, r3, r4, r5) := H
          have A27 := Aside0.mk A270
          clear A270
          by_cases c28 : t5 = true
          case pos =>
            subst c28
            have H1 : (term_cut.l0 k2 t0 t3 y0) = some (r1, r2, r3, r4, r5) := by rw [if_pos rfl] at H; exact H
            clear H
            have H := H1
            clear H1
            have H' := Aside0.mk H
            clear H
            obtain ⟨a1, o0, e2⟩ := Kd.R_slice O0.out
            subst e2
            go_wp2_with (first | ((with_reducible refine gate_callee (f := 30) rfl ?_); refine goesL_ (some 63) rfl rfl Tryd.func30 (by kernel_rfl) rfl #[.string (x0.extract 1 x0.size)] rfl hL_ ?_; (with_reducible refine (ih k2 (by have := HJ11.out; have := HK2.out; omega) (x0.extract 1 x0.size) t8 t9 t10 t0 true _ A21.out hG_).mono ?_); rintro e w8 ⟨v0, rfl, ho0, hb⟩; refine ⟨_, rfl, ?_⟩; have n0_ := Aside0.mk (Kd.R_elder' (hR_ O0.out) (Kd.R_base ho0) hb); have n1_ := Aside0.mk (Kd.R_lower (Kd.R_new' ho0 (Kd.R_lt (hR_ O0.out))) hS_); have n2_ := Aside0.mk (below_step hB_ hb); clear O0 HB; have O0 := n0_; have P0 := n1_; have HB := n2_; clear n0_ n1_ n2_; (try clear hb); (try clear hb2); (try clear hk); (try clear hi); (try clear ho0)) | ((with_reducible refine gate_builtin (b := .append) (xs := #[.tmp 71, .tmp 79]) rfl ?_); at_builtin; refine Kd.R_append Kd.string (w0 := w) w.heap.size rfl (.tmp 71) (.tmp 79) 33 9 (.string ⟨#[]⟩) 16 rfl Tryd.underlying33 info9 rfl (by decide) (by omega) (.slice a1 x1.length o0) x1 ((x0.extract 1 x0.size).extract 0 ((ji23) : Int).toNat) [.string ((x0.extract 1 x0.size).extract 0 ((ji23) : Int).toNat)] (fun k_ => some k_ ≠ (v0 : Value).ownBlock) (fun _ => False) rfl rfl ?aP (fun _ hk => hk.elim) ?aF ?aO ?aB ?aS ?aL ?_; (case aP => exact rfl); (case aB => exact hB_); (case aF => exact (fun k_ hk => Kd.fresh' (Kd.R_lt (hR_ P0.out)) k_ hk)); (case aO => exact (by (with_reducible repeat (first | apply Kd.R_alloc | apply Kd.R_drewN | apply Kd.R_drew)); exact Kd.R_mono O0.out (fun _ hk => hk.2))); (case aS => exact hS_); (case aL => have := LMc26.out; omega); intro v3 w31 ho hb hg hat; rw [← Y0.out] at ho; have n0_ := Aside0.mk (Kd.R_after (ok := (fun _ => True)) (hR_ P0.out) hg hat); have n1_ := Aside0.mk (hb); have n2_ := Aside0.mk (ho); clear P0 HB O0; have P0 := n0_; have HB := n1_; have P1 := n2_; clear n0_ n1_ n2_; clear ho hb hg hat) | ((with_reducible refine gate_callee (f := 38) rfl ?_); refine goesL_ _ rfl rfl Tryd.func38 (by kernel_rfl) rfl #[.string t0, .string (⟨#[32]⟩ : ByteArray)] rfl hL_ ?_; (with_reducible refine (strings_HasPrefix.calls t0 (⟨#[32]⟩ : ByteArray) true _ A27.out).mono ?_); rintro e w' ⟨rfl, ⟨nd, rfl⟩⟩; refine ⟨_, rfl, ?_⟩))
            go_roundg k2
            case measure => have := HJ11.out; have := HK2.out; omega
            case rel => exact ⟨(t0), (y0), hW_, H', ⟨by have := HJ11.out; have := HK2.out; omega⟩, ⟨hR_ (Kd.R_mono P1.out (fun _ hk => trivial))⟩, ⟨hC_⟩⟩
          replace c28 := Bool.eq_false_iff.mpr c28
          subst c28
          have H1 : ((strings_CutPrefix.f t0 (⟨#[41]⟩ : ByteArray)).bind fun bt126 => (some (2, t3, y0, bt126.1, bt126.2))) = some (r1, r2, r3, r4, r5) := by rw [if_neg (show ¬ (false = true) by decide)] at H; exact H
          clear H
          have H := H1
          clear H1
          replace H := Option.bind_eq_some_iff.mp H
          obtain ⟨⟨t15, t16⟩, A320, H⟩ := H
          replace H : (some (2, t3, y0, t15, t16)) = some (r1, r2, r3, r4, r5) := H
          have A32 := Aside0.mk A320
          clear A320
          simp only [Option.some.injEq, Prod.mk.injEq] at H
          obtain ⟨rfl, rfl, rfl, rfl, rfl⟩ := H
          obtain ⟨a2, o1, e3⟩ := Kd.R_slice O0.out
          subst e3
          go_wp2_with (first | ((with_reducible refine gate_callee (f := 30) rfl ?_); refine goesL_ (some 63) rfl rfl Tryd.func30 (by kernel_rfl) rfl #[.string (x0.extract 1 x0.size)] rfl hL_ ?_; (with_reducible refine (ih k2 (by have := HJ11.out; have := HK2.out; omega) (x0.extract 1 x0.size) t8 t9 t10 t0 true _ A21.out hG_).mono ?_); rintro e w34 ⟨v0, rfl, ho0, hb⟩; refine ⟨_, rfl, ?_⟩; have n0_ := Aside0.mk (Kd.R_elder' (hR_ O0.out) (Kd.R_base ho0) hb); have n1_ := Aside0.mk (Kd.R_lower (Kd.R_new' ho0 (Kd.R_lt (hR_ O0.out))) hS_); have n2_ := Aside0.mk (below_step hB_ hb); clear O0 HB; have O0 := n0_; have P0 := n1_; have HB := n2_; clear n0_ n1_ n2_; (try clear hb); (try clear hb2); (try clear hk); (try clear hi); (try clear ho0)) | ((with_reducible refine gate_builtin (b := .append) (xs := #[.tmp 71, .tmp 79]) rfl ?_); at_builtin; refine Kd.R_append Kd.string (w0 := w) w.heap.size rfl (.tmp 71) (.tmp 79) 33 9 (.string ⟨#[]⟩) 16 rfl Tryd.underlying33 info9 rfl (by decide) (by omega) (.slice a2 x1.length o1) x1 ((x0.extract 1 x0.size).extract 0 ((ji23) : Int).toNat) [.string ((x0.extract 1 x0.size).extract 0 ((ji23) : Int).toNat)] (fun k_ => some k_ ≠ (v0 : Value).ownBlock) (fun _ => False) rfl rfl ?aP (fun _ hk => hk.elim) ?aF ?aO ?aB ?aS ?aL ?_; (case aP => exact rfl); (case aB => exact hB_); (case aF => exact (fun k_ hk => Kd.fresh' (Kd.R_lt (hR_ P0.out)) k_ hk)); (case aO => exact (by (with_reducible repeat (first | apply Kd.R_alloc | apply Kd.R_drewN | apply Kd.R_drew)); exact Kd.R_mono O0.out (fun _ hk => hk.2))); (case aS => exact hS_); (case aL => have := LMc26.out; omega); intro v3 w35 ho hb hg hat; rw [← Y0.out] at ho; have n0_ := Aside0.mk (Kd.R_after (ok := (fun _ => True)) (hR_ P0.out) hg hat); have n1_ := Aside0.mk (hb); have n2_ := Aside0.mk (ho); clear P0 HB O0; have P0 := n0_; have HB := n1_; have P1 := n2_; clear n0_ n1_ n2_; clear ho hb hg hat) | ((with_reducible refine gate_callee (f := 38) rfl ?_); refine goesL_ _ rfl rfl Tryd.func38 (by kernel_rfl) rfl #[.string t0, .string (⟨#[32]⟩ : ByteArray)] rfl hL_ ?_; (with_reducible refine (strings_HasPrefix.calls t0 (⟨#[32]⟩ : ByteArray) false _ A27.out).mono ?_); rintro e w' ⟨rfl, ⟨nd, rfl⟩⟩; refine ⟨_, rfl, ?_⟩) | ((with_reducible refine gate_callee (f := 39) rfl ?_); refine goesL_ _ rfl rfl Tryd.func39 (by kernel_rfl) rfl #[.string t0, .string (⟨#[41]⟩ : ByteArray)] rfl hL_ ?_; (with_reducible refine (strings_CutPrefix.calls t0 (⟨#[41]⟩ : ByteArray) t15 t16 _ A32.out).mono ?_); rintro e w' ⟨rfl, ⟨nd, rfl⟩⟩; refine ⟨_, rfl, ?_⟩))
          refine bodyPost_ret (results_list (rs := [.tmp 2, .tmp 3, .tmp 4, .tmp 5, .tmp 6]) rfl (by simp) (.tmp (.tmp (.tmp (.tmp (.tmp .nil)))))) rfl ?_
          exact ⟨_, by first | rfl | (simp [errW_none, errW_some] <;> rfl) | (simp only [← hji23]; first | rfl | (simp [errW_none, errW_some] <;> rfl)) | (simp [*, errW_none, errW_some] <;> rfl), hR_ (Kd.R_mono P1.out (fun _ hk => trivial)), hC_⟩
def term_May.f (k : Nat) (a0 : ByteArray) : Option (Bool) := if (a0.size : Int) > 1024 then (some false) else ((term_cut.f k a0).bind fun bt128 => (if bt128.2.2.2.2 = true then (some (bt128.2.2.2.1.toList == ([] : List UInt8))) else (some false)))
set_option maxHeartbeats 8000000 in
set_option maxRecDepth 100000 in
theorem term_May.calls (k : Nat) (a0 : ByteArray) (r : Bool) (w : World) (h : term_May.f k a0 = some r) (hG : GOK w) :
    Calls Tryd.prog 28 #[.string a0] w fun e w' => e = .returned (.bool r) ∧ Below w.heap.size w w' := by
  have HB := Aside0.mk (Below.refl w.heap.size w)
  have H : (if (a0.size : Int) > 1024 then (some false) else ((term_cut.f k a0).bind fun bt128 => (if bt128.2.2.2.2 = true then (some (bt128.2.2.2.1.toList == ([] : List UInt8))) else (some false)))) = some r := h
  clear h
  by_cases c2 : (a0.size : Int) > 1024
  case pos =>
    rw [if_pos c2] at H
    have c2b0 : decide (1024 < (a0.size : Int)) = true := decide_eq_true c2
    have c2b1 : decide (1024 < a0.size) = true := decide_eq_true (by omega)
    clear c2
    obtain rfl := Option.some.inj H
    go_enter Tryd.func28, Tryd.ntmps28
    go_wp2
    go_ret
    exact ⟨hV_, hC_⟩
  rw [if_neg c2] at H
  have c2b0 : decide (1024 < (a0.size : Int)) = false := decide_eq_false c2
  have c2b1 : decide (1024 < a0.size) = false := decide_eq_false (by omega)
  clear c2
  replace H := Option.bind_eq_some_iff.mp H
  obtain ⟨⟨t1, t2, t3, t0, t4⟩, A30, H⟩ := H
  replace H : (if t4 = true then (some (t0.toList == ([] : List UInt8))) else (some false)) = some r := H
  have A3 := Aside0.mk A30
  clear A30
  by_cases c4 : t4 = true
  case pos =>
    subst c4
    have H1 : (some (t0.toList == ([] : List UInt8))) = some r := by rw [if_pos rfl] at H; exact H
    clear H
    have H := H1
    clear H1
    obtain rfl := Option.some.inj H
    go_enter Tryd.func28, Tryd.ntmps28
    go_wp2_with (first | ((with_reducible refine gate_callee (f := 30) rfl ?_); refine goesL_ (some 13) rfl rfl Tryd.func30 (by kernel_rfl) rfl #[.string a0] rfl hL_ ?_; (with_reducible refine (term_cut.calls k a0 t1 t2 t3 t0 true _ A3.out hG_).mono ?_); rintro e w5 ⟨v0, rfl, ho0, hb⟩; refine ⟨_, rfl, ?_⟩; have n0_ := Aside0.mk (Kd.R_lower ho0 hS_); have n1_ := Aside0.mk (below_step hB_ hb); clear HB; have P0 := n0_; have HB := n1_; clear n0_ n1_; (try clear hb); (try clear hb2); (try clear hk); (try clear hi); (try clear ho0)))
    go_ret
    exact ⟨hV_, hC_⟩
  replace c4 := Bool.eq_false_iff.mpr c4
  subst c4
  have H1 : (some false) = some r := by rw [if_neg (show ¬ (false = true) by decide)] at H; exact H
  clear H
  have H := H1
  clear H1
  obtain rfl := Option.some.inj H
  go_enter Tryd.func28, Tryd.ntmps28
  go_wp2_with (first | ((with_reducible refine gate_callee (f := 30) rfl ?_); refine goesL_ (some 13) rfl rfl Tryd.func30 (by kernel_rfl) rfl #[.string a0] rfl hL_ ?_; (with_reducible refine (term_cut.calls k a0 t1 t2 t3 t0 false _ A3.out hG_).mono ?_); rintro e w6 ⟨v0, rfl, ho0, hb⟩; refine ⟨_, rfl, ?_⟩; have n0_ := Aside0.mk (Kd.R_lower ho0 hS_); have n1_ := Aside0.mk (below_step hB_ hb); clear HB; have P0 := n0_; have HB := n1_; clear n0_ n1_; (try clear hb); (try clear hb2); (try clear hk); (try clear hi); (try clear ho0)))
  go_ret
  exact ⟨hV_, hC_⟩

def term_All.l0 : Nat → List ByteArray → Int → Int → Option (Bool)
  | 0, _, _, _ => none
  | k + 1, x5, x6, x7 => if x7 < x6 then (if 0 ≤ x7 then (if x7 < (x5.length : Int) then ((term_May.f k (rdOf ByteArray.empty x5 x7)).bind fun t136 => (if t136 = true then (term_All.l0 k x5 x6 (wrap64 (x7 + 1))) else (some false))) else (none)) else (none)) else (some true)
def term_All.f (k : Nat) (l0 : List ByteArray) : Option (Bool) := term_All.l0 k l0 (l0.length : Int) 0
set_option maxHeartbeats 8000000 in
set_option maxRecDepth 100000 in
theorem term_All.calls (k : Nat) (A0 : Option Addr) (c0 : Nat) (l0 : List ByteArray) (r : Bool) (w : World) (hr0 : Kd.C Kd.string w A0 l0.length l0) (hc0 : l0.length ≤ c0) (h : term_All.f k l0 = some r) (hG : GOK w) :
    Calls Tryd.prog 27 #[.slice A0 l0.length c0] w fun e w' => e = .returned (.bool r) ∧ Below w.heap.size w w' := by
  have HR0 := Aside0.mk hr0
  have HC0 := Aside0.mk hc0
  clear hr0 hc0
  have HB := Aside0.mk (Below.refl w.heap.size w)
  have H : (term_All.l0 k l0 (l0.length : Int) 0) = some r := h
  clear h
  have H' := Aside0.mk H
  clear H
  go_enter Tryd.func27, Tryd.ntmps27
  go_wp2
  go_loopg [7] k (fun kq v7 w' => ∃ (x0 : Int), v7 = .int .i64 x0 ∧ Aside0 (term_All.l0 kq l0 (l0.length : Int) x0 = some r) ∧ Aside0 (kq ≤ k) ∧ Aside0 (Below w.heap.size w w'))
  case atStart => exact ⟨(0), hW_, H', ⟨Nat.le_refl _⟩, ⟨hC_⟩⟩
  case round =>
    clear H'
    obtain ⟨x0, rfl, HA, HK1, HB⟩ := hrel
    cases gk with
    | zero => exact absurd HA.out (by simp [term_All.l0])
    | succ k1 =>
      have H := HA.out
      clear HA
      simp only [term_All.l0] at H
      by_cases c2 : x0 < (l0.length : Int)
      case neg =>
        rw [if_neg c2] at H
        have c2b0 : decide (x0 < (l0.length : Int)) = false := decide_eq_false c2
        clear c2
        obtain rfl := Option.some.inj H
        go_wp2
        go_ret
        exact ⟨hV_, hC_⟩

      rw [if_pos c2] at H
      have c2b0 : decide (x0 < (l0.length : Int)) = true := decide_eq_true c2
      clear c2
      replace H := ifI_ H; obtain ⟨c3, H⟩ := H
      have c3b0 : decide (0 ≤ x0) = true := decide_eq_true c3
      clear c3
      replace H := ifI_ H; obtain ⟨c4, H⟩ := H
      have c4b0 : decide (x0 < (l0.length : Int)) = true := decide_eq_true c4
      clear c4
      replace H := Option.bind_eq_some_iff.mp H
      obtain ⟨t0, A50, H⟩ := H
      replace H : (if t0 = true then (term_All.l0 k1 l0 (l0.length : Int) (wrap64 (x0 + 1))) else (some false)) = some r := H
      have A5 := Aside0.mk A50
      clear A50
      by_cases c6 : t0 = true
      case neg =>
        replace c6 := Bool.eq_false_iff.mpr c6
        subst c6
        have H1 : (some false) = some r := by rw [if_neg (show ¬ (false = true) by decide)] at H; exact H
        clear H
        have H := H1
        clear H1
        obtain rfl := Option.some.inj H
        have p135 : 0 ≤ (x0 : Int) := of_decide_eq_true hA_
        have q135 : x0 < (l0.length : Int) := of_decide_eq_true hA_
        obtain ⟨d0, e135, h0⟩ := Kd.at_string HR0.out x0 p135 q135
        cases e135
        replace h0 := cl_ HB.out h0
        replace p135 := eq_true p135
        replace q135 := eq_true q135
        go_wp2_with (first | ((with_reducible refine gate_callee (f := 28) rfl ?_); refine goesL_ (some 12) rfl rfl Tryd.func28 (by kernel_rfl) rfl #[.string (rdOf ByteArray.empty l0 x0)] rfl hL_ ?_; (with_reducible refine (term_May.calls k1 (rdOf ByteArray.empty l0 x0) false _ A5.out hG_).mono ?_); rintro e w8 ⟨rfl, hb⟩; refine ⟨_, rfl, ?_⟩; have n0_ := Aside0.mk (below_step hB_ hb); clear HB; have HB := n0_; clear n0_; (try clear hb); (try clear hb2); (try clear hk); (try clear hi)))
        go_ret
        exact ⟨hV_, hC_⟩
      subst c6
      have H1 : (term_All.l0 k1 l0 (l0.length : Int) (wrap64 (x0 + 1))) = some r := by rw [if_pos rfl] at H; exact H
      clear H
      have H := H1
      clear H1
      have H' := Aside0.mk H
      clear H
      have p135 : 0 ≤ (x0 : Int) := of_decide_eq_true hA_
      have q135 : x0 < (l0.length : Int) := of_decide_eq_true hA_
      obtain ⟨d0, e135, h0⟩ := Kd.at_string HR0.out x0 p135 q135
      cases e135
      replace h0 := cl_ HB.out h0
      replace p135 := eq_true p135
      replace q135 := eq_true q135
      go_wp2_with (first | ((with_reducible refine gate_callee (f := 28) rfl ?_); refine goesL_ (some 12) rfl rfl Tryd.func28 (by kernel_rfl) rfl #[.string (rdOf ByteArray.empty l0 x0)] rfl hL_ ?_; (with_reducible refine (term_May.calls k1 (rdOf ByteArray.empty l0 x0) true _ A5.out hG_).mono ?_); rintro e w7 ⟨rfl, hb⟩; refine ⟨_, rfl, ?_⟩; have n0_ := Aside0.mk (below_step hB_ hb); clear HB; have HB := n0_; clear n0_; (try clear hb); (try clear hb2); (try clear hk); (try clear hi)))
      go_roundg k1
      case measure => have := HK1.out; omega
      case rel => exact ⟨(wrap64 (x0 + 1)), hW_, H', ⟨by have := HK1.out; omega⟩, ⟨hC_⟩⟩
def trail_Equation.f (k : Nat) (x0 : Int) (x1 : Int) (l2 : List ByteArray) (x3 : ByteArray) : Option Bool := if 0 ≤ x0 then (if x0 < 8 then (if (l2.length : Int) ≤ 3 then ((term_All.f k l2).bind fun t => if t = true then term_May.f k x3 else some false) else some false) else some false) else some false
set_option maxHeartbeats 8000000 in
set_option maxRecDepth 100000 in
theorem trail_Equation.calls (k : Nat) (ad : Addr) (x0 : Int) (x1 : Int) (A2 : Option Addr) (c2_ : Nat) (l2 : List ByteArray) (x3 : ByteArray) (r : Bool) (w : World)
    (h0 : w.cell? ad = some (.int .i64 x0)) (h2 : w.cell? ⟨ad.block, ad.off + 2, none⟩ = some (.slice A2 l2.length c2_)) (h3 : w.cell? ⟨ad.block, ad.off + 3, none⟩ = some (.string x3))
    (hr2 : Kd.C Kd.string w A2 l2.length l2) (hc2 : l2.length ≤ c2_) (h : trail_Equation.f k x0 x1 l2 x3 = some r) (hG : GOK w) :
    Calls Tryd.prog 25 #[.pointer (some ad)] w fun e w' => e = .returned (.bool r) ∧ Below w.heap.size w w' := by
  have HR := Aside0.mk hr2
  have HC := Aside0.mk hc2
  clear hr2 hc2
  have HB := Aside0.mk (Below.refl w.heap.size w)
  unfold trail_Equation.f at h
  by_cases c1 : 0 ≤ x0
  case neg =>
    rw [if_neg c1] at h
    have c1b := decide_eq_false c1
    clear c1
    obtain rfl := Option.some.inj h
    go_enter Tryd.func25, Tryd.ntmps25
    go_wp2
    go_ret
    exact ⟨rfl, by repeat (first | exact HB.out | apply below_alloc | apply pw_below_drewN | apply below_drew1)⟩

  rw [if_pos c1] at h
  have c1b := decide_eq_true c1
  have c1c := eq_true c1
  clear c1
  by_cases c2 : x0 < 8
  case neg =>
    rw [if_neg c2] at h
    have c2b := decide_eq_false c2
    clear c2
    obtain rfl := Option.some.inj h
    go_enter Tryd.func25, Tryd.ntmps25
    go_wp2
    go_ret
    exact ⟨rfl, by repeat (first | exact HB.out | apply below_alloc | apply pw_below_drewN | apply below_drew1)⟩
  rw [if_pos c2] at h
  have c2b := decide_eq_true c2
  have c2c := eq_true c2
  clear c2
  by_cases c3 : (l2.length : Int) ≤ 3
  case neg =>
    rw [if_neg c3] at h
    have c3b := decide_eq_false c3
    clear c3
    obtain rfl := Option.some.inj h
    go_enter Tryd.func25, Tryd.ntmps25
    go_wp2
    go_ret
    exact ⟨rfl, by repeat (first | exact HB.out | apply below_alloc | apply pw_below_drewN | apply below_drew1)⟩
  rw [if_pos c3] at h
  have c3b := decide_eq_true c3
  have c3c := eq_true c3
  clear c3
  obtain ⟨t, A1, h⟩ := Option.bind_eq_some_iff.mp h
  have A1 := Aside0.mk A1
  cases t with
  | true =>
    have A3 := Aside0.mk (show term_May.f k x3 = some r from h)
    clear h
    go_enter Tryd.func25, Tryd.ntmps25
    go_wp2_with (first | (go_at_call 27; (with_reducible refine (term_All.calls k A2 c2_ l2 true _ HR.out HC.out A1.out (by first | exact hG | exact GOK.below hG (by repeat (first | exact HB.out | apply below_alloc | apply pw_below_drewN | apply below_drew1)))).mono ?_); rintro e w6 ⟨rfl, hb⟩; have h3_ := (hb.cell (World.block_lt_of_cell? w _ h3)).trans h3; have n1_ := Aside0.mk (below_step (by repeat (first | exact HB.out | apply below_alloc | apply pw_below_drewN | apply below_drew1)) hb); clear HB hb; have HB := n1_; clear n1_) | (go_at_call 28; (with_reducible refine (term_May.calls k x3 r _ A3.out (by first | exact hG | exact GOK.below hG (by repeat (first | exact HB.out | apply below_alloc | apply pw_below_drewN | apply below_drew1)))).mono ?_); rintro e w7 ⟨rfl, hb⟩; have n1_ := Aside0.mk (below_step (by repeat (first | exact HB.out | apply below_alloc | apply pw_below_drewN | apply below_drew1)) hb); clear HB hb; have HB := n1_; clear n1_))
    go_ret
    exact ⟨rfl, by repeat (first | exact HB.out | apply below_alloc | apply pw_below_drewN | apply below_drew1)⟩
  | false =>
    obtain rfl := Option.some.inj (show some false = some r from h)
    clear h
    go_enter Tryd.func25, Tryd.ntmps25
    go_wp2_with (first | (go_at_call 27; (with_reducible refine (term_All.calls k A2 c2_ l2 false _ HR.out HC.out A1.out (by first | exact hG | exact GOK.below hG (by repeat (first | exact HB.out | apply below_alloc | apply pw_below_drewN | apply below_drew1)))).mono ?_); rintro e w6 ⟨rfl, hb⟩; have n1_ := Aside0.mk (below_step (by repeat (first | exact HB.out | apply below_alloc | apply pw_below_drewN | apply below_drew1)) hb); clear HB hb; have HB := n1_; clear n1_))
    go_ret
    exact ⟨rfl, by repeat (first | exact HB.out | apply below_alloc | apply pw_below_drewN | apply below_drew1)⟩
def trail_Next.f (k : Nat) (x0 : Int) (x1 : Int) (l2 : List ByteArray) (x3 : ByteArray) (a1 : Int) : Option Bool := if a1 < 512 then (if (0 ≤ x1 ∧ x1 < a1) ∨ (a1 = 0 ∧ x1 = -1) then trail_Equation.f k x0 x1 l2 x3 else some false) else some false
set_option maxHeartbeats 8000000 in
set_option maxRecDepth 100000 in
theorem trail_Next.calls (k : Nat) (ad : Addr) (x0 : Int) (x1 : Int) (A2 : Option Addr) (c2_ : Nat) (l2 : List ByteArray) (x3 : ByteArray) (a1 : Int) (r : Bool) (w : World)
    (h0 : w.cell? ad = some (.int .i64 x0)) (h1 : w.cell? ⟨ad.block, ad.off + 1, none⟩ = some (.int .i64 x1)) (h2 : w.cell? ⟨ad.block, ad.off + 2, none⟩ = some (.slice A2 l2.length c2_)) (h3 : w.cell? ⟨ad.block, ad.off + 3, none⟩ = some (.string x3))
    (hr2 : Kd.C Kd.string w A2 l2.length l2) (hc2 : l2.length ≤ c2_) (h : trail_Next.f k x0 x1 l2 x3 a1 = some r) (hG : GOK w) :
    Calls Tryd.prog 23 #[.pointer (some ad), .int .i64 a1] w fun e w' => e = .returned (.bool r) ∧ Below w.heap.size w w' := by
  have HR := Aside0.mk hr2
  have HC := Aside0.mk hc2
  have H2 := Aside0.mk h2
  have H3 := Aside0.mk h3
  clear hr2 hc2 h2 h3
  have HB := Aside0.mk (Below.refl w.heap.size w)
  unfold trail_Next.f at h
  by_cases c1 : a1 < 512
  case neg =>
    rw [if_neg c1] at h
    obtain rfl := Option.some.inj h
    clear h
    have c1b := decide_eq_false c1
    clear c1
    by_cases d1 : 0 ≤ x1
    case neg =>
      have e1 := decide_eq_false d1
      have e3 : (a1 == 0) = false := beq_eq_false_iff_ne.mpr (fun e => by subst e; simp at c1b)
      clear d1
      go_enter Tryd.func23, Tryd.ntmps23
      go_wp2
      go_ret
      exact ⟨rfl, by repeat (first | exact HB.out | apply below_alloc | apply pw_below_drewN | apply below_drew1)⟩

    by_cases d2 : x1 < a1
    case pos =>
      have e1 := decide_eq_true d1
      have e2 := decide_eq_true d2
      clear d1 d2
      go_enter Tryd.func23, Tryd.ntmps23
      go_wp2
      go_ret
      exact ⟨rfl, by repeat (first | exact HB.out | apply below_alloc | apply pw_below_drewN | apply below_drew1)⟩
    have e1 := decide_eq_true d1
    have e2 := decide_eq_false d2
    have e3 : (a1 == 0) = false := beq_eq_false_iff_ne.mpr (fun e => by subst e; simp at c1b)
    clear d1 d2
    go_enter Tryd.func23, Tryd.ntmps23
    go_wp2
    go_ret
    exact ⟨rfl, by repeat (first | exact HB.out | apply below_alloc | apply pw_below_drewN | apply below_drew1)⟩
  rw [if_pos c1] at h
  have c1b := decide_eq_true c1
  clear c1
  by_cases c2 : (0 ≤ x1 ∧ x1 < a1) ∨ (a1 = 0 ∧ x1 = -1)
  case pos =>
    rw [if_pos c2] at h
    have A1 := Aside0.mk h
    clear h
    rcases c2 with ⟨c2, c3⟩ | ⟨c2, c3⟩
    · have c2b := decide_eq_true c2
      have c3b := decide_eq_true c3
      clear c2 c3
      go_enter Tryd.func23, Tryd.ntmps23
      go_wp2_with (go_at_call 25; (with_reducible refine (trail_Equation.calls k ad x0 x1 A2 c2_ l2 x3 r _ h0 H2.out H3.out HR.out HC.out A1.out (by first | exact hG | exact GOK.below hG (by repeat (first | exact HB.out | apply below_alloc | apply pw_below_drewN | apply below_drew1)))).mono ?_); rintro e w6 ⟨rfl, hb⟩; have n1_ := Aside0.mk (below_step (by repeat (first | exact HB.out | apply below_alloc | apply pw_below_drewN | apply below_drew1)) hb); clear HB hb; have HB := n1_; clear n1_)
      go_ret
      exact ⟨rfl, by repeat (first | exact HB.out | apply below_alloc | apply pw_below_drewN | apply below_drew1)⟩
    · have c2b : (a1 == 0) = true := beq_iff_eq.mpr c2
      have c3b : (x1 == -1) = true := beq_iff_eq.mpr c3
      have c4b : decide (0 ≤ x1) = false := decide_eq_false (by omega)
      clear c2 c3
      go_enter Tryd.func23, Tryd.ntmps23
      go_wp2_with (go_at_call 25; (with_reducible refine (trail_Equation.calls k ad x0 x1 A2 c2_ l2 x3 r _ h0 H2.out H3.out HR.out HC.out A1.out (by first | exact hG | exact GOK.below hG (by repeat (first | exact HB.out | apply below_alloc | apply pw_below_drewN | apply below_drew1)))).mono ?_); rintro e w6 ⟨rfl, hb⟩; have n1_ := Aside0.mk (below_step (by repeat (first | exact HB.out | apply below_alloc | apply pw_below_drewN | apply below_drew1)) hb); clear HB hb; have HB := n1_; clear n1_)
      go_ret
      exact ⟨rfl, by repeat (first | exact HB.out | apply below_alloc | apply pw_below_drewN | apply below_drew1)⟩
  rw [if_neg c2] at h
  obtain rfl := Option.some.inj h
  clear h
  by_cases d1 : 0 ≤ x1
  case neg =>
    by_cases d3 : a1 = 0
    case neg =>
      have e1 := decide_eq_false d1
      have e3 : (a1 == 0) = false := beq_eq_false_iff_ne.mpr d3
      clear d1 d3 c2
      go_enter Tryd.func23, Tryd.ntmps23
      go_wp2
      go_ret
      exact ⟨rfl, by repeat (first | exact HB.out | apply below_alloc | apply pw_below_drewN | apply below_drew1)⟩
    have d4 : ¬ x1 = -1 := fun e => c2 (.inr ⟨d3, e⟩)
    have e1 := decide_eq_false d1
    have e3 : (a1 == 0) = true := beq_iff_eq.mpr d3
    have e4 : (x1 == -1) = false := beq_eq_false_iff_ne.mpr d4
    clear d1 d3 d4 c2
    go_enter Tryd.func23, Tryd.ntmps23
    go_wp2
    go_ret
    exact ⟨rfl, by repeat (first | exact HB.out | apply below_alloc | apply pw_below_drewN | apply below_drew1)⟩
  have d2 : ¬ x1 < a1 := fun e => c2 (.inl ⟨d1, e⟩)
  by_cases d3 : a1 = 0
  case neg =>
    have e1 := decide_eq_true d1
    have e2 := decide_eq_false d2
    have e3 : (a1 == 0) = false := beq_eq_false_iff_ne.mpr d3
    clear d1 d2 d3 c2
    go_enter Tryd.func23, Tryd.ntmps23
    go_wp2
    go_ret
    exact ⟨rfl, by repeat (first | exact HB.out | apply below_alloc | apply pw_below_drewN | apply below_drew1)⟩
  have d4 : ¬ x1 = -1 := by omega
  have e1 := decide_eq_true d1
  have e2 := decide_eq_false d2
  have e3 : (a1 == 0) = true := beq_iff_eq.mpr d3
  have e4 : (x1 == -1) = false := beq_eq_false_iff_ne.mpr d4
  clear d1 d2 d3 d4 c2
  go_enter Tryd.func23, Tryd.ntmps23
  go_wp2
  go_ret
  exact ⟨rfl, by repeat (first | exact HB.out | apply below_alloc | apply pw_below_drewN | apply below_drew1)⟩
def trail_May.l0 : Nat → List S35 → Int → Option Bool
  | 0, _, _ => none
  | k + 1, x0, x1 => if x1 < (x0.length : Int) then (if 0 ≤ x1 then ((trail_Next.f k (rd_T35 x0 x1).f0 (rd_T35 x0 x1).f1 (rd_T35 x0 x1).f2 (rd_T35 x0 x1).f3 x1).bind fun t => if t = true then trail_May.l0 k x0 (wrap64 (x1 + 1)) else some false) else none) else some (decide ((x0.length : Int) > 0))
def trail_May.f (k : Nat) (l0 : List S35) : Option Bool := trail_May.l0 k l0 0
set_option maxHeartbeats 8000000 in
set_option maxRecDepth 100000 in
theorem trail_May.calls (k : Nat) (A0 : Option Addr) (c0 : Nat) (l0 : List S35) (r : Bool) (w : World) (hr0 : Kd.C k35 w A0 l0.length l0) (hc0 : l0.length ≤ c0) (h : trail_May.f k l0 = some r) (hG : GOK w) :
    Calls Tryd.prog 18 #[.slice A0 l0.length c0] w fun e w' => e = .returned (.bool r) ∧ Below w.heap.size w w' := by
  have HR0 := Aside0.mk hr0
  have HC0 := Aside0.mk hc0
  clear hr0 hc0
  have HB := Aside0.mk (Below.refl w.heap.size w)
  have H' := Aside0.mk (show trail_May.l0 k l0 0 = some r from h)
  clear h
  go_enter Tryd.func18, Tryd.ntmps18
  go_wp2
  go_loopg [6] k (fun kq v6 w' => ∃ (x1 : Int), v6 = .int .i64 x1 ∧ Aside0 (trail_May.l0 kq l0 x1 = some r) ∧ Aside0 (kq ≤ k) ∧ Aside0 (Below w.heap.size w w'))
  case atStart => exact ⟨0, rfl, H', ⟨Nat.le_refl _⟩, ⟨by repeat (first | exact HB.out | apply below_alloc | apply pw_below_drewN | apply below_drew1)⟩⟩
  case round =>
    clear H' HB
    obtain ⟨x1, rfl, HA, HK1, HB⟩ := hrel
    cases gk with
    | zero => exact absurd HA.out (by simp [trail_May.l0])
    | succ k1 =>
      have H := HA.out
      clear HA
      simp only [trail_May.l0] at H
      by_cases c2 : x1 < (l0.length : Int)
      case neg =>
        rw [if_neg c2] at H
        have c2b0 : decide (x1 < (l0.length : Int)) = false := decide_eq_false c2
        clear c2
        obtain rfl := Option.some.inj H
        go_wp2
        go_ret
        exact ⟨rfl, by repeat (first | exact HB.out | apply below_alloc | apply pw_below_drewN | apply below_drew1)⟩
      rw [if_pos c2] at H
      have c2b0 : decide (x1 < (l0.length : Int)) = true := decide_eq_true c2
      replace H := ifI_ H; obtain ⟨c3, H⟩ := H
      have c3b0 : decide (0 ≤ x1) = true := decide_eq_true c3
      obtain ⟨t, A5, H⟩ := Option.bind_eq_some_iff.mp H
      have A5 := Aside0.mk A5
      obtain ⟨ad, A2, c2_, e0, h0, h1, h2, h3, hc2_, hr2_⟩ := at_T35 HR0.out x1 c3 c2
      cases e0
      have HX := Aside0.mk (And.intro h0 (And.intro h1 (And.intro h2 (And.intro h3 (And.intro hc2_ hr2_)))))
      clear h0 h1 h2 h3 hc2_ hr2_
      replace c2 := eq_true c2
      replace c3 := eq_true c3
      cases t with
      | true =>
        have H' := Aside0.mk (show trail_May.l0 k1 l0 (wrap64 (x1 + 1)) = some r from H)
        clear H
        go_wp2_with (go_at_call 23; have hbq := Aside0.mk (show Below w.heap.size w _ from by repeat (first | exact HB.out | apply below_alloc | apply pw_below_drewN | apply below_drew1)); (with_reducible refine (trail_Next.calls k1 (ad.add (x1.toNat * 4)) _ _ A2 c2_ _ _ x1 true _ ((hbq.out.cell (World.block_lt_of_cell? w _ HX.out.1)).trans HX.out.1) ((hbq.out.cell (World.block_lt_of_cell? w _ HX.out.2.1)).trans HX.out.2.1) ((hbq.out.cell (World.block_lt_of_cell? w _ HX.out.2.2.1)).trans HX.out.2.2.1) ((hbq.out.cell (World.block_lt_of_cell? w _ HX.out.2.2.2.1)).trans HX.out.2.2.2.1) (Kd.C_below HX.out.2.2.2.2.2 hbq.out) HX.out.2.2.2.2.1 A5.out (GOK.below hG hbq.out)).mono ?_); rintro e w6 ⟨rfl, hb⟩; have n1_ := Aside0.mk (below_step hbq.out hb); clear HB hb hbq; have HB := n1_; clear n1_)
        go_roundg k1
        case measure => have := HK1.out; omega
        case rel => exact ⟨(wrap64 (x1 + 1)), hW_, H', ⟨by have := HK1.out; omega⟩, ⟨by repeat (first | exact HB.out | apply below_alloc | apply pw_below_drewN | apply below_drew1)⟩⟩
      | false =>
        obtain rfl := Option.some.inj (show some false = some r from H)
        clear H
        go_wp2_with (go_at_call 23; have hbq := Aside0.mk (show Below w.heap.size w _ from by repeat (first | exact HB.out | apply below_alloc | apply pw_below_drewN | apply below_drew1)); (with_reducible refine (trail_Next.calls k1 (ad.add (x1.toNat * 4)) _ _ A2 c2_ _ _ x1 false _ ((hbq.out.cell (World.block_lt_of_cell? w _ HX.out.1)).trans HX.out.1) ((hbq.out.cell (World.block_lt_of_cell? w _ HX.out.2.1)).trans HX.out.2.1) ((hbq.out.cell (World.block_lt_of_cell? w _ HX.out.2.2.1)).trans HX.out.2.2.1) ((hbq.out.cell (World.block_lt_of_cell? w _ HX.out.2.2.2.1)).trans HX.out.2.2.2.1) (Kd.C_below HX.out.2.2.2.2.2 hbq.out) HX.out.2.2.2.2.1 A5.out (GOK.below hG hbq.out)).mono ?_); rintro e w6 ⟨rfl, hb⟩; have n1_ := Aside0.mk (below_step hbq.out hb); clear HB hb hbq; have HB := n1_; clear n1_)
        go_ret
        exact ⟨rfl, by repeat (first | exact HB.out | apply below_alloc | apply pw_below_drewN | apply below_drew1)⟩
theorem trail_Next.true_spec {k : Nat} {x0 x1 : Int} {l2 : List ByteArray} {x3 : ByteArray} {a1 : Int} (h : trail_Next.f k x0 x1 l2 x3 a1 = some true) : a1 < 512 ∧ ((0 ≤ x1 ∧ x1 < a1) ∨ (a1 = 0 ∧ x1 = -1)) := by
  unfold trail_Next.f at h
  by_cases c1 : a1 < 512
  case neg =>
    rw [if_neg c1] at h; simp at h
  rw [if_pos c1] at h
  by_cases c2 : (0 ≤ x1 ∧ x1 < a1) ∨ (a1 = 0 ∧ x1 = -1)
  case pos =>
    exact ⟨c1, c2⟩
  rw [if_neg c2] at h; simp at h
theorem trail_May.true_l : ∀ (k : Nat) (l0 : List S35) (x : Int), 0 ≤ x → trail_May.l0 k l0 x = some true →
    0 < l0.length ∧ ∀ i : Int, x ≤ i → i < (l0.length : Int) → i < 512 ∧ ((0 ≤ (rd_T35 l0 i).f1 ∧ (rd_T35 l0 i).f1 < i) ∨ (i = 0 ∧ (rd_T35 l0 i).f1 = -1))
  | 0, _, _, _, h => by simp [trail_May.l0] at h
  | k + 1, l0, x, h0, h => by
    rw [trail_May.l0] at h
    by_cases c : x < (l0.length : Int)
    case neg =>
      rw [if_neg c] at h
      have := of_decide_eq_true (Option.some.inj h)
      exact ⟨by omega, fun i hi hl => by omega⟩
    rw [if_pos c, if_pos h0] at h
    obtain ⟨t, h1, h⟩ := Option.bind_eq_some_iff.mp h
    cases t with
    | false => simp at h
    | true =>
      have h2 := trail_Next.true_spec h1
      rw [if_pos rfl, show wrap64 (x + 1) = x + 1 from by unfold wrap64; omega] at h
      obtain ⟨h3, h4⟩ := trail_May.true_l k l0 (x + 1) (by omega) h
      refine ⟨h3, fun i hi hl => ?_⟩
      rcases Int.lt_or_eq_of_le hi with hlt | rfl
      · exact h4 i (by omega) hl
      · exact h2
theorem trail_May.true_spec {k : Nat} {l0 : List S35} (h : trail_May.f k l0 = some true) : 0 < l0.length ∧ l0.length ≤ 512 ∧ ∀ i : Int, 0 ≤ i → i < (l0.length : Int) → ((0 ≤ (rd_T35 l0 i).f1 ∧ (rd_T35 l0 i).f1 < i) ∨ (i = 0 ∧ (rd_T35 l0 i).f1 = -1)) := by
  obtain ⟨h1, h2⟩ := trail_May.true_l k l0 0 (by omega) h
  have := h2 ((l0.length : Int) - 1) (by omega) (by omega)
  exact ⟨h1, by omega, fun i h0 hl => (h2 i h0 hl).2⟩

def tree_there.f (k : Nat) (l0 : List (S35)) (a1 : Int) : Option (Bool) := (trail_May.f k l0).bind fun t137 => (if t137 = true then (if a1 ≥ 0 then (some (decide (a1 < (l0.length : Int)))) else (some false)) else (some false))
set_option maxHeartbeats 8000000 in
set_option maxRecDepth 100000 in
theorem tree_there.calls (k : Nat) (A0 : Option Addr) (c0 : Nat) (l0 : List (S35)) (a1 : Int) (r : Bool) (w : World) (hr0 : Kd.C k35 w A0 l0.length l0) (hc0 : l0.length ≤ c0) (h : tree_there.f k l0 a1 = some r) (hG : GOK w) :
    Calls Tryd.prog 12 #[.slice A0 l0.length c0, .int .i64 a1] w fun e w' => e = .returned (.bool r) ∧ Below w.heap.size w w' := by
  have HR0 := Aside0.mk hr0
  have HC0 := Aside0.mk hc0
  clear hr0 hc0
  have HB := Aside0.mk (Below.refl w.heap.size w)
  have H : ((trail_May.f k l0).bind fun t0 => (if t0 = true then (if a1 ≥ 0 then (some (decide (a1 < (l0.length : Int)))) else (some false)) else (some false))) = some r := h
  clear h
  replace H := Option.bind_eq_some_iff.mp H
  obtain ⟨t0, A30, H⟩ := H
  replace H : (if t0 = true then (if a1 ≥ 0 then (some (decide (a1 < (l0.length : Int)))) else (some false)) else (some false)) = some r := H
  have A3 := Aside0.mk A30
  clear A30
  by_cases c4 : t0 = true
  case neg =>
    replace c4 := Bool.eq_false_iff.mpr c4
    subst c4
    have H1 : (some false) = some r := by rw [if_neg (show ¬ (false = true) by decide)] at H; exact H
    clear H
    have H := H1
    clear H1
    obtain rfl := Option.some.inj H
    go_enter Tryd.func12, Tryd.ntmps12
    go_wp2_with (first | ((with_reducible refine gate_callee (f := 18) rfl ?_); refine goesL_ (some 6) rfl rfl Tryd.func18 (by kernel_rfl) rfl #[.slice A0 l0.length c0] rfl hL_ ?_; (with_reducible refine (trail_May.calls k _ _ l0 false _ ?s1 ?s2 A3.out hG_).mono ?_); (case s1 => repeat (first | exact HR0.out | (with_reducible refine Kd.C_alloc ?_ _) | (with_reducible refine Kd.C_drewN ?_ _) | (with_reducible refine Kd.C_drew ?_))); (case s2 => exact HC0.out); rintro e w8 ⟨rfl, hb⟩; refine ⟨_, rfl, ?_⟩; have n0_ := Aside0.mk (below_step hB_ hb); clear HB; have HB := n0_; clear n0_; (try clear hb); (try clear hb2); (try clear hk); (try clear hi)))
    go_ret
    exact ⟨hV_, hC_⟩

  subst c4
  have H1 : (if a1 ≥ 0 then (some (decide (a1 < (l0.length : Int)))) else (some false)) = some r := by rw [if_pos rfl] at H; exact H
  clear H
  have H := H1
  clear H1
  by_cases c5 : a1 ≥ 0
  case pos =>
    rw [if_pos c5] at H
    have c5b0 : decide (0 ≤ a1) = true := decide_eq_true c5
    clear c5
    obtain rfl := Option.some.inj H
    go_enter Tryd.func12, Tryd.ntmps12
    go_wp2_with (first | ((with_reducible refine gate_callee (f := 18) rfl ?_); refine goesL_ (some 6) rfl rfl Tryd.func18 (by kernel_rfl) rfl #[.slice A0 l0.length c0] rfl hL_ ?_; (with_reducible refine (trail_May.calls k _ _ l0 true _ ?s1 ?s2 A3.out hG_).mono ?_); (case s1 => repeat (first | exact HR0.out | (with_reducible refine Kd.C_alloc ?_ _) | (with_reducible refine Kd.C_drewN ?_ _) | (with_reducible refine Kd.C_drew ?_))); (case s2 => exact HC0.out); rintro e w6 ⟨rfl, hb⟩; refine ⟨_, rfl, ?_⟩; have n0_ := Aside0.mk (below_step hB_ hb); clear HB; have HB := n0_; clear n0_; (try clear hb); (try clear hb2); (try clear hk); (try clear hi)))
    go_ret
    exact ⟨hV_, hC_⟩
  rw [if_neg c5] at H
  have c5b0 : decide (0 ≤ a1) = false := decide_eq_false c5
  clear c5
  obtain rfl := Option.some.inj H
  go_enter Tryd.func12, Tryd.ntmps12
  go_wp2_with (first | ((with_reducible refine gate_callee (f := 18) rfl ?_); refine goesL_ (some 6) rfl rfl Tryd.func18 (by kernel_rfl) rfl #[.slice A0 l0.length c0] rfl hL_ ?_; (with_reducible refine (trail_May.calls k _ _ l0 true _ ?s1 ?s2 A3.out hG_).mono ?_); (case s1 => repeat (first | exact HR0.out | (with_reducible refine Kd.C_alloc ?_ _) | (with_reducible refine Kd.C_drewN ?_ _) | (with_reducible refine Kd.C_drew ?_))); (case s2 => exact HC0.out); rintro e w7 ⟨rfl, hb⟩; refine ⟨_, rfl, ?_⟩; have n0_ := Aside0.mk (below_step hB_ hb); clear HB; have HB := n0_; clear n0_; (try clear hb); (try clear hb2); (try clear hk); (try clear hi)))
  go_ret
  exact ⟨hV_, hC_⟩
/-- what the program does, from the last node on -/
def sizesL (ns : List S35) (c : Int → Int) : Nat → List Int → List Int
  | 0, o => o
  | n + 1, o =>
    let o1 := o.set n (wrap64 (rd o (n : Int) + c (n : Int)))
    sizesL ns c n (if 0 < n then o1.set ((rd_T35 ns (n : Int)).f1).toNat (wrap64 (rd o1 (rd_T35 ns (n : Int)).f1 + rd o1 (n : Int))) else o1)
def sizesP (ns : List S35) (c : Int → Int) : List Int := sizesL ns c ns.length (List.replicate ns.length 0)
theorem sizesL_len (ns : List S35) (c : Int → Int) : ∀ (n : Nat) (o : List Int), (sizesL ns c n o).length = o.length
  | 0, _ => rfl
  | n + 1, o => by
    rw [sizesL, sizesL_len ns c n]
    split <;> simp
theorem infoIntS : (Tryd.prog.info? 3).map (fun i => (i.zero, i.size, i.bytes)) = some (some (.int .i64 0), 1, 8) := by kernel_rfl
section
attribute [local go_sem] Oper.semAt_some
set_option maxRecDepth 100000 in
set_option maxHeartbeats 8000000 in
theorem tree_Sizes.in_ (n : Nat) (hn : 2 ≤ n) (g : Nat) (lb : Array Value) (eg : ∀ args w, (callFunc g args).run Tryd.prog w = .ok (.enter g args) w) (c : Int → Int) (A0 : Option Addr) (c0 : Nat) (l0 : List S35) (h512 : l0.length ≤ 512)
    (hP : ∀ i : Int, 0 ≤ i → i < (l0.length : Int) → ((0 ≤ (rd_T35 l0 i).f1 ∧ (rd_T35 l0 i).f1 < i) ∨ (i = 0 ∧ (rd_T35 l0 i).f1 = -1))) (w : World) (hC : Kd.C k35 w A0 l0.length l0)
    (hc : ∀ (i : Int) (W : World), 0 ≤ i → i < (l0.length : Int) → Below w.heap.size w W → Calls Tryd.prog g (#[.int .i64 i] ++ lb) W fun e W' => e = .returned (.int .i64 (c i)) ∧ ∃ m, W' = W.drewN m) :
    CallsIn Fence.wide n Tryd.prog 13 #[.slice A0 l0.length c0, .func (.func g) #[] lb] w fun e w' => ∃ v, e = .returned v ∧ (Kd.int .i64).R 3 w' w.heap.size (fun _ => True) v (sizesP l0 c) ∧ Below w.heap.size w w' := by
  have HC := Aside0.mk hC
  have HCC := Aside0.mk hc
  have HPP := Aside0.mk hP
  clear hC hc hP
  have ffg : Fence.wide.fn g := trivial
  have hmk := print_make_of (P := Tryd.prog) 27 3 (.int .i64 0) 8 Tryd.underlying27 infoIntS rfl (by omega) l0.length (by omega)
  have hmix : Tryd.prog.follows .mixedOrders = true := by kernel_rfl
  refine callsIn_of_wp Tryd.func13 rfl trivial ?_ rfl
  simp only [Tryd.ntmps13, List.size_toArray, List.length_cons, List.length_nil, Nat.reduceAdd, Nat.reduceSub, Array.replicate_succ, Array.replicate_zero, List.push_toArray, List.append_toArray, List.nil_append, List.cons_append]
  have HO := Aside0.mk (own_made_of (enc := Value.int .i64) (d := (0 : Int)) w w.heap.size 3 l0.length (Nat.le_refl _) (by omega))
  gi_wp2
  gi_loopw [6] (fun v wr => ∃ x : Int, v = .int .i64 x ∧ Aside0 (-1 ≤ x ∧ x < (l0.length : Int)) ∧ Aside0 (∃ o : List Int, o.length = l0.length ∧ wr.ownsRow w.heap.size 3 1 (.slice (some ⟨w.heap.size, 0, none⟩) l0.length l0.length) l0.length (encs (Value.int .i64) o) ∧ sizesL l0 c (x + 1).toNat o = sizesP l0 c) ∧ Aside0 (Below w.heap.size w wr))
    (fun v _ => (intOf v + 1).toNat)
  case atStart =>
    exact ⟨(l0.length : Int) - 1, by first | rfl | (congr 1; omega) | (simp; omega), ⟨by omega, by omega⟩, ⟨List.replicate l0.length 0, by simp, HO.out, by rw [show ((l0.length : Int) - 1 + 1).toNat = l0.length by omega]; rfl⟩, ⟨(Below.refl _ w).alloc (Nat.le_refl _) _⟩⟩
  case round =>
    obtain ⟨x, rfl, HX, HJ, HB⟩ := hrel
    clear hmk
    by_cases hx : 0 ≤ x
    case neg =>
      have hxb := decide_eq_false hx
      have HN := Aside0.mk hx
      clear hx
      gi_wp2
      go_ret
      obtain ⟨o, ho, hrow, hsz⟩ := HJ.out
      rw [show (x + 1).toNat = 0 by have := HX.out; have := HN.out; omega, sizesL] at hsz
      subst hsz
      exact ⟨_, rfl, Kd.R_of_own (by rw [ho]; exact hrow) (fun _ _ => trivial), HB.out⟩
    have hxb := decide_eq_true hx
    have hlt : x < (l0.length : Int) := HX.out.2
    obtain ⟨o, ho, hrow, hsz⟩ := HJ.out
    obtain ⟨hcx, hfx⟩ := own_at_of (d := (0 : Int)) hrow x hx hlt
    have HR := Aside0.mk (And.intro ho (And.intro hrow (And.intro hsz hx)))
    clear ho hrow hsz
    replace hlt := eq_true hlt
    replace hx := eq_true hx
    have HQ := Aside0.mk (fun k => HCC.out x (wr.drewN k) (of_eq_true hx) (of_eq_true hlt) (below_dn HB.out k))
    gi_wp2
    refine wpIn_region_head 9 rfl hmix (by kernel_rfl) ?_
    simp only [List.take_succ_cons, List.take_zero, List.drop_succ_cons, List.drop_zero]
    iterate 6 (quiet_step_in (fail))
    quiet_step_in (exact ⟨fun _ => by omega, CallsIn.quiet_of (callsIn_wide.2 (HQ.out _))⟩)
    iterate 2 (quiet_step_in (fail))
    refine wpQuietIn_nil ?_
    intro _ hw'
    obtain ⟨nq, hw''⟩ := hw'
    subst hw''
    by_cases hx1 : 0 < x
    case neg =>
      have hx1b := decide_eq_false hx1
      gi_wp2
      obtain ⟨ho, hrow, hsz, hX⟩ := HR.out
      have hst := (own_store_of (enc := Value.int .i64) (W := wr.drewN nq) hrow x (wrap64 (rdOf 0 o x + c x))).1
      have hb2 : Below w.heap.size w ((wr.drewN nq).setCell ⟨w.heap.size, x.toNat, none⟩ (Value.int .i64 (wrap64 (rdOf 0 o x + c x)))) := (below_dn HB.out nq).setCell (p := ⟨w.heap.size, x.toNat, none⟩) (Nat.le_refl _) _
      obtain rfl : x = 0 := by omega
      rw [show wrap64 ((0 : Int) - 1) = -1 from by unfold wrap64; omega]
      refine ⟨⟨-1, rfl, ⟨by omega, by omega⟩, ⟨_, by simpa using ho, hst, ?_⟩, ⟨hb2⟩⟩, by decide⟩
      rw [← hsz]
      rfl
    have hx1b := decide_eq_true hx1
    gi_wp2
    obtain ⟨ho, hrow, hsz, _⟩ := HR.out
    have hst := (own_store_of (enc := Value.int .i64) (W := wr.drewN nq) hrow x (wrap64 (rdOf 0 o x + c x))).1
    have hb2 : Below w.heap.size w ((wr.drewN nq).setCell ⟨w.heap.size, x.toNat, none⟩ (Value.int .i64 (wrap64 (rdOf 0 o x + c x)))) := (below_dn HB.out nq).setCell (p := ⟨w.heap.size, x.toNat, none⟩) (Nat.le_refl _) _
    obtain ⟨W2, hW2⟩ : ∃ W2, (wr.drewN nq).setCell ⟨w.heap.size, x.toNat, none⟩ (Value.int .i64 (wrap64 (rdOf 0 o x + c x))) = W2 := ⟨_, rfl⟩
    obtain ⟨o1, ho1⟩ : ∃ o1, o1 = o.set x.toNat (wrap64 (rdOf 0 o x + c x)) := ⟨_, rfl⟩
    rw [hW2] at hst hb2 ⊢
    rw [← ho1] at hst
    have hX := HR.out.2.2.2
    have hpx := HPP.out x hX (of_eq_true hlt)
    obtain ⟨ad, A2, c2, e0, g0, g1, g2, g3, hl2, hi2⟩ := at_T35 HC.out x hX (of_eq_true hlt)
    cases e0
    replace g1 := (hb2.cell (World.block_lt_of_cell? w _ g1)).trans g1
    have hp0 : 0 ≤ (rd_T35 l0 x).f1 := by omega
    have hp1 : (rd_T35 l0 x).f1 < (l0.length : Int) := by have := of_eq_true hlt; omega
    obtain ⟨hc1, hf1⟩ := own_at_of (d := (0 : Int)) hst x hX (of_eq_true hlt)
    obtain ⟨hc2, hf2⟩ := own_at_of (d := (0 : Int)) hst (rd_T35 l0 x).f1 hp0 hp1
    have HS := Aside0.mk (And.intro hst (And.intro hb2 (And.intro ho1 (And.intro hp0 (And.intro hp1 hx1)))))
    clear hst hb2 hW2 ho1 hpx g0 g2 g3 hl2 hi2 hcx hfx ho hrow hsz hX hx1 hx1b
    replace hp0 := eq_true hp0
    replace hp1 := eq_true hp1
    refine wpIn_region_head 14 rfl hmix (by kernel_rfl) ?_
    simp only [List.take_succ_cons, List.take_zero, List.drop_succ_cons, List.drop_zero]
    iterate 14 (quiet_step_in (fail))
    refine wpQuietIn_nil ?_
    intro _ hw'
    obtain ⟨nq2, hw''⟩ := hw'
    subst hw''
    gi_wp2
    obtain ⟨hst, hb2, ho1, hp0', hp1', hx1'⟩ := HS.out
    obtain ⟨ho, hrow, hsz, hX⟩ := HR.out
    have hw1 : wrap64 (x - 1) = x - 1 := by have := HX.out; unfold wrap64; omega
    rw [hw1]
    refine ⟨⟨x - 1, rfl, ⟨by omega, by have := HX.out; omega⟩, ⟨_, by rw [List.length_set, ho1, List.length_set]; exact ho, (own_store_of (enc := Value.int .i64) (W := W2.drewN nq2) hst (rd_T35 l0 x).f1 _).1, ?_⟩, ⟨(below_dn hb2 nq2).setCell (p := ⟨w.heap.size, (rd_T35 l0 x).f1.toNat, none⟩) (Nat.le_refl _) _⟩⟩, by simp only [intOf]; omega⟩
    rw [← hsz, show (x + 1).toNat = x.toNat + 1 by omega, show (x - 1 + 1).toNat = x.toNat by omega, sizesL]
    simp only [show ((x.toNat : Nat) : Int) = x by omega]
    rw [if_pos (show 0 < x.toNat by omega), ho1]
    rfl
end

def tree_Size.f (k : Nat) (l0 : List S35) (a1 : Int) : Option (Int × Int) := (tree_there.f k l0 a1).bind fun t => if t = true then some (rd (sizesP l0 (fun _ => 1)) a1, 0) else some (0, 1300)
theorem sizeOne_calls (i : Int) (W : World) : Calls Tryd.prog 14 #[.int .i64 i] W fun e W' => e = .returned (.int .i64 1) ∧ ∃ m, W' = W.drewN m := by
  have h : Calls Tryd.prog 14 #[.int .i64 i] W fun e W' => e = .returned (.int .i64 1) ∧ W' = W := by
    go_enter Tryd.func14, Tryd.ntmps14
    go_wp2
    go_ret
    exact ⟨rfl, rfl⟩
  exact h.mono fun e W' ⟨h1, h2⟩ => ⟨h1, 0, h2⟩
theorem sizes_calls (A0 : Option Addr) (c0 : Nat) (l0 : List (S35)) (a1 : Int) (h0 : 0 ≤ a1) (h1 : a1 < (l0.length : Int)) (h512 : l0.length ≤ 512) (hP : ∀ i : Int, 0 ≤ i → i < (l0.length : Int) → ((0 ≤ (rd_T35 l0 i).f1 ∧ (rd_T35 l0 i).f1 < i) ∨ (i = 0 ∧ (rd_T35 l0 i).f1 = -1)))
    (w w6 : World) (hC : Kd.C k35 w A0 l0.length l0) (hB : Below w.heap.size w w6) :
    Calls Tryd.prog 13 #[.slice A0 l0.length c0, .func (.func 14) #[] #[]] w6 fun e w' => ∃ ad c, e = .returned (.slice (some ad) l0.length c) ∧ w'.cell? (ad.add a1.toNat) = some (.int .i64 (rd (sizesP l0 (fun _ => 1)) a1)) ∧ Below w.heap.size w w' := by
  refine ((callsIn_wide (n := 2)).1 (tree_Sizes.in_ 2 (by omega) 14 #[] (enters_of Tryd.func14 (by kernel_rfl) rfl) (fun _ => 1) A0 c0 l0 h512 hP w6 (Kd.C_below hC hB) (fun i W _ _ _ => sizeOne_calls i W))).mono ?_
  rintro e w' ⟨v, rfl, hr, hb⟩
  obtain ⟨A, c, rfl, hl, hC'⟩ := Kd.R_reads hr
  have hlen : (sizesP l0 (fun _ => 1)).length = l0.length := by unfold sizesP; rw [sizesL_len, List.length_replicate]
  obtain ⟨ad, e9, hx⟩ := Kd.at_int hC' a1 h0 (by rw [hlen]; exact h1)
  cases e9
  exact ⟨ad, c, by rw [hlen], hx, hB.trans (hb.mono hB.size)⟩
set_option maxHeartbeats 8000000 in
set_option maxRecDepth 100000 in
theorem tree_Size.calls (k : Nat) (A0 : Option Addr) (c0 : Nat) (l0 : List (S35)) (a1 : Int) (r1 : Int) (r2 : Int) (w : World) (hr0 : Kd.C k35 w A0 l0.length l0) (hc0 : l0.length ≤ c0) (h : tree_Size.f k l0 a1 = some (r1, r2)) (hG : GOK w) :
    Calls Tryd.prog 6 #[.slice A0 l0.length c0, .int .i64 a1] w fun e w' => e = .returned (.tuple #[.int .i64 r1, .int .i64 r2]) ∧ Below w.heap.size w w' := by
  have HR0 := Aside0.mk hr0
  have HC0 := Aside0.mk hc0
  clear hr0 hc0
  have HB := Aside0.mk (Below.refl w.heap.size w)
  unfold tree_Size.f at h
  obtain ⟨t, A1, h⟩ := Option.bind_eq_some_iff.mp h
  have HA := Aside0.mk A1
  clear A1
  cases t with
  | true =>
    rw [if_pos rfl] at h
    have hp := Prod.mk.inj (Option.some.inj h)
    obtain rfl : r2 = 0 := hp.2.symm
    have HP := Aside0.mk hp.1
    clear h hp
    have hT : trail_May.f k l0 = some true ∧ 0 ≤ a1 ∧ a1 < (l0.length : Int) := by
      have h := HA.out
      unfold tree_there.f at h
      obtain ⟨t, h1, h⟩ := Option.bind_eq_some_iff.mp h
      cases t with
      | false => simp at h
      | true =>
        rw [if_pos rfl] at h
        by_cases c : a1 ≥ 0
        case neg =>
          rw [if_neg c] at h; simp at h
        rw [if_pos c] at h
        exact ⟨h1, c, of_decide_eq_true (Option.some.inj h)⟩
    have hM := trail_May.true_spec hT.1
    have HT := Aside0.mk (And.intro hT hM)
    have p1 := eq_true hT.2.1
    have p2 := eq_true hT.2.2
    clear hT hM
    go_enter Tryd.func6, Tryd.ntmps6
    go_wp2_with (first
      | (go_at_call 12; (with_reducible refine (tree_there.calls k _ _ l0 a1 true _ HR0.out HC0.out HA.out (by first | exact hG)).mono ?_); rintro e w6 ⟨rfl, hb⟩; have n1_ := Aside0.mk (below_step (by repeat (first | exact HB.out | apply below_alloc | apply pw_below_drewN | apply below_drew1)) hb); clear HB hb; have HB := n1_; clear n1_)
      | (go_at_call 13; (with_reducible refine (sizes_calls A0 c0 l0 a1 HT.out.1.2.1 HT.out.1.2.2 HT.out.2.2.1 HT.out.2.2.2 w _ HR0.out HB.out).mono ?_); rintro e w8 ⟨d0, c8, rfl, h0, hb⟩; have HR8 := Aside0.mk hb; clear hb))
    go_ret2
    exact ⟨by rw [← HP.out]; rfl, HR8.out⟩
  | false =>
    rw [if_neg (by decide)] at h
    have hp := Prod.mk.inj (Option.some.inj h)
    obtain rfl : r2 = 1300 := hp.2.symm
    obtain rfl : r1 = 0 := hp.1.symm
    clear h hp
    go_enter Tryd.func6, Tryd.ntmps6
    go_wp2_with (first
      | (go_at_call 12; (with_reducible refine (tree_there.calls k _ _ l0 a1 false _ HR0.out HC0.out HA.out (by first | exact hG)).mono ?_); rintro e w6 ⟨rfl, hb⟩; have n1_ := Aside0.mk (below_step (by repeat (first | exact HB.out | apply below_alloc | apply pw_below_drewN | apply below_drew1)) hb); clear HB hb; have HB := n1_; clear n1_))
    go_ret2
    exact ⟨rfl, by repeat (first | exact HB.out | apply below_alloc | apply pw_below_drewN | apply below_drew1)⟩

section
open Go.Shelf
/-- what an iterator promises: whatever J the caller keeps (it abides an iterator's steps, and stores into the cells C), all of xs come -/
def SeqC {α : Type} (F : Fence) (n : Nat) (P : Program) (g : Nat) (lb : Array Value) (enc : α → Value) (S : List α → Prop) (N : Nat) (n₁ : Nat) (C : Nat → Prop) (w : World) : Prop :=
  ∀ (l : Nat) (J : List α → World → Prop) (W : World), Below w.heap.size w W → AbidesFrom W.heap.size J → (∀ s W b v, C b → J s W → J s (W.setCell ⟨b, 0, none⟩ v)) →
    (∀ pre x W1, J pre W1 → pre.length < N → YieldAt F (n - 1) P l #[enc x] W1 fun e W' => e = .returned (.bool true) ∧ J (pre ++ [x]) W' ∧ Below n₁ W1 W') →
    J [] W →
    CallsIn F n P g (#[.func (.yield l) #[] #[]] ++ lb) W fun e W' => (∃ v, e = .returned v) ∧ ∃ xs, S xs ∧ J xs W'
theorem SeqC.of_stops {α : Type} {F : Fence} {n : Nat} {P : Program} {g : Nat} {lb : Array Value} {enc : α → Value} {S Sp : List α → Prop} {N n₁ : Nat} {C : Nat → Prop} {w : World}
    (h : SeqStopsK F n P g lb (fun x => #[enc x]) (Below n₁) S Sp N w) : SeqC F n P g lb enc S N n₁ C w := fun l J W hW hJ _ hY h0 => by
  refine (h l J (fun _ _ => False) W hW hJ (fun _ _ _ _ h _ _ => h) (fun pre x W1 hj hl => (hY pre x W1 hj hl).mono fun e W' hr => .inl hr) h0).mono ?_
  rintro e W' ⟨hv, ⟨xs, hS, hJ'⟩ | ⟨_, _, hF⟩⟩
  · exact ⟨hv, xs, hS, hJ'⟩
  · exact hF.elim
theorem range_cut {F : Fence} {n : Nat} {P : Program} {g : Operand} {ps : Array Tmp} {assign body : Code} {Q : Exit → Act → World → Prop} {a : Act} {w : World}
    (h : ∀ asg bdy, asg = assign → bdy = body → (Code.rangeFunc g ps asg bdy).wpIn F n P Q a w) : (Code.rangeFunc g ps assign body).wpIn F n P Q a w := h _ _ rfl rfl
/-- between two rounds -/
structure ApAt {α : Type} (enc : α → Value) (tS tE : TypeId) (rec : LoopState → Option Code → Loop) (n₀ : Nat) (w0 : World) (Bs l D : Nat) (ss : List α) (W : World) : Prop where
  box : ∃ v, W.heap[Bs]? = some (.cells #[v] tS (0, 0)) ∧ W.ownsRow w0.heap.size tE 1 v ss.length (ss.map enc) ∧ (v = .slice none 0 0 ↔ ss = [])
  L : W.heap[l]? = some (.loop (rec .ready none))
  K : W.heap[D]? = some (.deferred (some []))
  below : Below n₀ w0 W
theorem own_ap_abides {W W' : World} {row : Option Nat} {base : Nat} {e : TypeId} {size : Nat} {v : Value} {k : Nat} {xs : List Value} (h : W.ownsRow base e size v k xs) (hg : W.grownBy W' row)
    (hrow : ∀ r, row = some r → ∃ o : Obj, W.heap[r]? = some o ∧ o.isWalk = true) : W'.ownsRow base e size v k xs := by
  refine h.kept hg ?_
  rcases h.2 with ⟨rfl, _⟩ | ⟨g, cap, cur, rfl, _, hgb, _⟩
  · exact .inl rfl
  · refine .inr fun e' => ?_
    obtain ⟨o, ho, hw⟩ := hrow g (by simpa [Value.ownBlock] using e'.symm)
    rw [hgb] at ho; cases ho; cases hw
theorem ap_abides {α : Type} (enc : α → Value) (tS tE : TypeId) (rec : LoopState → Option Code → Loop) (n₀ : Nat) (w0 : World) (Bs l D B : Nat) (hB : n₀ ≤ B) (hn : n₀ ≤ w0.heap.size) : AbidesFrom B (ApAt enc tS tE rec n₀ w0 Bs l D) := fun s W W' row h hg hrow => by
  have hrow' : ∀ r, row = some r → ∃ o : Obj, W.heap[r]? = some o ∧ o.isWalk = true := fun r e => (hrow r e).2
  obtain ⟨v, hv, hr, hn'⟩ := h.box
  exact ⟨⟨v, (grownBy_keeps hg hrow' hv rfl).trans hv, own_ap_abides hr hg hrow', hn'⟩, (grownBy_keeps hg hrow' h.L rfl).trans h.L, (grownBy_keeps hg hrow' h.K rfl).trans h.K,
    h.below.grown hg (Nat.le_trans hn h.below.size) (fun k e => Nat.le_trans hB (hrow k e).1)⟩
theorem own_ne_ap {W : World} {base : Nat} {e : TypeId} {size : Nat} {v : Value} {k : Nat} {xs : List Value} (h : W.ownsRow base e size v k xs) {j : Nat} {o : Obj} (hj : W.heap[j]? = some o) (hno : ∀ cur, o ≠ .cells cur e (0, 0)) :
    v.ownBlock = none ∨ v.ownBlock ≠ some j := by
  rcases h.2 with ⟨rfl, _⟩ | ⟨g, cap, cur, rfl, _, hgb, _⟩
  · exact .inl rfl
  · refine .inr fun e' => ?_
    have : g = j := by simpa [Value.ownBlock] using e'
    subst this; rw [hgb] at hj; cases hj; exact hno cur rfl
theorem ap_state {α : Type} {enc : α → Value} {tS tE : TypeId} {rec : LoopState → Option Code → Loop} {n₀ : Nat} {w0 : World} {Bs l D : Nat} {ss : List α} {W : World} (b : Nat) (v : Value) (h : ApAt enc tS tE rec n₀ w0 Bs l D ss W)
    (h0 : n₀ ≤ b) (h1 : b < w0.heap.size) (hB : w0.heap.size ≤ Bs) (hl : w0.heap.size ≤ l) (hD : w0.heap.size ≤ D) : ApAt enc tS tE rec n₀ w0 Bs l D ss (W.setCell ⟨b, 0, none⟩ v) := by
  obtain ⟨u, hv, hr, hn⟩ := h.box
  exact ⟨⟨u, (Below.heap_setCell W _ v Bs (by show Bs ≠ b; omega)).trans hv, hr.kept (grownBy_setCell' W b v) (by
      rcases hr.2 with ⟨rfl, _⟩ | ⟨g, cap, cur, rfl, hbg, _⟩
      · exact .inl rfl
      · refine .inr fun e' => ?_
        have : g = b := by simpa [Value.ownBlock] using e'
        omega), hn⟩,
    (Below.heap_setCell W _ v l (by show l ≠ b; omega)).trans h.L, (Below.heap_setCell W _ v D (by show D ≠ b; omega)).trans h.K, h.below.setCell (p := ⟨b, 0, none⟩) h0 v⟩
theorem box_cell {W : World} {B : Nat} {v : Value} {t : TypeId} (h : W.heap[B]? = some (.cells #[v] t (0, 0))) : W.cell? ⟨B, 0, none⟩ = some v ∧ W.frozen? ⟨B, 0, none⟩ = false := by
  constructor <;> simp [World.cell?, World.frozen?, h]
theorem box_set {W : World} {B : Nat} {v : Value} {t : TypeId} (v' : Value) (h : W.heap[B]? = some (.cells #[v] t (0, 0))) : (W.setCell ⟨B, 0, none⟩ v').heap[B]? = some (.cells #[v'] t (0, 0)) := by
  obtain ⟨hlt, hk⟩ := Array.getElem?_eq_some_iff.1 h
  show (W.heap.modify B _)[B]? = _
  rw [Array.getElem?_eq_getElem (by rw [Array.size_modify]; exact hlt), Array.getElem_modify_self, hk]
  rfl
theorem infoInt : (Tryd.prog.info? 3).map (fun i => (i.zero, i.size, i.bytes)) = some (some (.int .i64 0), 1, 8) := by kernel_rfl
set_option maxRecDepth 100000 in
set_option maxHeartbeats 4000000 in
theorem appendSeq_in (F : Fence) (n : Nat) (h11 : F.fn 19) (hro : F.round = none) (hn : 2 ≤ n) (g : Nat) (lb : Array Value) (hFg : F.fn g) (eg : ∀ args w, (callFunc g args).run Tryd.prog w = .ok (.enter g args) w)
    (S : List Int → Prop) (N : Nat) (hN : N ≤ maxLen) (hNb : N * 8 ≤ 140737488355328) (n₀ : Nat) (C : Nat → Prop) (w : World) (hn₀ : n₀ ≤ w.heap.size) (hC : ∀ b, C b → n₀ ≤ b ∧ b < w.heap.size) (hseq : SeqC F (n - 1) Tryd.prog g lb (Value.int .i64) S N w.heap.size C w) :
    CallsIn F n Tryd.prog 19 #[.slice none 0 0, .func (.func g) #[] lb] w fun e w' => ∃ (v : Value) (ss : List Int), e = .returned v ∧ S ss ∧ w'.ownsRow w.heap.size 3 1 v ss.length (ss.map (Value.int .i64)) ∧ (v = .slice none 0 0 ↔ ss = []) ∧ Below n₀ w w' := by
  have h1 : 1 ≤ n := by omega
  obtain ⟨i0, hi, hz0, hz1, hz2⟩ := info_parts infoInt
  refine callsIn_of_wp_marks Tryd.func19 rfl h11 ?_ hro
  simp only [Tryd.ntmps19, List.size_toArray, List.length_cons, List.length_nil, Nat.reduceAdd, Nat.reduceSub, Array.replicate_succ, Array.replicate_zero, List.push_toArray, List.append_toArray, List.nil_append, List.cons_append]
  gi_wp2
  refine range_cut ?_
  intro asg bdy hasg0 hbdy0
  have hasg := Aside0.mk hasg0
  have hbdy := Aside0.mk hbdy0
  clear hasg0 hbdy0
  refine wpIn_rangeFunc ?_
  intro fn hfn
  rw [hro]
  obtain ⟨W0, hW0⟩ : ∃ W0, w.alloc (.cells #[.slice none 0 0] 27) = W0 := ⟨_, rfl⟩
  have hs0 : W0.heap.size = w.heap.size + 1 := by rw [← hW0]; simp
  have hv0 : W0.heap[w.heap.size]? = some (.cells #[.slice none 0 0] 27 (0, 0)) := by rw [← hW0]; exact World.alloc_heap_new w _
  have hb0 : Below n₀ w W0 := by rw [← hW0]; exact (Below.refl _ w).alloc hn₀ _
  have hb0' : Below w.heap.size w W0 := by rw [← hW0]; exact (Below.refl _ w).alloc (Nat.le_refl _) _
  rw [hW0]
  obtain ⟨rec, hrec⟩ : ∃ rec : LoopState → Option Code → Loop, rec = fun st pend => { state := st, pending := pend, fn, tmps := #[.slice none 0 0, .func (.func g) #[] lb, .pointer (some ⟨w.heap.size, 0, none⟩), undef, .slice none 0 0, undef, .func (.func g) #[] lb, undef, undef, undef, undef, undef, undef], params := #[7], assign := asg, body := bdy, defers := W0.heap.size } := ⟨_, rfl⟩
  have Hrec := Aside0.mk hrec
  clear hrec
  obtain ⟨W1, hW1⟩ : ∃ W1, (W0.alloc (.deferred (some []))).alloc (.loop (rec .ready none)) = W1 := ⟨_, rfl⟩
  have hold : ∀ k, k < W0.heap.size → W1.heap[k]? = W0.heap[k]? := fun k hk => by
    rw [← hW1]; exact (Below.heap_alloc _ _ k (by simp; omega)).trans (Below.heap_alloc _ _ k hk)
  have hb1 : Below n₀ w W1 := by rw [← hW1]; exact (hb0.alloc (by omega) _).alloc (by simp; omega) _
  have hb1' : Below w.heap.size w W1 := by rw [← hW1]; exact (hb0'.alloc (by omega) _).alloc (by simp; omega) _
  have hs1 : W1.heap.size = W0.heap.size + 2 := by rw [← hW1]; simp
  obtain ⟨l, hl0⟩ : ∃ l, l = W0.heap.size + 1 := ⟨_, rfl⟩
  obtain ⟨D, hD0⟩ : ∃ D, D = W0.heap.size := ⟨_, rfl⟩
  obtain ⟨Bs, hBs0⟩ : ∃ Bs, Bs = w.heap.size := ⟨_, rfl⟩
  have hM : ApAt (Value.int .i64) 27 3 rec n₀ w Bs l D [] W1 := by
    subst hl0 hD0 hBs0
    exact ⟨⟨_, (hold w.heap.size (by omega)).trans hv0, ⟨rfl, .inl ⟨rfl, rfl⟩⟩, by simp⟩,
     by rw [← hW1]; have := World.alloc_heap_new (W0.alloc (.deferred (some []))) (.loop (rec .ready none)); rwa [World.size_alloc] at this,
     by rw [← hW1]; exact (Below.heap_alloc _ _ _ (by simp)).trans (World.alloc_heap_new W0 _), hb1⟩
  have hBl : Bs ≠ l := by omega
  have hDl : D ≠ l := by omega
  have hDB : D ≠ Bs := by omega
  have h0B : w.heap.size ≤ Bs := by omega
  have h0l : w.heap.size ≤ l := by omega
  have h0D : w.heap.size ≤ D := by omega
  have hyield : ∀ (ss : List Int) (x : Int) (W : World), ApAt (Value.int .i64) 27 3 rec n₀ w Bs l D ss W → ss.length < N → YieldAt F (n - 1 - 1) Tryd.prog l #[.int .i64 x] W fun e W' => e = .returned (.bool true) ∧ ApAt (Value.int .i64) 27 3 rec n₀ w Bs l D (ss ++ [x]) W' ∧ Below w.heap.size W W' := by
    intro ss x W h hlen
    clear hM hb1 hb1' hold hs1 hv0 hb0 hb0'
    obtain ⟨v, hv, hrow, _⟩ := h.box
    refine ⟨fn, #[.slice none 0 0, .func (.func g) #[] lb, .pointer (some ⟨Bs, 0, none⟩), undef, .slice none 0 0, undef, .func (.func g) #[] lb, .int .i64 x, undef, undef, undef, undef, undef], asg, bdy, by subst hBs0; simpa [Hrec.out] using run_yield (P := Tryd.prog) (args := #[.int .i64 x]) h.L (by rw [Hrec.out]; rfl), roundIn_of_wpIn hfn ?_⟩
    clear hl0 hD0 hBs0 hs0 hW0 hW1
    have hl : l < W.heap.size := (Array.getElem?_eq_some_iff.1 h.L).1
    have hbr := run_beginRound (P := Tryd.prog) h.L (by rw [Hrec.out])
    obtain ⟨W2, hW2⟩ : ∃ W2, W.putObj l (.loop { rec .ready none with state := .busy }) = W2 := ⟨_, rfl⟩
    rw [hW2] at hbr
    have hg2 : W.grownBy W2 (some l) := by rw [← hW2]; exact grownBy_putObj' _ _ _
    have hv2 : W2.heap[Bs]? = some (.cells #[v] 27 (0, 0)) := by rw [← hW2]; exact (World.putObj_heap_other hBl).trans hv
    have hK2 : W2.heap[D]? = some (.deferred (some [])) := by rw [← hW2]; exact (World.putObj_heap_other hDl).trans h.K
    have hL2 : W2.heap[l]? = some (.loop { rec .ready none with state := .busy }) := by rw [← hW2]; exact World.putObj_heap_same hl
    have hrow2 : W2.ownsRow w.heap.size 3 1 v ss.length (ss.map (Value.int .i64)) := hrow.kept hg2 (own_ne_ap hrow h.L (fun cur e => by cases e))
    have hwW : w.heap.size ≤ W.heap.size := h.below.size
    have hx2 : Below w.heap.size W W2 := (Below.refl _ W).grown hg2 hwW (fun k e => by cases e; exact h0l)
    obtain ⟨hc2, hf2⟩ := box_cell hv2
    have hBlt : Bs < W2.heap.size := (Array.getElem?_eq_some_iff.1 hv2).1
    have hl2 : l < W2.heap.size := (Array.getElem?_eq_some_iff.1 hL2).1
    have hDlt : D < W2.heap.size := (Array.getElem?_eq_some_iff.1 hK2).1
    have ne_of : ∀ {j : Nat} {o : Obj}, W2.heap[j]? = some o → (∀ cur, o ≠ .cells cur 3 (0, 0)) → some j ≠ v.ownBlock := fun hj hno => by
      rcases own_ne_ap hrow2 hj hno with e | e
      · rw [e]; simp
      · exact fun e' => e e'.symm
    clear hW2
    obtain rfl := hasg.out
    gi_wp2_with (rw [Oper.semAt_eq _ _ _ (fun c h => by cases h)]; go_simp; try go_bits)
    obtain rfl := hbdy.out
    gi_wp2_with (first
      | (gi_at_builtin; refine wpListIn_append_own _ rfl _ _ 27 rfl w.heap.size 3 i0 (.int .i64 0) 1 8 Tryd.underlying27 hi hz0 hz1 hz2 rfl (by decide) _ _ _ rfl (hrow2.alloc _) ⟨W2.heap.size, 0, none⟩ 1 1 [.int .i64 x] rfl rfl (cell_one_new _ _ _) (by simp [Value.oneCell']) (by omega) (by omega) (by have := hx2.size; simp; omega) ?_; intro v' w3 hown' hg3 hnil3
         have hv3 : w3.heap[Bs]? = some (.cells #[v] 27 (0, 0)) := (hg3.block Bs (by simp; omega) (ne_of hv2 (fun cur e => by cases e))).trans ((Below.heap_alloc _ _ Bs hBlt).trans hv2)
         obtain ⟨hc3, hf3⟩ := box_cell hv3
         obtain ⟨g', cap', cur', rfl, hbase', hgb', hr1, hr2, hr3, hr4⟩ : ∃ g' cap' cur', v' = .slice (some ⟨g', 0, none⟩) (ss.length + 1) cap' ∧ w.heap.size ≤ g' ∧ w3.heap[g']? = some (.cells cur' 3 (0, 0)) ∧ ss.length + 1 ≤ cap' ∧ cap' ≤ maxLen ∧ cur'.size = cap' * 1 ∧ cur'.toList.take ((ss.length + 1) * 1) = ss.map (Value.int .i64) ++ [.int .i64 x] := by
           rcases hown'.2 with ⟨_, h0⟩ | h'
           · exact absurd h0 (by omega)
           · exact h'
         simp only [Act.put, List.setIfInBounds_toArray, List.set_cons_succ, List.set_cons_zero])
      | (rw [Oper.semAt_eq _ _ _ (fun c h => by cases h)]; go_simp; try go_bits))
    have hg3' : (W2.alloc (.cells #[.int .i64 x] 3)).grownBy w3 v.ownBlock := hg3
    have hL3 : w3.heap[l]? = some (.loop { rec .ready none with state := .busy }) := (hg3'.block l (by simp; omega) (ne_of hL2 (fun cur e => by cases e))).trans ((Below.heap_alloc _ _ l hl2).trans hL2)
    have hK3 : w3.heap[D]? = some (.deferred (some [])) := (hg3'.block D (by simp; omega) (ne_of hK2 (fun cur e => by cases e))).trans ((Below.heap_alloc _ _ D hDlt).trans hK2)
    obtain ⟨w4, hw4⟩ : ∃ w4, w3.setCell ⟨Bs, 0, none⟩ (.slice (some ⟨g', 0, none⟩) (ss.length + 1) cap') = w4 := ⟨_, rfl⟩
    rw [hw4]
    have hg4 : w3.grownBy w4 (some Bs) := by rw [← hw4]; exact grownBy_setCell' _ _ _
    have hv4 : w4.heap[Bs]? = some (.cells #[.slice (some ⟨g', 0, none⟩) (ss.length + 1) cap'] 27 (0, 0)) := by rw [← hw4]; exact box_set _ hv3
    have hL4 : w4.heap[l]? = some (.loop { rec .ready none with state := .busy }) := (hg4.block l (Array.getElem?_eq_some_iff.1 hL3).1 (fun e => hBl (by cases e; rfl))).trans hL3
    have hK4 : w4.heap[D]? = some (.deferred (some [])) := (hg4.block D (Array.getElem?_eq_some_iff.1 hK3).1 (fun e => hDB (by cases e; rfl))).trans hK3
    have hrow4 := hown'.kept hg4 (own_ne_ap hown' hv3 (fun cur e => by cases e))
    have hl4 : l < w4.heap.size := (Array.getElem?_eq_some_iff.1 hL4).1
    have hx3 : Below w.heap.size W w3 := (hx2.alloc (by have := hx2.size; omega) _).grown hg3' (by have := hx2.size; simp; omega) (fun k e => (hrow2.lt k e).1)
    have hx4 : Below w.heap.size W w4 := hx3.grown hg4 (Nat.le_trans hwW hx3.size) (fun k e => by cases e; exact h0B)
    have hx5 := hx4.grown (grownBy_putObj' w4 l (.loop { { rec .ready none with state := .busy } with state := if (none : Option Code).isNone then .ready else .done, pending := none })) (Nat.le_trans hwW hx4.size) (fun k e => by cases e; exact h0l)
    clear hw4
    have hrr : ({ { rec .ready none with state := .busy } with state := if (none : Option Code).isNone then .ready else .done, pending := none } : Loop) = rec .ready none := by rw [Hrec.out]; rfl
    refine ⟨_, _, run_endRound none hL4, rfl, ⟨⟨_, (World.putObj_heap_other hBl).trans hv4, ?_, by simp⟩, ?_, (World.putObj_heap_other hDl).trans hK4, h.below.trans (hx5.mono hn₀)⟩, hx5⟩
    · have := hrow4.kept (grownBy_putObj' w4 l (.loop { { rec .ready none with state := .busy } with state := if (none : Option Code).isNone then .ready else .done, pending := none })) (own_ne_ap hrow4 hL4 (fun cur e => by cases e))
      simpa using this
    · rw [hrr]
      exact World.putObj_heap_same hl4
  refine ⟨l, [{ target := .collected D, args := #[] }], W1, { target := .fn (.func g) lb, args := #[.func (.yield l) #[] #[]] }, W1, g, #[.func (.yield l) #[] #[]] ++ lb, W1, ?_, ?_, ?_, ?_, fun _ => h1, ?_⟩
  · subst hl0 hD0
    rw [← hW1, Hrec.out]
    exact run_enterLoop_outer _ _ _ _ _
  · simp [resolve, go_sem]
  · intro f' hf'; simp [Target.leads] at hf'; subst hf'; exact hFg
  · simp [invoke, go_sem, eg]
  · refine (hseq l (ApAt (Value.int .i64) 27 3 rec n₀ w Bs l D) W1 hb1' (ap_abides _ _ _ _ _ _ _ _ _ _ (Nat.le_trans hn₀ hb1'.size) hn₀) (fun s W b v hb hJ => ap_state b v hJ (hC b hb).1 (hC b hb).2 h0B h0l h0D) hyield hM).mono ?_
    rintro e W2 ⟨⟨v0, rfl⟩, ss, hS, h2⟩
    obtain ⟨v, hv, hrow, hnil⟩ := h2.box
    have hpe : (rec .ready none).pending = none := by rw [Hrec.out]
    obtain ⟨W3, hW3⟩ : ∃ W3, W2.putObj l (.loop { rec .ready none with state := .exhausted }) = W3 := ⟨_, rfl⟩
    have hend : (Instr.endLoop l).run Tryd.prog W2 = .ok none W3 := (run_endLoop (P := Tryd.prog) h2.L (by rw [Hrec.out]; simp)).trans (by rw [← hW3]; simp only [hpe])
    have hg3 : W2.grownBy W3 (some l) := by rw [← hW3]; exact grownBy_putObj' _ _ _
    have hv3 : W3.heap[Bs]? = some (.cells #[v] 27 (0, 0)) := by rw [← hW3]; exact (World.putObj_heap_other hBl).trans hv
    have hK3 : W3.heap[D]? = some (.deferred (some [])) := by rw [← hW3]; exact (World.putObj_heap_other hDl).trans h2.K
    have hrow3 := hrow.kept hg3 (own_ne_ap hrow h2.L (fun cur e => by cases e))
    have hb3 : Below n₀ w W3 := h2.below.grown hg3 (Nat.le_trans hn₀ h2.below.size) (fun k e => by cases e; omega)
    have hsz3 := Nat.le_trans hn₀ hb3.size
    obtain ⟨hc3, hf3⟩ := box_cell hv3
    clear hW3
    refine ⟨none, W3, hend, ?_⟩
    clear hyield hM hb1 hb1' hold hs1 hv0 hb0 hb0' hpe hend h2 hv hrow hv3 hW1 hW0 hasg hbdy Hrec
    subst hBs0 hD0
    clear hl0
    rw [hs0] at hK3
    gi_wp2
    refine ⟨by simp, .inl ⟨_, _, rfl, run_takeDeferred hK3, ?_⟩⟩
    exact ⟨_, results_tmp rfl _ _ _, v, ss, rfl, hS, hrow3.kept (grownBy_putObj' _ _ _) (own_ne_ap hrow3 hK3 (fun cur e => by cases e)), hnil, hb3.grown (grownBy_putObj' _ _ _) hsz3 (fun k e => by cases e; omega)⟩
set_option maxRecDepth 100000 in
set_option maxHeartbeats 1000000 in
theorem collect_in (F : Fence) (n : Nat) (h8 : F.fn 15) (h11 : F.fn 19) (hro : F.round = none) (hn : 3 ≤ n) (g : Nat) (lb : Array Value) (hFg : F.fn g) (eg : ∀ args w, (callFunc g args).run Tryd.prog w = .ok (.enter g args) w)
    (S : List Int → Prop) (N : Nat) (hN : N ≤ maxLen) (hNb : N * 8 ≤ 140737488355328) (n₀ : Nat) (C : Nat → Prop) (w : World) (hn₀ : n₀ ≤ w.heap.size) (hC : ∀ b, C b → n₀ ≤ b ∧ b < w.heap.size) (hseq : SeqC F (n - 1 - 1) Tryd.prog g lb (Value.int .i64) S N w.heap.size C w) :
    CallsIn F n Tryd.prog 15 #[.func (.func g) #[] lb] w fun e w' => ∃ (v : Value) (ss : List Int), e = .returned v ∧ S ss ∧ w'.ownsRow w.heap.size 3 1 v ss.length (ss.map (Value.int .i64)) ∧ (v = .slice none 0 0 ↔ ss = []) ∧ Below n₀ w w' := by
  have h1 : 1 ≤ n := by omega
  refine callsIn_of_wp Tryd.func15 rfl h8 ?_ hro
  simp only [Tryd.ntmps15, List.size_toArray, List.length_cons, List.length_nil, Nat.reduceAdd, Nat.reduceSub, Array.replicate_succ, Array.replicate_zero, List.push_toArray, List.append_toArray, List.nil_append, List.cons_append]
  gi_wp2_with (gi_at_call 19; refine (appendSeq_in F (n - 1) h11 hro (by omega) g lb hFg eg S N hN hNb n₀ C _ hn₀ hC hseq).mono ?_; rintro e w' ⟨v, ss, rfl, hS, hrow, hnil, hb⟩)
  go_ret
  exact ⟨v, ss, rfl, hS, hrow, hnil, hb⟩
theorem collect_calls (g : Nat) (lb : Array Value) (eg : ∀ args w, (callFunc g args).run Tryd.prog w = .ok (.enter g args) w) (xs : List Int) (N : Nat) (hN : N ≤ 1000000) (n₀ : Nat) (C : Nat → Prop) (w : World) (hn₀ : n₀ ≤ w.heap.size) (hC : ∀ b, C b → n₀ ≤ b ∧ b < w.heap.size) (hseq : ∀ n, SeqC Fence.wide (n + 1) Tryd.prog g lb (Value.int .i64) (fun ys => ys = xs) N w.heap.size C w) :
    Calls Tryd.prog 15 #[.func (.func g) #[] lb] w fun e w' => ∃ v, e = .returned v ∧ (Kd.int .i64).R 3 w' w.heap.size (fun _ => True) v xs ∧ Below n₀ w w' := by
  refine (callsIn_wide (n := 3)).1 ((collect_in Fence.wide 3 trivial trivial rfl (by omega) g lb trivial eg (fun ys => ys = xs) N (by unfold maxLen; omega) (by omega) n₀ C w hn₀ hC (hseq 0)).mono ?_)
  rintro e w' ⟨v, ss, rfl, rfl, hrow, _, hb⟩
  exact ⟨v, rfl, Kd.R_of_own hrow (fun _ _ => trivial), hb⟩
end

end Go.Proofs.YtjodjfbhaojhjaaDoor.G
end
