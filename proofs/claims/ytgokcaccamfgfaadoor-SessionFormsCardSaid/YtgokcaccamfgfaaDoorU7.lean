/- Parts of this proof, one behind the other: G4, G5, G6, G7, G8, G9, G10, G11, G12, G2, G3, G13, G14, G15, G16. -/
import Derived.Test.YtgokcaccamfgfaaDoorG0
section
-- Laid by the session's own driver gp.py over the kit's printer. Not trusted: Lean checks it.
namespace Go.Proofs.YtgokcaccamfgfaaDoor.G
open Go.RowKit Go.Proofs.YtgokcaccamfgfaaDoorW.PrintWords Go.Proofs.YtgokcaccamfgfaaDoorW.PrintLast Go.Proofs.YtgokcaccamfgfaaDoorW.PrintMore
attribute [local go_sem] max2_int min2_int max_two min_two max_three min_three max_four min_four   -- for this text's walks alone
set_option linter.unusedVariables false
set_option linter.unusedSimpArgs false

/-! ### strings_IndexAny: function 66, given -/
/-- where the first blank or bracket stands -/
abbrev seps : ByteArray := ⟨#[32, 40, 41]⟩
set_option maxHeartbeats 4000000 in
set_option maxRecDepth 100000 in
theorem rune_err (w : World) :
    Calls Tryd.prog 74 #[.string seps, .int .i32 65533] w fun e w' => e = .returned (.int .i64 (-1)) ∧ Below w.heap.size w w' := by
  have hnx0 := fun ty => run_next_ascii (P := Tryd.prog) w seps 0 ty (by decide) (by decide)
  have hnx1 := fun ty => run_next_ascii (P := Tryd.prog) w seps 1 ty (by decide) (by decide)
  have hnx2 := fun ty => run_next_ascii (P := Tryd.prog) w seps 2 ty (by decide) (by decide)
  have hnx3 := fun ty => run_next_end (P := Tryd.prog) w seps 3 ty (by decide)
  go_enter Tryd.func74, Tryd.ntmps74
  go_wp2
  go_loopg [5, 6] 3 (fun g _ _ wx => ∃ i : Nat, i + g = 3 ∧ wx = w.iter seps i)
  case atStart => exact ⟨0, rfl, rfl⟩
  case round =>
    obtain ⟨i, hi, rfl⟩ := hrel
    cases gk with
    | zero =>
      obtain rfl : i = 3 := by omega
      go_wp2
      go_ret
      exact ⟨rfl, by apply below_alloc; exact Below.refl _ _⟩
    | succ g =>
      rcases (show i = 0 ∨ i = 1 ∨ i = 2 by omega) with rfl | rfl | rfl
      all_goals go_wp2
      all_goals go_roundg g
      all_goals first | omega | exact ⟨_, by omega, rfl⟩
set_option maxHeartbeats 4000000 in
set_option maxRecDepth 100000 in
theorem rune_two (w : World) (c : Int) (hc : 128 ≤ c) (hc2 : c < 2048) (hv : Lib.validRune c = true) (hc3 : c ≠ 65533) :
    Calls Tryd.prog 74 #[.string seps, .int .i32 c] w fun e w' => e = .returned (.int .i64 (-1)) ∧ Below w.heap.size w w' := by
  obtain ⟨p1, p2, hxy, hy⟩ : ∃ p1 p2 : UInt8, Utf8.encode c = ⟨#[p1, p2]⟩ ∧ 128 ≤ p2.toNat := by
    have hv2 : Utf8.valid c = true := by
      rw [← hv]; unfold Utf8.valid Lib.validRune
      rw [Bool.eq_iff_iff]; simp; omega
    refine ⟨UInt8.ofNat (0xC0 + c.toNat / 64), UInt8.ofNat (0x80 + c.toNat % 64), ?_, ?_⟩
    · unfold Utf8.encode
      simp only [hv2, if_true]
      rw [if_neg (by omega), if_pos (by omega)]
    · simp; omega
  have hcv : ∀ W : World, (convert 21 9 (.int .i32 c)).run Tryd.prog W = .ok (.string ⟨#[p1, p2]⟩) W := by
    intro W
    rw [← hxy]
    simp [convert, run_underlying Tryd.underlying21, run_underlying Tryd.underlying9, Conv.intToString, Result.andThen]
  have n1 : (c == 65533) = false := beq_eq_false_iff_ne.2 (by omega)
  have n2 : decide (c < 128) = false := decide_eq_false (by omega)
  clear hxy
  go_enter Tryd.func74, Tryd.ntmps74
  go_wp2_with (first
    | (go_at_call 86; refine (Tryd.utf8_ValidRune _ _).mono ?_; rintro e w1 ⟨rfl, hw⟩; rw [hw, hv])
    )
  go_step3
  go_wp2
  go_loopg [9, 10] 1 (fun g v9 v10 wx => v9 = .int .i64 1 ∧ v10 = .int .i64 0 ∧ wx = w)
  case atStart => exact ⟨rfl, rfl, rfl⟩
  case round =>
    obtain ⟨rfl, rfl, rfl⟩ := hrel
    have hne : ((40 : Int) == (p2.toNat : Int)) = false := beq_eq_false_iff_ne.2 (by omega)
    have hb : 1 < ({ data := #[p1, p2] } : ByteArray).size := by show 1 < 2; decide
    have hne2 : ((seps[1].toNat : Int) != ((({ data := #[p1, p2] } : ByteArray)[1]'hb).toNat : Int)) = true := by
      show ((40 : Int) != (p2.toNat : Int)) = true
      rw [bne, hne]; rfl
    have hix : Lib.indexByte (seps.extract 2 3).data.toList ((p2.toNat : Int)).toNat.toUInt8 = -1 := by
      rw [show ((p2.toNat : Int)).toNat.toUInt8 = p2 by simp]
      show Lib.indexByte [41] p2 = -1
      unfold Lib.indexByte
      rw [if_neg (by intro h; have := beq_iff_eq.1 h; subst this; revert hy; decide)]; rfl
    have hw2 : IntKind.i64.wrap 2 = 2 := by decide
    have hwi : IntKind.i64.wrap (1 + 1) = 2 := by decide
    go_wp2
    go_step3
    go_wp2
    go_region
    simp only [Exit.then, hne2]
    go_wp2
    go_region_with (go_at_call 85; refine (Tryd.strings_IndexByte (seps.extract 2 3) (p2.toNat : Int) _).mono ?_; rintro e w2 ⟨rfl, hw2⟩; rw [hw2, hix])
    all_goals simp only [Exit.then]
    all_goals go_wp2
    all_goals simp only [Exit.noGoto, Exit.inBlock, Exit.then]
    all_goals go_ret
    all_goals exact ⟨rfl, by repeat (first | exact Below.refl _ _ | apply Below.drew)⟩
set_option maxHeartbeats 4000000 in
set_option maxRecDepth 100000 in
theorem rune_three (w : World) (c : Int) (hc : 2048 ≤ c) (hc2 : c < 65536) (hv : Lib.validRune c = true) (hc3 : c ≠ 65533) :
    Calls Tryd.prog 74 #[.string seps, .int .i32 c] w fun e w' => e = .returned (.int .i64 (-1)) ∧ Below w.heap.size w w' := by
  obtain ⟨p1, p2, p3, hxy, hy⟩ : ∃ p1 p2 p3 : UInt8, Utf8.encode c = ⟨#[p1, p2, p3]⟩ ∧ 128 ≤ p3.toNat := by
    have hv2 : Utf8.valid c = true := by
      rw [← hv]; unfold Utf8.valid Lib.validRune
      rw [Bool.eq_iff_iff]; simp; omega
    refine ⟨UInt8.ofNat (0xE0 + c.toNat / 4096), UInt8.ofNat (0x80 + c.toNat / 64 % 64), UInt8.ofNat (0x80 + c.toNat % 64), ?_, ?_⟩
    · unfold Utf8.encode
      simp only [hv2, if_true]
      rw [if_neg (by omega), if_neg (by omega), if_pos (by omega)]
    · simp; omega
  have hcv : ∀ W : World, (convert 21 9 (.int .i32 c)).run Tryd.prog W = .ok (.string ⟨#[p1, p2, p3]⟩) W := by
    intro W
    rw [← hxy]
    simp [convert, run_underlying Tryd.underlying21, run_underlying Tryd.underlying9, Conv.intToString, Result.andThen]
  have n1 : (c == 65533) = false := beq_eq_false_iff_ne.2 (by omega)
  have n2 : decide (c < 128) = false := decide_eq_false (by omega)
  clear hxy
  go_enter Tryd.func74, Tryd.ntmps74
  go_wp2_with (first
    | (go_at_call 86; refine (Tryd.utf8_ValidRune _ _).mono ?_; rintro e w1 ⟨rfl, hw⟩; rw [hw, hv])
    )
  go_step3
  go_wp2
  go_loopg [9, 10] 1 (fun g v9 v10 wx => v9 = .int .i64 2 ∧ v10 = .int .i64 0 ∧ wx = w)
  case atStart => exact ⟨rfl, rfl, rfl⟩
  case round =>
    obtain ⟨rfl, rfl, rfl⟩ := hrel
    have hne : ((41 : Int) == (p3.toNat : Int)) = false := beq_eq_false_iff_ne.2 (by omega)
    have hb : 2 < ({ data := #[p1, p2, p3] } : ByteArray).size := by show 2 < 3; decide
    have hne2 : ((seps[2].toNat : Int) != ((({ data := #[p1, p2, p3] } : ByteArray)[2]'hb).toNat : Int)) = true := by
      show ((41 : Int) != (p3.toNat : Int)) = true
      rw [bne, hne]; rfl
    have hix : Lib.indexByte (seps.extract 3 3).data.toList ((p3.toNat : Int)).toNat.toUInt8 = -1 := by
      rw [show ((p3.toNat : Int)).toNat.toUInt8 = p3 by simp]
      show Lib.indexByte [] p3 = -1
      unfold Lib.indexByte
      rfl
    have hw2 : IntKind.i64.wrap 3 = 3 := by decide
    have hwi : IntKind.i64.wrap (2 + 1) = 3 := by decide
    go_wp2
    go_step3
    go_wp2
    go_region
    simp only [Exit.then, hne2]
    go_wp2
    go_region_with (go_at_call 85; refine (Tryd.strings_IndexByte (seps.extract 3 3) (p3.toNat : Int) _).mono ?_; rintro e w2 ⟨rfl, hw2⟩; rw [hw2, hix])
    all_goals simp only [Exit.then]
    all_goals go_wp2
    all_goals simp only [Exit.noGoto, Exit.inBlock, Exit.then]
    all_goals go_ret
    all_goals exact ⟨rfl, by repeat (first | exact Below.refl _ _ | apply Below.drew)⟩
set_option maxHeartbeats 4000000 in
set_option maxRecDepth 100000 in
theorem rune_four (w : World) (c : Int) (hc : 65536 ≤ c) (hc2 : c < 2147483648) (hv : Lib.validRune c = true) (hc3 : c ≠ 65533) :
    Calls Tryd.prog 74 #[.string seps, .int .i32 c] w fun e w' => e = .returned (.int .i64 (-1)) ∧ Below w.heap.size w w' := by
  obtain ⟨p1, p2, p3, p4, hxy, hy⟩ : ∃ p1 p2 p3 p4 : UInt8, Utf8.encode c = ⟨#[p1, p2, p3, p4]⟩ ∧ 128 ≤ p4.toNat := by
    have hv2 : Utf8.valid c = true := by
      rw [← hv]; unfold Utf8.valid Lib.validRune
      rw [Bool.eq_iff_iff]; simp; omega
    refine ⟨UInt8.ofNat (0xF0 + c.toNat / 262144), UInt8.ofNat (0x80 + c.toNat / 4096 % 64), UInt8.ofNat (0x80 + c.toNat / 64 % 64), UInt8.ofNat (0x80 + c.toNat % 64), ?_, ?_⟩
    · unfold Utf8.encode
      simp only [hv2, if_true]
      rw [if_neg (by omega), if_neg (by omega), if_neg (by omega)]
    · simp; omega
  have hcv : ∀ W : World, (convert 21 9 (.int .i32 c)).run Tryd.prog W = .ok (.string ⟨#[p1, p2, p3, p4]⟩) W := by
    intro W
    rw [← hxy]
    simp [convert, run_underlying Tryd.underlying21, run_underlying Tryd.underlying9, Conv.intToString, Result.andThen]
  have n1 : (c == 65533) = false := beq_eq_false_iff_ne.2 (by omega)
  have n2 : decide (c < 128) = false := decide_eq_false (by omega)
  clear hxy
  go_enter Tryd.func74, Tryd.ntmps74
  go_wp2_with (first
    | (go_at_call 86; refine (Tryd.utf8_ValidRune _ _).mono ?_; rintro e w1 ⟨rfl, hw⟩; rw [hw, hv])
    )
  go_step3
  go_wp2
  go_loopg [9, 10] 1 (fun g v9 v10 wx => v9 = .int .i64 3 ∧ v10 = .int .i64 0 ∧ wx = w)
  case atStart => exact ⟨rfl, rfl, rfl⟩
  case round =>
    obtain ⟨rfl, rfl, rfl⟩ := hrel
    go_wp2
    simp only [Exit.noGoto_ret, Exit.noGoto_normal]
    go_ret
    exact ⟨rfl, Below.refl _ _⟩
theorem rune_high (w : World) (c : Int) (hc : 128 ≤ c) (hm : c ≤ 2147483647) (hv : c = 65533 ∨ Lib.validRune c = true) :
    Calls Tryd.prog 74 #[.string seps, .int .i32 c] w fun e w' => e = .returned (.int .i64 (-1)) ∧ Below w.heap.size w w' := by
  by_cases h3 : c = 65533
  case pos =>
    subst h3; exact rune_err w
  have hv := hv.resolve_left h3
  by_cases h1 : c < 2048
  case pos =>
    exact rune_two w c hc h1 hv h3
  by_cases h2 : c < 65536
  case pos =>
    exact rune_three w c (by omega) h2 hv h3
  exact rune_four w c (by omega) (by omega) hv h3
theorem get_bang (s : ByteArray) (i : Nat) (h : i < s.size) : s.get! i = s[i]'h := by
  simp [ByteArray.get!, getElem!_pos, h]; rfl
theorem dec_valid (s : ByteArray) (p : Nat) (h : p < s.size) (ha : 128 ≤ (s[p]'h).toNat) :
    ((Utf8.decode s p).1 : Int) = 65533 ∨ Lib.validRune ((Utf8.decode s p).1 : Int) = true := by
  have hb : ∀ k, (s.get! (p + k)).toNat < 256 := fun k => (s.get! (p + k)).toNat_lt
  have h0 := hb 0; have h1 := hb 1; have h2 := hb 2; have h3 := hb 3
  have hn : ¬ (s.get! (p + 0)).toNat < 128 := by rw [show p + 0 = p from rfl, get_bang s p h]; omega
  simp only [Utf8.decode, hn, if_false]
  repeat' split
  all_goals simp_all [Utf8.runeError, Lib.validRune, Utf8.valid]
  all_goals omega
theorem dec_high (s : ByteArray) (p : Nat) (h : p < s.size) (ha : 128 ≤ (s[p]'h).toNat) (j : Nat) (hj : p ≤ j) (hj2 : j < p + (Utf8.decode s p).2) (hjs : j < s.size) : 128 ≤ (s[j]'hjs).toNat := by
  have hn : ¬ (s.get! (p + 0)).toNat < 128 := by rw [show p + 0 = p from rfl, get_bang s p h]; omega
  have e1 : ∀ k, p + k < s.size → (s.get! (p + k)).toNat / 64 = 2 → ∀ hk : p + k < s.size, 128 ≤ (s[p + k]'hk).toNat := by
    intro k hk h2 hk'
    rw [get_bang s (p + k) hk] at h2
    omega
  obtain ⟨k, rfl⟩ : ∃ k, j = p + k := ⟨j - p, by omega⟩
  have hk4 : k < 4 := by
    revert hj2
    simp only [Utf8.decode, hn, if_false]
    repeat' split
    all_goals simp
    all_goals omega
  have hc : k = 0 ∨ (s.get! (p + k)).toNat / 64 = 2 := by
    revert hj2
    simp only [Utf8.decode, hn, if_false]
    rcases (show k = 0 ∨ k = 1 ∨ k = 2 ∨ k = 3 by omega) with rfl | rfl | rfl | rfl
    · intro _; exact .inl rfl
    all_goals repeat' split
    all_goals simp_all
  rcases hc with rfl | hc
  · exact ha
  · exact e1 k hjs hc hjs
theorem noany_skip (s : ByteArray) (p : Nat) (h : p < s.size) (ha : 128 ≤ (s[p]'h).toNat) (hno : Lib.NoAny s.data.toList seps.data.toList p) :
    Lib.NoAny s.data.toList seps.data.toList (p + (Utf8.decode s p).2) := by
  intro j b hj hb
  by_cases hjp : j < p
  case pos =>
    exact hno j b hjp hb
  have hjs : j < s.size := by
    have := (List.getElem?_eq_some_iff.1 hb).1
    rwa [← Lib.size_eq] at this
  have h1 := dec_high s p h ha j (by omega) hj hjs
  have h2 : s.data.toList[j]? = some (s[j]'hjs) := Lib.data_getElem? s j hjs
  rw [h2] at hb
  obtain rfl := Option.some.inj hb
  show [(32 : UInt8), 40, 41].contains (s[j]'hjs) = false
  generalize s[j]'hjs = b at h1
  rw [Bool.eq_false_iff]
  intro hc
  simp at hc
  rcases hc with rfl | rfl | rfl <;> revert h1 <;> decide
set_option maxHeartbeats 8000000 in
set_option maxRecDepth 1000000 in
theorem any_short (s : ByteArray) (w : World) (h8 : s.size ≤ 8) :
    Calls Tryd.prog 66 #[.string s, .string seps] w fun e w' => e = .returned (.int .i64 (Lib.indexAny s.data.toList seps.data.toList)) ∧ Below w.heap.size w w' := by
  have hemp : seps.toList.isEmpty = false := by rw [Lib.toList_data]; rfl
  have hn1 : ((seps.size : Int) == 1) = false := by decide
  have h8z : decide ((8 : Int) < (s.size : Int)) = false := decide_eq_false (by omega)
  go_enter Tryd.func66, Tryd.ntmps66
  go_wp2_with (go_at_call 75; refine (Tryd.strings_shouldUseASCIISet _ _).mono ?_; rintro e w' ⟨rfl, hw⟩; rw [hw, h8z])
  go_loopg [9, 10] s.size (fun g _ _ wx => ∃ i : Nat, s.size ≤ i + g ∧ Below w.heap.size w wx ∧ wx.heap[w.heap.size]? = some (.stringIter s i) ∧ Lib.NoAny s.data.toList seps.data.toList i)
  case atStart => exact ⟨0, by omega, by apply below_alloc; exact Below.refl _ _, World.iter_heap _ _ _, Lib.NoAny.zero _ _⟩
  case round =>
    obtain ⟨i, hig, hB, hit, hno⟩ := hrel
    have HB : Aside (Below w.heap.size w wr) := hB
    have HN : Aside (Lib.NoAny s.data.toList seps.data.toList i) := hno
    clear hno
    by_cases hi : i < s.size
    case neg =>
      have hnx := fun ty => Lib.run_next_end_at (P := Tryd.prog) wr w.heap.size s i ty hit hi
      go_wp2
      go_ret
      exact ⟨by rw [Lib.indexAny_none (fun j b hj hb => HN.out j b (by have := (List.getElem?_eq_some_iff.1 hb).1; rw [← Lib.size_eq] at this; omega) hb)]; rfl, HB.out⟩
    cases gk with
    | zero => exact absurd hig (by omega)
    | succ g =>
      have hws : w.heap.size < wr.heap.size := (Array.getElem?_eq_some_iff.1 hit).1
      have hnx := fun ty => Lib.run_next_any_at (P := Tryd.prog) wr w.heap.size s i ty hit hi
      have hit2 := Lib.iterAt_heap wr w.heap.size s i (i + (Utf8.decode s i).2) hit
      have hB2 : Below w.heap.size w (wr.iterAt w.heap.size s (i + (Utf8.decode s i).2)) := Lib.below_iterAt hB (Nat.le_refl _) s _
      have hsz2 : (wr.iterAt w.heap.size s (i + (Utf8.decode s i).2)).heap.size = wr.heap.size := Lib.iterAt_size _ _ _ _
      generalize hx : s[i]'hi = x at *
      by_cases hx128 : x.toNat < 128
      case neg =>
        have hxh : 128 ≤ (s[i]'hi).toNat := by rw [hx]; omega
        have hd := decode_high s i hi hxh
        have hdl := decode_le s i
        have hv := dec_valid s i hi hxh
        have HN2 : Aside (Lib.NoAny s.data.toList seps.data.toList (i + (Utf8.decode s i).2)) := noany_skip s i hi hxh HN.out
        clear hx hxh
        generalize Utf8.decode s i = d at *
        obtain ⟨d1, d2⟩ := d
        dsimp only at *
        have HB2 : Aside (Below w.heap.size w (wr.iterAt w.heap.size s (i + d2))) := hB2
        have HI2 : Aside ((wr.iterAt w.heap.size s (i + d2)).heap[w.heap.size]? = some (.stringIter s (i + d2))) := hit2
        clear hB2 hit2
        generalize wr.iterAt w.heap.size s (i + d2) = wx at *
        have hneg : ¬ ((0 : Int) ≤ -1) := by omega
        have HR : Aside (Calls Tryd.prog 74 #[.string seps, .int .i32 (d1 : Int)] wx fun e w' => e = .returned (.int .i64 (-1)) ∧ Below wx.heap.size wx w') := rune_high wx d1 (by omega) (by omega) hv
        clear hv hdl
        go_wp2_with (go_at_call 74; refine (HR.out).mono ?_; rintro e w' ⟨rfl, hb⟩; have HBr : Aside (Below wx.heap.size wx w') := hb; clear hb)
        go_roundg g
        case measure => omega
        case rel =>
          refine ⟨i + d2, by omega, below_step HB2.out HBr.out, ?_, HN2.out⟩
          rw [← HI2.out]
          exact (HBr.out.block _ (by omega))
      have hd := decode_ascii s i hi (by rw [hx]; exact hx128)
      rw [hd] at hnx hit2 hB2 hsz2
      rw [hx] at hnx
      have hxl : s.data.toList[i]? = some x := by rw [← hx]; exact Lib.data_getElem? s i hi
      have hcon := Lib.contains_iff_indexByte seps.data.toList x
      have hback : ((x.toNat : Int)).toNat.toUInt8 = x := by simp
      have HB2 : Aside (Below w.heap.size w (wr.iterAt w.heap.size s (i + 1))) := hB2
      have HI2 : Aside ((wr.iterAt w.heap.size s (i + 1)).heap[w.heap.size]? = some (.stringIter s (i + 1))) := hit2
      have Hx : Aside (s.data.toList[i]? = some x) := hxl
      clear hxl hx hd hB2 hit2 hsz2
      generalize wr.iterAt w.heap.size s (i + 1) = wx at *
      cases hin : seps.data.toList.contains x
      · rw [hin] at hcon
        have hlt : ¬ ((0 : Int) ≤ Lib.indexByte seps.data.toList x) := of_decide_eq_false hcon.symm
        clear hcon
        go_wp2_with (go_at_call 74; refine (Tryd.strings_IndexRune_ascii _ _ _ (by omega) (by omega)).mono ?_; rintro e w' ⟨rfl, hw⟩; rw [hw, hback])
        go_roundg g
        case measure => omega
        case rel => exact ⟨i + 1, by omega, HB2.out, HI2.out, HN.out.succ Hx.out hin⟩
      · rw [hin] at hcon
        have hge : (0 : Int) ≤ Lib.indexByte seps.data.toList x := of_decide_eq_true hcon.symm
        clear hcon
        go_wp2_with (go_at_call 74; refine (Tryd.strings_IndexRune_ascii _ _ _ (by omega) (by omega)).mono ?_; rintro e w' ⟨rfl, hw⟩; rw [hw, hback])
        go_ret
        exact ⟨by rw [Lib.indexAny_hit HN.out Hx.out hin]; rfl, HB2.out⟩
def strings_IndexAny.f (a0 : ByteArray) (a1 : ByteArray) : Option Int := if a1 = seps ∧ a0.size < 4294967281 then some (Lib.indexAny a0.data.toList seps.data.toList) else none
theorem strings_IndexAny.calls (a0 : ByteArray) (a1 : ByteArray) (r : Int) (w : World) (h : strings_IndexAny.f a0 a1 = some r) :
    Calls Tryd.prog 66 #[.string a0, .string a1] w fun e w' => e = .returned (.int .i64 r) ∧ Below w.heap.size w w' := by
  unfold strings_IndexAny.f at h
  by_cases hc : a1 = seps ∧ a0.size < 4294967281
  case neg =>
    rw [if_neg hc] at h; cases h

  rw [if_pos hc] at h
  obtain rfl := Option.some.inj h
  obtain ⟨rfl, hs⟩ := hc
  by_cases h8 : a0.size ≤ 8
  case pos =>
    exact any_short a0 w h8
  refine (Tryd.strings_IndexAny_long (zero_of_info (n := 256) (by kernel_rfl)).1 a0 seps w (by decide) (by omega) hs (by decide) ?_).mono ?_
  · intro j b hb
    have : j < 3 := (List.getElem?_eq_some_iff.1 hb).1
    rcases (show j = 0 ∨ j = 1 ∨ j = 2 by omega) with rfl | rfl | rfl <;> (obtain rfl := Option.some.inj hb; decide)
  · rintro e w' ⟨rfl, rfl⟩
    exact ⟨rfl, by apply below_alloc; apply below_alloc; exact Below.refl _ _⟩
end Go.Proofs.YtgokcaccamfgfaaDoor.G
end
section
-- Laid by the session's own driver gp.py over the kit's printer. Not trusted: Lean checks it.
namespace Go.Proofs.YtgokcaccamfgfaaDoor.G
open Go.RowKit Go.Proofs.YtgokcaccamfgfaaDoorW.PrintWords Go.Proofs.YtgokcaccamfgfaaDoorW.PrintLast Go.Proofs.YtgokcaccamfgfaaDoorW.PrintMore
attribute [local go_sem] max2_int min2_int max_two min_two max_three min_three max_four min_four   -- for this text's walks alone
set_option linter.unusedVariables false
set_option linter.unusedSimpArgs false

/-! ### term_word: function 60 -/
def term_word.f (a0 : ByteArray) : Option (ByteArray × ByteArray) := (strings_IndexAny.f a0 (⟨#[32, 40, 41]⟩ : ByteArray)).bind fun t113 => (if t113 < 0 then (if 0 ≤ (a0.size : Int) then (if (a0.size : Int) ≤ (a0.size : Int) then (some (a0.extract 0 ((a0.size : Int) : Int).toNat, a0.extract ((a0.size : Int) : Int).toNat a0.size)) else (none)) else (none)) else (if 0 ≤ t113 then (if t113 ≤ (a0.size : Int) then (some (a0.extract 0 (t113 : Int).toNat, a0.extract (t113 : Int).toNat a0.size)) else (none)) else (none)))
set_option maxHeartbeats 8000000 in
set_option maxRecDepth 100000 in
theorem term_word.calls (a0 : ByteArray) (r1 : ByteArray) (r2 : ByteArray) (w : World) (h : term_word.f a0 = some (r1, r2)) :
    Calls Tryd.prog 60 #[.string a0] w fun e w' => e = .returned (.tuple #[.string r1, .string r2]) ∧ Below w.heap.size w w' := by
  have HB := Aside0.mk (Below.refl w.heap.size w)
  have H : ((strings_IndexAny.f a0 (⟨#[32, 40, 41]⟩ : ByteArray)).bind fun t113 => (if t113 < 0 then (if 0 ≤ (a0.size : Int) then (if (a0.size : Int) ≤ (a0.size : Int) then (some (a0.extract 0 ((a0.size : Int) : Int).toNat, a0.extract ((a0.size : Int) : Int).toNat a0.size)) else (none)) else (none)) else (if 0 ≤ t113 then (if t113 ≤ (a0.size : Int) then (some (a0.extract 0 (t113 : Int).toNat, a0.extract (t113 : Int).toNat a0.size)) else (none)) else (none)))) = some (r1, r2) := h
  clear h
  replace H := Option.bind_eq_some_iff.mp H
  obtain ⟨t113, A20, H⟩ := H
  replace H : (if t113 < 0 then (if 0 ≤ (a0.size : Int) then (if (a0.size : Int) ≤ (a0.size : Int) then (some (a0.extract 0 ((a0.size : Int) : Int).toNat, a0.extract ((a0.size : Int) : Int).toNat a0.size)) else (none)) else (none)) else (if 0 ≤ t113 then (if t113 ≤ (a0.size : Int) then (some (a0.extract 0 (t113 : Int).toNat, a0.extract (t113 : Int).toNat a0.size)) else (none)) else (none))) = some (r1, r2) := H
  have A2 := Aside0.mk A20
  clear A20
  by_cases c3 : t113 < 0
  case neg =>
    rw [if_neg c3] at H
    have c3b0 : decide (t113 < 0) = false := decide_eq_false c3
    clear c3
    replace H := ifI_ H; obtain ⟨c9, H⟩ := H
    have c9b0 := eq_true c9
    have c9b1 : decide (0 ≤ t113) = true := decide_eq_true c9
    clear c9
    replace H := ifI_ H; obtain ⟨c10, H⟩ := H
    have c10b0 := eq_true c10
    have c10b1 : decide (t113 ≤ (a0.size : Int)) = true := decide_eq_true c10
    clear c10
    have c11b0 := eq_true (of_decide_eq_true hA_ : 0 ≤ t113)
    have c12b0 := eq_true (of_decide_eq_true hA_ : t113 ≤ (a0.size : Int))
    simp only [Option.some.injEq, Prod.mk.injEq] at H
    obtain ⟨rfl, rfl⟩ := H
    go_enter Tryd.func60, Tryd.ntmps60
    go_wp2_with (first | (go_at_call 66; (with_reducible refine (strings_IndexAny.calls a0 (⟨#[32, 40, 41]⟩ : ByteArray) t113 _ A2.out).mono ?_); rintro e w13 ⟨rfl, hb⟩; have n0_ := Aside0.mk (below_step hB_ hb); clear HB; have HB := n0_; clear n0_; (try clear hb); (try clear hb2); (try clear hk); (try clear hi)))
    repeat (go_quiet (first | (go_at_call 66; (with_reducible refine (strings_IndexAny.calls a0 (⟨#[32, 40, 41]⟩ : ByteArray) t113 _ A2.out).mono ?_); rintro e w13 ⟨rfl, hb⟩; have n0_ := Aside0.mk (below_step hB_ hb); clear HB; have HB := n0_; clear n0_; (try clear hb); (try clear hb2); (try clear hk); (try clear hi))); try go_wp2_with (first | (go_at_call 66; (with_reducible refine (strings_IndexAny.calls a0 (⟨#[32, 40, 41]⟩ : ByteArray) t113 _ A2.out).mono ?_); rintro e w13 ⟨rfl, hb⟩; have n0_ := Aside0.mk (below_step hB_ hb); clear HB; have HB := n0_; clear n0_; (try clear hb); (try clear hb2); (try clear hk); (try clear hi))))
    go_ret2
    exact ⟨hV_, hC_⟩
  rw [if_pos c3] at H
  have c3b0 : decide (t113 < 0) = true := decide_eq_true c3
  clear c3
  replace H := ifI_ H; obtain ⟨c4, H⟩ := H
  have c4b0 := eq_true c4
  have c4b1 : decide (0 ≤ (a0.size : Int)) = true := decide_eq_true c4
  clear c4
  replace H := ifI_ H; obtain ⟨c5, H⟩ := H
  have c5b0 := eq_true c5
  have c5b1 : decide ((a0.size : Int) ≤ (a0.size : Int)) = true := decide_eq_true c5
  clear c5
  have c6b0 := eq_true (of_decide_eq_true hA_ : 0 ≤ (a0.size : Int))
  have c7b0 := eq_true (of_decide_eq_true hA_ : (a0.size : Int) ≤ (a0.size : Int))
  simp only [Option.some.injEq, Prod.mk.injEq] at H
  obtain ⟨rfl, rfl⟩ := H
  go_enter Tryd.func60, Tryd.ntmps60
  go_wp2_with (first | (go_at_call 66; (with_reducible refine (strings_IndexAny.calls a0 (⟨#[32, 40, 41]⟩ : ByteArray) t113 _ A2.out).mono ?_); rintro e w8 ⟨rfl, hb⟩; have n0_ := Aside0.mk (below_step hB_ hb); clear HB; have HB := n0_; clear n0_; (try clear hb); (try clear hb2); (try clear hk); (try clear hi)))
  repeat (go_quiet (first | (go_at_call 66; (with_reducible refine (strings_IndexAny.calls a0 (⟨#[32, 40, 41]⟩ : ByteArray) t113 _ A2.out).mono ?_); rintro e w8 ⟨rfl, hb⟩; have n0_ := Aside0.mk (below_step hB_ hb); clear HB; have HB := n0_; clear n0_; (try clear hb); (try clear hb2); (try clear hk); (try clear hi))); try go_wp2_with (first | (go_at_call 66; (with_reducible refine (strings_IndexAny.calls a0 (⟨#[32, 40, 41]⟩ : ByteArray) t113 _ A2.out).mono ?_); rintro e w8 ⟨rfl, hb⟩; have n0_ := Aside0.mk (below_step hB_ hb); clear HB; have HB := n0_; clear n0_; (try clear hb); (try clear hb2); (try clear hk); (try clear hi))))
  go_ret2
  exact ⟨hV_, hC_⟩
end Go.Proofs.YtgokcaccamfgfaaDoor.G
end
section
-- Laid by the session's own driver gp.py over the kit's printer. Not trusted: Lean checks it.
namespace Go.Proofs.YtgokcaccamfgfaaDoor.G
open Go.RowKit Go.Proofs.YtgokcaccamfgfaaDoorW.PrintWords Go.Proofs.YtgokcaccamfgfaaDoorW.PrintLast Go.Proofs.YtgokcaccamfgfaaDoorW.PrintMore
attribute [local go_sem] max2_int min2_int max_two min_two max_three min_three max_four min_four   -- for this text's walks alone
set_option linter.unusedVariables false
set_option linter.unusedSimpArgs false

/-! ### term_Number: function 61, given -/
def term_Number.f (a0 : ByteArray) : Option (Int × Bool) := if a0.size ≤ 281474976710656 then some (numF a0) else none
set_option maxHeartbeats 4000000 in
set_option maxRecDepth 100000 in
theorem term_Number.calls (a0 : ByteArray) (r1 : Int) (r2 : Bool) (w : World) (h : term_Number.f a0 = some (r1, r2)) (hG : GOK w) :
    Calls Tryd.prog 61 #[.string a0] w fun e w' => e = .returned (.tuple #[.int .i64 r1, .bool r2]) ∧ Below w.heap.size w w' := by
  unfold term_Number.f at h
  by_cases hs : a0.size ≤ 281474976710656
  case neg =>
    rw [if_neg hs] at h
    cases h

  rw [if_pos hs] at h
  have h := Option.some.inj h
  obtain ⟨rfl, rfl⟩ : r1 = (numF a0).1 ∧ r2 = (numF a0).2 := by rw [h]; exact ⟨rfl, rfl⟩
  clear h
  have hr := atoiF_range a0
  have hC := Aside0.mk (atoi_calls a0 hs w hG)
  have hn : (numF a0).1 = (atoiF a0).1 := by unfold numF atoiF; cases Lib.atoiAll a0.data.toList <;> rfl
  rw [hn]
  have hb : (numF a0).2 = ((atoiF a0).2 && ((decide (-32768 ≤ (atoiF a0).1) && decide ((atoiF a0).1 ≤ 32767)) && itoaK (atoiF a0).1 == a0.data.toList)) := by
    unfold numF atoiF; cases Lib.atoiAll a0.data.toList <;> rfl
  rw [hb]
  clear hn hb
  generalize (atoiF a0).1 = v at hr hC ⊢
  generalize (atoiF a0).2 = ok at hC ⊢
  cases ok with
  | false =>
    go_enter Tryd.func61, Tryd.ntmps61
    go_wp2_with (go_at_call 67; refine (hC.out).mono ?_; rintro e w1 ⟨⟨N, rfl⟩, hb⟩; have HB := Aside0.mk hb; clear hb; simp only [errV, Bool.false_eq_true, if_false])
    go_ret2
    exact ⟨rfl, by repeat (first | exact HB.out | apply below_alloc | apply pw_below_drewN | apply below_drew1)⟩
  | true =>
    by_cases c1 : -32768 ≤ v
    case neg =>
      have k1 : decide (-32768 ≤ v) = false := decide_eq_false c1
      have e1 : (true && ((decide (-32768 ≤ v) && decide (v ≤ 32767)) && itoaK v == a0.data.toList)) = false := by rw [k1]; rfl
      rw [e1]
      clear e1
      go_enter Tryd.func61, Tryd.ntmps61
      go_wp2_with (first
        | (go_at_call 67; refine (hC.out).mono ?_; rintro e w1 ⟨⟨N, rfl⟩, hb⟩; have HB := Aside0.mk hb; clear hb; simp only [errV, if_true])
        | go_in)
      go_ret2
      exact ⟨rfl, by repeat (first | exact HB.out | apply below_alloc | apply pw_below_drewN | apply below_drew1)⟩
    by_cases c2 : v ≤ 32767
    case neg =>
      have k1 : decide (-32768 ≤ v) = true := decide_eq_true c1
      have k2 : decide (v ≤ 32767) = false := decide_eq_false c2
      have e1 : (true && ((decide (-32768 ≤ v) && decide (v ≤ 32767)) && itoaK v == a0.data.toList)) = false := by rw [k1, k2]; rfl
      rw [e1]
      clear e1
      go_enter Tryd.func61, Tryd.ntmps61
      go_wp2_with (first
        | (go_at_call 67; refine (hC.out).mono ?_; rintro e w1 ⟨⟨N, rfl⟩, hb⟩; have HB := Aside0.mk hb; clear hb; simp only [errV, if_true])
        | go_in)
      go_ret2
      exact ⟨rfl, by repeat (first | exact HB.out | apply below_alloc | apply pw_below_drewN | apply below_drew1)⟩
    have k1 : decide (-32768 ≤ v) = true := decide_eq_true c1
    have k2 : decide (v ≤ 32767) = true := decide_eq_true c2
    have e1 : (true && ((decide (-32768 ≤ v) && decide (v ≤ 32767)) && itoaK v == a0.data.toList)) = (itoaK v == a0.data.toList) := by rw [k1, k2]; rfl
    rw [e1]
    clear e1
    go_enter Tryd.func61, Tryd.ntmps61
    go_wp2_with (first
      | (go_at_call 67; refine (hC.out).mono ?_; rintro e w1 ⟨⟨N, rfl⟩, hb⟩; have HB := Aside0.mk hb; have HG1 := hG.below hb; clear hb; simp only [errV, if_true])
      | (go_at_call 69; refine (itoa_calls v (by omega) (by omega) _ HG1).mono ?_; rintro e w2 ⟨rfl, hb⟩; have HB2 := Aside0.mk (below_step HB.out hb); clear hb)
      | go_in)
    go_ret2
    exact ⟨by rw [Lib.toList_data]; rfl, by repeat (first | exact HB2.out | apply below_alloc | apply pw_below_drewN | apply below_drew1)⟩
end Go.Proofs.YtgokcaccamfgfaaDoor.G
end
section
-- Laid by the session's own driver gp.py over the kit's printer. Not trusted: Lean checks it.
namespace Go.Proofs.YtgokcaccamfgfaaDoor.G
open Go.RowKit Go.Proofs.YtgokcaccamfgfaaDoorW.PrintWords Go.Proofs.YtgokcaccamfgfaaDoorW.PrintLast Go.Proofs.YtgokcaccamfgfaaDoorW.PrintMore
attribute [local go_sem] max2_int min2_int max_two min_two max_three min_three max_four min_four   -- for this text's walks alone
set_option linter.unusedVariables false
set_option linter.unusedSimpArgs false

/-! ### strings_CutPrefix: function 64, given -/
def strings_CutPrefix.f (a0 : ByteArray) (a1 : ByteArray) : Option (ByteArray × Bool) := some (⟨(Lib.trimPrefix a0.data.toList a1.data.toList).toArray⟩, Lib.hasPrefix a0.data.toList a1.data.toList)
theorem strings_CutPrefix.calls (a0 : ByteArray) (a1 : ByteArray) (r1 : ByteArray) (r2 : Bool) (w : World) (h : strings_CutPrefix.f a0 a1 = some (r1, r2)) :
    Calls Tryd.prog 64 #[.string a0, .string a1] w fun e w' => e = .returned (.tuple #[.string r1, .bool r2]) ∧ Drawn0 w w' := by
  have h := Option.some.inj h
  obtain ⟨rfl, rfl⟩ := Prod.mk.inj h
  refine (Tryd.strings_CutPrefix a0 a1 w).mono ?_
  rintro e w' ⟨rfl, rfl⟩
  exact ⟨rfl, Drawn0.refl _⟩

end Go.Proofs.YtgokcaccamfgfaaDoor.G
end
section
-- Laid by the session's own driver gp.py over the kit's printer. Not trusted: Lean checks it.
namespace Go.Proofs.YtgokcaccamfgfaaDoor.G
open Go.RowKit Go.Proofs.YtgokcaccamfgfaaDoorW.PrintWords Go.Proofs.YtgokcaccamfgfaaDoorW.PrintLast Go.Proofs.YtgokcaccamfgfaaDoorW.PrintMore
attribute [local go_sem] max2_int min2_int max_two min_two max_three min_three max_four min_four   -- for this text's walks alone
set_option linter.unusedVariables false
set_option linter.unusedSimpArgs false

/-! ### term_Digits: function 70, given -/
def term_Digits.f (a0 : ByteArray) (a1 : Int) : Option (Int × Bool) := if a0.size ≤ 281474976710656 then some (digF a0 a1) else none
set_option maxHeartbeats 4000000 in
set_option maxRecDepth 100000 in
theorem term_Digits.calls (a0 : ByteArray) (a1 : Int) (r1 : Int) (r2 : Bool) (w : World) (h : term_Digits.f a0 a1 = some (r1, r2)) (hG : GOK w) :
    Calls Tryd.prog 70 #[.string a0, .int .i64 a1] w fun e w' => e = .returned (.tuple #[.int .i64 r1, .bool r2]) ∧ Below w.heap.size w w' := by
  unfold term_Digits.f at h
  by_cases hs : a0.size ≤ 281474976710656
  case neg =>
    rw [if_neg hs] at h
    cases h

  rw [if_pos hs] at h
  have h := Option.some.inj h
  obtain ⟨rfl, rfl⟩ : r1 = (digF a0 a1).1 ∧ r2 = (digF a0 a1).2 := by rw [h]; exact ⟨rfl, rfl⟩
  clear h
  have hr := atoiF_range a0
  have hC := Aside0.mk (atoi_calls a0 hs w hG)
  have hn : (digF a0 a1).1 = (atoiF a0).1 := by unfold digF atoiF; cases Lib.atoiAll a0.data.toList <;> rfl
  rw [hn]
  have hb : (digF a0 a1).2 = ((atoiF a0).2 && ((decide (0 ≤ (atoiF a0).1) && decide ((atoiF a0).1 ≤ a1)) && itoaK (atoiF a0).1 == a0.data.toList)) := by
    unfold digF atoiF; cases Lib.atoiAll a0.data.toList <;> rfl
  rw [hb]
  clear hn hb
  generalize (atoiF a0).1 = v at hr hC ⊢
  generalize (atoiF a0).2 = ok at hC ⊢
  cases ok with
  | false =>
    go_enter Tryd.func70, Tryd.ntmps70
    go_wp2_with (go_at_call 67; refine (hC.out).mono ?_; rintro e w1 ⟨⟨N, rfl⟩, hb⟩; have HB := Aside0.mk hb; clear hb; simp only [errV, Bool.false_eq_true, if_false])
    go_ret2
    exact ⟨rfl, by repeat (first | exact HB.out | apply below_alloc | apply pw_below_drewN | apply below_drew1)⟩
  | true =>
    by_cases c1 : 0 ≤ v
    case neg =>
      have k1 : decide (0 ≤ v) = false := decide_eq_false c1
      have e1 : (true && ((decide (0 ≤ v) && decide (v ≤ a1)) && itoaK v == a0.data.toList)) = false := by rw [k1]; rfl
      rw [e1]
      clear e1
      go_enter Tryd.func70, Tryd.ntmps70
      go_wp2_with (first
        | (go_at_call 67; refine (hC.out).mono ?_; rintro e w1 ⟨⟨N, rfl⟩, hb⟩; have HB := Aside0.mk hb; clear hb; simp only [errV, if_true])
        | go_in)
      go_ret2
      exact ⟨rfl, by repeat (first | exact HB.out | apply below_alloc | apply pw_below_drewN | apply below_drew1)⟩
    by_cases c2 : v ≤ a1
    case neg =>
      have k1 : decide (0 ≤ v) = true := decide_eq_true c1
      have k2 : decide (v ≤ a1) = false := decide_eq_false c2
      have e1 : (true && ((decide (0 ≤ v) && decide (v ≤ a1)) && itoaK v == a0.data.toList)) = false := by rw [k1, k2]; rfl
      rw [e1]
      clear e1
      go_enter Tryd.func70, Tryd.ntmps70
      go_wp2_with (first
        | (go_at_call 67; refine (hC.out).mono ?_; rintro e w1 ⟨⟨N, rfl⟩, hb⟩; have HB := Aside0.mk hb; clear hb; simp only [errV, if_true])
        | go_in)
      go_ret2
      exact ⟨rfl, by repeat (first | exact HB.out | apply below_alloc | apply pw_below_drewN | apply below_drew1)⟩
    have k1 : decide (0 ≤ v) = true := decide_eq_true c1
    have k2 : decide (v ≤ a1) = true := decide_eq_true c2
    have e1 : (true && ((decide (0 ≤ v) && decide (v ≤ a1)) && itoaK v == a0.data.toList)) = (itoaK v == a0.data.toList) := by rw [k1, k2]; rfl
    rw [e1]
    clear e1
    go_enter Tryd.func70, Tryd.ntmps70
    go_wp2_with (first
      | (go_at_call 67; refine (hC.out).mono ?_; rintro e w1 ⟨⟨N, rfl⟩, hb⟩; have HB := Aside0.mk hb; have HG1 := hG.below hb; clear hb; simp only [errV, if_true])
      | (go_at_call 69; refine (itoa_calls v (by omega) (by omega) _ HG1).mono ?_; rintro e w2 ⟨rfl, hb⟩; have HB2 := Aside0.mk (below_step HB.out hb); clear hb)
      | go_in)
    go_ret2
    exact ⟨by rw [Lib.toList_data]; rfl, by repeat (first | exact HB2.out | apply below_alloc | apply pw_below_drewN | apply below_drew1)⟩
end Go.Proofs.YtgokcaccamfgfaaDoor.G
end
section
-- Laid by the session's own driver gp.py over the kit's printer. Not trusted: Lean checks it.
namespace Go.Proofs.YtgokcaccamfgfaaDoor.G
open Go.RowKit Go.Proofs.YtgokcaccamfgfaaDoorW.PrintWords Go.Proofs.YtgokcaccamfgfaaDoorW.PrintLast Go.Proofs.YtgokcaccamfgfaaDoorW.PrintMore
attribute [local go_sem] max2_int min2_int max_two min_two max_three min_three max_four min_four   -- for this text's walks alone
set_option linter.unusedVariables false
set_option linter.unusedSimpArgs false

/-! ### term_Tag: function 62 -/
def term_Tag.f (a0 : ByteArray) : Option (Int × Bool) := (strings_CutPrefix.f a0 (⟨#[64]⟩ : ByteArray)).bind fun bt114 => ((term_Digits.f bt114.1 99).bind fun bt116 => (if bt114.2 = true then (some (bt116.1, bt116.2)) else (some (bt116.1, false))))
set_option maxHeartbeats 8000000 in
set_option maxRecDepth 100000 in
theorem term_Tag.calls (a0 : ByteArray) (r1 : Int) (r2 : Bool) (w : World) (h : term_Tag.f a0 = some (r1, r2)) (hG : GOK w) :
    Calls Tryd.prog 62 #[.string a0] w fun e w' => e = .returned (.tuple #[.int .i64 r1, .bool r2]) ∧ Below w.heap.size w w' := by
  have HB := Aside0.mk (Below.refl w.heap.size w)
  have H : ((strings_CutPrefix.f a0 (⟨#[64]⟩ : ByteArray)).bind fun bt114 => ((term_Digits.f bt114.1 99).bind fun bt116 => (if bt114.2 = true then (some (bt116.1, bt116.2)) else (some (bt116.1, false))))) = some (r1, r2) := h
  clear h
  replace H := Option.bind_eq_some_iff.mp H
  obtain ⟨⟨t114, t115⟩, A20, H⟩ := H
  replace H : ((term_Digits.f t114 99).bind fun bt116 => (if t115 = true then (some (bt116.1, bt116.2)) else (some (bt116.1, false)))) = some (r1, r2) := H
  have A2 := Aside0.mk A20
  clear A20
  replace H := Option.bind_eq_some_iff.mp H
  obtain ⟨⟨t116, t117⟩, A30, H⟩ := H
  replace H : (if t115 = true then (some (t116, t117)) else (some (t116, false))) = some (r1, r2) := H
  have A3 := Aside0.mk A30
  clear A30
  by_cases c4 : t115 = true
  case pos =>
    subst c4
    have H1 : (some (t116, t117)) = some (r1, r2) := by rw [if_pos rfl] at H; exact H
    clear H
    have H := H1
    clear H1
    simp only [Option.some.injEq, Prod.mk.injEq] at H
    obtain ⟨rfl, rfl⟩ := H
    go_enter Tryd.func62, Tryd.ntmps62
    go_wp2_with (first | ((with_reducible refine gate_callee (f := 64) rfl ?_); refine goesL_ (some 10) rfl rfl Tryd.func64 (by kernel_rfl) rfl #[.string a0, .string (⟨#[64]⟩ : ByteArray)] rfl hL_ ?_; (with_reducible refine (strings_CutPrefix.calls a0 (⟨#[64]⟩ : ByteArray) t114 true _ A2.out).mono ?_); rintro e w' ⟨rfl, ⟨nd, rfl⟩⟩; refine ⟨_, rfl, ?_⟩) | ((with_reducible refine gate_callee (f := 70) rfl ?_); refine goesL_ (some 15) rfl rfl Tryd.func70 (by kernel_rfl) rfl #[.string t114, .int .i64 99] rfl hL_ ?_; (with_reducible refine (term_Digits.calls t114 99 t116 t117 _ A3.out hG_).mono ?_); rintro e w5 ⟨rfl, hb⟩; refine ⟨_, rfl, ?_⟩; have n0_ := Aside0.mk (below_step hB_ hb); clear HB; have HB := n0_; clear n0_; (try clear hb); (try clear hb2); (try clear hk); (try clear hi)))
    go_ret2
    exact ⟨hV_, hC_⟩
  replace c4 := Bool.eq_false_iff.mpr c4
  subst c4
  have H1 : (some (t116, false)) = some (r1, r2) := by rw [if_neg (show ¬ (false = true) by decide)] at H; exact H
  clear H
  have H := H1
  clear H1
  simp only [Option.some.injEq, Prod.mk.injEq] at H
  obtain ⟨rfl, rfl⟩ := H
  go_enter Tryd.func62, Tryd.ntmps62
  go_wp2_with (first | ((with_reducible refine gate_callee (f := 64) rfl ?_); refine goesL_ (some 10) rfl rfl Tryd.func64 (by kernel_rfl) rfl #[.string a0, .string (⟨#[64]⟩ : ByteArray)] rfl hL_ ?_; (with_reducible refine (strings_CutPrefix.calls a0 (⟨#[64]⟩ : ByteArray) t114 false _ A2.out).mono ?_); rintro e w' ⟨rfl, ⟨nd, rfl⟩⟩; refine ⟨_, rfl, ?_⟩) | ((with_reducible refine gate_callee (f := 70) rfl ?_); refine goesL_ (some 15) rfl rfl Tryd.func70 (by kernel_rfl) rfl #[.string t114, .int .i64 99] rfl hL_ ?_; (with_reducible refine (term_Digits.calls t114 99 t116 t117 _ A3.out hG_).mono ?_); rintro e w6 ⟨rfl, hb⟩; refine ⟨_, rfl, ?_⟩; have n0_ := Aside0.mk (below_step hB_ hb); clear HB; have HB := n0_; clear n0_; (try clear hb); (try clear hb2); (try clear hk); (try clear hi)))
  go_ret2
  exact ⟨hV_, hC_⟩

end Go.Proofs.YtgokcaccamfgfaaDoor.G
end
section
-- Laid by the session's own driver gp.py over the kit's printer. Not trusted: Lean checks it.
namespace Go.Proofs.YtgokcaccamfgfaaDoor.G
open Go.RowKit Go.Proofs.YtgokcaccamfgfaaDoorW.PrintWords Go.Proofs.YtgokcaccamfgfaaDoorW.PrintLast Go.Proofs.YtgokcaccamfgfaaDoorW.PrintMore
attribute [local go_sem] max2_int min2_int max_two min_two max_three min_three max_four min_four   -- for this text's walks alone
set_option linter.unusedVariables false
set_option linter.unusedSimpArgs false

/-! ### strings_HasPrefix: function 63, given -/
def strings_HasPrefix.f (a0 : ByteArray) (a1 : ByteArray) : Option Bool := some (Lib.hasPrefix a0.data.toList a1.data.toList)
theorem strings_HasPrefix.calls (a0 : ByteArray) (a1 : ByteArray) (r : Bool) (w : World) (h : strings_HasPrefix.f a0 a1 = some r) :
    Calls Tryd.prog 63 #[.string a0, .string a1] w fun e w' => e = .returned (.bool r) ∧ Drawn0 w w' := by
  obtain rfl := Option.some.inj h
  refine (Tryd.strings_HasPrefix a0 a1 w).mono ?_
  rintro e w' ⟨rfl, rfl⟩
  exact ⟨rfl, Drawn0.refl _⟩

end Go.Proofs.YtgokcaccamfgfaaDoor.G
end
section
-- Laid by the session's own driver gp.py over the kit's printer. Not trusted: Lean checks it.
namespace Go.Proofs.YtgokcaccamfgfaaDoor.G
open Go.RowKit Go.Proofs.YtgokcaccamfgfaaDoorW.PrintWords Go.Proofs.YtgokcaccamfgfaaDoorW.PrintLast Go.Proofs.YtgokcaccamfgfaaDoorW.PrintMore
attribute [local go_sem] max2_int min2_int max_two min_two max_three min_three max_four min_four   -- for this text's walks alone
set_option linter.unusedVariables false
set_option linter.unusedSimpArgs false

/-! ### term_cut: function 57 -/
mutual
def term_cut.j0 : Nat → ByteArray → Int → Bool → Bool → Option (Int × Int × List ByteArray × ByteArray × Bool)
  | 0, _, _, _, _ => none
  | k + 1, x8, x11, x12, x52 => if x52 = true then (some (2, x11, ([] : List ByteArray), x8, x12)) else (term_cut.l0 k x8 x11 ([] : List ByteArray))
def term_cut.l0 : Nat → ByteArray → Int → List ByteArray → Option (Int × Int × List ByteArray × ByteArray × Bool)
  | 0, _, _, _ => none
  | k + 1, x8, x11, x13 => if (x13.length : Int) < 3 then (if 1 ≤ (x8.size : Int) then ((term_cut.f k (x8.extract 1 x8.size)).bind fun bt127 => (if bt127.2.2.2.2 = true then (if 0 ≤ (wrap64 (((x8.extract 1 x8.size).size : Int) - (bt127.2.2.2.1.size : Int))) then (if (wrap64 (((x8.extract 1 x8.size).size : Int) - (bt127.2.2.2.1.size : Int))) ≤ ((x8.extract 1 x8.size).size : Int) then (if x13.length < 8796093022208 then ((some (x13 ++ [(x8.extract 1 x8.size).extract 0 ((wrap64 (((x8.extract 1 x8.size).size : Int) - (bt127.2.2.2.1.size : Int))) : Int).toNat] : List ByteArray)).bind fun y134 => ((strings_HasPrefix.f bt127.2.2.2.1 (⟨#[32]⟩ : ByteArray)).bind fun t137 => (if t137 = true then (term_cut.l0 k bt127.2.2.2.1 x11 y134) else ((strings_CutPrefix.f bt127.2.2.2.1 (⟨#[41]⟩ : ByteArray)).bind fun bt138 => (some (2, x11, y134, bt138.1, bt138.2)))))) else (none)) else (none)) else (none)) else (some (0, 0, ([] : List ByteArray), (⟨#[]⟩ : ByteArray), false)))) else (none)) else ((strings_CutPrefix.f x8 (⟨#[41]⟩ : ByteArray)).bind fun bt125 => (some (2, x11, x13, bt125.1, bt125.2)))
def term_cut.f : Nat → ByteArray → Option (Int × Int × List ByteArray × ByteArray × Bool)
  | 0, _ => none
  | k + 1, a0 => (term_word.f a0).bind fun bt118 => (if bt118.1.toList = ([95] : List UInt8) then (some (0, 0, ([] : List ByteArray), bt118.2, true)) else (if bt118.1.toList = ([33] : List UInt8) then (some (3, 0, ([] : List ByteArray), bt118.2, true)) else ((term_Number.f bt118.1).bind fun bt120 => (if bt120.2 = true then (some (1, bt120.1, ([] : List ByteArray), bt118.2, true)) else ((term_Tag.f bt118.1).bind fun bt122 => (if bt122.2 = true then ((strings_HasPrefix.f bt118.2 (⟨#[40]⟩ : ByteArray)).bind fun t124 => (term_cut.j0 k bt118.2 bt122.1 bt122.2 (!t124))) else (term_cut.j0 k bt118.2 bt122.1 bt122.2 true)))))))
end
theorem term_cut.mono_l : ∀ k, (∀ y0, LeO (term_cut.f k y0) (term_cut.f (k + 1) y0)) ∧ (∀ y0 y1 y2 y3, LeO (term_cut.j0 k y0 y1 y2 y3) (term_cut.j0 (k + 1) y0 y1 y2 y3)) ∧ (∀ y0 y1 y2, LeO (term_cut.l0 k y0 y1 y2) (term_cut.l0 (k + 1) y0 y1 y2))
  | 0 => ⟨fun _ r h => by simp [term_cut.f] at h, fun _ _ _ _ r h => by simp [term_cut.j0] at h, fun _ _ _ r h => by simp [term_cut.l0] at h⟩
  | k + 1 => by
    obtain ⟨ih0, ih1, ih2⟩ := term_cut.mono_l k
    refine ⟨?_, ?_, ?_⟩
    · intro y0
      unfold term_cut.f
      repeat' first
      | (with_reducible exact ih0 _)
      | (with_reducible exact ih1 _ _ _ _)
      | (with_reducible exact ih2 _ _ _)
      | (with_reducible exact LeO.refl _)
      | (with_reducible exact LeO.none _)
      | (with_reducible refine LeO.ite ?_ ?_)
      | (with_reducible refine LeO.bind ?_ (fun _ => ?_))
      | exact ih0 _
      | exact ih1 _ _ _ _
      | exact ih2 _ _ _
      | exact LeO.none _
      | refine LeO.ite ?_ ?_
      | refine LeO.bind ?_ (fun _ => ?_)
    · intro y0 y1 y2 y3
      unfold term_cut.j0
      repeat' first
      | (with_reducible exact ih0 _)
      | (with_reducible exact ih1 _ _ _ _)
      | (with_reducible exact ih2 _ _ _)
      | (with_reducible exact LeO.refl _)
      | (with_reducible exact LeO.none _)
      | (with_reducible refine LeO.ite ?_ ?_)
      | (with_reducible refine LeO.bind ?_ (fun _ => ?_))
      | exact ih0 _
      | exact ih1 _ _ _ _
      | exact ih2 _ _ _
      | exact LeO.none _
      | refine LeO.ite ?_ ?_
      | refine LeO.bind ?_ (fun _ => ?_)
    · intro y0 y1 y2
      unfold term_cut.l0
      repeat' first
      | (with_reducible exact ih0 _)
      | (with_reducible exact ih1 _ _ _ _)
      | (with_reducible exact ih2 _ _ _)
      | (with_reducible exact LeO.refl _)
      | (with_reducible exact LeO.none _)
      | (with_reducible refine LeO.ite ?_ ?_)
      | (with_reducible refine LeO.bind ?_ (fun _ => ?_))
      | exact ih0 _
      | exact ih1 _ _ _ _
      | exact ih2 _ _ _
      | exact LeO.none _
      | refine LeO.ite ?_ ?_
      | refine LeO.bind ?_ (fun _ => ?_)
theorem term_cut.mono : ∀ a0 k, LeO (term_cut.f k a0) (term_cut.f (k + 1) a0) := by
  intro a0 k
  obtain ⟨ih0, ih1, ih2⟩ := term_cut.mono_l k
  exact ih0 a0
set_option maxHeartbeats 8000000 in
set_option maxRecDepth 100000 in
theorem term_cut.calls (k : Nat) : ∀ (a0 : ByteArray) (r1 : Int) (r2 : Int) (r3 : List ByteArray) (r4 : ByteArray) (r5 : Bool) (w : World) (h : term_cut.f k a0 = some (r1, r2, r3, r4, r5)) (hG : GOK w),
    Calls Tryd.prog 57 #[.string a0] w fun e w' => ∃ v2_ : Value, e = .returned (.tuple #[.int .i64 r1, .int .i64 r2, v2_, .string r4, .bool r5]) ∧ Kd.R Kd.string 9 w' w.heap.size (fun _ => True) v2_ r3 ∧ Below w.heap.size w w' := by
  induction k using Nat.strongRecOn with
  | _ k ih =>
  intro a0 r1 r2 r3 r4 r5 w h hG
  cases k with
  | zero => exact absurd h (by simp [term_cut.f])
  | succ k =>
  simp only [term_cut.f] at h
  have HB := Aside0.mk (Below.refl w.heap.size w)
  have H : ((term_word.f a0).bind fun bt118 => (if bt118.1.toList = ([95] : List UInt8) then (some (0, 0, ([] : List ByteArray), bt118.2, true)) else (if bt118.1.toList = ([33] : List UInt8) then (some (3, 0, ([] : List ByteArray), bt118.2, true)) else ((term_Number.f bt118.1).bind fun bt120 => (if bt120.2 = true then (some (1, bt120.1, ([] : List ByteArray), bt118.2, true)) else ((term_Tag.f bt118.1).bind fun bt122 => (if bt122.2 = true then ((strings_HasPrefix.f bt118.2 (⟨#[40]⟩ : ByteArray)).bind fun t124 => (term_cut.j0 k bt118.2 bt122.1 bt122.2 (!t124))) else (term_cut.j0 k bt118.2 bt122.1 bt122.2 true)))))))) = some (r1, r2, r3, r4, r5) := h
  clear h
  replace H := Option.bind_eq_some_iff.mp H
  obtain ⟨⟨t118, t119⟩, A20, H⟩ := H
  replace H : (if t118.toList = ([95] : List UInt8) then (some (0, 0, ([] : List ByteArray), t119, true)) else (if t118.toList = ([33] : List UInt8) then (some (3, 0, ([] : List ByteArray), t119, true)) else ((term_Number.f t118).bind fun bt120 => (if bt120.2 = true then (some (1, bt120.1, ([] : List ByteArray), t119, true)) else ((term_Tag.f t118).bind fun bt122 => (if bt122.2 = true then ((strings_HasPrefix.f t119 (⟨#[40]⟩ : ByteArray)).bind fun t124 => (term_cut.j0 k t119 bt122.1 bt122.2 (!t124))) else (term_cut.j0 k t119 bt122.1 bt122.2 true))))))) = some (r1, r2, r3, r4, r5) := H
  have A2 := Aside0.mk A20
  clear A20
  by_cases c3 : t118.toList = ([95] : List UInt8)
  case pos =>
    rw [if_pos c3] at H
    have c3b0 : (t118.toList == ([95] : List UInt8)) = true := beq_iff_eq.mpr c3
    have c3b1 : (t118.toList != ([95] : List UInt8)) = false := bne_eq_false_iff_eq.mpr c3
    clear c3
    simp only [Option.some.injEq, Prod.mk.injEq] at H
    obtain ⟨rfl, rfl, rfl, rfl, rfl⟩ := H
    go_enter Tryd.func57, Tryd.ntmps57
    go_wp2_with (first | ((with_reducible refine gate_callee (f := 60) rfl ?_); refine goesL_ (some 24) rfl rfl Tryd.func60 (by kernel_rfl) rfl #[.string a0] rfl hL_ ?_; (with_reducible refine (term_word.calls a0 t118 t119 _ A2.out).mono ?_); rintro e w4 ⟨rfl, hb⟩; refine ⟨_, rfl, ?_⟩; have n0_ := Aside0.mk (below_step hB_ hb); clear HB; have HB := n0_; clear n0_; (try clear hb); (try clear hb2); (try clear hk); (try clear hi)))
    refine bodyPost_ret (results_list (rs := [.tmp 2, .tmp 3, .tmp 4, .tmp 5, .tmp 6]) rfl (by simp) (.tmp (.tmp (.tmp (.tmp (.tmp .nil)))))) rfl ?_
    exact ⟨_, hV_, by first | exact Kd.R_nil _ _ _ _ _ | exact Kd.N_nil _ _ _ _ _ | exact Kd.V_nil _ _ _ _ _ | exact Kd.Q_nil _ _ _ _ _ | exact Kd.S_nil _ _ _ _ _, hC_⟩
  rw [if_neg c3] at H
  have c3b0 : (t118.toList == ([95] : List UInt8)) = false := beq_eq_false_iff_ne.mpr c3
  have c3b1 : (t118.toList != ([95] : List UInt8)) = true := bne_iff_ne.mpr c3
  by_cases c5 : t118.toList = ([33] : List UInt8)
  case pos =>
    rw [if_pos c5] at H
    have c5b0 : (t118.toList == ([33] : List UInt8)) = true := beq_iff_eq.mpr c5
    have c5b1 : (t118.toList != ([33] : List UInt8)) = false := bne_eq_false_iff_eq.mpr c5
    clear c5
    simp only [Option.some.injEq, Prod.mk.injEq] at H
    obtain ⟨rfl, rfl, rfl, rfl, rfl⟩ := H
    go_enter Tryd.func57, Tryd.ntmps57
    go_wp2_with (first | ((with_reducible refine gate_callee (f := 60) rfl ?_); refine goesL_ (some 24) rfl rfl Tryd.func60 (by kernel_rfl) rfl #[.string a0] rfl hL_ ?_; (with_reducible refine (term_word.calls a0 t118 t119 _ A2.out).mono ?_); rintro e w6 ⟨rfl, hb⟩; refine ⟨_, rfl, ?_⟩; have n0_ := Aside0.mk (below_step hB_ hb); clear HB; have HB := n0_; clear n0_; (try clear hb); (try clear hb2); (try clear hk); (try clear hi)))
    refine bodyPost_ret (results_list (rs := [.tmp 2, .tmp 3, .tmp 4, .tmp 5, .tmp 6]) rfl (by simp) (.tmp (.tmp (.tmp (.tmp (.tmp .nil)))))) rfl ?_
    exact ⟨_, hV_, by first | exact Kd.R_nil _ _ _ _ _ | exact Kd.N_nil _ _ _ _ _ | exact Kd.V_nil _ _ _ _ _ | exact Kd.Q_nil _ _ _ _ _ | exact Kd.S_nil _ _ _ _ _, hC_⟩
  rw [if_neg c5] at H
  have c5b0 : (t118.toList == ([33] : List UInt8)) = false := beq_eq_false_iff_ne.mpr c5
  have c5b1 : (t118.toList != ([33] : List UInt8)) = true := bne_iff_ne.mpr c5
  replace H := Option.bind_eq_some_iff.mp H
  obtain ⟨⟨t120, t121⟩, A70, H⟩ := H
  replace H : (if t121 = true then (some (1, t120, ([] : List ByteArray), t119, true)) else ((term_Tag.f t118).bind fun bt122 => (if bt122.2 = true then ((strings_HasPrefix.f t119 (⟨#[40]⟩ : ByteArray)).bind fun t124 => (term_cut.j0 k t119 bt122.1 bt122.2 (!t124))) else (term_cut.j0 k t119 bt122.1 bt122.2 true)))) = some (r1, r2, r3, r4, r5) := H
  have A7 := Aside0.mk A70
  clear A70
  by_cases c8 : t121 = true
  case pos =>
    subst c8
    have H1 : (some (1, t120, ([] : List ByteArray), t119, true)) = some (r1, r2, r3, r4, r5) := by rw [if_pos rfl] at H; exact H
    clear H
    have H := H1
    clear H1
    simp only [Option.some.injEq, Prod.mk.injEq] at H
    obtain ⟨rfl, rfl, rfl, rfl, rfl⟩ := H
    go_enter Tryd.func57, Tryd.ntmps57
    go_wp2_with (first | ((with_reducible refine gate_callee (f := 60) rfl ?_); refine goesL_ (some 24) rfl rfl Tryd.func60 (by kernel_rfl) rfl #[.string a0] rfl hL_ ?_; (with_reducible refine (term_word.calls a0 t118 t119 _ A2.out).mono ?_); rintro e w9 ⟨rfl, hb⟩; refine ⟨_, rfl, ?_⟩; have n0_ := Aside0.mk (below_step hB_ hb); clear HB; have HB := n0_; clear n0_; (try clear hb); (try clear hb2); (try clear hk); (try clear hi)) | ((with_reducible refine gate_callee (f := 61) rfl ?_); refine goesL_ (some 35) rfl rfl Tryd.func61 (by kernel_rfl) rfl #[.string t118] rfl hL_ ?_; (with_reducible refine (term_Number.calls t118 t120 true _ A7.out hG_).mono ?_); rintro e w10 ⟨rfl, hb⟩; refine ⟨_, rfl, ?_⟩; have n0_ := Aside0.mk (below_step hB_ hb); clear HB; have HB := n0_; clear n0_; (try clear hb); (try clear hb2); (try clear hk); (try clear hi)))
    refine bodyPost_ret (results_list (rs := [.tmp 2, .tmp 3, .tmp 4, .tmp 5, .tmp 6]) rfl (by simp) (.tmp (.tmp (.tmp (.tmp (.tmp .nil)))))) rfl ?_
    exact ⟨_, hV_, by first | exact Kd.R_nil _ _ _ _ _ | exact Kd.N_nil _ _ _ _ _ | exact Kd.V_nil _ _ _ _ _ | exact Kd.Q_nil _ _ _ _ _ | exact Kd.S_nil _ _ _ _ _, hC_⟩
  replace c8 := Bool.eq_false_iff.mpr c8
  subst c8
  have H1 : ((term_Tag.f t118).bind fun bt122 => (if bt122.2 = true then ((strings_HasPrefix.f t119 (⟨#[40]⟩ : ByteArray)).bind fun t124 => (term_cut.j0 k t119 bt122.1 bt122.2 (!t124))) else (term_cut.j0 k t119 bt122.1 bt122.2 true))) = some (r1, r2, r3, r4, r5) := by rw [if_neg (show ¬ (false = true) by decide)] at H; exact H
  clear H
  have H := H1
  clear H1
  replace H := Option.bind_eq_some_iff.mp H
  obtain ⟨⟨t122, t123⟩, A110, H⟩ := H
  replace H : (if t123 = true then ((strings_HasPrefix.f t119 (⟨#[40]⟩ : ByteArray)).bind fun t124 => (term_cut.j0 k t119 t122 t123 (!t124))) else (term_cut.j0 k t119 t122 t123 true)) = some (r1, r2, r3, r4, r5) := H
  have A11 := Aside0.mk A110
  clear A110
  have HC12 := Aside0.mk H
  clear H
  go_enter Tryd.func57, Tryd.ntmps57
  go_upto_region 10 with (first | ((with_reducible refine gate_callee (f := 60) rfl ?_); refine goesL_ (some 24) rfl rfl Tryd.func60 (by kernel_rfl) rfl #[.string a0] rfl hL_ ?_; (with_reducible refine (term_word.calls a0 t118 t119 _ A2.out).mono ?_); rintro e w13 ⟨rfl, hb⟩; refine ⟨_, rfl, ?_⟩; have n0_ := Aside0.mk (below_step hB_ hb); clear HB; have HB := n0_; clear n0_; (try clear hb); (try clear hb2); (try clear hk); (try clear hi)) | ((with_reducible refine gate_callee (f := 61) rfl ?_); refine goesL_ (some 35) rfl rfl Tryd.func61 (by kernel_rfl) rfl #[.string t118] rfl hL_ ?_; (with_reducible refine (term_Number.calls t118 t120 false _ A7.out hG_).mono ?_); rintro e w14 ⟨rfl, hb⟩; refine ⟨_, rfl, ?_⟩; have n0_ := Aside0.mk (below_step hB_ hb); clear HB; have HB := n0_; clear n0_; (try clear hb); (try clear hb2); (try clear hk); (try clear hi)) | ((with_reducible refine gate_callee (f := 62) rfl ?_); refine goesL_ (some 43) rfl rfl Tryd.func62 (by kernel_rfl) rfl #[.string t118] rfl hL_ ?_; (with_reducible refine (term_Tag.calls t118 t122 t123 _ A11.out hG_).mono ?_); rintro e w15 ⟨rfl, hb⟩; refine ⟨_, rfl, ?_⟩; have n0_ := Aside0.mk (below_step hB_ hb); clear HB; have HB := n0_; clear n0_; (try clear hb); (try clear hb2); (try clear hk); (try clear hi)))
  (try simp only [Act.put, List.setIfInBounds_toArray, List.set_cons_zero, List.set_cons_succ])
  go_cut [52] (fun v52 wc => ∃ (kq : Nat) (x52_11 : Bool), v52 = .bool x52_11 ∧ Aside0 (term_cut.j0 kq t119 t122 t123 x52_11 = some (r1, r2, r3, r4, r5)) ∧ Aside0 (kq ≤ k) ∧ Aside0 (Below w.heap.size w wc))
  case first =>
    have H := HC12.out
    clear HC12
    by_cases c16 : t123 = true
    case neg =>
      replace c16 := Bool.eq_false_iff.mpr c16
      subst c16
      have H1 : (term_cut.j0 k t119 t122 false true) = some (r1, r2, r3, r4, r5) := by rw [if_neg (show ¬ (false = true) by decide)] at H; exact H
      clear H
      have H := H1
      clear H1
      have H' := Aside0.mk H
      clear H
      go_wp2
      go_meet
      case rel => exact ⟨_, (true), hW_, H', ⟨by first | omega | exact Nat.le_refl _⟩, ⟨hC_⟩⟩
    subst c16
    have H1 : ((strings_HasPrefix.f t119 (⟨#[40]⟩ : ByteArray)).bind fun t124 => (term_cut.j0 k t119 t122 true (!t124))) = some (r1, r2, r3, r4, r5) := by rw [if_pos rfl] at H; exact H
    clear H
    have H := H1
    clear H1
    replace H := Option.bind_eq_some_iff.mp H
    obtain ⟨t124, A170, H⟩ := H
    replace H : (term_cut.j0 k t119 t122 true (!t124)) = some (r1, r2, r3, r4, r5) := H
    have A17 := Aside0.mk A170
    clear A170
    have H' := Aside0.mk H
    clear H
    go_wp2_with (first | (go_at_call 63; (with_reducible refine (strings_HasPrefix.calls t119 (⟨#[40]⟩ : ByteArray) t124 _ A17.out).mono ?_); rintro e w' ⟨rfl, ⟨nd, rfl⟩⟩))
    go_meet
    case rel => exact ⟨_, (!t124), hW_, H', ⟨by first | omega | exact Nat.le_refl _⟩, ⟨hC_⟩⟩
  case rest =>
    clear HC12
    try clear c1
    try clear p2
    try clear c3
    try clear c3b0
    try clear c3b1
    try clear c5
    try clear c5b0
    try clear c5b1
    try clear c6
    try clear c8
    try clear c16
    obtain ⟨kq, x52_11, rfl, HA, HJ11, HB⟩ := hcut
    cases kq with
    | zero => exact absurd HA.out (by simp [term_cut.j0])
    | succ kj11 =>
      have H := HA.out
      clear HA
      simp only [term_cut.j0] at H
      by_cases c18 : x52_11 = true
      case pos =>
        subst c18
        have H1 : (some (2, t122, ([] : List ByteArray), t119, t123)) = some (r1, r2, r3, r4, r5) := by rw [if_pos rfl] at H; exact H
        clear H
        have H := H1
        clear H1
        simp only [Option.some.injEq, Prod.mk.injEq] at H
        obtain ⟨rfl, rfl, rfl, rfl, rfl⟩ := H
        go_wp2
        refine bodyPost_ret (results_list (rs := [.tmp 2, .tmp 3, .tmp 4, .tmp 5, .tmp 6]) rfl (by simp) (.tmp (.tmp (.tmp (.tmp (.tmp .nil)))))) rfl ?_
        exact ⟨_, hV_, by first | exact Kd.R_nil _ _ _ _ _ | exact Kd.N_nil _ _ _ _ _ | exact Kd.V_nil _ _ _ _ _ | exact Kd.Q_nil _ _ _ _ _ | exact Kd.S_nil _ _ _ _ _, hC_⟩
      replace c18 := Bool.eq_false_iff.mpr c18
      subst c18
      have H1 : (term_cut.l0 kj11 t119 t122 ([] : List ByteArray)) = some (r1, r2, r3, r4, r5) := by rw [if_neg (show ¬ (false = true) by decide)] at H; exact H
      clear H
      have H := H1
      clear H1
      have H' := Aside0.mk H
      clear H
      go_wp2
      go_loopg [8, 13] kj11 (fun kq v8 v13 w' => ∃ (x8_2 : ByteArray) (x13_2 : List ByteArray), v8 = .string x8_2 ∧ Aside0 (term_cut.l0 kq x8_2 t122 x13_2 = some (r1, r2, r3, r4, r5)) ∧ Aside0 (kq ≤ kj11) ∧ Aside0 (Kd.R Kd.string 9 w' w.heap.size (fun _ => True) v13 x13_2) ∧ Aside0 (Below w.heap.size w w'))
      case atStart => exact ⟨(t119), (([] : List ByteArray)), hW_, H', ⟨Nat.le_refl _⟩, ⟨by first | exact Kd.R_nil _ _ _ _ _ | exact Kd.N_nil _ _ _ _ _ | exact Kd.V_nil _ _ _ _ _ | exact Kd.Q_nil _ _ _ _ _ | exact Kd.S_nil _ _ _ _ _⟩, ⟨hC_⟩⟩
      case round =>
        clear H'
        try clear c1
        try clear p2
        try clear c3
        try clear c3b0
        try clear c3b1
        try clear c5
        try clear c5b0
        try clear c5b1
        try clear c6
        try clear c8
        try clear c16
        try clear c18
        try clear p2
        obtain ⟨x8_2, x13_2, rfl, HA, HK2, HO_13, HB⟩ := hrel
        cases gk with
        | zero => exact absurd HA.out (by simp [term_cut.l0])
        | succ k2 =>
          have H := HA.out
          clear HA
          simp only [term_cut.l0] at H
          by_cases c19 : (x13_2.length : Int) < 3
          case neg =>
            rw [if_neg c19] at H
            have c19b0 : decide ((x13_2.length : Int) < 3) = false := decide_eq_false c19
            have c19b1 : decide (x13_2.length < 3) = false := decide_eq_false (by omega)
            clear c19
            replace H := Option.bind_eq_some_iff.mp H
            obtain ⟨⟨t125, t126⟩, A380, H⟩ := H
            replace H : (some (2, t122, x13_2, t125, t126)) = some (r1, r2, r3, r4, r5) := H
            have A38 := Aside0.mk A380
            clear A380
            simp only [Option.some.injEq, Prod.mk.injEq] at H
            obtain ⟨rfl, rfl, rfl, rfl, rfl⟩ := H
            obtain ⟨Ao39, co39, eo39⟩ := Kd.R_slice HO_13.out
            subst eo39
            go_wp2_with (first | ((with_reducible refine gate_callee (f := 64) rfl ?_); refine goesL_ (some 87) rfl rfl Tryd.func64 (by kernel_rfl) rfl #[.string x8_2, .string (⟨#[41]⟩ : ByteArray)] rfl hL_ ?_; (with_reducible refine (strings_CutPrefix.calls x8_2 (⟨#[41]⟩ : ByteArray) t125 t126 _ A38.out).mono ?_); rintro e w' ⟨rfl, ⟨nd, rfl⟩⟩; refine ⟨_, rfl, ?_⟩))
            refine bodyPost_ret (results_list (rs := [.tmp 2, .tmp 3, .tmp 4, .tmp 5, .tmp 6]) rfl (by simp) (.tmp (.tmp (.tmp (.tmp (.tmp .nil)))))) rfl ?_
            exact ⟨_, hV_, hR_ HO_13.out, hC_⟩

          rw [if_pos c19] at H
          have c19b0 : decide ((x13_2.length : Int) < 3) = true := decide_eq_true c19
          have c19b1 : decide (x13_2.length < 3) = true := decide_eq_true (by omega)
          clear c19
          replace H := ifI_ H; obtain ⟨c20, H⟩ := H
          have c20b0 := eq_true c20
          have c20b1 : decide (1 ≤ (x8_2.size : Int)) = true := decide_eq_true c20
          clear c20
          replace H := Option.bind_eq_some_iff.mp H
          obtain ⟨⟨t127, t128, t129, t130, t131⟩, A210, H⟩ := H
          replace H : (if t131 = true then (if 0 ≤ (wrap64 (((x8_2.extract 1 x8_2.size).size : Int) - (t130.size : Int))) then (if (wrap64 (((x8_2.extract 1 x8_2.size).size : Int) - (t130.size : Int))) ≤ ((x8_2.extract 1 x8_2.size).size : Int) then (if x13_2.length < 8796093022208 then ((some (x13_2 ++ [(x8_2.extract 1 x8_2.size).extract 0 ((wrap64 (((x8_2.extract 1 x8_2.size).size : Int) - (t130.size : Int))) : Int).toNat] : List ByteArray)).bind fun y134 => ((strings_HasPrefix.f t130 (⟨#[32]⟩ : ByteArray)).bind fun t137 => (if t137 = true then (term_cut.l0 k2 t130 t122 y134) else ((strings_CutPrefix.f t130 (⟨#[41]⟩ : ByteArray)).bind fun bt138 => (some (2, t122, y134, bt138.1, bt138.2)))))) else (none)) else (none)) else (none)) else (some (0, 0, ([] : List ByteArray), (⟨#[]⟩ : ByteArray), false))) = some (r1, r2, r3, r4, r5) := H
          have A21 := Aside0.mk A210
          clear A210
          by_cases c22 : t131 = true
          case neg =>
            replace c22 := Bool.eq_false_iff.mpr c22
            subst c22
            have H1 : (some (0, 0, ([] : List ByteArray), (⟨#[]⟩ : ByteArray), false)) = some (r1, r2, r3, r4, r5) := by rw [if_neg (show ¬ (false = true) by decide)] at H; exact H
            clear H
            have H := H1
            clear H1
            simp only [Option.some.injEq, Prod.mk.injEq] at H
            obtain ⟨rfl, rfl, rfl, rfl, rfl⟩ := H
            obtain ⟨Ao36, co36, eo36⟩ := Kd.R_slice HO_13.out
            subst eo36
            go_wp2_with (first | ((with_reducible refine gate_callee (f := 57) rfl ?_); refine goesL_ (some 63) rfl rfl Tryd.func57 (by kernel_rfl) rfl #[.string (x8_2.extract 1 x8_2.size)] rfl hL_ ?_; (with_reducible refine (ih k2 (by have := HJ11.out; have := HK2.out; omega) (x8_2.extract 1 x8_2.size) t127 t128 t129 t130 false _ A21.out hG_).mono ?_); rintro e w37 ⟨v132, rfl, ho0, hb⟩; refine ⟨_, rfl, ?_⟩; have n0_ := Aside0.mk (Kd.R_elder' (hR_ HO_13.out) (Kd.R_base ho0) hb); have n1_ := Aside0.mk (Kd.R_lower (Kd.R_new' ho0 (Kd.R_lt (hR_ HO_13.out))) hS_); have n2_ := Aside0.mk (below_step hB_ hb); clear HO_13 HB; have HO_13 := n0_; have HO133 := n1_; have HB := n2_; clear n0_ n1_ n2_; (try clear hb); (try clear hb2); (try clear hk); (try clear hi); (try clear ho0)))
            refine bodyPost_ret (results_list (rs := [.tmp 2, .tmp 3, .tmp 4, .tmp 5, .tmp 6]) rfl (by simp) (.tmp (.tmp (.tmp (.tmp (.tmp .nil)))))) rfl ?_
            exact ⟨_, hV_, by first | exact Kd.R_nil _ _ _ _ _ | exact Kd.N_nil _ _ _ _ _ | exact Kd.V_nil _ _ _ _ _ | exact Kd.Q_nil _ _ _ _ _ | exact Kd.S_nil _ _ _ _ _, hC_⟩
          subst c22
          have H1 : (if 0 ≤ (wrap64 (((x8_2.extract 1 x8_2.size).size : Int) - (t130.size : Int))) then (if (wrap64 (((x8_2.extract 1 x8_2.size).size : Int) - (t130.size : Int))) ≤ ((x8_2.extract 1 x8_2.size).size : Int) then (if x13_2.length < 8796093022208 then ((some (x13_2 ++ [(x8_2.extract 1 x8_2.size).extract 0 ((wrap64 (((x8_2.extract 1 x8_2.size).size : Int) - (t130.size : Int))) : Int).toNat] : List ByteArray)).bind fun y134 => ((strings_HasPrefix.f t130 (⟨#[32]⟩ : ByteArray)).bind fun t137 => (if t137 = true then (term_cut.l0 k2 t130 t122 y134) else ((strings_CutPrefix.f t130 (⟨#[41]⟩ : ByteArray)).bind fun bt138 => (some (2, t122, y134, bt138.1, bt138.2)))))) else (none)) else (none)) else (none)) = some (r1, r2, r3, r4, r5) := by rw [if_pos rfl] at H; exact H
          clear H
          have H := H1
          clear H1
          obtain ⟨ji23, hji23⟩ : ∃ j_ : Int, (wrap64 (((x8_2.extract 1 x8_2.size).size : Int) - (t130.size : Int))) = j_ := ⟨_, rfl⟩
          replace H : (if 0 ≤ (ji23) then (if (ji23) ≤ ((x8_2.extract 1 x8_2.size).size : Int) then (if x13_2.length < 8796093022208 then ((some (x13_2 ++ [(x8_2.extract 1 x8_2.size).extract 0 ((ji23) : Int).toNat] : List ByteArray)).bind fun y134 => ((strings_HasPrefix.f t130 (⟨#[32]⟩ : ByteArray)).bind fun t137 => (if t137 = true then (term_cut.l0 k2 t130 t122 y134) else ((strings_CutPrefix.f t130 (⟨#[41]⟩ : ByteArray)).bind fun bt138 => (some (2, t122, y134, bt138.1, bt138.2)))))) else (none)) else (none)) else (none)) = some (r1, r2, r3, r4, r5) := by first | (rw [hji23] at H; exact H) | (simp only [hji23] at H ⊢; exact H)
          (try rw [hji23] at A21)
          have hji23w : (IntKind.i64.wrap (((x8_2.extract 1 x8_2.size).size : Int) - (t130.size : Int))) = ji23 := (i64_w _).trans hji23
          (try (have hji23s := hji23; simp only [ByteArray.size_extract, Nat.min_self] at hji23s; have hji23sw := hji23w; simp only [ByteArray.size_extract, Nat.min_self] at hji23sw))
          replace H := ifI_ H; obtain ⟨c24, H⟩ := H
          have c24b0 := eq_true c24
          have c24b1 : decide (0 ≤ (ji23)) = true := decide_eq_true c24
          clear c24
          replace H := ifI_ H; obtain ⟨c25, H⟩ := H
          have c25b0 := eq_true c25
          (try (have c25b0s := c25b0; simp only [ByteArray.size_extract, Nat.min_self] at c25b0s))
          have c25b1 : decide ((ji23) ≤ ((x8_2.extract 1 x8_2.size).size : Int)) = true := decide_eq_true c25
          (try (have c25b1s := c25b1; simp only [ByteArray.size_extract, Nat.min_self] at c25b1s))
          clear c25
          replace H := ifI_ H; obtain ⟨c26, H⟩ := H
          have LMc26 := Aside0.mk c26
          clear c26
          obtain ⟨y134, hy134⟩ : ∃ y_ : List ByteArray, y_ = (x13_2 ++ [(x8_2.extract 1 x8_2.size).extract 0 ((ji23) : Int).toNat]) := ⟨_, rfl⟩
          replace H : ((strings_HasPrefix.f t130 (⟨#[32]⟩ : ByteArray)).bind fun t137 => (if t137 = true then (term_cut.l0 k2 t130 t122 y134) else ((strings_CutPrefix.f t130 (⟨#[41]⟩ : ByteArray)).bind fun bt138 => (some (2, t122, y134, bt138.1, bt138.2))))) = some (r1, r2, r3, r4, r5) := by first | (rw [hy134]; with_reducible exact H) | (have H2_ := (Option.bind_some _ _).symm.trans H; rw [hy134]; with_reducible exact H2_) | (have H2_ := (Option.bind_some _ _).symm.trans H; with_reducible exact H2_) | with_reducible exact H | (rw [hy134]; exact H) | exact H
          have Ny134 := Aside0.mk hy134
          clear hy134
          replace H := Option.bind_eq_some_iff.mp H
          obtain ⟨t137, A270, H⟩ := H
          replace H : (if t137 = true then (term_cut.l0 k2 t130 t122 y134) else ((strings_CutPrefix.f t130 (⟨#[41]⟩ : ByteArray)).bind fun bt138 => (some (2, t122, y134, bt138.1, bt138.2)))) = some (r1, r2, r3, r4, r5) := H
          have A27 := Aside0.mk A270
          clear A270
          by_cases c28 : t137 = true
          case pos =>
            subst c28
            have H1 : (term_cut.l0 k2 t130 t122 y134) = some (r1, r2, r3, r4, r5) := by rw [if_pos rfl] at H; exact H
            clear H
            have H := H1
            clear H1
            have H' := Aside0.mk H
            clear H
            obtain ⟨Ao29, co29, eo29⟩ := Kd.R_slice HO_13.out
            subst eo29
            go_wp2_with (first | ((with_reducible refine gate_callee (f := 57) rfl ?_); refine goesL_ (some 63) rfl rfl Tryd.func57 (by kernel_rfl) rfl #[.string (x8_2.extract 1 x8_2.size)] rfl hL_ ?_; (with_reducible refine (ih k2 (by have := HJ11.out; have := HK2.out; omega) (x8_2.extract 1 x8_2.size) t127 t128 t129 t130 true _ A21.out hG_).mono ?_); rintro e w30 ⟨v132, rfl, ho0, hb⟩; refine ⟨_, rfl, ?_⟩; have n0_ := Aside0.mk (Kd.R_elder' (hR_ HO_13.out) (Kd.R_base ho0) hb); have n1_ := Aside0.mk (Kd.R_lower (Kd.R_new' ho0 (Kd.R_lt (hR_ HO_13.out))) hS_); have n2_ := Aside0.mk (below_step hB_ hb); clear HO_13 HB; have HO_13 := n0_; have HO133 := n1_; have HB := n2_; clear n0_ n1_ n2_; (try clear hb); (try clear hb2); (try clear hk); (try clear hi); (try clear ho0)) | ((with_reducible refine gate_builtin (b := .append) (xs := #[.tmp 71, .tmp 79]) rfl ?_); at_builtin; refine Kd.R_append Kd.string (w0 := w) w.heap.size rfl (.tmp 71) (.tmp 79) 31 9 (.string ⟨#[]⟩) 16 rfl Tryd.underlying31 info9 rfl (by decide) (by omega) (.slice Ao29 x13_2.length co29) x13_2 ((x8_2.extract 1 x8_2.size).extract 0 ((ji23) : Int).toNat) [.string ((x8_2.extract 1 x8_2.size).extract 0 ((ji23) : Int).toNat)] (fun k_ => some k_ ≠ (v132 : Value).ownBlock) (fun _ => False) rfl rfl ?aP (fun _ hk => hk.elim) ?aF ?aO ?aB ?aS ?aL ?_; (case aP => exact rfl); (case aB => exact hB_); (case aF => exact (fun k_ hk => Kd.fresh' (Kd.R_lt (hR_ HO133.out)) k_ hk)); (case aO => exact (by (with_reducible repeat (first | apply Kd.R_alloc | apply Kd.R_drewN | apply Kd.R_drew)); exact Kd.R_mono HO_13.out (fun _ hk => hk.2))); (case aS => exact hS_); (case aL => have := LMc26.out; omega); intro v135 w31 ho hb hg hat; rw [← Ny134.out] at ho; have n0_ := Aside0.mk (Kd.R_after (ok := (fun _ => True)) (hR_ HO133.out) hg hat); have n1_ := Aside0.mk (hb); have n2_ := Aside0.mk (ho); clear HO133 HB HO_13; have HO133 := n0_; have HB := n1_; have HO136 := n2_; clear n0_ n1_ n2_; clear ho hb hg hat) | ((with_reducible refine gate_callee (f := 63) rfl ?_); refine goesL_ (some 83) rfl rfl Tryd.func63 (by kernel_rfl) rfl #[.string t130, .string (⟨#[32]⟩ : ByteArray)] rfl hL_ ?_; (with_reducible refine (strings_HasPrefix.calls t130 (⟨#[32]⟩ : ByteArray) true _ A27.out).mono ?_); rintro e w' ⟨rfl, ⟨nd, rfl⟩⟩; refine ⟨_, rfl, ?_⟩))
            go_roundg k2
            case measure => have := HJ11.out; have := HK2.out; omega
            case rel => exact ⟨(t130), (y134), hW_, H', ⟨by have := HJ11.out; have := HK2.out; omega⟩, ⟨hR_ (Kd.R_mono HO136.out (fun _ hk => trivial))⟩, ⟨hC_⟩⟩
          replace c28 := Bool.eq_false_iff.mpr c28
          subst c28
          have H1 : ((strings_CutPrefix.f t130 (⟨#[41]⟩ : ByteArray)).bind fun bt138 => (some (2, t122, y134, bt138.1, bt138.2))) = some (r1, r2, r3, r4, r5) := by rw [if_neg (show ¬ (false = true) by decide)] at H; exact H
          clear H
          have H := H1
          clear H1
          replace H := Option.bind_eq_some_iff.mp H
          obtain ⟨⟨t138, t139⟩, A320, H⟩ := H
          replace H : (some (2, t122, y134, t138, t139)) = some (r1, r2, r3, r4, r5) := H
          have A32 := Aside0.mk A320
          clear A320
          simp only [Option.some.injEq, Prod.mk.injEq] at H
          obtain ⟨rfl, rfl, rfl, rfl, rfl⟩ := H
          obtain ⟨Ao33, co33, eo33⟩ := Kd.R_slice HO_13.out
          subst eo33
          go_wp2_with (first | ((with_reducible refine gate_callee (f := 57) rfl ?_); refine goesL_ (some 63) rfl rfl Tryd.func57 (by kernel_rfl) rfl #[.string (x8_2.extract 1 x8_2.size)] rfl hL_ ?_; (with_reducible refine (ih k2 (by have := HJ11.out; have := HK2.out; omega) (x8_2.extract 1 x8_2.size) t127 t128 t129 t130 true _ A21.out hG_).mono ?_); rintro e w34 ⟨v132, rfl, ho0, hb⟩; refine ⟨_, rfl, ?_⟩; have n0_ := Aside0.mk (Kd.R_elder' (hR_ HO_13.out) (Kd.R_base ho0) hb); have n1_ := Aside0.mk (Kd.R_lower (Kd.R_new' ho0 (Kd.R_lt (hR_ HO_13.out))) hS_); have n2_ := Aside0.mk (below_step hB_ hb); clear HO_13 HB; have HO_13 := n0_; have HO133 := n1_; have HB := n2_; clear n0_ n1_ n2_; (try clear hb); (try clear hb2); (try clear hk); (try clear hi); (try clear ho0)) | ((with_reducible refine gate_builtin (b := .append) (xs := #[.tmp 71, .tmp 79]) rfl ?_); at_builtin; refine Kd.R_append Kd.string (w0 := w) w.heap.size rfl (.tmp 71) (.tmp 79) 31 9 (.string ⟨#[]⟩) 16 rfl Tryd.underlying31 info9 rfl (by decide) (by omega) (.slice Ao33 x13_2.length co33) x13_2 ((x8_2.extract 1 x8_2.size).extract 0 ((ji23) : Int).toNat) [.string ((x8_2.extract 1 x8_2.size).extract 0 ((ji23) : Int).toNat)] (fun k_ => some k_ ≠ (v132 : Value).ownBlock) (fun _ => False) rfl rfl ?aP (fun _ hk => hk.elim) ?aF ?aO ?aB ?aS ?aL ?_; (case aP => exact rfl); (case aB => exact hB_); (case aF => exact (fun k_ hk => Kd.fresh' (Kd.R_lt (hR_ HO133.out)) k_ hk)); (case aO => exact (by (with_reducible repeat (first | apply Kd.R_alloc | apply Kd.R_drewN | apply Kd.R_drew)); exact Kd.R_mono HO_13.out (fun _ hk => hk.2))); (case aS => exact hS_); (case aL => have := LMc26.out; omega); intro v135 w35 ho hb hg hat; rw [← Ny134.out] at ho; have n0_ := Aside0.mk (Kd.R_after (ok := (fun _ => True)) (hR_ HO133.out) hg hat); have n1_ := Aside0.mk (hb); have n2_ := Aside0.mk (ho); clear HO133 HB HO_13; have HO133 := n0_; have HB := n1_; have HO136 := n2_; clear n0_ n1_ n2_; clear ho hb hg hat) | ((with_reducible refine gate_callee (f := 63) rfl ?_); refine goesL_ (some 83) rfl rfl Tryd.func63 (by kernel_rfl) rfl #[.string t130, .string (⟨#[32]⟩ : ByteArray)] rfl hL_ ?_; (with_reducible refine (strings_HasPrefix.calls t130 (⟨#[32]⟩ : ByteArray) false _ A27.out).mono ?_); rintro e w' ⟨rfl, ⟨nd, rfl⟩⟩; refine ⟨_, rfl, ?_⟩) | ((with_reducible refine gate_callee (f := 64) rfl ?_); refine goesL_ (some 87) rfl rfl Tryd.func64 (by kernel_rfl) rfl #[.string t130, .string (⟨#[41]⟩ : ByteArray)] rfl hL_ ?_; (with_reducible refine (strings_CutPrefix.calls t130 (⟨#[41]⟩ : ByteArray) t138 t139 _ A32.out).mono ?_); rintro e w' ⟨rfl, ⟨nd, rfl⟩⟩; refine ⟨_, rfl, ?_⟩))
          refine bodyPost_ret (results_list (rs := [.tmp 2, .tmp 3, .tmp 4, .tmp 5, .tmp 6]) rfl (by simp) (.tmp (.tmp (.tmp (.tmp (.tmp .nil)))))) rfl ?_
          exact ⟨_, by first | rfl | (simp [errW_none, errW_some] <;> rfl) | (simp only [← hji23]; first | rfl | (simp [errW_none, errW_some] <;> rfl)) | (simp [*, errW_none, errW_some] <;> rfl), hR_ (Kd.R_mono HO136.out (fun _ hk => trivial)), hC_⟩
end Go.Proofs.YtgokcaccamfgfaaDoor.G
end
section
-- Laid by the session's own driver gp.py over the kit's printer. Not trusted: Lean checks it.
namespace Go.Proofs.YtgokcaccamfgfaaDoor.G
open Go.RowKit Go.Proofs.YtgokcaccamfgfaaDoorW.PrintWords Go.Proofs.YtgokcaccamfgfaaDoorW.PrintLast Go.Proofs.YtgokcaccamfgfaaDoorW.PrintMore
attribute [local go_sem] max2_int min2_int max_two min_two max_three min_three max_four min_four   -- for this text's walks alone
set_option linter.unusedVariables false
set_option linter.unusedSimpArgs false

/-! ### term_May: function 53 -/
def term_May.f (k : Nat) (a0 : ByteArray) : Option (Bool) := if (a0.size : Int) > 1024 then (some false) else ((term_cut.f k a0).bind fun bt140 => (if bt140.2.2.2.2 = true then (some (bt140.2.2.2.1.toList == ([] : List UInt8))) else (some false)))
theorem term_May.mono : ∀ a0 k, LeO (term_May.f k a0) (term_May.f (k + 1) a0) := by
  intro a0 k
  unfold term_May.f
  repeat' first
      | (with_reducible exact term_cut.mono _ _)
      | (with_reducible exact LeO.refl _)
      | (with_reducible exact LeO.none _)
      | (with_reducible refine LeO.ite ?_ ?_)
      | (with_reducible refine LeO.bind ?_ (fun _ => ?_))
      | exact term_cut.mono _ _
      | exact LeO.none _
      | refine LeO.ite ?_ ?_
      | refine LeO.bind ?_ (fun _ => ?_)
set_option maxHeartbeats 8000000 in
set_option maxRecDepth 100000 in
theorem term_May.calls (k : Nat) (a0 : ByteArray) (r : Bool) (w : World) (h : term_May.f k a0 = some r) (hG : GOK w) :
    Calls Tryd.prog 53 #[.string a0] w fun e w' => e = .returned (.bool r) ∧ Below w.heap.size w w' := by
  have HB := Aside0.mk (Below.refl w.heap.size w)
  have H : (if (a0.size : Int) > 1024 then (some false) else ((term_cut.f k a0).bind fun bt140 => (if bt140.2.2.2.2 = true then (some (bt140.2.2.2.1.toList == ([] : List UInt8))) else (some false)))) = some r := h
  clear h
  by_cases c2 : (a0.size : Int) > 1024
  case pos =>
    rw [if_pos c2] at H
    have c2b0 : decide (1024 < (a0.size : Int)) = true := decide_eq_true c2
    have c2b1 : decide (1024 < a0.size) = true := decide_eq_true (by omega)
    clear c2
    obtain rfl := Option.some.inj H
    go_enter Tryd.func53, Tryd.ntmps53
    go_wp2
    go_ret
    exact ⟨hV_, hC_⟩
  rw [if_neg c2] at H
  have c2b0 : decide (1024 < (a0.size : Int)) = false := decide_eq_false c2
  have c2b1 : decide (1024 < a0.size) = false := decide_eq_false (by omega)
  clear c2
  replace H := Option.bind_eq_some_iff.mp H
  obtain ⟨⟨t140, t141, t142, t143, t144⟩, A30, H⟩ := H
  replace H : (if t144 = true then (some (t143.toList == ([] : List UInt8))) else (some false)) = some r := H
  have A3 := Aside0.mk A30
  clear A30
  by_cases c4 : t144 = true
  case pos =>
    subst c4
    have H1 : (some (t143.toList == ([] : List UInt8))) = some r := by rw [if_pos rfl] at H; exact H
    clear H
    have H := H1
    clear H1
    obtain rfl := Option.some.inj H
    go_enter Tryd.func53, Tryd.ntmps53
    go_wp2_with (first | ((with_reducible refine gate_callee (f := 57) rfl ?_); refine goesL_ (some 13) rfl rfl Tryd.func57 (by kernel_rfl) rfl #[.string a0] rfl hL_ ?_; (with_reducible refine (term_cut.calls k a0 t140 t141 t142 t143 true _ A3.out hG_).mono ?_); rintro e w5 ⟨v145, rfl, ho0, hb⟩; refine ⟨_, rfl, ?_⟩; have n0_ := Aside0.mk (Kd.R_lower ho0 hS_); have n1_ := Aside0.mk (below_step hB_ hb); clear HB; have HO146 := n0_; have HB := n1_; clear n0_ n1_; (try clear hb); (try clear hb2); (try clear hk); (try clear hi); (try clear ho0)))
    go_ret
    exact ⟨hV_, hC_⟩
  replace c4 := Bool.eq_false_iff.mpr c4
  subst c4
  have H1 : (some false) = some r := by rw [if_neg (show ¬ (false = true) by decide)] at H; exact H
  clear H
  have H := H1
  clear H1
  obtain rfl := Option.some.inj H
  go_enter Tryd.func53, Tryd.ntmps53
  go_wp2_with (first | ((with_reducible refine gate_callee (f := 57) rfl ?_); refine goesL_ (some 13) rfl rfl Tryd.func57 (by kernel_rfl) rfl #[.string a0] rfl hL_ ?_; (with_reducible refine (term_cut.calls k a0 t140 t141 t142 t143 false _ A3.out hG_).mono ?_); rintro e w6 ⟨v145, rfl, ho0, hb⟩; refine ⟨_, rfl, ?_⟩; have n0_ := Aside0.mk (Kd.R_lower ho0 hS_); have n1_ := Aside0.mk (below_step hB_ hb); clear HB; have HO146 := n0_; have HB := n1_; clear n0_ n1_; (try clear hb); (try clear hb2); (try clear hk); (try clear hi); (try clear ho0)))
  go_ret
  exact ⟨hV_, hC_⟩

/-! ### term_All: function 52 -/
def term_All.l0 : Nat → List ByteArray → Int → Int → Option (Bool)
  | 0, _, _, _ => none
  | k + 1, x5, x6, x7 => if x7 < x6 then (if 0 ≤ x7 then (if x7 < (x5.length : Int) then ((term_May.f k (rdOf ByteArray.empty x5 x7)).bind fun t148 => (if t148 = true then (term_All.l0 k x5 x6 (wrap64 (x7 + 1))) else (some false))) else (none)) else (none)) else (some true)
def term_All.f (k : Nat) (l0 : List ByteArray) : Option (Bool) := term_All.l0 k l0 (l0.length : Int) 0
theorem term_All.mono_l : ∀ k, (∀ y0 y1 y2, LeO (term_All.l0 k y0 y1 y2) (term_All.l0 (k + 1) y0 y1 y2))
  | 0 => fun _ _ _ r h => by simp [term_All.l0] at h
  | k + 1 => by
    have ih0 := term_All.mono_l k
    · intro y0 y1 y2
      unfold term_All.l0
      repeat' first
      | (with_reducible exact ih0 _ _ _)
      | (with_reducible exact term_May.mono _ _)
      | (with_reducible exact LeO.refl _)
      | (with_reducible exact LeO.none _)
      | (with_reducible refine LeO.ite ?_ ?_)
      | (with_reducible refine LeO.bind ?_ (fun _ => ?_))
      | exact ih0 _ _ _
      | exact term_May.mono _ _
      | exact LeO.none _
      | refine LeO.ite ?_ ?_
      | refine LeO.bind ?_ (fun _ => ?_)
theorem term_All.mono : ∀ a0 k, LeO (term_All.f k a0) (term_All.f (k + 1) a0) := by
  intro a0 k
  have ih0 := term_All.mono_l k
  unfold term_All.f
  repeat' first
      | (with_reducible exact ih0 _ _ _)
      | (with_reducible exact term_May.mono _ _)
      | (with_reducible exact LeO.refl _)
      | (with_reducible exact LeO.none _)
      | (with_reducible refine LeO.ite ?_ ?_)
      | (with_reducible refine LeO.bind ?_ (fun _ => ?_))
      | exact ih0 _ _ _
      | exact term_May.mono _ _
      | exact LeO.none _
      | refine LeO.ite ?_ ?_
      | refine LeO.bind ?_ (fun _ => ?_)
set_option maxHeartbeats 8000000 in
set_option maxRecDepth 100000 in
theorem term_All.calls (k : Nat) (A0 : Option Addr) (c0 : Nat) (l0 : List ByteArray) (r : Bool) (w : World) (hr0 : Kd.C Kd.string w A0 l0.length l0) (hc0 : l0.length ≤ c0) (h : term_All.f k l0 = some r) (hG : GOK w) :
    Calls Tryd.prog 52 #[.slice A0 l0.length c0] w fun e w' => e = .returned (.bool r) ∧ Below w.heap.size w w' := by
  have HR0 := Aside0.mk hr0
  have HC0 := Aside0.mk hc0
  clear hr0 hc0
  have HB := Aside0.mk (Below.refl w.heap.size w)
  have H : (term_All.l0 k l0 (l0.length : Int) 0) = some r := h
  clear h
  have H' := Aside0.mk H
  clear H
  go_enter Tryd.func52, Tryd.ntmps52
  go_wp2
  go_loopg [7] k (fun kq v7 w' => ∃ (x7_1 : Int), v7 = .int .i64 x7_1 ∧ Aside0 (term_All.l0 kq l0 (l0.length : Int) x7_1 = some r) ∧ Aside0 (kq ≤ k) ∧ Aside0 (Below w.heap.size w w'))
  case atStart => exact ⟨(0), hW_, H', ⟨Nat.le_refl _⟩, ⟨hC_⟩⟩
  case round =>
    clear H'
    obtain ⟨x7_1, rfl, HA, HK1, HB⟩ := hrel
    cases gk with
    | zero => exact absurd HA.out (by simp [term_All.l0])
    | succ k1 =>
      have H := HA.out
      clear HA
      simp only [term_All.l0] at H
      by_cases c2 : x7_1 < (l0.length : Int)
      case neg =>
        rw [if_neg c2] at H
        have c2b0 : decide (x7_1 < (l0.length : Int)) = false := decide_eq_false c2
        clear c2
        obtain rfl := Option.some.inj H
        go_wp2
        go_ret
        exact ⟨hV_, hC_⟩

      rw [if_pos c2] at H
      have c2b0 : decide (x7_1 < (l0.length : Int)) = true := decide_eq_true c2
      clear c2
      replace H := ifI_ H; obtain ⟨c3, H⟩ := H
      have c3b0 : decide (0 ≤ x7_1) = true := decide_eq_true c3
      clear c3
      replace H := ifI_ H; obtain ⟨c4, H⟩ := H
      have c4b0 : decide (x7_1 < (l0.length : Int)) = true := decide_eq_true c4
      clear c4
      replace H := Option.bind_eq_some_iff.mp H
      obtain ⟨t148, A50, H⟩ := H
      replace H : (if t148 = true then (term_All.l0 k1 l0 (l0.length : Int) (wrap64 (x7_1 + 1))) else (some false)) = some r := H
      have A5 := Aside0.mk A50
      clear A50
      by_cases c6 : t148 = true
      case neg =>
        replace c6 := Bool.eq_false_iff.mpr c6
        subst c6
        have H1 : (some false) = some r := by rw [if_neg (show ¬ (false = true) by decide)] at H; exact H
        clear H
        have H := H1
        clear H1
        obtain rfl := Option.some.inj H
        have p147 : 0 ≤ (x7_1 : Int) := of_decide_eq_true hA_
        have q147 : x7_1 < (l0.length : Int) := of_decide_eq_true hA_
        obtain ⟨ad147, e147, hx147_0⟩ := Kd.at_string HR0.out x7_1 p147 q147
        cases e147
        replace hx147_0 := cl_ HB.out hx147_0
        replace p147 := eq_true p147
        replace q147 := eq_true q147
        go_wp2_with (first | ((with_reducible refine gate_callee (f := 53) rfl ?_); refine goesL_ (some 12) rfl rfl Tryd.func53 (by kernel_rfl) rfl #[.string (rdOf ByteArray.empty l0 x7_1)] rfl hL_ ?_; (with_reducible refine (term_May.calls k1 (rdOf ByteArray.empty l0 x7_1) false _ A5.out hG_).mono ?_); rintro e w8 ⟨rfl, hb⟩; refine ⟨_, rfl, ?_⟩; have n0_ := Aside0.mk (below_step hB_ hb); clear HB; have HB := n0_; clear n0_; (try clear hb); (try clear hb2); (try clear hk); (try clear hi)))
        go_ret
        exact ⟨hV_, hC_⟩
      subst c6
      have H1 : (term_All.l0 k1 l0 (l0.length : Int) (wrap64 (x7_1 + 1))) = some r := by rw [if_pos rfl] at H; exact H
      clear H
      have H := H1
      clear H1
      have H' := Aside0.mk H
      clear H
      have p147 : 0 ≤ (x7_1 : Int) := of_decide_eq_true hA_
      have q147 : x7_1 < (l0.length : Int) := of_decide_eq_true hA_
      obtain ⟨ad147, e147, hx147_0⟩ := Kd.at_string HR0.out x7_1 p147 q147
      cases e147
      replace hx147_0 := cl_ HB.out hx147_0
      replace p147 := eq_true p147
      replace q147 := eq_true q147
      go_wp2_with (first | ((with_reducible refine gate_callee (f := 53) rfl ?_); refine goesL_ (some 12) rfl rfl Tryd.func53 (by kernel_rfl) rfl #[.string (rdOf ByteArray.empty l0 x7_1)] rfl hL_ ?_; (with_reducible refine (term_May.calls k1 (rdOf ByteArray.empty l0 x7_1) true _ A5.out hG_).mono ?_); rintro e w7 ⟨rfl, hb⟩; refine ⟨_, rfl, ?_⟩; have n0_ := Aside0.mk (below_step hB_ hb); clear HB; have HB := n0_; clear n0_; (try clear hb); (try clear hb2); (try clear hk); (try clear hi)))
      go_roundg k1
      case measure => have := HK1.out; omega
      case rel => exact ⟨(wrap64 (x7_1 + 1)), hW_, H', ⟨by have := HK1.out; omega⟩, ⟨hC_⟩⟩
end Go.Proofs.YtgokcaccamfgfaaDoor.G
end
section
-- Laid by the session's own driver gp.py over the kit's printer. Not trusted: Lean checks it.
namespace Go.Proofs.YtgokcaccamfgfaaDoor.G
open Go.RowKit Go.Proofs.YtgokcaccamfgfaaDoorW.PrintWords Go.Proofs.YtgokcaccamfgfaaDoorW.PrintLast Go.Proofs.YtgokcaccamfgfaaDoorW.PrintMore
attribute [local go_sem] max2_int min2_int max_two min_two max_three min_three max_four min_four   -- for this text's walks alone
set_option linter.unusedVariables false
set_option linter.unusedSimpArgs false

theorem eqA39 (d : Nat) (w : World) (x0 y0 : Int) (x1 y1 : Int) :
    (Op.equalIn (d + 2) 39 (.agg #[.int .i64 x0, .int .i64 x1]) (.agg #[.int .i64 y0, .int .i64 y1])).run Tryd.prog w = .ok (x0 == y0 && (x1 == y1)) w := by
  refine eqA_of Tryd.underlying39 (by kernel_rfl) ?_
  refine eqf_cons (by rfl) (by go_simp; rfl) (by go_simp; rfl) (by go_simp) ?_
  exact eqf_last (by rfl) (by go_simp; rfl) (by go_simp; rfl) (by go_simp)
end Go.Proofs.YtgokcaccamfgfaaDoor.G
end
section
-- Laid by the session's own driver gp.py over the kit's printer. Not trusted: Lean checks it.
namespace Go.Proofs.YtgokcaccamfgfaaDoor.G
open Go.RowKit Go.Proofs.YtgokcaccamfgfaaDoorW.PrintWords Go.Proofs.YtgokcaccamfgfaaDoorW.PrintLast Go.Proofs.YtgokcaccamfgfaaDoorW.PrintMore
attribute [local go_sem] max2_int min2_int max_two min_two max_three min_three max_four min_four   -- for this text's walks alone
set_option linter.unusedVariables false
set_option linter.unusedSimpArgs false

/-! ### sleuthlaw20_some: function 8 -/
def sleuthlaw20_some.f  : Option ((List (S33))) := some (([(⟨0, (-1), ([] : List ByteArray), (⟨#[57]⟩ : ByteArray)⟩ : S33), (⟨1, 0, (([(⟨#[64, 55, 40, 95, 32, 52, 41]⟩ : ByteArray), (⟨#[53]⟩ : ByteArray)] : List ByteArray)), (⟨#[57]⟩ : ByteArray)⟩ : S33), (⟨2, 0, ([] : List ByteArray), (⟨#[33]⟩ : ByteArray)⟩ : S33), (⟨1, 1, (([(⟨#[49]⟩ : ByteArray), (⟨#[95]⟩ : ByteArray)] : List ByteArray)), (⟨#[95]⟩ : ByteArray)⟩ : S33), (⟨1, 2, (([(⟨#[49]⟩ : ByteArray), (⟨#[95]⟩ : ByteArray)] : List ByteArray)), (⟨#[95]⟩ : ByteArray)⟩ : S33)] : List (S33)))
set_option maxHeartbeats 8000000 in
set_option maxRecDepth 100000 in
theorem sleuthlaw20_some.calls  (r : List (S33)) (w : World) (h : sleuthlaw20_some.f  = some r) :
    Calls Tryd.prog 8 #[] w fun e w' => ∃ v0_ : Value, e = .returned (v0_) ∧ Kd.N k33 33 w' w.heap.size (fun k_ => (w.heap.size ≤ k_)) v0_ r ∧ Below w.heap.size w w' := by
  have hu33 := Tryd.underlying33
  have HB := Aside0.mk (Below.refl w.heap.size w)
  have H : (some (([(⟨0, (-1), ([] : List ByteArray), (⟨#[57]⟩ : ByteArray)⟩ : S33), (⟨1, 0, (([(⟨#[64, 55, 40, 95, 32, 52, 41]⟩ : ByteArray), (⟨#[53]⟩ : ByteArray)] : List ByteArray)), (⟨#[57]⟩ : ByteArray)⟩ : S33), (⟨2, 0, ([] : List ByteArray), (⟨#[33]⟩ : ByteArray)⟩ : S33), (⟨1, 1, (([(⟨#[49]⟩ : ByteArray), (⟨#[95]⟩ : ByteArray)] : List ByteArray)), (⟨#[95]⟩ : ByteArray)⟩ : S33), (⟨1, 2, (([(⟨#[49]⟩ : ByteArray), (⟨#[95]⟩ : ByteArray)] : List ByteArray)), (⟨#[95]⟩ : ByteArray)⟩ : S33)] : List (S33)))) = some r := h
  clear h
  obtain ⟨y101, hy101⟩ : ∃ y_ : List ByteArray, y_ = (([(⟨#[64, 55, 40, 95, 32, 52, 41]⟩ : ByteArray), (⟨#[53]⟩ : ByteArray)] : List ByteArray)) := ⟨_, rfl⟩
  replace H : (some (([(⟨0, (-1), ([] : List ByteArray), (⟨#[57]⟩ : ByteArray)⟩ : S33), (⟨1, 0, y101, (⟨#[57]⟩ : ByteArray)⟩ : S33), (⟨2, 0, ([] : List ByteArray), (⟨#[33]⟩ : ByteArray)⟩ : S33), (⟨1, 1, (([(⟨#[49]⟩ : ByteArray), (⟨#[95]⟩ : ByteArray)] : List ByteArray)), (⟨#[95]⟩ : ByteArray)⟩ : S33), (⟨1, 2, (([(⟨#[49]⟩ : ByteArray), (⟨#[95]⟩ : ByteArray)] : List ByteArray)), (⟨#[95]⟩ : ByteArray)⟩ : S33)] : List (S33)))) = some r := by first | (rw [hy101]; with_reducible exact H) | (have H2_ := (Option.bind_some _ _).symm.trans H; rw [hy101]; with_reducible exact H2_) | (have H2_ := (Option.bind_some _ _).symm.trans H; with_reducible exact H2_) | with_reducible exact H | (rw [hy101]; exact H) | exact H
  have Ny101 := Aside0.mk hy101
  clear hy101
  obtain ⟨y104, hy104⟩ : ∃ y_ : List ByteArray, y_ = (([(⟨#[49]⟩ : ByteArray), (⟨#[95]⟩ : ByteArray)] : List ByteArray)) := ⟨_, rfl⟩
  replace H : (some (([(⟨0, (-1), ([] : List ByteArray), (⟨#[57]⟩ : ByteArray)⟩ : S33), (⟨1, 0, y101, (⟨#[57]⟩ : ByteArray)⟩ : S33), (⟨2, 0, ([] : List ByteArray), (⟨#[33]⟩ : ByteArray)⟩ : S33), (⟨1, 1, y104, (⟨#[95]⟩ : ByteArray)⟩ : S33), (⟨1, 2, (([(⟨#[49]⟩ : ByteArray), (⟨#[95]⟩ : ByteArray)] : List ByteArray)), (⟨#[95]⟩ : ByteArray)⟩ : S33)] : List (S33)))) = some r := by first | (rw [hy104]; with_reducible exact H) | (have H2_ := (Option.bind_some _ _).symm.trans H; rw [hy104]; with_reducible exact H2_) | (have H2_ := (Option.bind_some _ _).symm.trans H; with_reducible exact H2_) | with_reducible exact H | (rw [hy104]; exact H) | exact H
  have Ny104 := Aside0.mk hy104
  clear hy104
  obtain ⟨y107, hy107⟩ : ∃ y_ : List ByteArray, y_ = (([(⟨#[49]⟩ : ByteArray), (⟨#[95]⟩ : ByteArray)] : List ByteArray)) := ⟨_, rfl⟩
  replace H : (some (([(⟨0, (-1), ([] : List ByteArray), (⟨#[57]⟩ : ByteArray)⟩ : S33), (⟨1, 0, y101, (⟨#[57]⟩ : ByteArray)⟩ : S33), (⟨2, 0, ([] : List ByteArray), (⟨#[33]⟩ : ByteArray)⟩ : S33), (⟨1, 1, y104, (⟨#[95]⟩ : ByteArray)⟩ : S33), (⟨1, 2, y107, (⟨#[95]⟩ : ByteArray)⟩ : S33)] : List (S33)))) = some r := by first | (rw [hy107]; with_reducible exact H) | (have H2_ := (Option.bind_some _ _).symm.trans H; rw [hy107]; with_reducible exact H2_) | (have H2_ := (Option.bind_some _ _).symm.trans H; with_reducible exact H2_) | with_reducible exact H | (rw [hy107]; exact H) | exact H
  have Ny107 := Aside0.mk hy107
  clear hy107
  obtain ⟨y110, hy110⟩ : ∃ y_ : List (S33), y_ = (([(⟨0, (-1), ([] : List ByteArray), (⟨#[57]⟩ : ByteArray)⟩ : S33), (⟨1, 0, y101, (⟨#[57]⟩ : ByteArray)⟩ : S33), (⟨2, 0, ([] : List ByteArray), (⟨#[33]⟩ : ByteArray)⟩ : S33), (⟨1, 1, y104, (⟨#[95]⟩ : ByteArray)⟩ : S33), (⟨1, 2, y107, (⟨#[95]⟩ : ByteArray)⟩ : S33)] : List (S33))) := ⟨_, rfl⟩
  replace H : (some y110) = some r := by first | (rw [hy110]; with_reducible exact H) | (have H2_ := (Option.bind_some _ _).symm.trans H; rw [hy110]; with_reducible exact H2_) | (have H2_ := (Option.bind_some _ _).symm.trans H; with_reducible exact H2_) | with_reducible exact H | (rw [hy110]; exact H) | exact H
  have Ny110 := Aside0.mk hy110
  clear hy110
  obtain rfl := Option.some.inj H
  go_enter Tryd.func8, Tryd.ntmps8
  go_wp2_with (first | ((with_reducible refine gate_dst (N := 2) rfl ?_); refine Kd.R_lit Kd.string _ 9 ?hg (N := 2) ?hd (xs := ([(⟨#[64, 55, 40, 95, 32, 52, 41]⟩ : ByteArray), (⟨#[53]⟩ : ByteArray)] : List ByteArray)) (inner := [.string (⟨#[64, 55, 40, 95, 32, 52, 41]⟩ : ByteArray), .string (⟨#[53]⟩ : ByteArray)]) (ok := fun _ => True) (okp := fun _ => True) ?hr ?hp (fun _ hk => hk) trivial (Below.refl _ _) (Nat.le_refl _) (by simp) ?_; (case hd => rfl); (case hg => rfl); (case hr => first | (go_simp; done) | (go_simp; rfl)); (case hp => exact (Reps.one (show Kd.M Kd.string _ _ _ (⟨#[64, 55, 40, 95, 32, 52, 41]⟩ : ByteArray) [.string (⟨#[64, 55, 40, 95, 32, 52, 41]⟩ : ByteArray)] from rfl) (Reps.one (show Kd.M Kd.string _ _ _ (⟨#[53]⟩ : ByteArray) [.string (⟨#[53]⟩ : ByteArray)] from rfl) (Reps.none _ _)))); intro v102 w1 ho2 hb hg_ hnew_; clear hg_ hnew_; (first | rw [← Ny101.out] at ho2 | (simp only [Int.reduceToNat] at ho2; rw [← Ny101.out] at ho2)); have n0_ := Aside0.mk (Kd.R_lower (Kd.R_newM (M := fun k_ => (w.heap.size ≤ k_)) ho2 hS_ (fun k_ h_ => h_)) hS_); have n1_ := Aside0.mk (below_step hB_ hb); clear HB; have HO103 := n0_; have HB := n1_; clear n0_ n1_; clear hb ho2; obtain ⟨Ao3, co3, eo3⟩ := Kd.R_slice HO103.out; subst eo3) | ((with_reducible refine gate_dst (N := 5) rfl ?_); refine Kd.R_lit Kd.string _ 9 ?hg (N := 5) ?hd (xs := ([(⟨#[49]⟩ : ByteArray), (⟨#[95]⟩ : ByteArray)] : List ByteArray)) (inner := [.string (⟨#[49]⟩ : ByteArray), .string (⟨#[95]⟩ : ByteArray)]) (ok := fun _ => True) (okp := fun _ => True) ?hr ?hp (fun _ hk => hk) trivial (Below.refl _ _) (Nat.le_refl _) (by simp) ?_; (case hd => rfl); (case hg => rfl); (case hr => first | (go_simp; done) | (go_simp; rfl)); (case hp => exact (Reps.one (show Kd.M Kd.string _ _ _ (⟨#[49]⟩ : ByteArray) [.string (⟨#[49]⟩ : ByteArray)] from rfl) (Reps.one (show Kd.M Kd.string _ _ _ (⟨#[95]⟩ : ByteArray) [.string (⟨#[95]⟩ : ByteArray)] from rfl) (Reps.none _ _)))); intro v105 w4 ho5 hb hg_ hnew_; clear hg_ hnew_; (first | rw [← Ny104.out] at ho5 | (simp only [Int.reduceToNat] at ho5; rw [← Ny104.out] at ho5)); have n0_ := Aside0.mk (Kd.R_elder' (hR_ HO103.out) (Kd.R_base ho5) hb); have n1_ := Aside0.mk (Kd.R_lower (Kd.R_new' (Kd.R_newM (M := fun k_ => (w.heap.size ≤ k_)) ho5 hS_ (fun k_ h_ => h_)) (Kd.R_lt (hR_ HO103.out))) hS_); have n2_ := Aside0.mk (below_step hB_ hb); clear HO103 HB; have HO103 := n0_; have HO106 := n1_; have HB := n2_; clear n0_ n1_ n2_; clear hb ho5; obtain ⟨Ao6, co6, eo6⟩ := Kd.R_slice HO106.out; subst eo6) | ((with_reducible refine gate_dst (N := 7) rfl ?_); refine Kd.R_lit Kd.string _ 9 ?hg (N := 7) ?hd (xs := ([(⟨#[49]⟩ : ByteArray), (⟨#[95]⟩ : ByteArray)] : List ByteArray)) (inner := [.string (⟨#[49]⟩ : ByteArray), .string (⟨#[95]⟩ : ByteArray)]) (ok := fun _ => True) (okp := fun _ => True) ?hr ?hp (fun _ hk => hk) trivial (Below.refl _ _) (Nat.le_refl _) (by simp) ?_; (case hd => rfl); (case hg => rfl); (case hr => first | (go_simp; done) | (go_simp; rfl)); (case hp => exact (Reps.one (show Kd.M Kd.string _ _ _ (⟨#[49]⟩ : ByteArray) [.string (⟨#[49]⟩ : ByteArray)] from rfl) (Reps.one (show Kd.M Kd.string _ _ _ (⟨#[95]⟩ : ByteArray) [.string (⟨#[95]⟩ : ByteArray)] from rfl) (Reps.none _ _)))); intro v108 w7 ho8 hb hg_ hnew_; clear hg_ hnew_; (first | rw [← Ny107.out] at ho8 | (simp only [Int.reduceToNat] at ho8; rw [← Ny107.out] at ho8)); have n0_ := Aside0.mk (Kd.R_elder' (hR_ HO103.out) (Kd.R_base ho8) hb); have n1_ := Aside0.mk (Kd.R_elder' (hR_ HO106.out) (Kd.R_base ho8) hb); have n2_ := Aside0.mk (Kd.R_lower (Kd.R_new' (Kd.R_new' (Kd.R_newM (M := fun k_ => (w.heap.size ≤ k_)) ho8 hS_ (fun k_ h_ => h_)) (Kd.R_lt (hR_ HO103.out))) (Kd.R_lt (hR_ HO106.out))) hS_); have n3_ := Aside0.mk (below_step hB_ hb); clear HO103 HO106 HB; have HO103 := n0_; have HO106 := n1_; have HO109 := n2_; have HB := n3_; clear n0_ n1_ n2_ n3_; clear hb ho8; obtain ⟨Ao9, co9, eo9⟩ := Kd.R_slice HO109.out; subst eo9) | ((with_reducible refine gate_dst (N := 9) rfl ?_); refine Kd.N_lit k33 _ 33 ?hg (N' := 9) ?hd (xs := ([(⟨0, (-1), ([] : List ByteArray), (⟨#[57]⟩ : ByteArray)⟩ : S33), (⟨1, 0, y101, (⟨#[57]⟩ : ByteArray)⟩ : S33), (⟨2, 0, ([] : List ByteArray), (⟨#[33]⟩ : ByteArray)⟩ : S33), (⟨1, 1, y104, (⟨#[95]⟩ : ByteArray)⟩ : S33), (⟨1, 2, y107, (⟨#[95]⟩ : ByteArray)⟩ : S33)] : List (S33))) (inner := [.int .i64 0, .int .i64 (-1), .slice none 0 0, .string (⟨#[57]⟩ : ByteArray), .int .i64 1, .int .i64 0, .slice Ao3 y101.length co3, .string (⟨#[57]⟩ : ByteArray), .int .i64 2, .int .i64 0, .slice none 0 0, .string (⟨#[33]⟩ : ByteArray), .int .i64 1, .int .i64 1, .slice Ao6 y104.length co6, .string (⟨#[95]⟩ : ByteArray), .int .i64 1, .int .i64 2, .slice Ao9 y107.length co9, .string (⟨#[95]⟩ : ByteArray)]) (ok := (fun k_ => (w.heap.size ≤ k_))) (okp := (fun k_ => (w.heap.size ≤ k_))) ?hr ?hp (fun _ hk => hk) ((show ∀ k_, w7.heap.size ≤ k_ → (fun k_ => (w.heap.size ≤ k_)) k_ from fun k_ hk => (Nat.le_trans hS_ hk)) _ (Nat.le_refl _)) (Below.refl _ _) (Nat.le_refl _) (by simp) ?_; (case hd => rfl); (case hg => rfl); (case hr => first | (go_simp; done) | (go_simp; rfl)); (case hp => exact (Reps.c4 (show Kd.FK k33 _ _ (⟨0, (-1), ([] : List ByteArray), (⟨#[57]⟩ : ByteArray)⟩ : S33) [.int .i64 0, .int .i64 (-1), .slice none 0 0, .string (⟨#[57]⟩ : ByteArray)] from (k33_mkF _ _ (⟨0, (-1), ([] : List ByteArray), (⟨#[57]⟩ : ByteArray)⟩ : S33) (Nat.le_refl _) (Kd.F_nil _ _ _))) (Reps.c4 (show Kd.FK k33 _ _ (⟨1, 0, y101, (⟨#[57]⟩ : ByteArray)⟩ : S33) [.int .i64 1, .int .i64 0, .slice Ao3 y101.length co3, .string (⟨#[57]⟩ : ByteArray)] from (k33_mkF _ _ (⟨1, 0, y101, (⟨#[57]⟩ : ByteArray)⟩ : S33) (Kd.R_reads' (Kd.R_mono (ok' := (fun k_ => (w.heap.size ≤ k_))) (HO103.out) (fun k_ hk => hk.1.1.1))).2.1 (Kd.R_F (Kd.R_mono (ok' := (fun k_ => (w.heap.size ≤ k_))) (HO103.out) (fun k_ hk => hk.1.1.1))))) (Reps.c4 (show Kd.FK k33 _ _ (⟨2, 0, ([] : List ByteArray), (⟨#[33]⟩ : ByteArray)⟩ : S33) [.int .i64 2, .int .i64 0, .slice none 0 0, .string (⟨#[33]⟩ : ByteArray)] from (k33_mkF _ _ (⟨2, 0, ([] : List ByteArray), (⟨#[33]⟩ : ByteArray)⟩ : S33) (Nat.le_refl _) (Kd.F_nil _ _ _))) (Reps.c4 (show Kd.FK k33 _ _ (⟨1, 1, y104, (⟨#[95]⟩ : ByteArray)⟩ : S33) [.int .i64 1, .int .i64 1, .slice Ao6 y104.length co6, .string (⟨#[95]⟩ : ByteArray)] from (k33_mkF _ _ (⟨1, 1, y104, (⟨#[95]⟩ : ByteArray)⟩ : S33) (Kd.R_reads' (Kd.R_mono (ok' := (fun k_ => (w.heap.size ≤ k_))) (HO106.out) (fun k_ hk => hk.1.1.1))).2.1 (Kd.R_F (Kd.R_mono (ok' := (fun k_ => (w.heap.size ≤ k_))) (HO106.out) (fun k_ hk => hk.1.1.1))))) (Reps.c4 (show Kd.FK k33 _ _ (⟨1, 2, y107, (⟨#[95]⟩ : ByteArray)⟩ : S33) [.int .i64 1, .int .i64 2, .slice Ao9 y107.length co9, .string (⟨#[95]⟩ : ByteArray)] from (k33_mkF _ _ (⟨1, 2, y107, (⟨#[95]⟩ : ByteArray)⟩ : S33) (Kd.R_reads' (Kd.R_mono (ok' := (fun k_ => (w.heap.size ≤ k_))) (HO109.out) (fun k_ hk => hk.1.1.1))).2.1 (Kd.R_F (Kd.R_mono (ok' := (fun k_ => (w.heap.size ≤ k_))) (HO109.out) (fun k_ hk => hk.1.1.1))))) (Reps.none _ _))))))); intro v111 w10 ho11 hb hg_ hnew_; clear hg_ hnew_; (first | rw [← Ny110.out] at ho11 | (simp only [Int.reduceToNat] at ho11; rw [← Ny110.out] at ho11)); have n0_ := Aside0.mk (Kd.N_lower ho11 hS_); have n1_ := Aside0.mk (below_step hB_ hb); clear HB HO103 HO106 HO109; have HO112 := n0_; have HB := n1_; clear n0_ n1_; clear hb ho11))
  go_ret
  exact ⟨_, hV_, hN_ HO112.out, hC_⟩

end Go.Proofs.YtgokcaccamfgfaaDoor.G
end
section
-- Laid by the session's own driver gp.py over the kit's printer. Not trusted: Lean checks it.
namespace Go.Proofs.YtgokcaccamfgfaaDoor.G
open Go.RowKit Go.Proofs.YtgokcaccamfgfaaDoorW.PrintWords Go.Proofs.YtgokcaccamfgfaaDoorW.PrintLast Go.Proofs.YtgokcaccamfgfaaDoorW.PrintMore
attribute [local go_sem] max2_int min2_int max_two min_two max_three min_three max_four min_four   -- for this text's walks alone
set_option linter.unusedVariables false
set_option linter.unusedSimpArgs false

/-! ### trail_Equation: function 41, given -/
def trail_Equation.f (k : Nat) (x0 : Int) (x1 : Int) (l2 : List ByteArray) (x3 : ByteArray) : Option Bool := if 0 ≤ x0 then (if x0 < 8 then (if (l2.length : Int) ≤ 3 then ((term_All.f k l2).bind fun t => if t = true then term_May.f k x3 else some false) else some false) else some false) else some false
theorem trail_Equation.mono : ∀ a0 a1 a2 a3 k, LeO (trail_Equation.f k a0 a1 a2 a3) (trail_Equation.f (k + 1) a0 a1 a2 a3) := by
  intro a0 a1 a2 a3 k
  unfold trail_Equation.f
  repeat' first
      | (with_reducible exact term_All.mono _ _)
      | (with_reducible exact term_May.mono _ _)
      | (with_reducible exact LeO.refl _)
      | (with_reducible refine LeO.ite ?_ ?_)
      | (with_reducible refine LeO.bind ?_ (fun _ => ?_))
      | refine LeO.ite ?_ ?_
      | refine LeO.bind ?_ (fun _ => ?_)
set_option maxHeartbeats 8000000 in
set_option maxRecDepth 100000 in
theorem trail_Equation.calls (k : Nat) (ad : Addr) (x0 : Int) (x1 : Int) (A2 : Option Addr) (c2_ : Nat) (l2 : List ByteArray) (x3 : ByteArray) (r : Bool) (w : World)
    (h0 : w.cell? ad = some (.int .i64 x0)) (h2 : w.cell? ⟨ad.block, ad.off + 2, none⟩ = some (.slice A2 l2.length c2_)) (h3 : w.cell? ⟨ad.block, ad.off + 3, none⟩ = some (.string x3))
    (hr2 : Kd.C Kd.string w A2 l2.length l2) (hc2 : l2.length ≤ c2_) (h : trail_Equation.f k x0 x1 l2 x3 = some r) (hG : GOK w) :
    Calls Tryd.prog 41 #[.pointer (some ad)] w fun e w' => e = .returned (.bool r) ∧ Below w.heap.size w w' := by
  have HR := Aside0.mk hr2
  have HC := Aside0.mk hc2
  clear hr2 hc2
  have HB := Aside0.mk (Below.refl w.heap.size w)
  unfold trail_Equation.f at h
  by_cases c1 : 0 ≤ x0
  case neg =>
    rw [if_neg c1] at h
    have c1b := decide_eq_false c1
    clear c1
    obtain rfl := Option.some.inj h
    go_enter Tryd.func41, Tryd.ntmps41
    go_wp2
    go_ret
    exact ⟨rfl, by repeat (first | exact HB.out | apply below_alloc | apply pw_below_drewN | apply below_drew1)⟩

  rw [if_pos c1] at h
  have c1b := decide_eq_true c1
  have c1c := eq_true c1
  clear c1
  by_cases c2 : x0 < 8
  case neg =>
    rw [if_neg c2] at h
    have c2b := decide_eq_false c2
    clear c2
    obtain rfl := Option.some.inj h
    go_enter Tryd.func41, Tryd.ntmps41
    go_wp2
    go_ret
    exact ⟨rfl, by repeat (first | exact HB.out | apply below_alloc | apply pw_below_drewN | apply below_drew1)⟩
  rw [if_pos c2] at h
  have c2b := decide_eq_true c2
  have c2c := eq_true c2
  clear c2
  by_cases c3 : (l2.length : Int) ≤ 3
  case neg =>
    rw [if_neg c3] at h
    have c3b := decide_eq_false c3
    clear c3
    obtain rfl := Option.some.inj h
    go_enter Tryd.func41, Tryd.ntmps41
    go_wp2
    go_ret
    exact ⟨rfl, by repeat (first | exact HB.out | apply below_alloc | apply pw_below_drewN | apply below_drew1)⟩
  rw [if_pos c3] at h
  have c3b := decide_eq_true c3
  have c3c := eq_true c3
  clear c3
  obtain ⟨t, A1, h⟩ := Option.bind_eq_some_iff.mp h
  have A1 := Aside0.mk A1
  cases t with
  | true =>
    have A3 := Aside0.mk (show term_May.f k x3 = some r from h)
    clear h
    go_enter Tryd.func41, Tryd.ntmps41
    go_wp2_with (first | (go_at_call 52; (with_reducible refine (term_All.calls k A2 c2_ l2 true _ HR.out HC.out A1.out (by first | exact hG | exact GOK.below hG (by repeat (first | exact HB.out | apply below_alloc | apply pw_below_drewN | apply below_drew1)))).mono ?_); rintro e w6 ⟨rfl, hb⟩; have h3_ := (hb.cell (World.block_lt_of_cell? w _ h3)).trans h3; have n1_ := Aside0.mk (below_step (by repeat (first | exact HB.out | apply below_alloc | apply pw_below_drewN | apply below_drew1)) hb); clear HB hb; have HB := n1_; clear n1_) | (go_at_call 53; (with_reducible refine (term_May.calls k x3 r _ A3.out (by first | exact hG | exact GOK.below hG (by repeat (first | exact HB.out | apply below_alloc | apply pw_below_drewN | apply below_drew1)))).mono ?_); rintro e w7 ⟨rfl, hb⟩; have n1_ := Aside0.mk (below_step (by repeat (first | exact HB.out | apply below_alloc | apply pw_below_drewN | apply below_drew1)) hb); clear HB hb; have HB := n1_; clear n1_))
    go_ret
    exact ⟨rfl, by repeat (first | exact HB.out | apply below_alloc | apply pw_below_drewN | apply below_drew1)⟩
  | false =>
    obtain rfl := Option.some.inj (show some false = some r from h)
    clear h
    go_enter Tryd.func41, Tryd.ntmps41
    go_wp2_with (first | (go_at_call 52; (with_reducible refine (term_All.calls k A2 c2_ l2 false _ HR.out HC.out A1.out (by first | exact hG | exact GOK.below hG (by repeat (first | exact HB.out | apply below_alloc | apply pw_below_drewN | apply below_drew1)))).mono ?_); rintro e w6 ⟨rfl, hb⟩; have n1_ := Aside0.mk (below_step (by repeat (first | exact HB.out | apply below_alloc | apply pw_below_drewN | apply below_drew1)) hb); clear HB hb; have HB := n1_; clear n1_))
    go_ret
    exact ⟨rfl, by repeat (first | exact HB.out | apply below_alloc | apply pw_below_drewN | apply below_drew1)⟩
end Go.Proofs.YtgokcaccamfgfaaDoor.G
end
section
-- Laid by the session's own driver gp.py over the kit's printer. Not trusted: Lean checks it.
namespace Go.Proofs.YtgokcaccamfgfaaDoor.G
open Go.RowKit Go.Proofs.YtgokcaccamfgfaaDoorW.PrintWords Go.Proofs.YtgokcaccamfgfaaDoorW.PrintLast Go.Proofs.YtgokcaccamfgfaaDoorW.PrintMore
attribute [local go_sem] max2_int min2_int max_two min_two max_three min_three max_four min_four   -- for this text's walks alone
set_option linter.unusedVariables false
set_option linter.unusedSimpArgs false

/-! ### trail_Next: function 27, given -/
def trail_Next.f (k : Nat) (x0 : Int) (x1 : Int) (l2 : List ByteArray) (x3 : ByteArray) (a1 : Int) : Option Bool := if a1 < 512 then (if (0 ≤ x1 ∧ x1 < a1) ∨ (a1 = 0 ∧ x1 = -1) then trail_Equation.f k x0 x1 l2 x3 else some false) else some false
theorem trail_Next.mono : ∀ a0 a1 a2 a3 a4 k, LeO (trail_Next.f k a0 a1 a2 a3 a4) (trail_Next.f (k + 1) a0 a1 a2 a3 a4) := by
  intro a0 a1 a2 a3 a4 k
  unfold trail_Next.f
  repeat' first
      | (with_reducible exact trail_Equation.mono _ _ _ _ _)
      | (with_reducible exact LeO.refl _)
      | (with_reducible refine LeO.ite ?_ ?_)
      | refine LeO.ite ?_ ?_
set_option maxHeartbeats 8000000 in
set_option maxRecDepth 100000 in
theorem trail_Next.calls (k : Nat) (ad : Addr) (x0 : Int) (x1 : Int) (A2 : Option Addr) (c2_ : Nat) (l2 : List ByteArray) (x3 : ByteArray) (a1 : Int) (r : Bool) (w : World)
    (h0 : w.cell? ad = some (.int .i64 x0)) (h1 : w.cell? ⟨ad.block, ad.off + 1, none⟩ = some (.int .i64 x1)) (h2 : w.cell? ⟨ad.block, ad.off + 2, none⟩ = some (.slice A2 l2.length c2_)) (h3 : w.cell? ⟨ad.block, ad.off + 3, none⟩ = some (.string x3))
    (hr2 : Kd.C Kd.string w A2 l2.length l2) (hc2 : l2.length ≤ c2_) (h : trail_Next.f k x0 x1 l2 x3 a1 = some r) (hG : GOK w) :
    Calls Tryd.prog 27 #[.pointer (some ad), .int .i64 a1] w fun e w' => e = .returned (.bool r) ∧ Below w.heap.size w w' := by
  have HR := Aside0.mk hr2
  have HC := Aside0.mk hc2
  have H2 := Aside0.mk h2
  have H3 := Aside0.mk h3
  clear hr2 hc2 h2 h3
  have HB := Aside0.mk (Below.refl w.heap.size w)
  unfold trail_Next.f at h
  by_cases c1 : a1 < 512
  case neg =>
    rw [if_neg c1] at h
    obtain rfl := Option.some.inj h
    clear h
    have c1b := decide_eq_false c1
    clear c1
    by_cases d1 : 0 ≤ x1
    case neg =>
      have e1 := decide_eq_false d1
      have e3 : (a1 == 0) = false := beq_eq_false_iff_ne.mpr (fun e => by subst e; simp at c1b)
      clear d1
      go_enter Tryd.func27, Tryd.ntmps27
      go_wp2
      go_ret
      exact ⟨rfl, by repeat (first | exact HB.out | apply below_alloc | apply pw_below_drewN | apply below_drew1)⟩

    by_cases d2 : x1 < a1
    case pos =>
      have e1 := decide_eq_true d1
      have e2 := decide_eq_true d2
      clear d1 d2
      go_enter Tryd.func27, Tryd.ntmps27
      go_wp2
      go_ret
      exact ⟨rfl, by repeat (first | exact HB.out | apply below_alloc | apply pw_below_drewN | apply below_drew1)⟩
    have e1 := decide_eq_true d1
    have e2 := decide_eq_false d2
    have e3 : (a1 == 0) = false := beq_eq_false_iff_ne.mpr (fun e => by subst e; simp at c1b)
    clear d1 d2
    go_enter Tryd.func27, Tryd.ntmps27
    go_wp2
    go_ret
    exact ⟨rfl, by repeat (first | exact HB.out | apply below_alloc | apply pw_below_drewN | apply below_drew1)⟩
  rw [if_pos c1] at h
  have c1b := decide_eq_true c1
  clear c1
  by_cases c2 : (0 ≤ x1 ∧ x1 < a1) ∨ (a1 = 0 ∧ x1 = -1)
  case pos =>
    rw [if_pos c2] at h
    have A1 := Aside0.mk h
    clear h
    rcases c2 with ⟨c2, c3⟩ | ⟨c2, c3⟩
    · have c2b := decide_eq_true c2
      have c3b := decide_eq_true c3
      clear c2 c3
      go_enter Tryd.func27, Tryd.ntmps27
      go_wp2_with (go_at_call 41; (with_reducible refine (trail_Equation.calls k ad x0 x1 A2 c2_ l2 x3 r _ h0 H2.out H3.out HR.out HC.out A1.out (by first | exact hG | exact GOK.below hG (by repeat (first | exact HB.out | apply below_alloc | apply pw_below_drewN | apply below_drew1)))).mono ?_); rintro e w6 ⟨rfl, hb⟩; have n1_ := Aside0.mk (below_step (by repeat (first | exact HB.out | apply below_alloc | apply pw_below_drewN | apply below_drew1)) hb); clear HB hb; have HB := n1_; clear n1_)
      go_ret
      exact ⟨rfl, by repeat (first | exact HB.out | apply below_alloc | apply pw_below_drewN | apply below_drew1)⟩
    · have c2b : (a1 == 0) = true := beq_iff_eq.mpr c2
      have c3b : (x1 == -1) = true := beq_iff_eq.mpr c3
      have c4b : decide (0 ≤ x1) = false := decide_eq_false (by omega)
      clear c2 c3
      go_enter Tryd.func27, Tryd.ntmps27
      go_wp2_with (go_at_call 41; (with_reducible refine (trail_Equation.calls k ad x0 x1 A2 c2_ l2 x3 r _ h0 H2.out H3.out HR.out HC.out A1.out (by first | exact hG | exact GOK.below hG (by repeat (first | exact HB.out | apply below_alloc | apply pw_below_drewN | apply below_drew1)))).mono ?_); rintro e w6 ⟨rfl, hb⟩; have n1_ := Aside0.mk (below_step (by repeat (first | exact HB.out | apply below_alloc | apply pw_below_drewN | apply below_drew1)) hb); clear HB hb; have HB := n1_; clear n1_)
      go_ret
      exact ⟨rfl, by repeat (first | exact HB.out | apply below_alloc | apply pw_below_drewN | apply below_drew1)⟩
  rw [if_neg c2] at h
  obtain rfl := Option.some.inj h
  clear h
  by_cases d1 : 0 ≤ x1
  case neg =>
    by_cases d3 : a1 = 0
    case neg =>
      have e1 := decide_eq_false d1
      have e3 : (a1 == 0) = false := beq_eq_false_iff_ne.mpr d3
      clear d1 d3 c2
      go_enter Tryd.func27, Tryd.ntmps27
      go_wp2
      go_ret
      exact ⟨rfl, by repeat (first | exact HB.out | apply below_alloc | apply pw_below_drewN | apply below_drew1)⟩
    have d4 : ¬ x1 = -1 := fun e => c2 (.inr ⟨d3, e⟩)
    have e1 := decide_eq_false d1
    have e3 : (a1 == 0) = true := beq_iff_eq.mpr d3
    have e4 : (x1 == -1) = false := beq_eq_false_iff_ne.mpr d4
    clear d1 d3 d4 c2
    go_enter Tryd.func27, Tryd.ntmps27
    go_wp2
    go_ret
    exact ⟨rfl, by repeat (first | exact HB.out | apply below_alloc | apply pw_below_drewN | apply below_drew1)⟩
  have d2 : ¬ x1 < a1 := fun e => c2 (.inl ⟨d1, e⟩)
  by_cases d3 : a1 = 0
  case neg =>
    have e1 := decide_eq_true d1
    have e2 := decide_eq_false d2
    have e3 : (a1 == 0) = false := beq_eq_false_iff_ne.mpr d3
    clear d1 d2 d3 c2
    go_enter Tryd.func27, Tryd.ntmps27
    go_wp2
    go_ret
    exact ⟨rfl, by repeat (first | exact HB.out | apply below_alloc | apply pw_below_drewN | apply below_drew1)⟩
  have d4 : ¬ x1 = -1 := by omega
  have e1 := decide_eq_true d1
  have e2 := decide_eq_false d2
  have e3 : (a1 == 0) = true := beq_iff_eq.mpr d3
  have e4 : (x1 == -1) = false := beq_eq_false_iff_ne.mpr d4
  clear d1 d2 d3 d4 c2
  go_enter Tryd.func27, Tryd.ntmps27
  go_wp2
  go_ret
  exact ⟨rfl, by repeat (first | exact HB.out | apply below_alloc | apply pw_below_drewN | apply below_drew1)⟩
end Go.Proofs.YtgokcaccamfgfaaDoor.G
end
section
-- Laid by the session's own driver gp.py over the kit's printer. Not trusted: Lean checks it.
namespace Go.Proofs.YtgokcaccamfgfaaDoor.G
open Go.RowKit Go.Proofs.YtgokcaccamfgfaaDoorW.PrintWords Go.Proofs.YtgokcaccamfgfaaDoorW.PrintLast Go.Proofs.YtgokcaccamfgfaaDoorW.PrintMore
attribute [local go_sem] max2_int min2_int max_two min_two max_three min_three max_four min_four   -- for this text's walks alone
set_option linter.unusedVariables false
set_option linter.unusedSimpArgs false

/-! ### trail_May: function 18, given -/
def trail_May.l0 : Nat → List S33 → Int → Option Bool
  | 0, _, _ => none
  | k + 1, x0, x1 => if x1 < (x0.length : Int) then (if 0 ≤ x1 then ((trail_Next.f k (rd_T33 x0 x1).f0 (rd_T33 x0 x1).f1 (rd_T33 x0 x1).f2 (rd_T33 x0 x1).f3 x1).bind fun t => if t = true then trail_May.l0 k x0 (wrap64 (x1 + 1)) else some false) else none) else some (decide ((x0.length : Int) > 0))
def trail_May.f (k : Nat) (l0 : List S33) : Option Bool := trail_May.l0 k l0 0
theorem trail_May.mono_l : ∀ k, (∀ y0 y1, LeO (trail_May.l0 k y0 y1) (trail_May.l0 (k + 1) y0 y1))
  | 0 => fun _ _ r h => by simp [trail_May.l0] at h
  | k + 1 => by
    have ih0 := trail_May.mono_l k
    · intro y0 y1
      unfold trail_May.l0
      repeat' first
      | (with_reducible exact ih0 _ _)
      | (with_reducible exact trail_Next.mono _ _ _ _ _ _)
      | (with_reducible exact LeO.refl _)
      | (with_reducible exact LeO.none _)
      | (with_reducible refine LeO.ite ?_ ?_)
      | (with_reducible refine LeO.bind ?_ (fun _ => ?_))
      | exact ih0 _ _
      | exact LeO.none _
      | refine LeO.ite ?_ ?_
      | refine LeO.bind ?_ (fun _ => ?_)
theorem trail_May.mono : ∀ a0 k, LeO (trail_May.f k a0) (trail_May.f (k + 1) a0) := fun a0 k => trail_May.mono_l k a0 0
set_option maxHeartbeats 8000000 in
set_option maxRecDepth 100000 in
theorem trail_May.calls (k : Nat) (A0 : Option Addr) (c0 : Nat) (l0 : List S33) (r : Bool) (w : World) (hr0 : Kd.C k33 w A0 l0.length l0) (hc0 : l0.length ≤ c0) (h : trail_May.f k l0 = some r) (hG : GOK w) :
    Calls Tryd.prog 18 #[.slice A0 l0.length c0] w fun e w' => e = .returned (.bool r) ∧ Below w.heap.size w w' := by
  have HR0 := Aside0.mk hr0
  have HC0 := Aside0.mk hc0
  clear hr0 hc0
  have HB := Aside0.mk (Below.refl w.heap.size w)
  have H' := Aside0.mk (show trail_May.l0 k l0 0 = some r from h)
  clear h
  go_enter Tryd.func18, Tryd.ntmps18
  go_wp2
  go_loopg [6] k (fun kq v6 w' => ∃ (x1 : Int), v6 = .int .i64 x1 ∧ Aside0 (trail_May.l0 kq l0 x1 = some r) ∧ Aside0 (kq ≤ k) ∧ Aside0 (Below w.heap.size w w'))
  case atStart => exact ⟨0, rfl, H', ⟨Nat.le_refl _⟩, ⟨by repeat (first | exact HB.out | apply below_alloc | apply pw_below_drewN | apply below_drew1)⟩⟩
  case round =>
    clear H' HB
    obtain ⟨x1, rfl, HA, HK1, HB⟩ := hrel
    cases gk with
    | zero => exact absurd HA.out (by simp [trail_May.l0])
    | succ k1 =>
      have H := HA.out
      clear HA
      simp only [trail_May.l0] at H
      by_cases c2 : x1 < (l0.length : Int)
      case neg =>
        rw [if_neg c2] at H
        have c2b0 : decide (x1 < (l0.length : Int)) = false := decide_eq_false c2
        clear c2
        obtain rfl := Option.some.inj H
        go_wp2
        go_ret
        exact ⟨rfl, by repeat (first | exact HB.out | apply below_alloc | apply pw_below_drewN | apply below_drew1)⟩
      rw [if_pos c2] at H
      have c2b0 : decide (x1 < (l0.length : Int)) = true := decide_eq_true c2
      replace H := ifI_ H; obtain ⟨c3, H⟩ := H
      have c3b0 : decide (0 ≤ x1) = true := decide_eq_true c3
      obtain ⟨t, A5, H⟩ := Option.bind_eq_some_iff.mp H
      have A5 := Aside0.mk A5
      obtain ⟨ad, A2, c2_, e0, h0, h1, h2, h3, hc2_, hr2_⟩ := at_T33 HR0.out x1 c3 c2
      cases e0
      have HX := Aside0.mk (And.intro h0 (And.intro h1 (And.intro h2 (And.intro h3 (And.intro hc2_ hr2_)))))
      clear h0 h1 h2 h3 hc2_ hr2_
      replace c2 := eq_true c2
      replace c3 := eq_true c3
      cases t with
      | true =>
        have H' := Aside0.mk (show trail_May.l0 k1 l0 (wrap64 (x1 + 1)) = some r from H)
        clear H
        go_wp2_with (go_at_call 27; have hbq := Aside0.mk (show Below w.heap.size w _ from by repeat (first | exact HB.out | apply below_alloc | apply pw_below_drewN | apply below_drew1)); (with_reducible refine (trail_Next.calls k1 (ad.add (x1.toNat * 4)) _ _ A2 c2_ _ _ x1 true _ ((hbq.out.cell (World.block_lt_of_cell? w _ HX.out.1)).trans HX.out.1) ((hbq.out.cell (World.block_lt_of_cell? w _ HX.out.2.1)).trans HX.out.2.1) ((hbq.out.cell (World.block_lt_of_cell? w _ HX.out.2.2.1)).trans HX.out.2.2.1) ((hbq.out.cell (World.block_lt_of_cell? w _ HX.out.2.2.2.1)).trans HX.out.2.2.2.1) (Kd.C_below HX.out.2.2.2.2.2 hbq.out) HX.out.2.2.2.2.1 A5.out (GOK.below hG hbq.out)).mono ?_); rintro e w6 ⟨rfl, hb⟩; have n1_ := Aside0.mk (below_step hbq.out hb); clear HB hb hbq; have HB := n1_; clear n1_)
        go_roundg k1
        case measure => have := HK1.out; omega
        case rel => exact ⟨(wrap64 (x1 + 1)), hW_, H', ⟨by have := HK1.out; omega⟩, ⟨by repeat (first | exact HB.out | apply below_alloc | apply pw_below_drewN | apply below_drew1)⟩⟩
      | false =>
        obtain rfl := Option.some.inj (show some false = some r from H)
        clear H
        go_wp2_with (go_at_call 27; have hbq := Aside0.mk (show Below w.heap.size w _ from by repeat (first | exact HB.out | apply below_alloc | apply pw_below_drewN | apply below_drew1)); (with_reducible refine (trail_Next.calls k1 (ad.add (x1.toNat * 4)) _ _ A2 c2_ _ _ x1 false _ ((hbq.out.cell (World.block_lt_of_cell? w _ HX.out.1)).trans HX.out.1) ((hbq.out.cell (World.block_lt_of_cell? w _ HX.out.2.1)).trans HX.out.2.1) ((hbq.out.cell (World.block_lt_of_cell? w _ HX.out.2.2.1)).trans HX.out.2.2.1) ((hbq.out.cell (World.block_lt_of_cell? w _ HX.out.2.2.2.1)).trans HX.out.2.2.2.1) (Kd.C_below HX.out.2.2.2.2.2 hbq.out) HX.out.2.2.2.2.1 A5.out (GOK.below hG hbq.out)).mono ?_); rintro e w6 ⟨rfl, hb⟩; have n1_ := Aside0.mk (below_step hbq.out hb); clear HB hb hbq; have HB := n1_; clear n1_)
        go_ret
        exact ⟨rfl, by repeat (first | exact HB.out | apply below_alloc | apply pw_below_drewN | apply below_drew1)⟩
theorem trail_Next.true_spec {k : Nat} {x0 x1 : Int} {l2 : List ByteArray} {x3 : ByteArray} {a1 : Int} (h : trail_Next.f k x0 x1 l2 x3 a1 = some true) : a1 < 512 ∧ ((0 ≤ x1 ∧ x1 < a1) ∨ (a1 = 0 ∧ x1 = -1)) := by
  unfold trail_Next.f at h
  by_cases c1 : a1 < 512
  case neg =>
    rw [if_neg c1] at h; simp at h
  rw [if_pos c1] at h
  by_cases c2 : (0 ≤ x1 ∧ x1 < a1) ∨ (a1 = 0 ∧ x1 = -1)
  case pos =>
    exact ⟨c1, c2⟩
  rw [if_neg c2] at h; simp at h
theorem trail_May.true_l : ∀ (k : Nat) (l0 : List S33) (x : Int), 0 ≤ x → trail_May.l0 k l0 x = some true →
    0 < l0.length ∧ ∀ i : Int, x ≤ i → i < (l0.length : Int) → i < 512 ∧ ((0 ≤ (rd_T33 l0 i).f1 ∧ (rd_T33 l0 i).f1 < i) ∨ (i = 0 ∧ (rd_T33 l0 i).f1 = -1))
  | 0, _, _, _, h => by simp [trail_May.l0] at h
  | k + 1, l0, x, h0, h => by
    rw [trail_May.l0] at h
    by_cases c : x < (l0.length : Int)
    case neg =>
      rw [if_neg c] at h
      have := of_decide_eq_true (Option.some.inj h)
      exact ⟨by omega, fun i hi hl => by omega⟩
    rw [if_pos c, if_pos h0] at h
    obtain ⟨t, h1, h⟩ := Option.bind_eq_some_iff.mp h
    cases t with
    | false => simp at h
    | true =>
      have h2 := trail_Next.true_spec h1
      rw [if_pos rfl, show wrap64 (x + 1) = x + 1 from by unfold wrap64; omega] at h
      obtain ⟨h3, h4⟩ := trail_May.true_l k l0 (x + 1) (by omega) h
      refine ⟨h3, fun i hi hl => ?_⟩
      rcases Int.lt_or_eq_of_le hi with hlt | rfl
      · exact h4 i (by omega) hl
      · exact h2
theorem trail_May.true_spec {k : Nat} {l0 : List S33} (h : trail_May.f k l0 = some true) : 0 < l0.length ∧ l0.length ≤ 512 ∧ ∀ i : Int, 0 ≤ i → i < (l0.length : Int) → ((0 ≤ (rd_T33 l0 i).f1 ∧ (rd_T33 l0 i).f1 < i) ∨ (i = 0 ∧ (rd_T33 l0 i).f1 = -1)) := by
  obtain ⟨h1, h2⟩ := trail_May.true_l k l0 0 (by omega) h
  have := h2 ((l0.length : Int) - 1) (by omega) (by omega)
  exact ⟨h1, by omega, fun i h0 hl => (h2 i h0 hl).2⟩

end Go.Proofs.YtgokcaccamfgfaaDoor.G
end
section
-- Laid by the session's own driver gp.py over the kit's printer. Not trusted: Lean checks it.
namespace Go.Proofs.YtgokcaccamfgfaaDoor.G
open Go.RowKit Go.Proofs.YtgokcaccamfgfaaDoorW.PrintWords Go.Proofs.YtgokcaccamfgfaaDoorW.PrintLast Go.Proofs.YtgokcaccamfgfaaDoorW.PrintMore
attribute [local go_sem] max2_int min2_int max_two min_two max_three min_three max_four min_four   -- for this text's walks alone
set_option linter.unusedVariables false
set_option linter.unusedSimpArgs false

/-! ### next_Mark: function 19 -/
def next_Mark.f (a0 : Int) : Option (Bool) := if a0 ≥ 1 then (some (decide (a0 ≤ 3))) else (some false)
set_option maxHeartbeats 8000000 in
set_option maxRecDepth 100000 in
theorem next_Mark.calls (a0 : Int) (r : Bool) (w : World) (h : next_Mark.f a0 = some r) :
    Calls Tryd.prog 19 #[.int .i64 a0] w fun e w' => e = .returned (.bool r) ∧ Drawn0 w w' := by
  have H : (if a0 ≥ 1 then (some (decide (a0 ≤ 3))) else (some false)) = some r := h
  clear h
  by_cases c2 : a0 ≥ 1
  case pos =>
    rw [if_pos c2] at H
    have c2b0 : decide (1 ≤ a0) = true := decide_eq_true c2
    clear c2
    obtain rfl := Option.some.inj H
    go_enter Tryd.func19, Tryd.ntmps19
    go_wp2
    go_ret
    exact ⟨by first | rfl | (simp; done) | (simp [*]; done), by repeat (first | exact Drawn0.refl _ | apply Drawn0.step)⟩
  rw [if_neg c2] at H
  have c2b0 : decide (1 ≤ a0) = false := decide_eq_false c2
  clear c2
  obtain rfl := Option.some.inj H
  go_enter Tryd.func19, Tryd.ntmps19
  go_wp2
  go_ret
  exact ⟨by first | rfl | (simp; done) | (simp [*]; done), by repeat (first | exact Drawn0.refl _ | apply Drawn0.step)⟩

end Go.Proofs.YtgokcaccamfgfaaDoor.G
end
