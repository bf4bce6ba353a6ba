/- Parts of this proof, one behind the other: G4, G5, G6, G7, G8, G9, G10, G11, G12, G13, G14, G15, G16, G17, G18, G19. -/
import Derived.Test.YtifhpkakdlfgnaaGreatDoorG0
import Derived.Test.YtifhpkakdlfgnaaGreatDoorU2
section
namespace Go.Proofs.YtifhpkakdlfgnaaGreatDoor.G
open Go.RowKit Go.Proofs.YtifhpkakdlfgnaaGreatDoorW.PrintWords Go.Proofs.YtifhpkakdlfgnaaGreatDoorW.PrintLast Go.Proofs.YtifhpkakdlfgnaaGreatDoorW.PrintMore
set_option maxHeartbeats 8000000
set_option maxRecDepth 100000
attribute [local go_sem] max2_int min2_int max_two min_two max_three min_three max_four min_four   -- for this text's walks alone
set_option linter.unusedVariables false
set_option linter.unusedSimpArgs false

/-- where the first blank or bracket stands -/
abbrev seps : ByteArray := ⟨#[32, 40, 41]⟩
theorem rune_err (w : World) :
 Calls Tryz.prog 67 #[.string seps, .int .i32 65533] w fun e w' => e = .returned (.int .i64 (-1)) ∧ Below w.heap.size w w' := by
 have hnx0 := fun ty => run_next_ascii (P := Tryz.prog) w seps 0 ty (by decide) (by decide)
 have hnx1 := fun ty => run_next_ascii (P := Tryz.prog) w seps 1 ty (by decide) (by decide)
 have hnx2 := fun ty => run_next_ascii (P := Tryz.prog) w seps 2 ty (by decide) (by decide)
 have hnx3 := fun ty => run_next_end (P := Tryz.prog) w seps 3 ty (by decide)
 go_enter Tryz.func67, Tryz.ntmps67
 go_wp2
 go_loopg [5, 6] 3 (fun g _ _ wx => ∃ i : Nat, i + g = 3 ∧ wx = w.iter seps i)
 case atStart => exact ⟨0, rfl, rfl⟩
 case round =>
  obtain ⟨i, hi, rfl⟩ := hrel
  cases gk with
  | zero =>
   obtain rfl : i = 3 := by omega
   go_wp2
   go_ret
   exact ⟨rfl, by apply below_alloc; exact Below.refl _ _⟩
  | succ g =>
   rcases (show i = 0 ∨ i = 1 ∨ i = 2 by omega) with rfl | rfl | rfl
   all_goals go_wp2
   all_goals go_roundg g
   all_goals first | omega | exact ⟨_, by omega, rfl⟩
theorem rune_two (w : World) (c : Int) (hc : 128 ≤ c) (hc2 : c < 2048) (hv : Lib.validRune c = true) (hc3 : c ≠ 65533) :
 Calls Tryz.prog 67 #[.string seps, .int .i32 c] w fun e w' => e = .returned (.int .i64 (-1)) ∧ Below w.heap.size w w' := by
 obtain ⟨p1, p2, hxy, hy⟩ : ∃ p1 p2 : UInt8, Utf8.encode c = ⟨#[p1, p2]⟩ ∧ 128 ≤ p2.toNat := by
  have hv2 : Utf8.valid c = true := by
   rw [← hv]; unfold Utf8.valid Lib.validRune
   rw [Bool.eq_iff_iff]; simp; omega
  refine ⟨UInt8.ofNat (0xC0 + c.toNat / 64), UInt8.ofNat (0x80 + c.toNat % 64), ?_, ?_⟩
  · unfold Utf8.encode
    simp only [hv2, if_true]
    rw [if_neg (by omega), if_pos (by omega)]
  · simp; omega
 have hcv : ∀ W : World, (convert 21 9 (.int .i32 c)).run Tryz.prog W = .ok (.string ⟨#[p1, p2]⟩) W := by
  intro W
  rw [← hxy]
  simp [convert, run_underlying Tryz.underlying21, run_underlying Tryz.underlying9, Conv.intToString, Result.andThen]
 have n1 : (c == 65533) = false := beq_eq_false_iff_ne.2 (by omega)
 have n2 : decide (c < 128) = false := decide_eq_false (by omega)
 clear hxy
 go_enter Tryz.func67, Tryz.ntmps67
 go_wp2_with (first
  | (go_at_call 76; refine (Tryz.utf8_ValidRune _ _).mono ?_; rintro e w1 ⟨rfl, hw⟩; rw [hw, hv])
  )
 go_step3
 go_wp2
 go_loopg [9, 10] 1 (fun g v9 v0 wx => v9 = .int .i64 1 ∧ v0 = .int .i64 0 ∧ wx = w)
 case atStart => exact ⟨rfl, rfl, rfl⟩
 case round =>
  obtain ⟨rfl, rfl, rfl⟩ := hrel
  have hne : ((40 : Int) == (p2.toNat : Int)) = false := beq_eq_false_iff_ne.2 (by omega)
  have hb : 1 < ({ data := #[p1, p2] } : ByteArray).size := by show 1 < 2; decide
  have hne2 : ((seps[1].toNat : Int) != ((({ data := #[p1, p2] } : ByteArray)[1]'hb).toNat : Int)) = true := by
   show ((40 : Int) != (p2.toNat : Int)) = true
   rw [bne, hne]; rfl
  have hix : Lib.indexByte (seps.extract 2 3).data.toList ((p2.toNat : Int)).toNat.toUInt8 = -1 := by
   rw [show ((p2.toNat : Int)).toNat.toUInt8 = p2 by simp]
   show Lib.indexByte [41] p2 = -1
   unfold Lib.indexByte
   rw [if_neg (by intro h; have := beq_iff_eq.1 h; subst this; revert hy; decide)]; rfl
  have hw2 : IntKind.i64.wrap 2 = 2 := by decide
  have hwi : IntKind.i64.wrap (1 + 1) = 2 := by decide
  go_wp2
  go_step3
  go_wp2
  go_region
  simp only [Exit.then, hne2]
  go_wp2
  go_region_with (go_at_call 75; refine (Tryz.strings_IndexByte (seps.extract 2 3) (p2.toNat : Int) _).mono ?_; rintro e w2 ⟨rfl, hw2⟩; rw [hw2, hix])
  all_goals simp only [Exit.then]
  all_goals go_wp2
  all_goals simp only [Exit.noGoto, Exit.inBlock, Exit.then]
  all_goals go_ret
  all_goals exact ⟨rfl, by repeat (first | exact Below.refl _ _ | apply Below.drew)⟩
theorem rune_three (w : World) (c : Int) (hc : 2048 ≤ c) (hc2 : c < 65536) (hv : Lib.validRune c = true) (hc3 : c ≠ 65533) :
 Calls Tryz.prog 67 #[.string seps, .int .i32 c] w fun e w' => e = .returned (.int .i64 (-1)) ∧ Below w.heap.size w w' := by
 obtain ⟨p1, p2, p3, hxy, hy⟩ : ∃ p1 p2 p3 : UInt8, Utf8.encode c = ⟨#[p1, p2, p3]⟩ ∧ 128 ≤ p3.toNat := by
  have hv2 : Utf8.valid c = true := by
   rw [← hv]; unfold Utf8.valid Lib.validRune
   rw [Bool.eq_iff_iff]; simp; omega
  refine ⟨UInt8.ofNat (0xE0 + c.toNat / 4096), UInt8.ofNat (0x80 + c.toNat / 64 % 64), UInt8.ofNat (0x80 + c.toNat % 64), ?_, ?_⟩
  · unfold Utf8.encode
    simp only [hv2, if_true]
    rw [if_neg (by omega), if_neg (by omega), if_pos (by omega)]
  · simp; omega
 have hcv : ∀ W : World, (convert 21 9 (.int .i32 c)).run Tryz.prog W = .ok (.string ⟨#[p1, p2, p3]⟩) W := by
  intro W
  rw [← hxy]
  simp [convert, run_underlying Tryz.underlying21, run_underlying Tryz.underlying9, Conv.intToString, Result.andThen]
 have n1 : (c == 65533) = false := beq_eq_false_iff_ne.2 (by omega)
 have n2 : decide (c < 128) = false := decide_eq_false (by omega)
 clear hxy
 go_enter Tryz.func67, Tryz.ntmps67
 go_wp2_with (first
  | (go_at_call 76; refine (Tryz.utf8_ValidRune _ _).mono ?_; rintro e w1 ⟨rfl, hw⟩; rw [hw, hv])
  )
 go_step3
 go_wp2
 go_loopg [9, 10] 1 (fun g v9 v0 wx => v9 = .int .i64 2 ∧ v0 = .int .i64 0 ∧ wx = w)
 case atStart => exact ⟨rfl, rfl, rfl⟩
 case round =>
  obtain ⟨rfl, rfl, rfl⟩ := hrel
  have hne : ((41 : Int) == (p3.toNat : Int)) = false := beq_eq_false_iff_ne.2 (by omega)
  have hb : 2 < ({ data := #[p1, p2, p3] } : ByteArray).size := by show 2 < 3; decide
  have hne2 : ((seps[2].toNat : Int) != ((({ data := #[p1, p2, p3] } : ByteArray)[2]'hb).toNat : Int)) = true := by
   show ((41 : Int) != (p3.toNat : Int)) = true
   rw [bne, hne]; rfl
  have hix : Lib.indexByte (seps.extract 3 3).data.toList ((p3.toNat : Int)).toNat.toUInt8 = -1 := by
   rw [show ((p3.toNat : Int)).toNat.toUInt8 = p3 by simp]
   show Lib.indexByte [] p3 = -1
   unfold Lib.indexByte
   rfl
  have hw2 : IntKind.i64.wrap 3 = 3 := by decide
  have hwi : IntKind.i64.wrap (2 + 1) = 3 := by decide
  go_wp2
  go_step3
  go_wp2
  go_region
  simp only [Exit.then, hne2]
  go_wp2
  go_region_with (go_at_call 75; refine (Tryz.strings_IndexByte (seps.extract 3 3) (p3.toNat : Int) _).mono ?_; rintro e w2 ⟨rfl, hw2⟩; rw [hw2, hix])
  all_goals simp only [Exit.then]
  all_goals go_wp2
  all_goals simp only [Exit.noGoto, Exit.inBlock, Exit.then]
  all_goals go_ret
  all_goals exact ⟨rfl, by repeat (first | exact Below.refl _ _ | apply Below.drew)⟩
theorem rune_four (w : World) (c : Int) (hc : 65536 ≤ c) (hc2 : c < 2147483648) (hv : Lib.validRune c = true) (hc3 : c ≠ 65533) :
 Calls Tryz.prog 67 #[.string seps, .int .i32 c] w fun e w' => e = .returned (.int .i64 (-1)) ∧ Below w.heap.size w w' := by
 obtain ⟨p1, p2, p3, p4, hxy, hy⟩ : ∃ p1 p2 p3 p4 : UInt8, Utf8.encode c = ⟨#[p1, p2, p3, p4]⟩ ∧ 128 ≤ p4.toNat := by
  have hv2 : Utf8.valid c = true := by
   rw [← hv]; unfold Utf8.valid Lib.validRune
   rw [Bool.eq_iff_iff]; simp; omega
  refine ⟨UInt8.ofNat (0xF0 + c.toNat / 262144), UInt8.ofNat (0x80 + c.toNat / 4096 % 64), UInt8.ofNat (0x80 + c.toNat / 64 % 64), UInt8.ofNat (0x80 + c.toNat % 64), ?_, ?_⟩
  · unfold Utf8.encode
    simp only [hv2, if_true]
    rw [if_neg (by omega), if_neg (by omega), if_neg (by omega)]
  · simp; omega
 have hcv : ∀ W : World, (convert 21 9 (.int .i32 c)).run Tryz.prog W = .ok (.string ⟨#[p1, p2, p3, p4]⟩) W := by
  intro W
  rw [← hxy]
  simp [convert, run_underlying Tryz.underlying21, run_underlying Tryz.underlying9, Conv.intToString, Result.andThen]
 have n1 : (c == 65533) = false := beq_eq_false_iff_ne.2 (by omega)
 have n2 : decide (c < 128) = false := decide_eq_false (by omega)
 clear hxy
 go_enter Tryz.func67, Tryz.ntmps67
 go_wp2_with (first
  | (go_at_call 76; refine (Tryz.utf8_ValidRune _ _).mono ?_; rintro e w1 ⟨rfl, hw⟩; rw [hw, hv])
  )
 go_step3
 go_wp2
 go_loopg [9, 10] 1 (fun g v9 v0 wx => v9 = .int .i64 3 ∧ v0 = .int .i64 0 ∧ wx = w)
 case atStart => exact ⟨rfl, rfl, rfl⟩
 case round =>
  obtain ⟨rfl, rfl, rfl⟩ := hrel
  go_wp2
  simp only [Exit.noGoto_ret, Exit.noGoto_normal]
  go_ret
  exact ⟨rfl, Below.refl _ _⟩
theorem rune_high (w : World) (c : Int) (hc : 128 ≤ c) (hm : c ≤ 2147483647) (hv : c = 65533 ∨ Lib.validRune c = true) :
 Calls Tryz.prog 67 #[.string seps, .int .i32 c] w fun e w' => e = .returned (.int .i64 (-1)) ∧ Below w.heap.size w w' := by
 by_cases h3 : c = 65533
 case pos =>
  subst h3; exact rune_err w
 have hv := hv.resolve_left h3
 by_cases h1 : c < 2048
 case pos =>
  exact rune_two w c hc h1 hv h3
 by_cases h2 : c < 65536
 case pos =>
  exact rune_three w c (by omega) h2 hv h3
 exact rune_four w c (by omega) (by omega) hv h3
theorem get_bang (s : ByteArray) (i : Nat) (h : i < s.size) : s.get! i = s[i]'h := by
 simp [ByteArray.get!, getElem!_pos, h]; rfl
theorem dec_valid (s : ByteArray) (p : Nat) (h : p < s.size) (ha : 128 ≤ (s[p]'h).toNat) :
 ((Utf8.decode s p).1 : Int) = 65533 ∨ Lib.validRune ((Utf8.decode s p).1 : Int) = true := by
 have hb : ∀ k, (s.get! (p + k)).toNat < 256 := fun k => (s.get! (p + k)).toNat_lt
 have h0 := hb 0; have h1 := hb 1; have h2 := hb 2; have h3 := hb 3
 have hn : ¬ (s.get! (p + 0)).toNat < 128 := by rw [show p + 0 = p from rfl, get_bang s p h]; omega
 simp only [Utf8.decode, hn, if_false]
 repeat' split
 all_goals simp_all [Utf8.runeError, Lib.validRune, Utf8.valid]
 all_goals omega
theorem dec_high (s : ByteArray) (p : Nat) (h : p < s.size) (ha : 128 ≤ (s[p]'h).toNat) (j : Nat) (hj : p ≤ j) (hj2 : j < p + (Utf8.decode s p).2) (hjs : j < s.size) : 128 ≤ (s[j]'hjs).toNat := by
 have hn : ¬ (s.get! (p + 0)).toNat < 128 := by rw [show p + 0 = p from rfl, get_bang s p h]; omega
 have e1 : ∀ k, p + k < s.size → (s.get! (p + k)).toNat / 64 = 2 → ∀ hk : p + k < s.size, 128 ≤ (s[p + k]'hk).toNat := by
  intro k hk h2 hk'
  rw [get_bang s (p + k) hk] at h2
  omega
 obtain ⟨k, rfl⟩ : ∃ k, j = p + k := ⟨j - p, by omega⟩
 have hk4 : k < 4 := by
  revert hj2
  simp only [Utf8.decode, hn, if_false]
  repeat' split
  all_goals simp
  all_goals omega
 have hc : k = 0 ∨ (s.get! (p + k)).toNat / 64 = 2 := by
  revert hj2
  simp only [Utf8.decode, hn, if_false]
  rcases (show k = 0 ∨ k = 1 ∨ k = 2 ∨ k = 3 by omega) with rfl | rfl | rfl | rfl
  · intro _; exact .inl rfl
  all_goals repeat' split
  all_goals simp_all
 rcases hc with rfl | hc
 · exact ha
 · exact e1 k hjs hc hjs
theorem noany_skip (s : ByteArray) (p : Nat) (h : p < s.size) (ha : 128 ≤ (s[p]'h).toNat) (hno : Lib.NoAny s.data.toList seps.data.toList p) :
 Lib.NoAny s.data.toList seps.data.toList (p + (Utf8.decode s p).2) := by
 intro j b hj hb
 by_cases hjp : j < p
 case pos =>
  exact hno j b hjp hb
 have hjs : j < s.size := by
  have := (List.getElem?_eq_some_iff.1 hb).1
  rwa [← Lib.size_eq] at this
 have h1 := dec_high s p h ha j (by omega) hj hjs
 have h2 : s.data.toList[j]? = some (s[j]'hjs) := Lib.data_getElem? s j hjs
 rw [h2] at hb
 obtain rfl := Option.some.inj hb
 show [(32 : UInt8), 40, 41].contains (s[j]'hjs) = false
 generalize s[j]'hjs = b at h1
 rw [Bool.eq_false_iff]
 intro hc
 simp at hc
 rcases hc with rfl | rfl | rfl <;> revert h1 <;> decide
theorem any_short (s : ByteArray) (w : World) (h8 : s.size ≤ 8) :
 Calls Tryz.prog 56 #[.string s, .string seps] w fun e w' => e = .returned (.int .i64 (Lib.indexAny s.data.toList seps.data.toList)) ∧ Below w.heap.size w w' := by
 have hemp : seps.toList.isEmpty = false := by rw [Lib.toList_data]; rfl
 have hn1 : ((seps.size : Int) == 1) = false := by decide
 have h8z : decide ((8 : Int) < (s.size : Int)) = false := decide_eq_false (by omega)
 go_enter Tryz.func56, Tryz.ntmps56
 go_wp2_with (go_at_call 68; refine (Tryz.strings_shouldUseASCIISet _ _).mono ?_; rintro e w' ⟨rfl, hw⟩; rw [hw, h8z])
 go_loopg [9, 10] s.size (fun g _ _ wx => ∃ i : Nat, s.size ≤ i + g ∧ Below w.heap.size w wx ∧ wx.heap[w.heap.size]? = some (.stringIter s i) ∧ Lib.NoAny s.data.toList seps.data.toList i)
 case atStart => exact ⟨0, by omega, by apply below_alloc; exact Below.refl _ _, World.iter_heap _ _ _, Lib.NoAny.zero _ _⟩
 case round =>
  obtain ⟨i, hig, hB, hit, hno⟩ := hrel
  have HB : Aside (Below w.heap.size w wr) := hB
  have HN : Aside (Lib.NoAny s.data.toList seps.data.toList i) := hno
  clear hno
  by_cases hi : i < s.size
  case neg =>
   have hnx := fun ty => Lib.run_next_end_at (P := Tryz.prog) wr w.heap.size s i ty hit hi
   go_wp2
   go_ret
   exact ⟨by rw [Lib.indexAny_none (fun j b hj hb => HN.out j b (by have := (List.getElem?_eq_some_iff.1 hb).1; rw [← Lib.size_eq] at this; omega) hb)]; rfl, HB.out⟩
  cases gk with
  | zero => exact absurd hig (by omega)
  | succ g =>
   have hws : w.heap.size < wr.heap.size := (Array.getElem?_eq_some_iff.1 hit).1
   have hnx := fun ty => Lib.run_next_any_at (P := Tryz.prog) wr w.heap.size s i ty hit hi
   have hit2 := Lib.iterAt_heap wr w.heap.size s i (i + (Utf8.decode s i).2) hit
   have hB2 : Below w.heap.size w (wr.iterAt w.heap.size s (i + (Utf8.decode s i).2)) := Lib.below_iterAt hB (Nat.le_refl _) s _
   have hsz2 : (wr.iterAt w.heap.size s (i + (Utf8.decode s i).2)).heap.size = wr.heap.size := Lib.iterAt_size _ _ _ _
   generalize hx : s[i]'hi = x at *
   by_cases h0 : x.toNat < 128
   case neg =>
    have hxh : 128 ≤ (s[i]'hi).toNat := by rw [hx]; omega
    have hd := decode_high s i hi hxh
    have hdl := decode_le s i
    have hv := dec_valid s i hi hxh
    have HN2 : Aside (Lib.NoAny s.data.toList seps.data.toList (i + (Utf8.decode s i).2)) := noany_skip s i hi hxh HN.out
    clear hx hxh
    generalize Utf8.decode s i = d at *
    obtain ⟨d1, d2⟩ := d
    dsimp only at *
    have HB2 : Aside (Below w.heap.size w (wr.iterAt w.heap.size s (i + d2))) := hB2
    have HI2 : Aside ((wr.iterAt w.heap.size s (i + d2)).heap[w.heap.size]? = some (.stringIter s (i + d2))) := hit2
    clear hB2 hit2
    generalize wr.iterAt w.heap.size s (i + d2) = wx at *
    have hneg : ¬ ((0 : Int) ≤ -1) := by omega
    have HR : Aside (Calls Tryz.prog 67 #[.string seps, .int .i32 (d1 : Int)] wx fun e w' => e = .returned (.int .i64 (-1)) ∧ Below wx.heap.size wx w') := rune_high wx d1 (by omega) (by omega) hv
    clear hv hdl
    go_wp2_with (go_at_call 67; refine (HR.out).mono ?_; rintro e w' ⟨rfl, hb⟩; have HBr : Aside (Below wx.heap.size wx w') := hb; clear hb)
    go_roundg g
    case measure => omega
    case rel =>
     refine ⟨i + d2, by omega, below_step HB2.out HBr.out, ?_, HN2.out⟩
     rw [← HI2.out]
     exact (HBr.out.block _ (by omega))
   have hd := decode_ascii s i hi (by rw [hx]; exact h0)
   rw [hd] at hnx hit2 hB2 hsz2
   rw [hx] at hnx
   have hxl : s.data.toList[i]? = some x := by rw [← hx]; exact Lib.data_getElem? s i hi
   have hcon := Lib.contains_iff_indexByte seps.data.toList x
   have hback : ((x.toNat : Int)).toNat.toUInt8 = x := by simp
   have HB2 : Aside (Below w.heap.size w (wr.iterAt w.heap.size s (i + 1))) := hB2
   have HI2 : Aside ((wr.iterAt w.heap.size s (i + 1)).heap[w.heap.size]? = some (.stringIter s (i + 1))) := hit2
   have Hx : Aside (s.data.toList[i]? = some x) := hxl
   clear hxl hx hd hB2 hit2 hsz2
   generalize wr.iterAt w.heap.size s (i + 1) = wx at *
   cases hin : seps.data.toList.contains x
   · rw [hin] at hcon
     have hlt : ¬ ((0 : Int) ≤ Lib.indexByte seps.data.toList x) := of_decide_eq_false hcon.symm
     clear hcon
     go_wp2_with (go_at_call 67; refine (Tryz.strings_IndexRune_ascii _ _ _ (by omega) (by omega)).mono ?_; rintro e w' ⟨rfl, hw⟩; rw [hw, hback])
     go_roundg g
     case measure => omega
     case rel => exact ⟨i + 1, by omega, HB2.out, HI2.out, HN.out.succ Hx.out hin⟩
   · rw [hin] at hcon
     have hge : (0 : Int) ≤ Lib.indexByte seps.data.toList x := of_decide_eq_true hcon.symm
     clear hcon
     go_wp2_with (go_at_call 67; refine (Tryz.strings_IndexRune_ascii _ _ _ (by omega) (by omega)).mono ?_; rintro e w' ⟨rfl, hw⟩; rw [hw, hback])
     go_ret
     exact ⟨by rw [Lib.indexAny_hit HN.out Hx.out hin]; rfl, HB2.out⟩
def strings_IndexAny.f (a0 : ByteArray) (a1 : ByteArray) : Option Int := if a1 = seps ∧ a0.size < 4294967281 then some (Lib.indexAny a0.data.toList seps.data.toList) else none
theorem strings_IndexAny.calls (a0 : ByteArray) (a1 : ByteArray) (r : Int) (w : World) (h : strings_IndexAny.f a0 a1 = some r) :
 Calls Tryz.prog 56 #[.string a0, .string a1] w fun e w' => e = .returned (.int .i64 r) ∧ Below w.heap.size w w' := by
 unfold strings_IndexAny.f at h
 by_cases hc : a1 = seps ∧ a0.size < 4294967281
 case neg =>
  rw [if_neg hc] at h; cases h

 rw [if_pos hc] at h
 obtain rfl := Option.some.inj h
 obtain ⟨rfl, hs⟩ := hc
 by_cases h8 : a0.size ≤ 8
 case pos =>
  exact any_short a0 w h8
 refine (Tryz.strings_IndexAny_long (zero_of_info (n := 256) (by kernel_rfl)).1 a0 seps w (by decide) (by omega) hs (by decide) ?_).mono ?_
 · intro j b hb
   have : j < 3 := (List.getElem?_eq_some_iff.1 hb).1
   rcases (show j = 0 ∨ j = 1 ∨ j = 2 by omega) with rfl | rfl | rfl <;> (obtain rfl := Option.some.inj hb; decide)
 · rintro e w' ⟨rfl, rfl⟩
   exact ⟨rfl, by apply below_alloc; apply below_alloc; exact Below.refl _ _⟩
set_option maxHeartbeats 8000000
set_option maxRecDepth 100000
attribute [local go_sem] max2_int min2_int max_two min_two max_three min_three max_four min_four   -- for this text's walks alone
set_option linter.unusedVariables false
set_option linter.unusedSimpArgs false

def term_word.f (a0 : ByteArray) : Option (ByteArray × ByteArray) := (strings_IndexAny.f a0 (⟨#[32, 40, 41]⟩ : ByteArray)).bind fun t120 => (if t120 < 0 then (if 0 ≤ (a0.size : Int) then (if (a0.size : Int) ≤ (a0.size : Int) then (some (a0.extract 0 ((a0.size : Int) : Int).toNat, a0.extract ((a0.size : Int) : Int).toNat a0.size)) else (none)) else (none)) else (if 0 ≤ t120 then (if t120 ≤ (a0.size : Int) then (some (a0.extract 0 (t120 : Int).toNat, a0.extract (t120 : Int).toNat a0.size)) else (none)) else (none)))
theorem term_word.calls (a0 : ByteArray) (r1 : ByteArray) (r2 : ByteArray) (w : World) (h : term_word.f a0 = some (r1, r2)) :
 Calls Tryz.prog 50 #[.string a0] w fun e w' => e = .returned (.tuple #[.string r1, .string r2]) ∧ Below w.heap.size w w' := by
 have HB := a_ (Below.refl w.heap.size w)
 have H := h; unfold term_word.f at H
 clear h
 replace H := Option.bind_eq_some_iff.mp H
 obtain ⟨t0, A20, H⟩ := H
 try dsimp only at H
 have A2 := a_ A20
 clear A20
 by_cases c3 : t0 < 0
 case neg =>
  rw [if_neg c3] at H
  have c3b0 : decide (t0 < 0) = false := decide_eq_false c3
  clear c3
  replace H := ifI_ H; obtain ⟨c9, H⟩ := H
  have c9b0 := eq_true c9
  have c9b1 : decide (0 ≤ t0) = true := decide_eq_true c9
  clear c9
  replace H := ifI_ H; obtain ⟨c10, H⟩ := H
  have c10b0 := eq_true c10
  have c10b1 : decide (t0 ≤ (a0.size : Int)) = true := decide_eq_true c10
  clear c10
  have c11b0 := eq_true (of_decide_eq_true hA_ : 0 ≤ t0)
  have c12b0 := eq_true (of_decide_eq_true hA_ : t0 ≤ (a0.size : Int))
  simp only [Option.some.injEq, Prod.mk.injEq] at H
  obtain ⟨rfl, rfl⟩ := H
  go_enter Tryz.func50, Tryz.ntmps50
  go_wp2_with (first | (go_at_call 56; (with_reducible refine (strings_IndexAny.calls a0 (⟨#[32, 40, 41]⟩ : ByteArray) t0 _ A2.out).mono ?_); rintro e w0 ⟨rfl, hb⟩; replace HB := a_ (below_step hB_ hb); (try clear hb); (try clear hb2); (try clear hk); (try clear hi)))
  repeat (go_quiet (first | (go_at_call 56; (with_reducible refine (strings_IndexAny.calls a0 (⟨#[32, 40, 41]⟩ : ByteArray) t0 _ A2.out).mono ?_); rintro e w0 ⟨rfl, hb⟩; replace HB := a_ (below_step hB_ hb); (try clear hb); (try clear hb2); (try clear hk); (try clear hi))); try go_wp2_with (first | (go_at_call 56; (with_reducible refine (strings_IndexAny.calls a0 (⟨#[32, 40, 41]⟩ : ByteArray) t0 _ A2.out).mono ?_); rintro e w0 ⟨rfl, hb⟩; replace HB := a_ (below_step hB_ hb); (try clear hb); (try clear hb2); (try clear hk); (try clear hi))))
  go_ret2
  exact ⟨hV_, hC_⟩
 rw [if_pos c3] at H
 have c3b0 : decide (t0 < 0) = true := decide_eq_true c3
 clear c3
 replace H := ifI_ H; obtain ⟨c4, H⟩ := H
 have c4b0 := eq_true c4
 have c4b1 : decide (0 ≤ (a0.size : Int)) = true := decide_eq_true c4
 clear c4
 replace H := ifI_ H; obtain ⟨c5, H⟩ := H
 have c5b0 := eq_true c5
 have c5b1 : decide ((a0.size : Int) ≤ (a0.size : Int)) = true := decide_eq_true c5
 clear c5
 have c6b0 := eq_true (of_decide_eq_true hA_ : 0 ≤ (a0.size : Int))
 have c7b0 := eq_true (of_decide_eq_true hA_ : (a0.size : Int) ≤ (a0.size : Int))
 simp only [Option.some.injEq, Prod.mk.injEq] at H
 obtain ⟨rfl, rfl⟩ := H
 go_enter Tryz.func50, Tryz.ntmps50
 go_wp2_with (first | (go_at_call 56; (with_reducible refine (strings_IndexAny.calls a0 (⟨#[32, 40, 41]⟩ : ByteArray) t0 _ A2.out).mono ?_); rintro e w8 ⟨rfl, hb⟩; replace HB := a_ (below_step hB_ hb); (try clear hb); (try clear hb2); (try clear hk); (try clear hi)))
 repeat (go_quiet (first | (go_at_call 56; (with_reducible refine (strings_IndexAny.calls a0 (⟨#[32, 40, 41]⟩ : ByteArray) t0 _ A2.out).mono ?_); rintro e w8 ⟨rfl, hb⟩; replace HB := a_ (below_step hB_ hb); (try clear hb); (try clear hb2); (try clear hk); (try clear hi))); try go_wp2_with (first | (go_at_call 56; (with_reducible refine (strings_IndexAny.calls a0 (⟨#[32, 40, 41]⟩ : ByteArray) t0 _ A2.out).mono ?_); rintro e w8 ⟨rfl, hb⟩; replace HB := a_ (below_step hB_ hb); (try clear hb); (try clear hb2); (try clear hk); (try clear hi))))
 go_ret2
 exact ⟨hV_, hC_⟩
set_option maxHeartbeats 8000000
set_option maxRecDepth 100000
attribute [local go_sem] max2_int min2_int max_two min_two max_three min_three max_four min_four   -- for this text's walks alone
set_option linter.unusedVariables false
set_option linter.unusedSimpArgs false

def term_Number.f (a0 : ByteArray) : Option (Int × Bool) := if a0.size ≤ 281474976710656 then some (numF a0) else none
theorem term_Number.calls (a0 : ByteArray) (r1 : Int) (r2 : Bool) (w : World) (h : term_Number.f a0 = some (r1, r2)) (hG : GOK w) :
 Calls Tryz.prog 51 #[.string a0] w fun e w' => e = .returned (.tuple #[.int .i64 r1, .bool r2]) ∧ Below w.heap.size w w' := by
 unfold term_Number.f at h
 by_cases hs : a0.size ≤ 281474976710656
 case neg =>
  rw [if_neg hs] at h
  cases h

 rw [if_pos hs] at h
 have h := Option.some.inj h
 obtain ⟨rfl, rfl⟩ : r1 = (numF a0).1 ∧ r2 = (numF a0).2 := by rw [h]; exact ⟨rfl, rfl⟩
 clear h
 have hr := atoiF_range a0
 have hC := a_ (atoi_calls a0 hs w hG)
 have hn : (numF a0).1 = (atoiF a0).1 := by unfold numF atoiF; cases Lib.atoiAll a0.data.toList <;> rfl
 rw [hn]
 have hb : (numF a0).2 = ((atoiF a0).2 && ((decide (-32768 ≤ (atoiF a0).1) && decide ((atoiF a0).1 ≤ 32767)) && itoaK (atoiF a0).1 == a0.data.toList)) := by
  unfold numF atoiF; cases Lib.atoiAll a0.data.toList <;> rfl
 rw [hb]
 clear hn hb
 generalize (atoiF a0).1 = v at hr hC ⊢
 generalize (atoiF a0).2 = ok at hC ⊢
 cases ok with
 | false =>
  go_enter Tryz.func51, Tryz.ntmps51
  go_wp2_with (go_at_call 57; refine (hC.out).mono ?_; rintro e w1 ⟨⟨N, rfl⟩, hb⟩; have HB := a_ hb; clear hb; simp only [errV, Bool.false_eq_true, if_false])
  go_ret2
  exact ⟨rfl, by repeat (first | exact HB.out | apply below_alloc | apply pw_below_drewN | apply below_drew1)⟩
 | true =>
  by_cases c1 : -32768 ≤ v
  case neg =>
   have k1 : decide (-32768 ≤ v) = false := decide_eq_false c1
   have e1 : (true && ((decide (-32768 ≤ v) && decide (v ≤ 32767)) && itoaK v == a0.data.toList)) = false := by rw [k1]; rfl
   rw [e1]
   clear e1
   go_enter Tryz.func51, Tryz.ntmps51
   go_wp2_with (first
    | (go_at_call 57; refine (hC.out).mono ?_; rintro e w1 ⟨⟨N, rfl⟩, hb⟩; have HB := a_ hb; clear hb; simp only [errV, if_true])
    | go_in)
   go_ret2
   exact ⟨rfl, by repeat (first | exact HB.out | apply below_alloc | apply pw_below_drewN | apply below_drew1)⟩
  by_cases c2 : v ≤ 32767
  case neg =>
   have k1 : decide (-32768 ≤ v) = true := decide_eq_true c1
   have k2 : decide (v ≤ 32767) = false := decide_eq_false c2
   have e1 : (true && ((decide (-32768 ≤ v) && decide (v ≤ 32767)) && itoaK v == a0.data.toList)) = false := by rw [k1, k2]; rfl
   rw [e1]
   clear e1
   go_enter Tryz.func51, Tryz.ntmps51
   go_wp2_with (first
    | (go_at_call 57; refine (hC.out).mono ?_; rintro e w1 ⟨⟨N, rfl⟩, hb⟩; have HB := a_ hb; clear hb; simp only [errV, if_true])
    | go_in)
   go_ret2
   exact ⟨rfl, by repeat (first | exact HB.out | apply below_alloc | apply pw_below_drewN | apply below_drew1)⟩
  have k1 : decide (-32768 ≤ v) = true := decide_eq_true c1
  have k2 : decide (v ≤ 32767) = true := decide_eq_true c2
  have e1 : (true && ((decide (-32768 ≤ v) && decide (v ≤ 32767)) && itoaK v == a0.data.toList)) = (itoaK v == a0.data.toList) := by rw [k1, k2]; rfl
  rw [e1]
  clear e1
  go_enter Tryz.func51, Tryz.ntmps51
  go_wp2_with (first
   | (go_at_call 57; refine (hC.out).mono ?_; rintro e w1 ⟨⟨N, rfl⟩, hb⟩; have HB := a_ hb; have HG1 := hG.below hb; clear hb; simp only [errV, if_true])
   | (go_at_call 59; refine (itoa_calls v (by omega) (by omega) _ HG1).mono ?_; rintro e w2 ⟨rfl, hb⟩; have HB2 := a_ (below_step HB.out hb); clear hb)
   | go_in)
  go_ret2
  exact ⟨by rw [Lib.toList_data]; rfl, by repeat (first | exact HB2.out | apply below_alloc | apply pw_below_drewN | apply below_drew1)⟩
end Go.Proofs.YtifhpkakdlfgnaaGreatDoor.G
end
section
namespace Go.Proofs.YtifhpkakdlfgnaaGreatDoor.G
open Go.RowKit Go.Proofs.YtifhpkakdlfgnaaGreatDoorW.PrintWords Go.Proofs.YtifhpkakdlfgnaaGreatDoorW.PrintLast Go.Proofs.YtifhpkakdlfgnaaGreatDoorW.PrintMore
attribute [local go_sem] max2_int min2_int max_two min_two max_three min_three max_four min_four
set_option linter.unusedVariables false
set_option linter.unusedSimpArgs false
def strings_CutPrefix.f (a0 : ByteArray) (a1 : ByteArray) : Option (ByteArray × Bool) := some (⟨(Lib.trimPrefix a0.data.toList a1.data.toList).toArray⟩, Lib.hasPrefix a0.data.toList a1.data.toList)
theorem strings_CutPrefix.calls (a0 : ByteArray) (a1 : ByteArray) (r1 : ByteArray) (r2 : Bool) (w : World) (h : strings_CutPrefix.f a0 a1 = some (r1, r2)) :
 Calls Tryz.prog 54 #[.string a0, .string a1] w fun e w' => e = .returned (.tuple #[.string r1, .bool r2]) ∧ Drawn0 w w' := by
 have h := Option.some.inj h
 obtain ⟨rfl, rfl⟩ := Prod.mk.inj h
 refine (Tryz.strings_CutPrefix a0 a1 w).mono ?_
 rintro e w' ⟨rfl, rfl⟩
 exact ⟨rfl, Drawn0.refl _⟩

end Go.Proofs.YtifhpkakdlfgnaaGreatDoor.G
end
section
namespace Go.Proofs.YtifhpkakdlfgnaaGreatDoor.G
open Go.RowKit Go.Proofs.YtifhpkakdlfgnaaGreatDoorW.PrintWords Go.Proofs.YtifhpkakdlfgnaaGreatDoorW.PrintLast Go.Proofs.YtifhpkakdlfgnaaGreatDoorW.PrintMore
set_option maxHeartbeats 8000000
set_option maxRecDepth 100000
attribute [local go_sem] max2_int min2_int max_two min_two max_three min_three max_four min_four   -- for this text's walks alone
set_option linter.unusedVariables false
set_option linter.unusedSimpArgs false

def term_Digits.f (a0 : ByteArray) (a1 : Int) : Option (Int × Bool) := if a0.size ≤ 281474976710656 then some (digF a0 a1) else none
theorem term_Digits.calls (a0 : ByteArray) (a1 : Int) (r1 : Int) (r2 : Bool) (w : World) (h : term_Digits.f a0 a1 = some (r1, r2)) (hG : GOK w) :
 Calls Tryz.prog 60 #[.string a0, .int .i64 a1] w fun e w' => e = .returned (.tuple #[.int .i64 r1, .bool r2]) ∧ Below w.heap.size w w' := by
 unfold term_Digits.f at h
 by_cases hs : a0.size ≤ 281474976710656
 case neg =>
  rw [if_neg hs] at h
  cases h

 rw [if_pos hs] at h
 have h := Option.some.inj h
 obtain ⟨rfl, rfl⟩ : r1 = (digF a0 a1).1 ∧ r2 = (digF a0 a1).2 := by rw [h]; exact ⟨rfl, rfl⟩
 clear h
 have hr := atoiF_range a0
 have hC := a_ (atoi_calls a0 hs w hG)
 have hn : (digF a0 a1).1 = (atoiF a0).1 := by unfold digF atoiF; cases Lib.atoiAll a0.data.toList <;> rfl
 rw [hn]
 have hb : (digF a0 a1).2 = ((atoiF a0).2 && ((decide (0 ≤ (atoiF a0).1) && decide ((atoiF a0).1 ≤ a1)) && itoaK (atoiF a0).1 == a0.data.toList)) := by
  unfold digF atoiF; cases Lib.atoiAll a0.data.toList <;> rfl
 rw [hb]
 clear hn hb
 generalize (atoiF a0).1 = v at hr hC ⊢
 generalize (atoiF a0).2 = ok at hC ⊢
 cases ok with
 | false =>
  go_enter Tryz.func60, Tryz.ntmps60
  go_wp2_with (go_at_call 57; refine (hC.out).mono ?_; rintro e w1 ⟨⟨N, rfl⟩, hb⟩; have HB := a_ hb; clear hb; simp only [errV, Bool.false_eq_true, if_false])
  go_ret2
  exact ⟨rfl, by repeat (first | exact HB.out | apply below_alloc | apply pw_below_drewN | apply below_drew1)⟩
 | true =>
  by_cases c1 : 0 ≤ v
  case neg =>
   have k1 : decide (0 ≤ v) = false := decide_eq_false c1
   have e1 : (true && ((decide (0 ≤ v) && decide (v ≤ a1)) && itoaK v == a0.data.toList)) = false := by rw [k1]; rfl
   rw [e1]
   clear e1
   go_enter Tryz.func60, Tryz.ntmps60
   go_wp2_with (first
    | (go_at_call 57; refine (hC.out).mono ?_; rintro e w1 ⟨⟨N, rfl⟩, hb⟩; have HB := a_ hb; clear hb; simp only [errV, if_true])
    | go_in)
   go_ret2
   exact ⟨rfl, by repeat (first | exact HB.out | apply below_alloc | apply pw_below_drewN | apply below_drew1)⟩
  by_cases c2 : v ≤ a1
  case neg =>
   have k1 : decide (0 ≤ v) = true := decide_eq_true c1
   have k2 : decide (v ≤ a1) = false := decide_eq_false c2
   have e1 : (true && ((decide (0 ≤ v) && decide (v ≤ a1)) && itoaK v == a0.data.toList)) = false := by rw [k1, k2]; rfl
   rw [e1]
   clear e1
   go_enter Tryz.func60, Tryz.ntmps60
   go_wp2_with (first
    | (go_at_call 57; refine (hC.out).mono ?_; rintro e w1 ⟨⟨N, rfl⟩, hb⟩; have HB := a_ hb; clear hb; simp only [errV, if_true])
    | go_in)
   go_ret2
   exact ⟨rfl, by repeat (first | exact HB.out | apply below_alloc | apply pw_below_drewN | apply below_drew1)⟩
  have k1 : decide (0 ≤ v) = true := decide_eq_true c1
  have k2 : decide (v ≤ a1) = true := decide_eq_true c2
  have e1 : (true && ((decide (0 ≤ v) && decide (v ≤ a1)) && itoaK v == a0.data.toList)) = (itoaK v == a0.data.toList) := by rw [k1, k2]; rfl
  rw [e1]
  clear e1
  go_enter Tryz.func60, Tryz.ntmps60
  go_wp2_with (first
   | (go_at_call 57; refine (hC.out).mono ?_; rintro e w1 ⟨⟨N, rfl⟩, hb⟩; have HB := a_ hb; have HG1 := hG.below hb; clear hb; simp only [errV, if_true])
   | (go_at_call 59; refine (itoa_calls v (by omega) (by omega) _ HG1).mono ?_; rintro e w2 ⟨rfl, hb⟩; have HB2 := a_ (below_step HB.out hb); clear hb)
   | go_in)
  go_ret2
  exact ⟨by rw [Lib.toList_data]; rfl, by repeat (first | exact HB2.out | apply below_alloc | apply pw_below_drewN | apply below_drew1)⟩
set_option maxHeartbeats 8000000
set_option maxRecDepth 100000
attribute [local go_sem] max2_int min2_int max_two min_two max_three min_three max_four min_four   -- for this text's walks alone
set_option linter.unusedVariables false
set_option linter.unusedSimpArgs false

def term_Tag.f (a0 : ByteArray) : Option (Int × Bool) := (strings_CutPrefix.f a0 (⟨#[64]⟩ : ByteArray)).bind fun bt121 => ((term_Digits.f bt121.1 99).bind fun bt123 => (if bt121.2 = true then (some (bt123.1, bt123.2)) else (some (bt123.1, false))))
theorem term_Tag.calls (a0 : ByteArray) (r1 : Int) (r2 : Bool) (w : World) (h : term_Tag.f a0 = some (r1, r2)) (hG : GOK w) :
 Calls Tryz.prog 52 #[.string a0] w fun e w' => e = .returned (.tuple #[.int .i64 r1, .bool r2]) ∧ Below w.heap.size w w' := by
 have HB := a_ (Below.refl w.heap.size w)
 have H := h; unfold term_Tag.f at H
 clear h
 replace H := Option.bind_eq_some_iff.mp H
 obtain ⟨⟨t0, t3⟩, A20, H⟩ := H
 try dsimp only at H
 have A2 := a_ A20
 clear A20
 replace H := Option.bind_eq_some_iff.mp H
 obtain ⟨⟨t1, t2⟩, A30, H⟩ := H
 try dsimp only at H
 have A3 := a_ A30
 clear A30
 by_cases c4 : t3 = true
 case pos =>
  subst c4
  rw [if_pos rfl] at H
  simp only [Option.some.injEq, Prod.mk.injEq] at H
  obtain ⟨rfl, rfl⟩ := H
  go_enter Tryz.func52, Tryz.ntmps52
  go_wp2_with (first | ((with_reducible refine gate_callee (f := 54) rfl ?_); refine goesL_ _ rfl rfl Tryz.func54 (by kernel_rfl) rfl #[.string a0, .string (⟨#[64]⟩ : ByteArray)] rfl hL_ ?_; (with_reducible refine (strings_CutPrefix.calls a0 (⟨#[64]⟩ : ByteArray) t0 true _ A2.out).mono ?_); rintro e w' ⟨rfl, ⟨nd, rfl⟩⟩; refine ⟨_, rfl, ?_⟩) | ((with_reducible refine gate_callee (f := 60) rfl ?_); refine goesL_ (some 15) rfl rfl Tryz.func60 (by kernel_rfl) rfl #[.string t0, .int .i64 99] rfl hL_ ?_; (with_reducible refine (term_Digits.calls t0 99 t1 t2 _ A3.out hG_).mono ?_); rintro e w5 ⟨rfl, hb⟩; refine ⟨_, rfl, ?_⟩; replace HB := a_ (below_step hB_ hb); (try clear hb); (try clear hb2); (try clear hk); (try clear hi)))
  go_ret2
  exact ⟨hV_, hC_⟩
 replace c4 := Bool.eq_false_iff.mpr c4
 subst c4
 rw [if_neg (show ¬ (false = true) by decide)] at H
 simp only [Option.some.injEq, Prod.mk.injEq] at H
 obtain ⟨rfl, rfl⟩ := H
 go_enter Tryz.func52, Tryz.ntmps52
 go_wp2_with (first | ((with_reducible refine gate_callee (f := 54) rfl ?_); refine goesL_ _ rfl rfl Tryz.func54 (by kernel_rfl) rfl #[.string a0, .string (⟨#[64]⟩ : ByteArray)] rfl hL_ ?_; (with_reducible refine (strings_CutPrefix.calls a0 (⟨#[64]⟩ : ByteArray) t0 false _ A2.out).mono ?_); rintro e w' ⟨rfl, ⟨nd, rfl⟩⟩; refine ⟨_, rfl, ?_⟩) | ((with_reducible refine gate_callee (f := 60) rfl ?_); refine goesL_ (some 15) rfl rfl Tryz.func60 (by kernel_rfl) rfl #[.string t0, .int .i64 99] rfl hL_ ?_; (with_reducible refine (term_Digits.calls t0 99 t1 t2 _ A3.out hG_).mono ?_); rintro e w6 ⟨rfl, hb⟩; refine ⟨_, rfl, ?_⟩; replace HB := a_ (below_step hB_ hb); (try clear hb); (try clear hb2); (try clear hk); (try clear hi)))
 go_ret2
 exact ⟨hV_, hC_⟩

end Go.Proofs.YtifhpkakdlfgnaaGreatDoor.G
end
section
namespace Go.Proofs.YtifhpkakdlfgnaaGreatDoor.G
open Go.RowKit Go.Proofs.YtifhpkakdlfgnaaGreatDoorW.PrintWords Go.Proofs.YtifhpkakdlfgnaaGreatDoorW.PrintLast Go.Proofs.YtifhpkakdlfgnaaGreatDoorW.PrintMore
attribute [local go_sem] max2_int min2_int max_two min_two max_three min_three max_four min_four
set_option linter.unusedVariables false
set_option linter.unusedSimpArgs false
def strings_HasPrefix.f (a0 : ByteArray) (a1 : ByteArray) : Option Bool := some (Lib.hasPrefix a0.data.toList a1.data.toList)
theorem strings_HasPrefix.calls (a0 : ByteArray) (a1 : ByteArray) (r : Bool) (w : World) (h : strings_HasPrefix.f a0 a1 = some r) :
 Calls Tryz.prog 53 #[.string a0, .string a1] w fun e w' => e = .returned (.bool r) ∧ Drawn0 w w' := by
 obtain rfl := Option.some.inj h
 refine (Tryz.strings_HasPrefix a0 a1 w).mono ?_
 rintro e w' ⟨rfl, rfl⟩
 exact ⟨rfl, Drawn0.refl _⟩

end Go.Proofs.YtifhpkakdlfgnaaGreatDoor.G
end
section
namespace Go.Proofs.YtifhpkakdlfgnaaGreatDoor.G
open Go.RowKit Go.Proofs.YtifhpkakdlfgnaaGreatDoorW.PrintWords Go.Proofs.YtifhpkakdlfgnaaGreatDoorW.PrintLast Go.Proofs.YtifhpkakdlfgnaaGreatDoorW.PrintMore
set_option maxHeartbeats 8000000
set_option maxRecDepth 100000
attribute [local go_sem] max2_int min2_int max_two min_two max_three min_three max_four min_four   -- for this text's walks alone
set_option linter.unusedVariables false
set_option linter.unusedSimpArgs false

mutual
def term_cut.j0 : Nat → ByteArray → Int → Bool → Bool → Option (Int × Int × List ByteArray × ByteArray × Bool)
 | 0, _, _, _, _ => none
 | k + 1, x8, x11, x12, x52 => if x52 = true then (some (2, x11, ([] : List ByteArray), x8, x12)) else (term_cut.l0 k x8 x11 ([] : List ByteArray))
def term_cut.l0 : Nat → ByteArray → Int → List ByteArray → Option (Int × Int × List ByteArray × ByteArray × Bool)
 | 0, _, _, _ => none
 | k + 1, x8, x11, x13 => if (x13.length : Int) < 3 then (if 1 ≤ (x8.size : Int) then ((term_cut.f k (x8.extract 1 x8.size)).bind fun bt134 => (if bt134.2.2.2.2 = true then (if 0 ≤ (wrap64 (((x8.extract 1 x8.size).size : Int) - (bt134.2.2.2.1.size : Int))) then (if (wrap64 (((x8.extract 1 x8.size).size : Int) - (bt134.2.2.2.1.size : Int))) ≤ ((x8.extract 1 x8.size).size : Int) then (if x13.length < 8796093022208 then ((some (x13 ++ [(x8.extract 1 x8.size).extract 0 ((wrap64 (((x8.extract 1 x8.size).size : Int) - (bt134.2.2.2.1.size : Int))) : Int).toNat] : List ByteArray)).bind fun y141 => ((strings_HasPrefix.f bt134.2.2.2.1 (⟨#[32]⟩ : ByteArray)).bind fun t144 => (if t144 = true then (term_cut.l0 k bt134.2.2.2.1 x11 y141) else ((strings_CutPrefix.f bt134.2.2.2.1 (⟨#[41]⟩ : ByteArray)).bind fun bt145 => (some (2, x11, y141, bt145.1, bt145.2)))))) else (none)) else (none)) else (none)) else (some (0, 0, ([] : List ByteArray), (⟨#[]⟩ : ByteArray), false)))) else (none)) else ((strings_CutPrefix.f x8 (⟨#[41]⟩ : ByteArray)).bind fun bt132 => (some (2, x11, x13, bt132.1, bt132.2)))
def term_cut.f : Nat → ByteArray → Option (Int × Int × List ByteArray × ByteArray × Bool)
 | 0, _ => none
 | k + 1, a0 => (term_word.f a0).bind fun bt125 => (if bt125.1.toList = ([95] : List UInt8) then (some (0, 0, ([] : List ByteArray), bt125.2, true)) else (if bt125.1.toList = ([33] : List UInt8) then (some (3, 0, ([] : List ByteArray), bt125.2, true)) else ((term_Number.f bt125.1).bind fun bt127 => (if bt127.2 = true then (some (1, bt127.1, ([] : List ByteArray), bt125.2, true)) else ((term_Tag.f bt125.1).bind fun bt129 => (if bt129.2 = true then ((strings_HasPrefix.f bt125.2 (⟨#[40]⟩ : ByteArray)).bind fun t131 => (term_cut.j0 k bt125.2 bt129.1 bt129.2 (!t131))) else (term_cut.j0 k bt125.2 bt129.1 bt129.2 true)))))))
end
theorem term_cut.calls (k : Nat) : ∀ (a0 : ByteArray) (r1 : Int) (r2 : Int) (r3 : List ByteArray) (r4 : ByteArray) (r5 : Bool) (w : World) (h : term_cut.f k a0 = some (r1, r2, r3, r4, r5)) (hG : GOK w),
 Calls Tryz.prog 48 #[.string a0] w fun e w' => ∃ v2_ : Value, e = .returned (.tuple #[.int .i64 r1, .int .i64 r2, v2_, .string r4, .bool r5]) ∧ Kd.R Kd.string 9 w' w.heap.size (fun _ => True) v2_ r3 ∧ Below w.heap.size w w' := by
 induction k using Nat.strongRecOn with
 | _ k ih =>
 intro a0 r1 r2 r3 r4 r5 w h hG
 cases k with
 | zero => exact absurd h (by simp [term_cut.f])
 | succ k =>
 simp only [term_cut.f] at h
 have HB := a_ (Below.refl w.heap.size w)
 have H := h; unfold term_cut.f at H
 clear h
 replace H := Option.bind_eq_some_iff.mp H
 obtain ⟨⟨t0, t2⟩, A20, H⟩ := H
 try dsimp only at H
 have A2 := a_ A20
 clear A20
 by_cases c3 : t0.toList = ([95] : List UInt8)
 case pos =>
  rw [if_pos c3] at H
  have c3b0 : (t0.toList == ([95] : List UInt8)) = true := beq_iff_eq.mpr c3
  have c3b1 : (t0.toList != ([95] : List UInt8)) = false := bne_eq_false_iff_eq.mpr c3
  clear c3
  simp only [Option.some.injEq, Prod.mk.injEq] at H
  obtain ⟨rfl, rfl, rfl, rfl, rfl⟩ := H
  go_enter Tryz.func48, Tryz.ntmps48
  go_wp2_with (first | ((with_reducible refine gate_callee (f := 50) rfl ?_); refine goesL_ (some 24) rfl rfl Tryz.func50 (by kernel_rfl) rfl #[.string a0] rfl hL_ ?_; (with_reducible refine (term_word.calls a0 t0 t2 _ A2.out).mono ?_); rintro e w4 ⟨rfl, hb⟩; refine ⟨_, rfl, ?_⟩; replace HB := a_ (below_step hB_ hb); (try clear hb); (try clear hb2); (try clear hk); (try clear hi)))
  refine bodyPost_ret (results_list (rs := [.tmp 2, .tmp 3, .tmp 4, .tmp 5, .tmp 6]) rfl (by simp) (.tmp (.tmp (.tmp (.tmp (.tmp .nil)))))) rfl ?_
  exact ⟨_, hV_, by first | exact Kd.R_nil _ _ _ _ _ | exact Kd.N_nil _ _ _ _ _ | exact Kd.V_nil _ _ _ _ _ | exact Kd.Q_nil _ _ _ _ _ | exact Kd.S_nil _ _ _ _ _, hC_⟩
 rw [if_neg c3] at H
 have c3b0 : (t0.toList == ([95] : List UInt8)) = false := beq_eq_false_iff_ne.mpr c3
 have c3b1 : (t0.toList != ([95] : List UInt8)) = true := bne_iff_ne.mpr c3
 by_cases c5 : t0.toList = ([33] : List UInt8)
 case pos =>
  rw [if_pos c5] at H
  have c5b0 : (t0.toList == ([33] : List UInt8)) = true := beq_iff_eq.mpr c5
  have c5b1 : (t0.toList != ([33] : List UInt8)) = false := bne_eq_false_iff_eq.mpr c5
  clear c5
  simp only [Option.some.injEq, Prod.mk.injEq] at H
  obtain ⟨rfl, rfl, rfl, rfl, rfl⟩ := H
  go_enter Tryz.func48, Tryz.ntmps48
  go_wp2_with (first | ((with_reducible refine gate_callee (f := 50) rfl ?_); refine goesL_ (some 24) rfl rfl Tryz.func50 (by kernel_rfl) rfl #[.string a0] rfl hL_ ?_; (with_reducible refine (term_word.calls a0 t0 t2 _ A2.out).mono ?_); rintro e w6 ⟨rfl, hb⟩; refine ⟨_, rfl, ?_⟩; replace HB := a_ (below_step hB_ hb); (try clear hb); (try clear hb2); (try clear hk); (try clear hi)))
  refine bodyPost_ret (results_list (rs := [.tmp 2, .tmp 3, .tmp 4, .tmp 5, .tmp 6]) rfl (by simp) (.tmp (.tmp (.tmp (.tmp (.tmp .nil)))))) rfl ?_
  exact ⟨_, hV_, by first | exact Kd.R_nil _ _ _ _ _ | exact Kd.N_nil _ _ _ _ _ | exact Kd.V_nil _ _ _ _ _ | exact Kd.Q_nil _ _ _ _ _ | exact Kd.S_nil _ _ _ _ _, hC_⟩
 rw [if_neg c5] at H
 have c5b0 : (t0.toList == ([33] : List UInt8)) = false := beq_eq_false_iff_ne.mpr c5
 have c5b1 : (t0.toList != ([33] : List UInt8)) = true := bne_iff_ne.mpr c5
 replace H := Option.bind_eq_some_iff.mp H
 obtain ⟨⟨t9, t11⟩, A70, H⟩ := H
 try dsimp only at H
 have A7 := a_ A70
 clear A70
 by_cases c8 : t11 = true
 case pos =>
  subst c8
  rw [if_pos rfl] at H
  simp only [Option.some.injEq, Prod.mk.injEq] at H
  obtain ⟨rfl, rfl, rfl, rfl, rfl⟩ := H
  go_enter Tryz.func48, Tryz.ntmps48
  go_wp2_with (first | ((with_reducible refine gate_callee (f := 50) rfl ?_); refine goesL_ (some 24) rfl rfl Tryz.func50 (by kernel_rfl) rfl #[.string a0] rfl hL_ ?_; (with_reducible refine (term_word.calls a0 t0 t2 _ A2.out).mono ?_); rintro e w9 ⟨rfl, hb⟩; refine ⟨_, rfl, ?_⟩; replace HB := a_ (below_step hB_ hb); (try clear hb); (try clear hb2); (try clear hk); (try clear hi)) | ((with_reducible refine gate_callee (f := 51) rfl ?_); refine goesL_ (some 35) rfl rfl Tryz.func51 (by kernel_rfl) rfl #[.string t0] rfl hL_ ?_; (with_reducible refine (term_Number.calls t0 t9 true _ A7.out hG_).mono ?_); rintro e w1 ⟨rfl, hb⟩; refine ⟨_, rfl, ?_⟩; replace HB := a_ (below_step hB_ hb); (try clear hb); (try clear hb2); (try clear hk); (try clear hi)))
  refine bodyPost_ret (results_list (rs := [.tmp 2, .tmp 3, .tmp 4, .tmp 5, .tmp 6]) rfl (by simp) (.tmp (.tmp (.tmp (.tmp (.tmp .nil)))))) rfl ?_
  exact ⟨_, hV_, by first | exact Kd.R_nil _ _ _ _ _ | exact Kd.N_nil _ _ _ _ _ | exact Kd.V_nil _ _ _ _ _ | exact Kd.Q_nil _ _ _ _ _ | exact Kd.S_nil _ _ _ _ _, hC_⟩
 replace c8 := Bool.eq_false_iff.mpr c8
 subst c8
 rw [if_neg (show ¬ (false = true) by decide)] at H
 replace H := Option.bind_eq_some_iff.mp H
 obtain ⟨⟨t3, t5⟩, A110, H⟩ := H
 try dsimp only at H
 have A11 := a_ A110
 clear A110
 have HC12 := a_ H
 clear H
 go_enter Tryz.func48, Tryz.ntmps48
 go_upto_region 10 with (first | ((with_reducible refine gate_callee (f := 50) rfl ?_); refine goesL_ (some 24) rfl rfl Tryz.func50 (by kernel_rfl) rfl #[.string a0] rfl hL_ ?_; (with_reducible refine (term_word.calls a0 t0 t2 _ A2.out).mono ?_); rintro e w2 ⟨rfl, hb⟩; refine ⟨_, rfl, ?_⟩; replace HB := a_ (below_step hB_ hb); (try clear hb); (try clear hb2); (try clear hk); (try clear hi)) | ((with_reducible refine gate_callee (f := 51) rfl ?_); refine goesL_ (some 35) rfl rfl Tryz.func51 (by kernel_rfl) rfl #[.string t0] rfl hL_ ?_; (with_reducible refine (term_Number.calls t0 t9 false _ A7.out hG_).mono ?_); rintro e w3 ⟨rfl, hb⟩; refine ⟨_, rfl, ?_⟩; replace HB := a_ (below_step hB_ hb); (try clear hb); (try clear hb2); (try clear hk); (try clear hi)) | ((with_reducible refine gate_callee (f := 52) rfl ?_); refine goesL_ (some 43) rfl rfl Tryz.func52 (by kernel_rfl) rfl #[.string t0] rfl hL_ ?_; (with_reducible refine (term_Tag.calls t0 t3 t5 _ A11.out hG_).mono ?_); rintro e w5 ⟨rfl, hb⟩; refine ⟨_, rfl, ?_⟩; replace HB := a_ (below_step hB_ hb); (try clear hb); (try clear hb2); (try clear hk); (try clear hi)))
 (try simp only [Act.put, List.setIfInBounds_toArray, List.set_cons_zero, List.set_cons_succ])
 go_cut [52] (fun v1 wc => ∃ (kq : Nat) (x2 : Bool), v1 = .bool x2 ∧ Aside0 (term_cut.j0 kq t2 t3 t5 x2 = some (r1, r2, r3, r4, r5)) ∧ Aside0 (kq ≤ k) ∧ Aside0 (Below w.heap.size w wc))
 case first =>
  have H := HC12.out
  clear HC12
  by_cases c16 : t5 = true
  case neg =>
   replace c16 := Bool.eq_false_iff.mpr c16
   subst c16
   rw [if_neg (show ¬ (false = true) by decide)] at H
   have H' := a_ H
   clear H
   go_wp2
   go_meet
   case rel => exact ⟨_, (true), hW_, H', ⟨by first | omega | exact Nat.le_refl _⟩, ⟨hC_⟩⟩
  subst c16
  rw [if_pos rfl] at H
  replace H := Option.bind_eq_some_iff.mp H
  obtain ⟨t10, A170, H⟩ := H
  try dsimp only at H
  have A17 := a_ A170
  clear A170
  have H' := a_ H
  clear H
  go_wp2_with (first | (go_at_call 53; (with_reducible refine (strings_HasPrefix.calls t2 (⟨#[40]⟩ : ByteArray) t10 _ A17.out).mono ?_); rintro e w' ⟨rfl, ⟨nd, rfl⟩⟩))
  go_meet
  case rel => exact ⟨_, (!t10), hW_, H', ⟨by first | omega | exact Nat.le_refl _⟩, ⟨hC_⟩⟩
 case rest =>
  clear HC12
  try clear c1
  try clear p2
  try clear c3
  try clear c3b0
  try clear c3b1
  try clear c4
  try clear c5
  try clear c5b0
  try clear c5b1
  try clear c8
  try clear c16
  obtain ⟨kq, x2, rfl, HA, HJ11, HB⟩ := hcut
  cases kq with
  | zero => exact absurd HA.out (by simp [term_cut.j0])
  | succ kj11 =>
   have H := HA.out
   clear HA
   simp only [term_cut.j0] at H
   by_cases c18 : x2 = true
   case pos =>
    subst c18
    rw [if_pos rfl] at H
    simp only [Option.some.injEq, Prod.mk.injEq] at H
    obtain ⟨rfl, rfl, rfl, rfl, rfl⟩ := H
    go_wp2
    refine bodyPost_ret (results_list (rs := [.tmp 2, .tmp 3, .tmp 4, .tmp 5, .tmp 6]) rfl (by simp) (.tmp (.tmp (.tmp (.tmp (.tmp .nil)))))) rfl ?_
    exact ⟨_, hV_, by first | exact Kd.R_nil _ _ _ _ _ | exact Kd.N_nil _ _ _ _ _ | exact Kd.V_nil _ _ _ _ _ | exact Kd.Q_nil _ _ _ _ _ | exact Kd.S_nil _ _ _ _ _, hC_⟩
   replace c18 := Bool.eq_false_iff.mpr c18
   subst c18
   rw [if_neg (show ¬ (false = true) by decide)] at H
   have H' := a_ H
   clear H
   go_wp2
   go_loopg [8, 13] kj11 (fun kq v8 v2 w' => ∃ (x0 : ByteArray) (x1 : List ByteArray), v8 = .string x0 ∧ Aside0 (term_cut.l0 kq x0 t3 x1 = some (r1, r2, r3, r4, r5)) ∧ Aside0 (kq ≤ kj11) ∧ Aside0 (Kd.R Kd.string 9 w' w.heap.size (fun _ => True) v2 x1) ∧ Aside0 (Below w.heap.size w w'))
   case atStart => exact ⟨(t2), (([] : List ByteArray)), hW_, H', ⟨Nat.le_refl _⟩, ⟨by first | exact Kd.R_nil _ _ _ _ _ | exact Kd.N_nil _ _ _ _ _ | exact Kd.V_nil _ _ _ _ _ | exact Kd.Q_nil _ _ _ _ _ | exact Kd.S_nil _ _ _ _ _⟩, ⟨hC_⟩⟩
   case round =>
    clear H'
    try clear c1
    try clear p2
    try clear c3
    try clear c3b0
    try clear c3b1
    try clear c4
    try clear c5
    try clear c5b0
    try clear c5b1
    try clear c8
    try clear c16
    try clear c18
    try clear p2
    obtain ⟨x0, x1, rfl, HA, HK2, O0, HB⟩ := hrel
    cases gk with
    | zero => exact absurd HA.out (by simp [term_cut.l0])
    | succ k2 =>
     have H := HA.out
     clear HA
     simp only [term_cut.l0] at H
     by_cases c19 : (x1.length : Int) < 3
     case neg =>
      rw [if_neg c19] at H
      have c19b0 : decide ((x1.length : Int) < 3) = false := decide_eq_false c19
      have c19b1 : decide (x1.length < 3) = false := decide_eq_false (by omega)
      clear c19
      replace H := Option.bind_eq_some_iff.mp H
      obtain ⟨⟨t12, t13⟩, A380, H⟩ := H
      try dsimp only at H
      have A38 := a_ A380
      clear A380
      simp only [Option.some.injEq, Prod.mk.injEq] at H
      obtain ⟨rfl, rfl, rfl, rfl, rfl⟩ := H
      obtain ⟨a3, o2, e0⟩ := Kd.R_slice O0.out
      subst e0
      go_wp2_with (first | ((with_reducible refine gate_callee (f := 54) rfl ?_); refine goesL_ _ rfl rfl Tryz.func54 (by kernel_rfl) rfl #[.string x0, .string (⟨#[41]⟩ : ByteArray)] rfl hL_ ?_; (with_reducible refine (strings_CutPrefix.calls x0 (⟨#[41]⟩ : ByteArray) t12 t13 _ A38.out).mono ?_); rintro e w' ⟨rfl, ⟨nd, rfl⟩⟩; refine ⟨_, rfl, ?_⟩))
      refine bodyPost_ret (results_list (rs := [.tmp 2, .tmp 3, .tmp 4, .tmp 5, .tmp 6]) rfl (by simp) (.tmp (.tmp (.tmp (.tmp (.tmp .nil)))))) rfl ?_
      exact ⟨_, hV_, hR_ O0.out, hC_⟩

     rw [if_pos c19] at H
     have c19b0 : decide ((x1.length : Int) < 3) = true := decide_eq_true c19
     have c19b1 : decide (x1.length < 3) = true := decide_eq_true (by omega)
     clear c19
     replace H := ifI_ H; obtain ⟨c20, H⟩ := H
     have c20b0 := eq_true c20
     have c20b1 : decide (1 ≤ (x0.size : Int)) = true := decide_eq_true c20
     clear c20
     replace H := Option.bind_eq_some_iff.mp H
     obtain ⟨⟨t6, t7, t8, t1, t14⟩, A210, H⟩ := H
     try dsimp only at H
     have A21 := a_ A210
     clear A210
     by_cases c22 : t14 = true
     case neg =>
      replace c22 := Bool.eq_false_iff.mpr c22
      subst c22
      rw [if_neg (show ¬ (false = true) by decide)] at H
      simp only [Option.some.injEq, Prod.mk.injEq] at H
      obtain ⟨rfl, rfl, rfl, rfl, rfl⟩ := H
      obtain ⟨a4, o3, e1⟩ := Kd.R_slice O0.out
      subst e1
      go_wp2_with (first | ((with_reducible refine gate_callee (f := 48) rfl ?_); refine goesL_ (some 63) rfl rfl Tryz.func48 (by kernel_rfl) rfl #[.string (x0.extract 1 x0.size)] rfl hL_ ?_; (with_reducible refine (ih k2 (by have := HJ11.out; have := HK2.out; omega) (x0.extract 1 x0.size) t6 t7 t8 t1 false _ A21.out hG_).mono ?_); rintro e w7 ⟨v0, rfl, ho0, hb⟩; refine ⟨_, rfl, ?_⟩; have P0 := a_ (Kd.R_lower (Kd.R_new' ho0 (Kd.R_lt (hR_ O0.out))) hS_); replace O0 := a_ (Kd.R_elder' (hR_ O0.out) (Kd.R_base ho0) hb); replace HB := a_ (below_step hB_ hb); (try clear hb); (try clear hb2); (try clear hk); (try clear hi); (try clear ho0)))
      refine bodyPost_ret (results_list (rs := [.tmp 2, .tmp 3, .tmp 4, .tmp 5, .tmp 6]) rfl (by simp) (.tmp (.tmp (.tmp (.tmp (.tmp .nil)))))) rfl ?_
      exact ⟨_, hV_, by first | exact Kd.R_nil _ _ _ _ _ | exact Kd.N_nil _ _ _ _ _ | exact Kd.V_nil _ _ _ _ _ | exact Kd.Q_nil _ _ _ _ _ | exact Kd.S_nil _ _ _ _ _, hC_⟩
     subst c22
     rw [if_pos rfl] at H
     obtain ⟨ji23, hji23⟩ : ∃ j_ : Int, (wrap64 (((x0.extract 1 x0.size).size : Int) - (t1.size : Int))) = j_ := ⟨_, rfl⟩
     replace H : (if 0 ≤ (ji23) then (if (ji23) ≤ ((x0.extract 1 x0.size).size : Int) then (if x1.length < 8796093022208 then ((some (x1 ++ [(x0.extract 1 x0.size).extract 0 ((ji23) : Int).toNat] : List ByteArray)).bind fun y0 => ((strings_HasPrefix.f t1 (⟨#[32]⟩ : ByteArray)).bind fun t4 => (if t4 = true then (term_cut.l0 k2 t1 t3 y0) else ((strings_CutPrefix.f t1 (⟨#[41]⟩ : ByteArray)).bind fun bt145 => (some (2, t3, y0, bt145.1, bt145.2)))))) else (none)) else (none)) else (none)) = some (r1, r2, r3, r4, r5) := by first | (rw [hji23] at H; exact H) | (simp only [hji23] at H ⊢; exact H)
     (try rw [hji23] at A21)
     have hji23w : (IntKind.i64.wrap (((x0.extract 1 x0.size).size : Int) - (t1.size : Int))) = ji23 := (i64_w _).trans hji23
     (try (have hji23s := hji23; simp only [ByteArray.size_extract, Nat.min_self] at hji23s; have hji23sw := hji23w; simp only [ByteArray.size_extract, Nat.min_self] at hji23sw))
     replace H := ifI_ H; obtain ⟨c24, H⟩ := H
     have c24b0 := eq_true c24
     have c24b1 : decide (0 ≤ (ji23)) = true := decide_eq_true c24
     clear c24
     replace H := ifI_ H; obtain ⟨c25, H⟩ := H
     have c25b0 := eq_true c25
     (try (have c25b0s := c25b0; simp only [ByteArray.size_extract, Nat.min_self] at c25b0s))
     have c25b1 : decide ((ji23) ≤ ((x0.extract 1 x0.size).size : Int)) = true := decide_eq_true c25
     (try (have c25b1s := c25b1; simp only [ByteArray.size_extract, Nat.min_self] at c25b1s))
     clear c25
     replace H := ifI_ H; obtain ⟨c26, H⟩ := H
     have LMc26 := a_ c26
     clear c26
     obtain ⟨y0, i0⟩ : ∃ y_ : List ByteArray, y_ = (x1 ++ [(x0.extract 1 x0.size).extract 0 ((ji23) : Int).toNat]) := ⟨_, rfl⟩
     replace H : ((strings_HasPrefix.f t1 (⟨#[32]⟩ : ByteArray)).bind fun t4 => (if t4 = true then (term_cut.l0 k2 t1 t3 y0) else ((strings_CutPrefix.f t1 (⟨#[41]⟩ : ByteArray)).bind fun bt145 => (some (2, t3, y0, bt145.1, bt145.2))))) = some (r1, r2, r3, r4, r5) := by first | (rw [i0]; with_reducible exact H) | (have H2_ := (Option.bind_some _ _).symm.trans H; rw [i0]; with_reducible exact H2_) | (have H2_ := (Option.bind_some _ _).symm.trans H; with_reducible exact H2_) | with_reducible exact H | (rw [i0]; exact H) | exact H
     have Y0 := a_ i0
     clear i0
     replace H := Option.bind_eq_some_iff.mp H
     obtain ⟨t4, A270, H⟩ := H
     try dsimp only at H
     have A27 := a_ A270
     clear A270
     by_cases c28 : t4 = true
     case pos =>
      subst c28
      rw [if_pos rfl] at H
      have H' := a_ H
      clear H
      obtain ⟨a1, o0, e2⟩ := Kd.R_slice O0.out
      subst e2
      go_wp2_with (first | ((with_reducible refine gate_callee (f := 48) rfl ?_); refine goesL_ (some 63) rfl rfl Tryz.func48 (by kernel_rfl) rfl #[.string (x0.extract 1 x0.size)] rfl hL_ ?_; (with_reducible refine (ih k2 (by have := HJ11.out; have := HK2.out; omega) (x0.extract 1 x0.size) t6 t7 t8 t1 true _ A21.out hG_).mono ?_); rintro e w8 ⟨v0, rfl, ho0, hb⟩; refine ⟨_, rfl, ?_⟩; have P0 := a_ (Kd.R_lower (Kd.R_new' ho0 (Kd.R_lt (hR_ O0.out))) hS_); replace O0 := a_ (Kd.R_elder' (hR_ O0.out) (Kd.R_base ho0) hb); replace HB := a_ (below_step hB_ hb); (try clear hb); (try clear hb2); (try clear hk); (try clear hi); (try clear ho0)) | ((with_reducible refine gate_builtin (b := .append) (xs := #[.tmp 71, .tmp 79]) rfl ?_); at_builtin; refine Kd.R_append Kd.string (w0 := w) w.heap.size rfl (.tmp 71) (.tmp 79) 38 9 (.string ⟨#[]⟩) 16 rfl Tryz.underlying38 info9 rfl (by decide) (by omega) (.slice a1 x1.length o0) x1 ((x0.extract 1 x0.size).extract 0 ((ji23) : Int).toNat) [.string ((x0.extract 1 x0.size).extract 0 ((ji23) : Int).toNat)] (fun k_ => some k_ ≠ (v0 : Value).ownBlock) (fun _ => False) rfl rfl ?aP (fun _ hk => hk.elim) ?aF ?aO ?aB ?aS ?aL ?_; (case aP => exact rfl); (case aB => exact hB_); (case aF => exact (fun k_ hk => Kd.fresh' (Kd.R_lt (hR_ P0.out)) k_ hk)); (case aO => exact (by (with_reducible repeat (first | apply Kd.R_alloc | apply Kd.R_drewN | apply Kd.R_drew)); exact Kd.R_mono O0.out (fun _ hk => hk.2))); (case aS => exact hS_); (case aL => have := LMc26.out; omega); intro v3 w31 ho hb hg hat; rw [← Y0.out] at ho; replace P0 := a_ (Kd.R_after (ok := (fun _ => True)) (hR_ P0.out) hg hat); replace HB := a_ (hb); have P1 := a_ (ho); clear O0; clear ho hb hg hat) | ((with_reducible refine gate_callee (f := 53) rfl ?_); refine goesL_ _ rfl rfl Tryz.func53 (by kernel_rfl) rfl #[.string t1, .string (⟨#[32]⟩ : ByteArray)] rfl hL_ ?_; (with_reducible refine (strings_HasPrefix.calls t1 (⟨#[32]⟩ : ByteArray) true _ A27.out).mono ?_); rintro e w' ⟨rfl, ⟨nd, rfl⟩⟩; refine ⟨_, rfl, ?_⟩))
      go_roundg k2
      case measure => have := HJ11.out; have := HK2.out; omega
      case rel => exact ⟨(t1), (y0), hW_, H', ⟨by have := HJ11.out; have := HK2.out; omega⟩, ⟨hR_ (Kd.R_mono P1.out (fun _ hk => trivial))⟩, ⟨hC_⟩⟩
     replace c28 := Bool.eq_false_iff.mpr c28
     subst c28
     rw [if_neg (show ¬ (false = true) by decide)] at H
     replace H := Option.bind_eq_some_iff.mp H
     obtain ⟨⟨t15, t16⟩, A320, H⟩ := H
     try dsimp only at H
     have A32 := a_ A320
     clear A320
     simp only [Option.some.injEq, Prod.mk.injEq] at H
     obtain ⟨rfl, rfl, rfl, rfl, rfl⟩ := H
     obtain ⟨a2, o1, e3⟩ := Kd.R_slice O0.out
     subst e3
     go_wp2_with (first | ((with_reducible refine gate_callee (f := 48) rfl ?_); refine goesL_ (some 63) rfl rfl Tryz.func48 (by kernel_rfl) rfl #[.string (x0.extract 1 x0.size)] rfl hL_ ?_; (with_reducible refine (ih k2 (by have := HJ11.out; have := HK2.out; omega) (x0.extract 1 x0.size) t6 t7 t8 t1 true _ A21.out hG_).mono ?_); rintro e w34 ⟨v0, rfl, ho0, hb⟩; refine ⟨_, rfl, ?_⟩; have P0 := a_ (Kd.R_lower (Kd.R_new' ho0 (Kd.R_lt (hR_ O0.out))) hS_); replace O0 := a_ (Kd.R_elder' (hR_ O0.out) (Kd.R_base ho0) hb); replace HB := a_ (below_step hB_ hb); (try clear hb); (try clear hb2); (try clear hk); (try clear hi); (try clear ho0)) | ((with_reducible refine gate_builtin (b := .append) (xs := #[.tmp 71, .tmp 79]) rfl ?_); at_builtin; refine Kd.R_append Kd.string (w0 := w) w.heap.size rfl (.tmp 71) (.tmp 79) 38 9 (.string ⟨#[]⟩) 16 rfl Tryz.underlying38 info9 rfl (by decide) (by omega) (.slice a2 x1.length o1) x1 ((x0.extract 1 x0.size).extract 0 ((ji23) : Int).toNat) [.string ((x0.extract 1 x0.size).extract 0 ((ji23) : Int).toNat)] (fun k_ => some k_ ≠ (v0 : Value).ownBlock) (fun _ => False) rfl rfl ?aP (fun _ hk => hk.elim) ?aF ?aO ?aB ?aS ?aL ?_; (case aP => exact rfl); (case aB => exact hB_); (case aF => exact (fun k_ hk => Kd.fresh' (Kd.R_lt (hR_ P0.out)) k_ hk)); (case aO => exact (by (with_reducible repeat (first | apply Kd.R_alloc | apply Kd.R_drewN | apply Kd.R_drew)); exact Kd.R_mono O0.out (fun _ hk => hk.2))); (case aS => exact hS_); (case aL => have := LMc26.out; omega); intro v3 w35 ho hb hg hat; rw [← Y0.out] at ho; replace P0 := a_ (Kd.R_after (ok := (fun _ => True)) (hR_ P0.out) hg hat); replace HB := a_ (hb); have P1 := a_ (ho); clear O0; clear ho hb hg hat) | ((with_reducible refine gate_callee (f := 53) rfl ?_); refine goesL_ _ rfl rfl Tryz.func53 (by kernel_rfl) rfl #[.string t1, .string (⟨#[32]⟩ : ByteArray)] rfl hL_ ?_; (with_reducible refine (strings_HasPrefix.calls t1 (⟨#[32]⟩ : ByteArray) false _ A27.out).mono ?_); rintro e w' ⟨rfl, ⟨nd, rfl⟩⟩; refine ⟨_, rfl, ?_⟩) | ((with_reducible refine gate_callee (f := 54) rfl ?_); refine goesL_ _ rfl rfl Tryz.func54 (by kernel_rfl) rfl #[.string t1, .string (⟨#[41]⟩ : ByteArray)] rfl hL_ ?_; (with_reducible refine (strings_CutPrefix.calls t1 (⟨#[41]⟩ : ByteArray) t15 t16 _ A32.out).mono ?_); rintro e w' ⟨rfl, ⟨nd, rfl⟩⟩; refine ⟨_, rfl, ?_⟩))
     refine bodyPost_ret (results_list (rs := [.tmp 2, .tmp 3, .tmp 4, .tmp 5, .tmp 6]) rfl (by simp) (.tmp (.tmp (.tmp (.tmp (.tmp .nil)))))) rfl ?_
     exact ⟨_, by first | rfl | (simp [errW_none, errW_some] <;> rfl) | (simp only [← hji23]; first | rfl | (simp [errW_none, errW_some] <;> rfl)) | (simp [*, errW_none, errW_some] <;> rfl), hR_ (Kd.R_mono P1.out (fun _ hk => trivial)), hC_⟩
set_option maxHeartbeats 8000000
set_option maxRecDepth 100000
attribute [local go_sem] max2_int min2_int max_two min_two max_three min_three max_four min_four   -- for this text's walks alone
set_option linter.unusedVariables false
set_option linter.unusedSimpArgs false

def term_May.f (k : Nat) (a0 : ByteArray) : Option (Bool) := if (a0.size : Int) > 1024 then (some false) else ((term_cut.f k a0).bind fun bt147 => (if bt147.2.2.2.2 = true then (some (bt147.2.2.2.1.toList == ([] : List UInt8))) else (some false)))
theorem term_May.calls (k : Nat) (a0 : ByteArray) (r : Bool) (w : World) (h : term_May.f k a0 = some r) (hG : GOK w) :
 Calls Tryz.prog 46 #[.string a0] w fun e w' => e = .returned (.bool r) ∧ Below w.heap.size w w' := by
 have HB := a_ (Below.refl w.heap.size w)
 have H := h; unfold term_May.f at H
 clear h
 by_cases c2 : (a0.size : Int) > 1024
 case pos =>
  rw [if_pos c2] at H
  have c2b0 : decide (1024 < (a0.size : Int)) = true := decide_eq_true c2
  have c2b1 : decide (1024 < a0.size) = true := decide_eq_true (by omega)
  clear c2
  obtain rfl := Option.some.inj H
  go_enter Tryz.func46, Tryz.ntmps46
  go_wp2
  go_ret
  exact ⟨hV_, hC_⟩
 rw [if_neg c2] at H
 have c2b0 : decide (1024 < (a0.size : Int)) = false := decide_eq_false c2
 have c2b1 : decide (1024 < a0.size) = false := decide_eq_false (by omega)
 clear c2
 replace H := Option.bind_eq_some_iff.mp H
 obtain ⟨⟨t0, t1, t2, t3, t4⟩, A30, H⟩ := H
 try dsimp only at H
 have A3 := a_ A30
 clear A30
 by_cases c4 : t4 = true
 case pos =>
  subst c4
  rw [if_pos rfl] at H
  obtain rfl := Option.some.inj H
  go_enter Tryz.func46, Tryz.ntmps46
  go_wp2_with (first | ((with_reducible refine gate_callee (f := 48) rfl ?_); refine goesL_ (some 13) rfl rfl Tryz.func48 (by kernel_rfl) rfl #[.string a0] rfl hL_ ?_; (with_reducible refine (term_cut.calls k a0 t0 t1 t2 t3 true _ A3.out hG_).mono ?_); rintro e w5 ⟨v0, rfl, ho0, hb⟩; refine ⟨_, rfl, ?_⟩; have P0 := a_ (Kd.R_lower ho0 hS_); replace HB := a_ (below_step hB_ hb); (try clear hb); (try clear hb2); (try clear hk); (try clear hi); (try clear ho0)))
  go_ret
  exact ⟨hV_, hC_⟩
 replace c4 := Bool.eq_false_iff.mpr c4
 subst c4
 rw [if_neg (show ¬ (false = true) by decide)] at H
 obtain rfl := Option.some.inj H
 go_enter Tryz.func46, Tryz.ntmps46
 go_wp2_with (first | ((with_reducible refine gate_callee (f := 48) rfl ?_); refine goesL_ (some 13) rfl rfl Tryz.func48 (by kernel_rfl) rfl #[.string a0] rfl hL_ ?_; (with_reducible refine (term_cut.calls k a0 t0 t1 t2 t3 false _ A3.out hG_).mono ?_); rintro e w6 ⟨v0, rfl, ho0, hb⟩; refine ⟨_, rfl, ?_⟩; have P0 := a_ (Kd.R_lower ho0 hS_); replace HB := a_ (below_step hB_ hb); (try clear hb); (try clear hb2); (try clear hk); (try clear hi); (try clear ho0)))
 go_ret
 exact ⟨hV_, hC_⟩

def term_All.l0 : Nat → List ByteArray → Int → Int → Option (Bool)
 | 0, _, _, _ => none
 | k + 1, x5, x6, x7 => if x7 < x6 then (if 0 ≤ x7 then (if x7 < (x5.length : Int) then ((term_May.f k (rdOf ByteArray.empty x5 x7)).bind fun t155 => (if t155 = true then (term_All.l0 k x5 x6 (wrap64 (x7 + 1))) else (some false))) else (none)) else (none)) else (some true)
def term_All.f (k : Nat) (l0 : List ByteArray) : Option (Bool) := term_All.l0 k l0 (l0.length : Int) 0
theorem term_All.calls (k : Nat) (A0 : Option Addr) (c0 : Nat) (l0 : List ByteArray) (r : Bool) (w : World) (hr0 : Kd.C Kd.string w A0 l0.length l0) (hc0 : l0.length ≤ c0) (h : term_All.f k l0 = some r) (hG : GOK w) :
 Calls Tryz.prog 45 #[.slice A0 l0.length c0] w fun e w' => e = .returned (.bool r) ∧ Below w.heap.size w w' := by
 have HR0 := a_ hr0
 have HC0 := a_ hc0
 clear hr0 hc0
 have HB := a_ (Below.refl w.heap.size w)
 have H : (term_All.l0 k l0 (l0.length : Int) 0) = some r := h
 clear h
 have H' := a_ H
 clear H
 go_enter Tryz.func45, Tryz.ntmps45
 go_wp2
 go_loopg [7] k (fun kq v7 w' => ∃ (x0 : Int), v7 = .int .i64 x0 ∧ Aside0 (term_All.l0 kq l0 (l0.length : Int) x0 = some r) ∧ Aside0 (kq ≤ k) ∧ Aside0 (Below w.heap.size w w'))
 case atStart => exact ⟨(0), hW_, H', ⟨Nat.le_refl _⟩, ⟨hC_⟩⟩
 case round =>
  clear H'
  obtain ⟨x0, rfl, HA, HK1, HB⟩ := hrel
  cases gk with
  | zero => exact absurd HA.out (by simp [term_All.l0])
  | succ k1 =>
   have H := HA.out
   clear HA
   simp only [term_All.l0] at H
   by_cases c2 : x0 < (l0.length : Int)
   case neg =>
    rw [if_neg c2] at H
    have c2b0 : decide (x0 < (l0.length : Int)) = false := decide_eq_false c2
    clear c2
    obtain rfl := Option.some.inj H
    go_wp2
    go_ret
    exact ⟨hV_, hC_⟩

   rw [if_pos c2] at H
   have c2b0 : decide (x0 < (l0.length : Int)) = true := decide_eq_true c2
   clear c2
   replace H := ifI_ H; obtain ⟨c3, H⟩ := H
   have c3b0 : decide (0 ≤ x0) = true := decide_eq_true c3
   clear c3
   replace H := ifI_ H; obtain ⟨c4, H⟩ := H
   have c4b0 : decide (x0 < (l0.length : Int)) = true := decide_eq_true c4
   clear c4
   replace H := Option.bind_eq_some_iff.mp H
   obtain ⟨t0, A50, H⟩ := H
   try dsimp only at H
   have A5 := a_ A50
   clear A50
   by_cases c6 : t0 = true
   case neg =>
    replace c6 := Bool.eq_false_iff.mpr c6
    subst c6
    rw [if_neg (show ¬ (false = true) by decide)] at H
    obtain rfl := Option.some.inj H
    have p154 : 0 ≤ (x0 : Int) := of_decide_eq_true hA_
    have q154 : x0 < (l0.length : Int) := of_decide_eq_true hA_
    obtain ⟨d0, e154, h0⟩ := Kd.at_string HR0.out x0 p154 q154
    cases e154
    replace h0 := cl_ HB.out h0
    replace p154 := eq_true p154
    replace q154 := eq_true q154
    go_wp2_with (first | ((with_reducible refine gate_callee (f := 46) rfl ?_); refine goesL_ (some 12) rfl rfl Tryz.func46 (by kernel_rfl) rfl #[.string (rdOf ByteArray.empty l0 x0)] rfl hL_ ?_; (with_reducible refine (term_May.calls k1 (rdOf ByteArray.empty l0 x0) false _ A5.out hG_).mono ?_); rintro e w8 ⟨rfl, hb⟩; refine ⟨_, rfl, ?_⟩; replace HB := a_ (below_step hB_ hb); (try clear hb); (try clear hb2); (try clear hk); (try clear hi)))
    go_ret
    exact ⟨hV_, hC_⟩
   subst c6
   rw [if_pos rfl] at H
   have H' := a_ H
   clear H
   have p154 : 0 ≤ (x0 : Int) := of_decide_eq_true hA_
   have q154 : x0 < (l0.length : Int) := of_decide_eq_true hA_
   obtain ⟨d0, e154, h0⟩ := Kd.at_string HR0.out x0 p154 q154
   cases e154
   replace h0 := cl_ HB.out h0
   replace p154 := eq_true p154
   replace q154 := eq_true q154
   go_wp2_with (first | ((with_reducible refine gate_callee (f := 46) rfl ?_); refine goesL_ (some 12) rfl rfl Tryz.func46 (by kernel_rfl) rfl #[.string (rdOf ByteArray.empty l0 x0)] rfl hL_ ?_; (with_reducible refine (term_May.calls k1 (rdOf ByteArray.empty l0 x0) true _ A5.out hG_).mono ?_); rintro e w7 ⟨rfl, hb⟩; refine ⟨_, rfl, ?_⟩; replace HB := a_ (below_step hB_ hb); (try clear hb); (try clear hb2); (try clear hk); (try clear hi)))
   go_roundg k1
   case measure => have := HK1.out; omega
   case rel => exact ⟨(wrap64 (x0 + 1)), hW_, H', ⟨by have := HK1.out; omega⟩, ⟨hC_⟩⟩
set_option maxHeartbeats 8000000
set_option maxRecDepth 100000
attribute [local go_sem] max2_int min2_int max_two min_two max_three min_three max_four min_four   -- for this text's walks alone
set_option linter.unusedVariables false
set_option linter.unusedSimpArgs false

def trail_Equation.f (k : Nat) (x0 : Int) (x1 : Int) (l2 : List ByteArray) (x3 : ByteArray) : Option Bool := if 0 ≤ x0 then (if x0 < 8 then (if (l2.length : Int) ≤ 3 then ((term_All.f k l2).bind fun t => if t = true then term_May.f k x3 else some false) else some false) else some false) else some false
theorem trail_Equation.calls (k : Nat) (ad : Addr) (x0 : Int) (x1 : Int) (A2 : Option Addr) (c2_ : Nat) (l2 : List ByteArray) (x3 : ByteArray) (r : Bool) (w : World)
 (h0 : w.cell? ad = some (.int .i64 x0)) (h2 : w.cell? ⟨ad.block, ad.off + 2, none⟩ = some (.slice A2 l2.length c2_)) (h3 : w.cell? ⟨ad.block, ad.off + 3, none⟩ = some (.string x3))
 (hr2 : Kd.C Kd.string w A2 l2.length l2) (hc2 : l2.length ≤ c2_) (h : trail_Equation.f k x0 x1 l2 x3 = some r) (hG : GOK w) :
 Calls Tryz.prog 42 #[.pointer (some ad)] w fun e w' => e = .returned (.bool r) ∧ Below w.heap.size w w' := by
 have HR := a_ hr2
 have HC := a_ hc2
 clear hr2 hc2
 have HB := a_ (Below.refl w.heap.size w)
 unfold trail_Equation.f at h
 by_cases c1 : 0 ≤ x0
 case neg =>
  rw [if_neg c1] at h
  have c1b := decide_eq_false c1
  clear c1
  obtain rfl := Option.some.inj h
  go_enter Tryz.func42, Tryz.ntmps42
  go_wp2
  go_ret
  exact ⟨rfl, by repeat (first | exact HB.out | apply below_alloc | apply pw_below_drewN | apply below_drew1)⟩

 rw [if_pos c1] at h
 have c1b := decide_eq_true c1
 have c1c := eq_true c1
 clear c1
 by_cases c2 : x0 < 8
 case neg =>
  rw [if_neg c2] at h
  have c2b := decide_eq_false c2
  clear c2
  obtain rfl := Option.some.inj h
  go_enter Tryz.func42, Tryz.ntmps42
  go_wp2
  go_ret
  exact ⟨rfl, by repeat (first | exact HB.out | apply below_alloc | apply pw_below_drewN | apply below_drew1)⟩
 rw [if_pos c2] at h
 have c2b := decide_eq_true c2
 have c2c := eq_true c2
 clear c2
 by_cases c3 : (l2.length : Int) ≤ 3
 case neg =>
  rw [if_neg c3] at h
  have c3b := decide_eq_false c3
  clear c3
  obtain rfl := Option.some.inj h
  go_enter Tryz.func42, Tryz.ntmps42
  go_wp2
  go_ret
  exact ⟨rfl, by repeat (first | exact HB.out | apply below_alloc | apply pw_below_drewN | apply below_drew1)⟩
 rw [if_pos c3] at h
 have c3b := decide_eq_true c3
 have c3c := eq_true c3
 clear c3
 obtain ⟨t, A1, h⟩ := Option.bind_eq_some_iff.mp h
 have A1 := a_ A1
 cases t with
 | true =>
  have A3 := a_ (show term_May.f k x3 = some r from h)
  clear h
  go_enter Tryz.func42, Tryz.ntmps42
  go_wp2_with (first | (go_at_call 45; (with_reducible refine (term_All.calls k A2 c2_ l2 true _ HR.out HC.out A1.out (by first | exact hG | exact GOK.below hG (by repeat (first | exact HB.out | apply below_alloc | apply pw_below_drewN | apply below_drew1)))).mono ?_); rintro e w6 ⟨rfl, hb⟩; have h3_ := (hb.cell (World.block_lt_of_cell? w _ h3)).trans h3; have n1_ := a_ (below_step (by repeat (first | exact HB.out | apply below_alloc | apply pw_below_drewN | apply below_drew1)) hb); clear HB hb; have HB := n1_; clear n1_) | (go_at_call 46; (with_reducible refine (term_May.calls k x3 r _ A3.out (by first | exact hG | exact GOK.below hG (by repeat (first | exact HB.out | apply below_alloc | apply pw_below_drewN | apply below_drew1)))).mono ?_); rintro e w7 ⟨rfl, hb⟩; have n1_ := a_ (below_step (by repeat (first | exact HB.out | apply below_alloc | apply pw_below_drewN | apply below_drew1)) hb); clear HB hb; have HB := n1_; clear n1_))
  go_ret
  exact ⟨rfl, by repeat (first | exact HB.out | apply below_alloc | apply pw_below_drewN | apply below_drew1)⟩
 | false =>
  obtain rfl := Option.some.inj (show some false = some r from h)
  clear h
  go_enter Tryz.func42, Tryz.ntmps42
  go_wp2_with (first | (go_at_call 45; (with_reducible refine (term_All.calls k A2 c2_ l2 false _ HR.out HC.out A1.out (by first | exact hG | exact GOK.below hG (by repeat (first | exact HB.out | apply below_alloc | apply pw_below_drewN | apply below_drew1)))).mono ?_); rintro e w6 ⟨rfl, hb⟩; have n1_ := a_ (below_step (by repeat (first | exact HB.out | apply below_alloc | apply pw_below_drewN | apply below_drew1)) hb); clear HB hb; have HB := n1_; clear n1_))
  go_ret
  exact ⟨rfl, by repeat (first | exact HB.out | apply below_alloc | apply pw_below_drewN | apply below_drew1)⟩
set_option maxHeartbeats 8000000
set_option maxRecDepth 100000
attribute [local go_sem] max2_int min2_int max_two min_two max_three min_three max_four min_four   -- for this text's walks alone
set_option linter.unusedVariables false
set_option linter.unusedSimpArgs false

def trail_Next.f (k : Nat) (x0 : Int) (x1 : Int) (l2 : List ByteArray) (x3 : ByteArray) (a1 : Int) : Option Bool := if a1 < 512 then (if (0 ≤ x1 ∧ x1 < a1) ∨ (a1 = 0 ∧ x1 = -1) then trail_Equation.f k x0 x1 l2 x3 else some false) else some false
theorem trail_Next.calls (k : Nat) (ad : Addr) (x0 : Int) (x1 : Int) (A2 : Option Addr) (c2_ : Nat) (l2 : List ByteArray) (x3 : ByteArray) (a1 : Int) (r : Bool) (w : World)
 (h0 : w.cell? ad = some (.int .i64 x0)) (h1 : w.cell? ⟨ad.block, ad.off + 1, none⟩ = some (.int .i64 x1)) (h2 : w.cell? ⟨ad.block, ad.off + 2, none⟩ = some (.slice A2 l2.length c2_)) (h3 : w.cell? ⟨ad.block, ad.off + 3, none⟩ = some (.string x3))
 (hr2 : Kd.C Kd.string w A2 l2.length l2) (hc2 : l2.length ≤ c2_) (h : trail_Next.f k x0 x1 l2 x3 a1 = some r) (hG : GOK w) :
 Calls Tryz.prog 36 #[.pointer (some ad), .int .i64 a1] w fun e w' => e = .returned (.bool r) ∧ Below w.heap.size w w' := by
 have HR := a_ hr2
 have HC := a_ hc2
 have H2 := a_ h2
 have H3 := a_ h3
 clear hr2 hc2 h2 h3
 have HB := a_ (Below.refl w.heap.size w)
 unfold trail_Next.f at h
 by_cases c1 : a1 < 512
 case neg =>
  rw [if_neg c1] at h
  obtain rfl := Option.some.inj h
  clear h
  have c1b := decide_eq_false c1
  clear c1
  by_cases d1 : 0 ≤ x1
  case neg =>
   have e1 := decide_eq_false d1
   have e3 : (a1 == 0) = false := beq_eq_false_iff_ne.mpr (fun e => by subst e; simp at c1b)
   clear d1
   go_enter Tryz.func36, Tryz.ntmps36
   go_wp2
   go_ret
   exact ⟨rfl, by repeat (first | exact HB.out | apply below_alloc | apply pw_below_drewN | apply below_drew1)⟩

  by_cases d2 : x1 < a1
  case pos =>
   have e1 := decide_eq_true d1
   have e2 := decide_eq_true d2
   clear d1 d2
   go_enter Tryz.func36, Tryz.ntmps36
   go_wp2
   go_ret
   exact ⟨rfl, by repeat (first | exact HB.out | apply below_alloc | apply pw_below_drewN | apply below_drew1)⟩
  have e1 := decide_eq_true d1
  have e2 := decide_eq_false d2
  have e3 : (a1 == 0) = false := beq_eq_false_iff_ne.mpr (fun e => by subst e; simp at c1b)
  clear d1 d2
  go_enter Tryz.func36, Tryz.ntmps36
  go_wp2
  go_ret
  exact ⟨rfl, by repeat (first | exact HB.out | apply below_alloc | apply pw_below_drewN | apply below_drew1)⟩
 rw [if_pos c1] at h
 have c1b := decide_eq_true c1
 clear c1
 by_cases c2 : (0 ≤ x1 ∧ x1 < a1) ∨ (a1 = 0 ∧ x1 = -1)
 case pos =>
  rw [if_pos c2] at h
  have A1 := a_ h
  clear h
  rcases c2 with ⟨c2, c3⟩ | ⟨c2, c3⟩
  · have c2b := decide_eq_true c2
    have c3b := decide_eq_true c3
    clear c2 c3
    go_enter Tryz.func36, Tryz.ntmps36
    go_wp2_with (go_at_call 42; (with_reducible refine (trail_Equation.calls k ad x0 x1 A2 c2_ l2 x3 r _ h0 H2.out H3.out HR.out HC.out A1.out (by first | exact hG | exact GOK.below hG (by repeat (first | exact HB.out | apply below_alloc | apply pw_below_drewN | apply below_drew1)))).mono ?_); rintro e w6 ⟨rfl, hb⟩; have n1_ := a_ (below_step (by repeat (first | exact HB.out | apply below_alloc | apply pw_below_drewN | apply below_drew1)) hb); clear HB hb; have HB := n1_; clear n1_)
    go_ret
    exact ⟨rfl, by repeat (first | exact HB.out | apply below_alloc | apply pw_below_drewN | apply below_drew1)⟩
  · have c2b : (a1 == 0) = true := beq_iff_eq.mpr c2
    have c3b : (x1 == -1) = true := beq_iff_eq.mpr c3
    have c4b : decide (0 ≤ x1) = false := decide_eq_false (by omega)
    clear c2 c3
    go_enter Tryz.func36, Tryz.ntmps36
    go_wp2_with (go_at_call 42; (with_reducible refine (trail_Equation.calls k ad x0 x1 A2 c2_ l2 x3 r _ h0 H2.out H3.out HR.out HC.out A1.out (by first | exact hG | exact GOK.below hG (by repeat (first | exact HB.out | apply below_alloc | apply pw_below_drewN | apply below_drew1)))).mono ?_); rintro e w6 ⟨rfl, hb⟩; have n1_ := a_ (below_step (by repeat (first | exact HB.out | apply below_alloc | apply pw_below_drewN | apply below_drew1)) hb); clear HB hb; have HB := n1_; clear n1_)
    go_ret
    exact ⟨rfl, by repeat (first | exact HB.out | apply below_alloc | apply pw_below_drewN | apply below_drew1)⟩
 rw [if_neg c2] at h
 obtain rfl := Option.some.inj h
 clear h
 by_cases d1 : 0 ≤ x1
 case neg =>
  by_cases d3 : a1 = 0
  case neg =>
   have e1 := decide_eq_false d1
   have e3 : (a1 == 0) = false := beq_eq_false_iff_ne.mpr d3
   clear d1 d3 c2
   go_enter Tryz.func36, Tryz.ntmps36
   go_wp2
   go_ret
   exact ⟨rfl, by repeat (first | exact HB.out | apply below_alloc | apply pw_below_drewN | apply below_drew1)⟩
  have d4 : ¬ x1 = -1 := fun e => c2 (.inr ⟨d3, e⟩)
  have e1 := decide_eq_false d1
  have e3 : (a1 == 0) = true := beq_iff_eq.mpr d3
  have e4 : (x1 == -1) = false := beq_eq_false_iff_ne.mpr d4
  clear d1 d3 d4 c2
  go_enter Tryz.func36, Tryz.ntmps36
  go_wp2
  go_ret
  exact ⟨rfl, by repeat (first | exact HB.out | apply below_alloc | apply pw_below_drewN | apply below_drew1)⟩
 have d2 : ¬ x1 < a1 := fun e => c2 (.inl ⟨d1, e⟩)
 by_cases d3 : a1 = 0
 case neg =>
  have e1 := decide_eq_true d1
  have e2 := decide_eq_false d2
  have e3 : (a1 == 0) = false := beq_eq_false_iff_ne.mpr d3
  clear d1 d2 d3 c2
  go_enter Tryz.func36, Tryz.ntmps36
  go_wp2
  go_ret
  exact ⟨rfl, by repeat (first | exact HB.out | apply below_alloc | apply pw_below_drewN | apply below_drew1)⟩
 have d4 : ¬ x1 = -1 := by omega
 have e1 := decide_eq_true d1
 have e2 := decide_eq_false d2
 have e3 : (a1 == 0) = true := beq_iff_eq.mpr d3
 have e4 : (x1 == -1) = false := beq_eq_false_iff_ne.mpr d4
 clear d1 d2 d3 d4 c2
 go_enter Tryz.func36, Tryz.ntmps36
 go_wp2
 go_ret
 exact ⟨rfl, by repeat (first | exact HB.out | apply below_alloc | apply pw_below_drewN | apply below_drew1)⟩
set_option maxHeartbeats 8000000
set_option maxRecDepth 100000
attribute [local go_sem] max2_int min2_int max_two min_two max_three min_three max_four min_four   -- for this text's walks alone
set_option linter.unusedVariables false
set_option linter.unusedSimpArgs false

def trail_May.l0 : Nat → List S40 → Int → Option Bool
 | 0, _, _ => none
 | k + 1, x0, x1 => if x1 < (x0.length : Int) then (if 0 ≤ x1 then ((trail_Next.f k (rd_T40 x0 x1).f0 (rd_T40 x0 x1).f1 (rd_T40 x0 x1).f2 (rd_T40 x0 x1).f3 x1).bind fun t => if t = true then trail_May.l0 k x0 (wrap64 (x1 + 1)) else some false) else none) else some (decide ((x0.length : Int) > 0))
def trail_May.f (k : Nat) (l0 : List S40) : Option Bool := trail_May.l0 k l0 0
theorem trail_May.calls (k : Nat) (A0 : Option Addr) (c0 : Nat) (l0 : List S40) (r : Bool) (w : World) (hr0 : Kd.C k40 w A0 l0.length l0) (hc0 : l0.length ≤ c0) (h : trail_May.f k l0 = some r) (hG : GOK w) :
 Calls Tryz.prog 21 #[.slice A0 l0.length c0] w fun e w' => e = .returned (.bool r) ∧ Below w.heap.size w w' := by
 have HR0 := a_ hr0
 have HC0 := a_ hc0
 clear hr0 hc0
 have HB := a_ (Below.refl w.heap.size w)
 have H' := a_ (show trail_May.l0 k l0 0 = some r from h)
 clear h
 go_enter Tryz.func21, Tryz.ntmps21
 go_wp2
 go_loopg [6] k (fun kq v6 w' => ∃ (x1 : Int), v6 = .int .i64 x1 ∧ Aside0 (trail_May.l0 kq l0 x1 = some r) ∧ Aside0 (kq ≤ k) ∧ Aside0 (Below w.heap.size w w'))
 case atStart => exact ⟨0, rfl, H', ⟨Nat.le_refl _⟩, ⟨by repeat (first | exact HB.out | apply below_alloc | apply pw_below_drewN | apply below_drew1)⟩⟩
 case round =>
  clear H' HB
  obtain ⟨x1, rfl, HA, HK1, HB⟩ := hrel
  cases gk with
  | zero => exact absurd HA.out (by simp [trail_May.l0])
  | succ k1 =>
   have H := HA.out
   clear HA
   simp only [trail_May.l0] at H
   by_cases c2 : x1 < (l0.length : Int)
   case neg =>
    rw [if_neg c2] at H
    have c2b0 : decide (x1 < (l0.length : Int)) = false := decide_eq_false c2
    clear c2
    obtain rfl := Option.some.inj H
    go_wp2
    go_ret
    exact ⟨rfl, by repeat (first | exact HB.out | apply below_alloc | apply pw_below_drewN | apply below_drew1)⟩
   rw [if_pos c2] at H
   have c2b0 : decide (x1 < (l0.length : Int)) = true := decide_eq_true c2
   replace H := ifI_ H; obtain ⟨c3, H⟩ := H
   have c3b0 : decide (0 ≤ x1) = true := decide_eq_true c3
   obtain ⟨t, A5, H⟩ := Option.bind_eq_some_iff.mp H
   have A5 := a_ A5
   obtain ⟨ad, A2, c2_, e0, h0, h1, h2, h3, hc2_, hr2_⟩ := at_T40 HR0.out x1 c3 c2
   cases e0
   have HX := a_ (And.intro h0 (And.intro h1 (And.intro h2 (And.intro h3 (And.intro hc2_ hr2_)))))
   clear h0 h1 h2 h3 hc2_ hr2_
   replace c2 := eq_true c2
   replace c3 := eq_true c3
   cases t with
   | true =>
    have H' := a_ (show trail_May.l0 k1 l0 (wrap64 (x1 + 1)) = some r from H)
    clear H
    go_wp2_with (go_at_call 36; have hbq := a_ (show Below w.heap.size w _ from by repeat (first | exact HB.out | apply below_alloc | apply pw_below_drewN | apply below_drew1)); (with_reducible refine (trail_Next.calls k1 (ad.add (x1.toNat * 4)) _ _ A2 c2_ _ _ x1 true _ ((hbq.out.cell (World.block_lt_of_cell? w _ HX.out.1)).trans HX.out.1) ((hbq.out.cell (World.block_lt_of_cell? w _ HX.out.2.1)).trans HX.out.2.1) ((hbq.out.cell (World.block_lt_of_cell? w _ HX.out.2.2.1)).trans HX.out.2.2.1) ((hbq.out.cell (World.block_lt_of_cell? w _ HX.out.2.2.2.1)).trans HX.out.2.2.2.1) (Kd.C_below HX.out.2.2.2.2.2 hbq.out) HX.out.2.2.2.2.1 A5.out (GOK.below hG hbq.out)).mono ?_); rintro e w6 ⟨rfl, hb⟩; have n1_ := a_ (below_step hbq.out hb); clear HB hb hbq; have HB := n1_; clear n1_)
    go_roundg k1
    case measure => have := HK1.out; omega
    case rel => exact ⟨(wrap64 (x1 + 1)), hW_, H', ⟨by have := HK1.out; omega⟩, ⟨by repeat (first | exact HB.out | apply below_alloc | apply pw_below_drewN | apply below_drew1)⟩⟩
   | false =>
    obtain rfl := Option.some.inj (show some false = some r from H)
    clear H
    go_wp2_with (go_at_call 36; have hbq := a_ (show Below w.heap.size w _ from by repeat (first | exact HB.out | apply below_alloc | apply pw_below_drewN | apply below_drew1)); (with_reducible refine (trail_Next.calls k1 (ad.add (x1.toNat * 4)) _ _ A2 c2_ _ _ x1 false _ ((hbq.out.cell (World.block_lt_of_cell? w _ HX.out.1)).trans HX.out.1) ((hbq.out.cell (World.block_lt_of_cell? w _ HX.out.2.1)).trans HX.out.2.1) ((hbq.out.cell (World.block_lt_of_cell? w _ HX.out.2.2.1)).trans HX.out.2.2.1) ((hbq.out.cell (World.block_lt_of_cell? w _ HX.out.2.2.2.1)).trans HX.out.2.2.2.1) (Kd.C_below HX.out.2.2.2.2.2 hbq.out) HX.out.2.2.2.2.1 A5.out (GOK.below hG hbq.out)).mono ?_); rintro e w6 ⟨rfl, hb⟩; have n1_ := a_ (below_step hbq.out hb); clear HB hb hbq; have HB := n1_; clear n1_)
    go_ret
    exact ⟨rfl, by repeat (first | exact HB.out | apply below_alloc | apply pw_below_drewN | apply below_drew1)⟩
theorem trail_Next.true_spec {k : Nat} {x0 x1 : Int} {l2 : List ByteArray} {x3 : ByteArray} {a1 : Int} (h : trail_Next.f k x0 x1 l2 x3 a1 = some true) : a1 < 512 ∧ ((0 ≤ x1 ∧ x1 < a1) ∨ (a1 = 0 ∧ x1 = -1)) := by
 unfold trail_Next.f at h
 by_cases c1 : a1 < 512
 case neg =>
  rw [if_neg c1] at h; simp at h
 rw [if_pos c1] at h
 by_cases c2 : (0 ≤ x1 ∧ x1 < a1) ∨ (a1 = 0 ∧ x1 = -1)
 case pos =>
  exact ⟨c1, c2⟩
 rw [if_neg c2] at h; simp at h
theorem trail_May.true_l : ∀ (k : Nat) (l0 : List S40) (x : Int), 0 ≤ x → trail_May.l0 k l0 x = some true →
 0 < l0.length ∧ ∀ i : Int, x ≤ i → i < (l0.length : Int) → i < 512 ∧ ((0 ≤ (rd_T40 l0 i).f1 ∧ (rd_T40 l0 i).f1 < i) ∨ (i = 0 ∧ (rd_T40 l0 i).f1 = -1))
 | 0, _, _, _, h => by simp [trail_May.l0] at h
 | k + 1, l0, x, h0, h => by
  rw [trail_May.l0] at h
  by_cases c : x < (l0.length : Int)
  case neg =>
   rw [if_neg c] at h
   have := of_decide_eq_true (Option.some.inj h)
   exact ⟨by omega, fun i hi hl => by omega⟩
  rw [if_pos c, if_pos h0] at h
  obtain ⟨t, h1, h⟩ := Option.bind_eq_some_iff.mp h
  cases t with
  | false => simp at h
  | true =>
   have h2 := trail_Next.true_spec h1
   rw [if_pos rfl, show wrap64 (x + 1) = x + 1 from by unfold wrap64; omega] at h
   obtain ⟨h3, h4⟩ := trail_May.true_l k l0 (x + 1) (by omega) h
   refine ⟨h3, fun i hi hl => ?_⟩
   rcases Int.lt_or_eq_of_le hi with hlt | rfl
   · exact h4 i (by omega) hl
   · exact h2
theorem trail_May.true_spec {k : Nat} {l0 : List S40} (h : trail_May.f k l0 = some true) : 0 < l0.length ∧ l0.length ≤ 512 ∧ ∀ i : Int, 0 ≤ i → i < (l0.length : Int) → ((0 ≤ (rd_T40 l0 i).f1 ∧ (rd_T40 l0 i).f1 < i) ∨ (i = 0 ∧ (rd_T40 l0 i).f1 = -1)) := by
 obtain ⟨h1, h2⟩ := trail_May.true_l k l0 0 (by omega) h
 have := h2 ((l0.length : Int) - 1) (by omega) (by omega)
 exact ⟨h1, by omega, fun i h0 hl => (h2 i h0 hl).2⟩

set_option maxHeartbeats 8000000
set_option maxRecDepth 100000
attribute [local go_sem] max2_int min2_int max_two min_two max_three min_three max_four min_four   -- for this text's walks alone
set_option linter.unusedVariables false
set_option linter.unusedSimpArgs false

def oddB (x : Int) : Bool := decide (x < 0) || decide (3 < x)
theorem oddB_calls (i : Int) (W : World) : Calls Tryz.prog 20 #[.int .i64 i] W fun e W' => e = .returned (.bool (oddB i)) ∧ W' = W := by
 unfold oddB
 by_cases c : i < 0
 case pos =>
  have cb := decide_eq_true c
  rw [cb, Bool.true_or]
  go_enter Tryz.func20, Tryz.ntmps20
  go_wp2
  go_ret
  exact ⟨rfl, rfl⟩
 have cb := decide_eq_false c
 rw [cb, Bool.false_or]
 go_enter Tryz.func20, Tryz.ntmps20
 go_wp2
 go_ret
 exact ⟨rfl, rfl⟩
theorem indexF.in_ (n : Nat) (hn : 1 ≤ n) (A1 : Option Addr) (c1 : Nat) (l1 : List Int) (hlen : l1.length ≤ 9223372036854775806) (w0 w : World) (hC : Kd.C (Kd.int .i64) w0 A1 l1.length l1) (hB : Below w0.heap.size w0 w) :
 CallsIn Fence.wide n Tryz.prog 37 #[.slice A1 l1.length c1, .func (.func 20) #[] #[]] w fun e w' => ∃ x : Int, e = .returned (.int .i64 x) ∧ (decide (0 ≤ x) = l1.any oddB) ∧ w' = w := by
 have ffg : Fence.wide.fn 20 := trivial
 refine callsIn_of_wp Tryz.func37 rfl trivial ?_ rfl
 simp only [Tryz.ntmps37, List.size_toArray, List.length_cons, List.length_nil, Nat.reduceAdd, Nat.reduceSub, Array.replicate_succ, Array.replicate_zero, List.push_toArray, List.append_toArray, List.nil_append, List.cons_append]
 gi_wp2
 gi_loopw [8] (fun v wr => ∃ x : Int, v = .int .i64 x ∧ Aside0 (0 ≤ x ∧ x ≤ (l1.length : Int)) ∧ Aside0 ((l1.take x.toNat).any oddB = false ∧ wr = w))
  (fun v _ => l1.length - (intOf v).toNat)
 case atStart => exact ⟨0, by first | rfl | (congr 1; omega) | (simp; omega), ⟨by omega, by omega⟩, ⟨rfl, rfl⟩⟩
 case round =>
  obtain ⟨x, rfl, HX, HJ⟩ := hrel
  by_cases hlt : x < (l1.length : Int)
  case neg =>
   have hltb := decide_eq_false hlt
   have HN := a_ hlt
   clear hlt
   gi_wp2
   go_ret
   refine ⟨-1, rfl, ?_, HJ.out.2⟩
   have h := HJ.out.1
   rw [show x.toNat = l1.length by have := HX.out; have := HN.out; omega, List.take_length] at h
   rw [h]; rfl
  have hx0 : 0 ≤ x := HX.out.1
  obtain ⟨ad, e0, g0⟩ := Kd.at_int hC x hx0 hlt
  cases e0
  obtain ⟨hany, rfl⟩ := HJ.out
  have g1 := (hB.cell (World.block_lt_of_cell? w0 _ g0)).trans g0
  have htk : l1.take (x.toNat + 1) = l1.take x.toNat ++ [rd l1 x] := by
   rw [List.take_add_one, List.getElem?_eq_getElem (show x.toNat < l1.length by omega)]
   show _ ++ [_] = _ ++ [List.getD _ _ _]
   rw [List.getD_eq_getElem?_getD, List.getElem?_eq_getElem (show x.toNat < l1.length by omega)]; rfl
  have HT := a_ (And.intro htk (And.intro hany (And.intro hx0 hlt)))
  have hltb := decide_eq_true hlt
  clear htk hany g0
  replace hlt := eq_true hlt
  replace hx0 := eq_true hx0
  cases ho : oddB (rd l1 x) with
  | true =>
   have HO := a_ ho
   clear ho
   gi_wp2_with (first
    | (gi_at_call 20; refine ((callsIn_wide (n := n - 1)).2 (oddB_calls _ _)).mono ?_; rintro e w5 ⟨rfl, rfl⟩; rw [HO.out]))
   refine bodyPost_ret (by simp [results, go_sem]; rfl) rfl ?_
   refine ⟨x, rfl, ?_, rfl⟩
   obtain ⟨htk, _, hx0', hlt'⟩ := HT.out
   rw [decide_eq_true hx0']
   symm
   refine List.any_eq_true.2 ⟨rd l1 x, ?_, HO.out⟩
   have : rd l1 x ∈ l1.take (x.toNat + 1) := by rw [htk]; simp
   exact List.mem_of_mem_take this
  | false =>
   have HO := a_ ho
   clear ho
   gi_wp2_with (first
    | (gi_at_call 20; refine ((callsIn_wide (n := n - 1)).2 (oddB_calls _ _)).mono ?_; rintro e w5 ⟨rfl, rfl⟩; rw [HO.out]))
   obtain ⟨htk, hany, hx0', hlt'⟩ := HT.out
   have hw : wrap64 (x + 1) = x + 1 := by unfold wrap64; omega
   rw [hw]
   refine ⟨⟨x + 1, rfl, ⟨by omega, by omega⟩, ⟨?_, by first | rfl | trivial⟩⟩, by simp only [intOf]; omega⟩
   rw [show (x + 1).toNat = x.toNat + 1 by omega, htk, List.any_append, hany]
   simp [HO.out]
theorem containsF.in_ (A1 : Option Addr) (c1 : Nat) (l1 : List Int) (hlen : l1.length ≤ 9223372036854775806) (w0 w : World) (hC : Kd.C (Kd.int .i64) w0 A1 l1.length l1) (hB : Below w0.heap.size w0 w) :
 CallsIn Fence.wide 2 Tryz.prog 22 #[.slice A1 l1.length c1, .func (.func 20) #[] #[]] w fun e w' => e = .returned (.bool (l1.any oddB)) ∧ w' = w := by
 have ff : Fence.wide.fn 37 := trivial
 refine callsIn_of_wp Tryz.func22 rfl trivial ?_ rfl
 simp only [Tryz.ntmps22, List.size_toArray, List.length_cons, List.length_nil, Nat.reduceAdd, Nat.reduceSub, Array.replicate_succ, Array.replicate_zero, List.push_toArray, List.append_toArray, List.nil_append, List.cons_append]
 gi_wp2_with (first
  | (gi_at_call 37; refine (indexF.in_ (2 - 1) (by omega) A1 c1 l1 hlen w0 _ hC hB).mono ?_; rintro e w5 ⟨x, rfl, hx, rfl⟩; have HX := a_ hx; clear hx))
 go_ret
 exact ⟨by rw [← HX.out]; rfl, rfl⟩
def top_May.f (k : Nat) (l0 : List S40) (l1 : List Int) : Option Bool := (trail_May.f k l0).bind fun t => some (t && (decide (l1.length = l0.length) && !l1.any oddB))
theorem top_May.calls (k : Nat) (A0 : Option Addr) (c0 : Nat) (l0 : List (S40)) (A1 : Option Addr) (c1 : Nat) (l1 : List Int) (r : Bool) (w : World) (hr0 : Kd.C k40 w A0 l0.length l0) (hc0 : l0.length ≤ c0) (hr1 : Kd.C (Kd.int .i64) w A1 l1.length l1) (hc1 : l1.length ≤ c1) (h : top_May.f k l0 l1 = some r) (hG : GOK w) :
 Calls Tryz.prog 13 #[.slice A0 l0.length c0, .slice A1 l1.length c1] w fun e w' => e = .returned (.bool r) ∧ Below w.heap.size w w' := by
 have HR0 := a_ hr0
 have HC0 := a_ hc0
 have HR1 := a_ hr1
 clear hr0 hc0 hr1
 unfold top_May.f at h
 obtain ⟨t, A2, h⟩ := Option.bind_eq_some_iff.mp h
 have HA := a_ A2
 clear A2
 cases t with
 | false =>
  obtain rfl := Option.some.inj h
  go_enter Tryz.func13, Tryz.ntmps13
  go_wp2_with (first
   | (go_at_call 21; (with_reducible refine (trail_May.calls k _ _ l0 false _ HR0.out HC0.out HA.out (by first | exact hG)).mono ?_); rintro e w6 ⟨rfl, hb⟩; have HB := a_ hb; clear hb))
  go_ret
  exact ⟨rfl, HB.out⟩
 | true =>
  rw [Bool.true_and] at h
  have hM := trail_May.true_spec HA.out
  by_cases c : l1.length = l0.length
  case neg =>
   rw [decide_eq_false c, Bool.false_and] at h
   obtain rfl := Option.some.inj h
   have cb : ((l1.length : Int) == (l0.length : Int)) = false := beq_eq_false_iff_ne.2 (by omega)
   clear hM c h
   go_enter Tryz.func13, Tryz.ntmps13
   go_wp2_with (first
    | (go_at_call 21; (with_reducible refine (trail_May.calls k _ _ l0 true _ HR0.out HC0.out HA.out (by first | exact hG)).mono ?_); rintro e w6 ⟨rfl, hb⟩; have HB := a_ hb; clear hb))
   go_ret
   exact ⟨rfl, HB.out⟩

  rw [decide_eq_true c, Bool.true_and] at h
  obtain rfl := Option.some.inj h
  have cb : ((l1.length : Int) == (l0.length : Int)) = true := beq_iff_eq.2 (by omega)
  have HL := a_ (show l1.length ≤ 9223372036854775806 by have := hM.2.1; omega)
  clear hM c h
  go_enter Tryz.func13, Tryz.ntmps13
  go_wp2_with (first
   | (go_at_call 21; (with_reducible refine (trail_May.calls k _ _ l0 true _ HR0.out HC0.out HA.out (by first | exact hG)).mono ?_); rintro e w6 ⟨rfl, hb⟩; have HB := a_ hb; clear hb)
   | (go_at_call 22; refine ((callsIn_wide (n := 2)).1 (containsF.in_ A1 c1 l1 HL.out w _ HR1.out HB.out)).mono ?_; rintro e w7 ⟨rfl, rfl⟩))
  go_ret
  exact ⟨rfl, HB.out⟩
set_option maxHeartbeats 8000000
set_option maxRecDepth 100000
attribute [local go_sem] max2_int min2_int max_two min_two max_three min_three max_four min_four   -- for this text's walks alone
set_option linter.unusedVariables false
set_option linter.unusedSimpArgs false

/-- a node's kids among those ahead of place i -/
def kidsTo (ns : List S40) (a : Int) : Nat → List Int
 | 0 => []
 | i + 1 => if a < (i : Int) ∧ (rd_T40 ns (i : Int)).f1 = a then kidsTo ns a i ++ [(i : Int)] else kidsTo ns a i
theorem kidsTo_pre (ns : List S40) (a : Int) : ∀ {i j : Nat}, i ≤ j → kidsTo ns a i <+: kidsTo ns a j := by
 intro i j h
 induction h with
 | refl => exact List.prefix_refl _
 | step _ ih =>
  rw [kidsTo]
  split
  · exact ih.trans (List.prefix_append _ _)
  · exact ih
theorem kidsTo_none (ns : List S40) (a : Int) : ∀ (i : Nat), (i : Int) ≤ a + 1 → kidsTo ns a i = []
 | 0, _ => rfl
 | i + 1, h => by rw [kidsTo, if_neg (by omega), kidsTo_none ns a i (by omega)]
theorem kidsTo_len (ns : List S40) (a : Int) : ∀ (i : Nat), (kidsTo ns a i).length ≤ i
 | 0 => Nat.le_refl _
 | i + 1 => by
  have := kidsTo_len ns a i
  rw [kidsTo]
  split <;> simp <;> omega

section
attribute [local go_sem] Oper.semAt_some
theorem tree_Below_1.in_ (n : Nat) (hn : 1 ≤ n) (l Bn Ba n₁ N : Nat) (A0 : Option Addr) (c0 : Nat) (l0 : List S40) (a1 : Int) (ha0 : 0 ≤ a1) (ha1 : a1 < (l0.length : Int)) (hlen : l0.length ≤ 9223372036854775806) (w : World) (hC : Kd.C k40 w A0 l0.length l0)
 (hN : ∀ i, i < l0.length → (kidsTo l0 a1 i).length < N) (J Jx : List Int → World → Prop) (hJd : ∀ s W n, J s W → J s (W.drewN n))
 (hY : ∀ pre x W, J pre W → pre.length < N → (0 ≤ x ∧ x < (l0.length : Int)) → YieldAt Fence.wide (n - 1) Tryz.prog l #[.int .i64 x] W fun e W' =>
  (e = .returned (.bool true) ∧ J (pre ++ [x]) W' ∧ Below n₁ W W') ∨ (e = .returned (.bool false) ∧ Jx (pre ++ [x]) W'))
 (W : World) (hB : Below w.heap.size w W) (hw : w.heap.size ≤ n₁) (hBn : W.cell? ⟨Bn, 0, none⟩ = some (.slice A0 l0.length c0)) (hBa : W.cell? ⟨Ba, 0, none⟩ = some (.int .i64 a1)) (hbn : Bn < n₁) (hba : Ba < n₁) (h0 : J [] W) :
 CallsIn Fence.wide n Tryz.prog 43 #[.func (.yield l) #[] #[], .pointer (some ⟨Ba, 0, none⟩), .pointer (some ⟨Bn, 0, none⟩)] W fun e W' => (∃ v, e = .returned v) ∧
  ((∃ ys, ys = kidsTo l0 a1 l0.length ∧ J ys W') ∨ (∃ pre, pre <+: kidsTo l0 a1 l0.length ∧ Jx pre W')) := by
 refine callsIn_of_wp Tryz.func43 rfl trivial ?_ rfl
 simp only [Tryz.ntmps43, List.size_toArray, List.length_cons, List.length_nil, Nat.reduceAdd, Nat.reduceSub, Array.replicate_succ, Array.replicate_zero, List.push_toArray, List.append_toArray, List.nil_append, List.cons_append]
 gi_wp2
 gi_loopw [4] (fun i wr => ∃ x : Int, i = .int .i64 x ∧ Aside0 (a1 < x ∧ x ≤ (l0.length : Int)) ∧ Aside0 (J (kidsTo l0 a1 x.toNat) wr ∧ Below n₁ W wr))
  (fun i _ => l0.length - (intOf i).toNat)
 case atStart => exact ⟨a1 + 1, by first | rfl | (congr 1; omega) | (simp; omega), ⟨by omega, by omega⟩, ⟨by rw [kidsTo_none _ _ _ (by omega)]; exact h0, Below.refl _ _⟩⟩
 case round =>
  obtain ⟨x, rfl, HX, HJ⟩ := hrel
  have hcn := (HJ.out.2.cell (p := ⟨Bn, 0, none⟩) hbn).trans hBn
  have hca := (HJ.out.2.cell (p := ⟨Ba, 0, none⟩) hba).trans hBa
  by_cases hlt : x < (l0.length : Int)
  case neg =>
   have hltb := decide_eq_false hlt
   have hxl : x.toNat = l0.length := by have := HX.out; omega
   have HX2 := a_ hxl
   clear hxl hlt
   gi_wp2
   go_end0
   exact ⟨⟨_, rfl⟩, .inl ⟨_, rfl, by rw [← HX2.out]; exact HJ.out.1⟩⟩
  have hx0 : 0 ≤ x := by have := HX.out; omega
  obtain ⟨ad, A2, c2, e0, g0, g1, g2, g3, hl2, hi2⟩ := at_T40 hC x hx0 hlt
  cases e0
  have hbw : Below w.heap.size w wr := hB.trans (HJ.out.2.mono hw)
  have hp := (hbw.cell (World.block_lt_of_cell? w _ g1)).trans g1
  clear g0 g1 g2 g3 hl2 hi2
  have hxt : (x + 1).toNat = x.toNat + 1 := by omega
  have hxe : ((x.toNat : Nat) : Int) = x := by omega
  have hw1 : IntKind.i64.wrap (x + 1) = x + 1 := IntWalk.i64_in _ (by omega)
  have hw2 := a_ hw1
  clear hw1
  have hlt0 := a_ (And.intro hlt (And.intro hxt hxe))
  clear hxt hxe
  have hltb := decide_eq_true hlt
  replace hlt := eq_true hlt
  replace hx0 := eq_true hx0
  have hmix : Tryz.prog.follows .mixedOrders = true := by kernel_rfl
  by_cases hpar : (rd_T40 l0 x).f1 = a1
  case neg =>
   have hparb : ((rd_T40 l0 x).f1 == a1) = false := beq_eq_false_iff_ne.2 hpar
   have hkid : kidsTo l0 a1 (x.toNat + 1) = kidsTo l0 a1 x.toNat := by rw [kidsTo, hlt0.out.2.2, if_neg (fun h => hpar h.2)]
   have HK := a_ hkid
   clear hkid hpar
   have HY := a_ (And.intro hY hJd)
   clear hY hJd
   clear hN hBa hBn hC h0
   gi_wp2
   refine wpIn_mono (Q := fun e a w' => e = .normal ∧ ∃ (t7 t8 t9 t10 t11 t12 t13 t14 t15 t16 t17 t18 t19 t20 t21 t22 t23 t24 : Value), a = { tmps := #[.func (.yield l) #[] #[], .pointer (some ⟨Ba, 0, none⟩), .pointer (some ⟨Bn, 0, none⟩), undef, .int .i64 x, .int .i64 a1, .int .i64 (a1 + 1), t7, t8, t9, t10, t11, t12, t13, t14, t15, t16, t17, t18, t19, t20, t21, t22, t23, t24, .bool false], defers := [] } ∧ ∃ nq, w' = wr.drewN nq) ?reg ?post
   case reg =>
    clear HY HK HX HJ hlt0 hw2 hbw hB hw
    refine wpIn_region_quiet_lit rfl hmix (by kernel_rfl) ?_
    iterate 10 (quiet_step_in (fail))
    refine BigFrame.wpQuietIn_skip (fun _ _ _ _ => trivial) (by first | rfl | kernel_rfl | simp [Region.wanted, yielded]) ?_
    simp only [Act.put, List.setIfInBounds_toArray, List.set_cons_succ, List.set_cons_zero]
    iterate 2 (quiet_step_in (fail))
    refine wpQuietIn_nil ?_
    intro _ hw'
    obtain ⟨nq, hw''⟩ := hw'
    subst hw''
    exact ⟨trivial, _, _, _, _, _, _, _, _, _, _, _, _, _, _, _, _, _, _, rfl, _, rfl⟩
   case post =>
    rintro e a W3 ⟨rfl, t7, t8, t9, t10, t11, t12, t13, t14, t15, t16, t17, t18, t19, t20, t21, t22, t23, t24, rfl, nq, rfl⟩
    clear hparb hp
    gi_wp2
    refine ⟨⟨x + 1, by rw [show wrap64 (x + 1) = x + 1 from by have := HX.out; have := hlt0.out.1; unfold wrap64; omega], ⟨by have := HX.out; omega, by have := hlt0.out.1; omega⟩, ⟨by rw [hlt0.out.2.1, HK.out]; exact HY.out.2 _ _ nq HJ.out.1, below_dn HJ.out.2 nq⟩⟩, ?_⟩
    rw [show wrap64 (x + 1) = x + 1 from by have := HX.out; have := hlt0.out.1; unfold wrap64; omega]
    have := HX.out
    have := hlt0.out.1
    simp only [intOf]
    omega
  have hparb : ((rd_T40 l0 x).f1 == a1) = true := beq_iff_eq.2 hpar
  have hkid : kidsTo l0 a1 (x.toNat + 1) = kidsTo l0 a1 x.toNat ++ [x] := by rw [kidsTo, hlt0.out.2.2, if_pos ⟨HX.out.1, hpar⟩]
  have HK := a_ hkid
  clear hkid hpar
  have HY := a_ (fun nq => hY _ x (wr.drewN nq) (hJd _ _ nq HJ.out.1) (hN x.toNat (by have := hlt0.out.1; omega)) ⟨by have := HX.out; omega, hlt0.out.1⟩)
  clear hY hJd hN hBa hBn hC h0
  gi_wp2
  refine wpIn_mono (Q := fun e a w' => e = .normal ∧ ∃ (b : Bool) (t7 t8 t9 t10 t11 t12 t13 t14 t15 t16 t17 t18 t19 t20 t21 t22 t23 t24 : Value), a = { tmps := #[.func (.yield l) #[] #[], .pointer (some ⟨Ba, 0, none⟩), .pointer (some ⟨Bn, 0, none⟩), undef, .int .i64 x, .int .i64 a1, .int .i64 (a1 + 1), t7, t8, t9, t10, t11, t12, t13, t14, t15, t16, t17, t18, t19, t20, t21, t22, t23, t24, .bool (!b)], defers := [] } ∧ Aside0 ((b = true ∧ J (kidsTo l0 a1 x.toNat ++ [x]) w' ∧ Below n₁ wr w') ∨ (b = false ∧ Jx (kidsTo l0 a1 x.toNat ++ [x]) w'))) ?reg ?post
  case reg =>
   clear HK HX HJ hlt0 hw2 hbw hB hw
   refine wpIn_region_head 10 rfl hmix (by kernel_rfl) ?_
   simp only [List.take_succ_cons, List.take_zero, List.drop_succ_cons, List.drop_zero]
   iterate 10 (quiet_step_in (fail))
   refine wpQuietIn_nil ?_
   intro _ hw'
   obtain ⟨nq, hw''⟩ := hw'
   subst hw''
   obtain ⟨fn, tmps, assign, body, hy, hR⟩ := HY.out nq
   clear HY
   have HR : RoundIn Fence.wide (n - 1) Tryz.prog l fn tmps assign body (wr.drewN nq) (fun e W' => ∃ b, e = .returned (.bool b) ∧ Aside0 ((b = true ∧ J (kidsTo l0 a1 x.toNat ++ [x]) W' ∧ Below n₁ wr W') ∨ (b = false ∧ Jx (kidsTo l0 a1 x.toNat ++ [x]) W'))) := hR.mono fun e W' hh => by
    rcases hh with ⟨rfl, h1, h2⟩ | ⟨rfl, h1⟩
    · exact ⟨true, rfl, ⟨.inl ⟨rfl, h1, (below_dn (Below.refl _ _) nq).trans h2⟩⟩⟩
    · exact ⟨false, rfl, ⟨.inr ⟨rfl, h1⟩⟩⟩
   clear hR
   gi_wp2
   refine HR.mono ?_
   rintro e W3 ⟨b, rfl, HQ⟩
   gi_wp2
  case post =>
   rintro e a W3 ⟨rfl, b, t7, t8, t9, t10, t11, t12, t13, t14, t15, t16, t17, t18, t19, t20, t21, t22, t23, t24, rfl, HQ⟩
   clear HY hparb hp
   cases b
   · gi_wp2
     refine bodyPost_ret (results_none rfl _ _ _) rfl ?_
     have hq := HQ.out
     simp only [Bool.false_eq_true, false_and, false_or, true_and] at hq
     exact ⟨⟨_, rfl⟩, .inr ⟨_, by rw [← HK.out]; exact kidsTo_pre _ _ (by have := hlt0.out.1; omega), hq⟩⟩
   · have hq := HQ.out
     simp only [Bool.true_eq_false, false_and, or_false, true_and] at hq
     have HQ2 := a_ hq
     clear hq HQ
     gi_wp2
     refine ⟨⟨x + 1, by rw [show wrap64 (x + 1) = x + 1 from by have := HX.out; have := hlt0.out.1; unfold wrap64; omega], ⟨by have := HX.out; omega, by have := hlt0.out.1; omega⟩, ⟨by rw [hlt0.out.2.1, HK.out]; exact HQ2.out.1, HJ.out.2.trans HQ2.out.2⟩⟩, ?_⟩
     rw [show wrap64 (x + 1) = x + 1 from by have := HX.out; have := hlt0.out.1; unfold wrap64; omega]
     have := HX.out
     have := hlt0.out.1
     simp only [intOf]
     omega
/-- tree.Below: two boxes, a function value -/
theorem tree_Below.in_ (n : Nat) (hn : 1 ≤ n) (A0 : Option Addr) (len c0 : Nat) (a1 : Int) (w : World) :
 CallsIn Fence.wide n Tryz.prog 39 #[.slice A0 len c0, .int .i64 a1] w fun e w' => e = .returned (.func (.func 43) #[] #[.pointer (some ⟨w.heap.size + 1, 0, none⟩), .pointer (some ⟨w.heap.size, 0, none⟩)]) ∧ w' = (w.alloc (.cells #[.slice A0 len c0] 22)).alloc (.cells #[.int .i64 a1] 3) := by
 refine callsIn_of_wp Tryz.func39 rfl trivial ?_ rfl
 simp only [Tryz.ntmps39, List.size_toArray, List.length_cons, List.length_nil, Nat.reduceAdd, Nat.reduceSub, Array.replicate_succ, Array.replicate_zero, List.push_toArray, List.append_toArray, List.nil_append, List.cons_append]
 gi_wp2
 go_ret
 exact ⟨rfl, rfl⟩
theorem tree_Below.stops (n : Nat) (hn : 1 ≤ n) (A0 : Option Addr) (c0 : Nat) (l0 : List S40) (a1 : Int) (ha0 : 0 ≤ a1) (ha1 : a1 < (l0.length : Int)) (hlen : l0.length ≤ 9223372036854775806) (w : World) (hC : Kd.C k40 w A0 l0.length l0) (Bn Ba n₁ : Nat) (hn₁ : n₁ ≤ w.heap.size) (hbn : Bn < n₁) (hba : Ba < n₁)
 (hBn : w.cell? ⟨Bn, 0, none⟩ = some (.slice A0 l0.length c0)) (hBa : w.cell? ⟨Ba, 0, none⟩ = some (.int .i64 a1)) (w0 : World) (hw0 : Below w0.heap.size w0 w) (hC0 : Kd.C k40 w0 A0 l0.length l0) (hn0 : w0.heap.size ≤ n₁) :
 SeqStopsK Fence.wide n Tryz.prog 43 #[.pointer (some ⟨Ba, 0, none⟩), .pointer (some ⟨Bn, 0, none⟩)] (fun x : Int => #[Value.int .i64 x]) (Below n₁) (fun ys => ys = kidsTo l0 a1 l0.length) (fun pre => pre <+: kidsTo l0 a1 l0.length) l0.length w := fun l J Jx W hW hJ hJx hY h0 =>
 tree_Below_1.in_ n hn l Bn Ba n₁ l0.length A0 c0 l0 a1 ha0 ha1 hlen w0 hC0 (fun i hi => Nat.lt_of_le_of_lt (kidsTo_len l0 a1 i) hi) J Jx
  (fun s W1 m h => hJ s W1 (W1.drewN m) none h ⟨rfl, rfl, rfl, Nat.le_refl _, fun _ _ _ => rfl⟩ (fun r e => by cases e)) (fun pre x W1 h1 h2 _ => hY pre x W1 h1 h2) W (hw0.trans (hW.mono hw0.size)) hn0 ((hW.cell (p := ⟨Bn, 0, none⟩) (by show Bn < w.heap.size; omega)).trans hBn) ((hW.cell (p := ⟨Ba, 0, none⟩) (by show Ba < w.heap.size; omega)).trans hBa) hbn hba h0
theorem kidsTo_rng (ns : List S40) (a : Int) (x : Int) : ∀ n : Nat, x ∈ kidsTo ns a n → a < x ∧ x < (n : Int) ∧ (rd_T40 ns x).f1 = a
 | 0, h => by rw [kidsTo] at h; cases h
 | n + 1, h => by
  rw [kidsTo] at h
  by_cases c : a < (n : Int) ∧ (rd_T40 ns (n : Int)).f1 = a
  case neg =>
   rw [if_neg c] at h
   have := kidsTo_rng ns a x n h; exact ⟨this.1, by omega, this.2.2⟩
  rw [if_pos c, List.mem_append, List.mem_singleton] at h
  rcases h with h | h
  · have := kidsTo_rng ns a x n h; exact ⟨this.1, by omega, this.2.2⟩
  · subst h; exact ⟨c.1, by omega, c.2⟩
/-- the same of places that are places: a body may look there -/
theorem tree_Below.stopsF (n : Nat) (hn : 1 ≤ n) (A0 : Option Addr) (c0 : Nat) (l0 : List S40) (a1 : Int) (ha0 : 0 ≤ a1) (ha1 : a1 < (l0.length : Int)) (hlen : l0.length ≤ 9223372036854775806) (w : World) (hC : Kd.C k40 w A0 l0.length l0) (Bn Ba n₁ : Nat) (hn₁ : n₁ ≤ w.heap.size) (hbn : Bn < n₁) (hba : Ba < n₁)
 (hBn : w.cell? ⟨Bn, 0, none⟩ = some (.slice A0 l0.length c0)) (hBa : w.cell? ⟨Ba, 0, none⟩ = some (.int .i64 a1)) (w0 : World) (hw0 : Below w0.heap.size w0 w) (hC0 : Kd.C k40 w0 A0 l0.length l0) (hn0 : w0.heap.size ≤ n₁) :
 SeqStopsK Fence.wide n Tryz.prog 43 #[.pointer (some ⟨Ba, 0, none⟩), .pointer (some ⟨Bn, 0, none⟩)] (fun x : {x : Int // 0 ≤ x ∧ x < (l0.length : Int)} => #[Value.int .i64 x.1]) (Below n₁) (fun ys => ys.map (·.1) = kidsTo l0 a1 l0.length) (fun pre => pre.map (·.1) <+: kidsTo l0 a1 l0.length) l0.length w := fun l J Jx W hW hJ hJx hY h0 => by
 refine (tree_Below_1.in_ n hn l Bn Ba n₁ l0.length A0 c0 l0 a1 ha0 ha1 hlen w0 hC0 (fun i hi => Nat.lt_of_le_of_lt (kidsTo_len l0 a1 i) hi) (fun ys W1 => ∃ zs : List {x : Int // 0 ≤ x ∧ x < (l0.length : Int)}, zs.map (·.1) = ys ∧ J zs W1) (fun ys W1 => ∃ zs : List {x : Int // 0 ≤ x ∧ x < (l0.length : Int)}, zs.map (·.1) = ys ∧ Jx zs W1)
  ?_ ?_ W (hw0.trans (hW.mono hw0.size)) hn0 ((hW.cell (p := ⟨Bn, 0, none⟩) (by show Bn < w.heap.size; omega)).trans hBn) ((hW.cell (p := ⟨Ba, 0, none⟩) (by show Ba < w.heap.size; omega)).trans hBa) hbn hba ⟨[], rfl, h0⟩).mono ?_
 · rintro s W1 m ⟨zs, e, h⟩
   exact ⟨zs, e, hJ zs W1 (W1.drewN m) none h ⟨rfl, rfl, rfl, Nat.le_refl _, fun _ _ _ => rfl⟩ (fun r e => by cases e)⟩
 · rintro pre x W1 ⟨zs, e, h⟩ hl hx
   refine (hY zs ⟨x, hx⟩ W1 h (by rw [← e, List.length_map] at hl; exact hl)).mono ?_
   rintro e' W2 (⟨h1, h2, h3⟩ | ⟨h1, h2⟩)
   · exact .inl ⟨h1, ⟨_, by rw [List.map_append, e]; rfl, h2⟩, h3⟩
   · exact .inr ⟨h1, ⟨_, by rw [List.map_append, e]; rfl, h2⟩⟩
 · rintro e' W2 ⟨hv, ⟨ys, hy, zs, e, h⟩ | ⟨pre, hp, zs, e, h⟩⟩
   · exact ⟨hv, .inl ⟨zs, e.trans hy, h⟩⟩
   · exact ⟨hv, .inr ⟨zs, (show zs.map (fun x => x.1) <+: kidsTo l0 a1 l0.length by rw [e]; exact hp), h⟩⟩
end

set_option maxHeartbeats 8000000
set_option maxRecDepth 100000
attribute [local go_sem] max2_int min2_int max_two min_two max_three min_three max_four min_four   -- for this text's walks alone
set_option linter.unusedVariables false
set_option linter.unusedSimpArgs false

/-- the first of a node's kids with a mark -/
def fstK (ns : List S40) (ms : List Int) (a m : Int) : Option Int := (kidsTo ns a ns.length).find? fun k => rd ms k == m
def top_first.f (l0 : List S40) (l1 : List Int) (a2 a3 : Int) : Option (Int × Bool) :=
 if 0 ≤ a2 ∧ a2 < (l0.length : Int) ∧ l0.length ≤ l1.length ∧ l0.length ≤ 512 then (match fstK l0 l1 a2 a3 with | some k => some (k, true) | none => some (0, false)) else none
theorem bx_four {w : World} {a b c d : Value} {s t u v : TypeId} :
 let w4 := (((w.alloc (.cells #[a] s)).alloc (.cells #[b] t)).alloc (.cells #[c] u)).alloc (.cells #[d] v)
 Boxed w4 w.heap.size s a ∧ Boxed w4 (w.heap.size + 1) t b ∧ Boxed w4 (w.heap.size + 1 + 1) u c ∧ Boxed w4 (w.heap.size + 1 + 1 + 1) v d ∧ Below w.heap.size w w4 ∧ w4.heap.size = w.heap.size + 4 := by
 intro w4
 have h1 := (((Boxed.new w s a).alloc (.cells #[b] t)).alloc (.cells #[c] u)).alloc (.cells #[d] v)
 have h2 := ((Boxed.new (w.alloc (.cells #[a] s)) t b).alloc (.cells #[c] u)).alloc (.cells #[d] v)
 have h3 := (Boxed.new ((w.alloc (.cells #[a] s)).alloc (.cells #[b] t)) u c).alloc (.cells #[d] v)
 have h4 := Boxed.new (((w.alloc (.cells #[a] s)).alloc (.cells #[b] t)).alloc (.cells #[c] u)) v d
 simp only [World.size_alloc] at h2 h3 h4
 have hB : Below w.heap.size w w4 := ((((Below.refl _ w).alloc (Nat.le_refl _) _).alloc (by simp) _).alloc (by simp; omega) _).alloc (by simp; omega) _
 exact ⟨h1, h2, h3, h4, hB, by simp [w4]⟩
theorem boxed_ownT {β : Type} (B b : Nat) (t : TypeId) (v : Value) : OwnFrom B (fun (_ : β) W => Boxed W b t v) := Own.from (boxed_own b t (fun _ => v)) B
theorem find_none_all (l : List Int) (p : Int → Bool) (h : ∀ y ∈ l, p y = false) : l.find? p = none := by
 rw [List.find?_eq_none]
 intro y hy
 rw [h y hy]
 exact Bool.false_ne_true
theorem find_pre (p : Int → Bool) (x : Int) (hx : p x = true) : ∀ (q l : List Int), q ++ [x] <+: l → (∀ y ∈ q, p y = false) → l.find? p = some x
 | [], l, h, _ => by
  obtain ⟨t, rfl⟩ := h
  rw [List.nil_append, List.cons_append, List.find?_cons, hx]
 | y :: q, l, h, hq => by
  cases l with
  | nil => have := List.IsPrefix.length_le h; simp at this
  | cons z l =>
   rw [List.cons_append, List.cons_prefix_cons] at h
   obtain ⟨rfl, h⟩ := h
   rw [List.find?_cons, hq y (List.mem_cons_self ..)]
   exact find_pre p x hx q l h (fun z hz => hq z (List.mem_cons_of_mem _ hz))
theorem first_ends {W w : World} {D : Nat} {tmps : Array Value} {i : Int} {b : Bool} (hK : W.heap[D]? = some (.deferred (some []))) (b0 : Boxed W (w.heap.size + 1 + 1) 3 (.int .i64 i)) (b1 : Boxed W (w.heap.size + 1 + 1 + 1) 4 (.bool b))
 (hB : Below w.heap.size w W) (hD : w.heap.size ≤ D) (h8 : tmps[8]? = some (.pointer (some ⟨w.heap.size + 1 + 1, 0, none⟩))) (h9 : tmps[9]? = some (.pointer (some ⟨w.heap.size + 1 + 1 + 1, 0, none⟩))) :
 bodyPostM Fence.wide 4 Tryz.prog Tryz.f38 (fun e w' => e = .returned (.tuple #[.int .i64 i, .bool b]) ∧ Below w.heap.size w w') .ret { tmps := tmps, defers := [{ target := .collected D, args := #[] }] } W := by
 have e0 := Go.cell_kept b0.cell (grownBy_putObj' _ D (.deferred none)) (fun r e => by cases e; exact ⟨_, hK, rfl⟩)
 have e1 := Go.cell_kept b1.cell (grownBy_putObj' _ D (.deferred none)) (fun r e => by cases e; exact ⟨_, hK, rfl⟩)
 refine ⟨by simp, .inl ⟨_, _, rfl, run_takeDeferred hK, ?_⟩⟩
 refine ⟨.tuple #[.int .i64 i, .bool b], ?_, rfl, hB.trans (belowK_b (w := w) (Nat.le_refl _) W D _ _ hD hK rfl rfl)⟩
 simp [results, Tryz.f38, go_sem, e0, e1, h8, h9]
abbrev KX (n : Nat) := {x : Int // 0 ≤ x ∧ x < (n : Int)}
section
attribute [local go_sem] Oper.semAt_some
theorem top_first.inW (A0 : Option Addr) (c0 : Nat) (l0 : List (S40)) (A1 : Option Addr) (c1 : Nat) (l1 : List Int) (a2 a3 r1 : Int) (r2 : Bool) (w : World) (hr0 : Kd.C k40 w A0 l0.length l0) (hr1 : Kd.C (Kd.int .i64) w A1 l1.length l1) (h0 : 0 ≤ a2) (h1 : a2 < (l0.length : Int)) (hl : l0.length ≤ l1.length) (h512 : l0.length ≤ 512) (hr : (match fstK l0 l1 a2 a3 with | some k => (k, true) | none => (0, false)) = (r1, r2)) :
 CallsIn Fence.wide 4 Tryz.prog 38 #[.slice A0 l0.length c0, .slice A1 l1.length c1, .int .i64 a2, .int .i64 a3] w fun e w' => e = .returned (.tuple #[.int .i64 r1, .bool r2]) ∧ Below w.heap.size w w' := by
 have HR0 := a_ hr0
 have HR1 := a_ hr1
 have HRR := a_ hr
 have HM := a_ (And.intro h0 (And.intro h1 (And.intro hl h512)))
 have hmix : Tryz.prog.follows .mixedOrders = true := by kernel_rfl
 clear hr0 hr1 hr h0 h1 hl h512
 refine callsIn_of_wp_marks Tryz.func38 rfl trivial ?_ rfl
 simp only [Tryz.ntmps38, List.size_toArray, List.length_cons, List.length_nil, Nat.reduceAdd, Nat.reduceSub, Array.replicate_succ, Array.replicate_zero, List.push_toArray, List.append_toArray, List.nil_append, List.cons_append]
 have ff1 : Fence.wide.fn 39 := trivial
 gi_wp2_with (first
  | (gi_at_call 39; refine (tree_Below.in_ _ (by omega) _ _ _ _ _).mono ?_; rintro e w7 ⟨rfl, rfl⟩))
 obtain ⟨bx0, bx1, bx2, bx3, hB4, hs4⟩ := bx_four (w := w) (a := .slice A1 l1.length c1) (b := .int .i64 a3) (c := .int .i64 0) (d := .bool false) (s := 23) (t := 3) (u := 3) (v := 4)
 obtain ⟨w4, hw4⟩ : ∃ w4, (((w.alloc (.cells #[.slice A1 l1.length c1] 23)).alloc (.cells #[.int .i64 a3] 3)).alloc (.cells #[.int .i64 0] 3)).alloc (.cells #[.bool false] 4) = w4 := ⟨_, rfl⟩
 rw [hw4] at bx0 bx1 bx2 bx3 hB4 hs4
 simp only [hw4]
 clear hw4
 obtain ⟨W0, hW0⟩ : ∃ W0, (w4.alloc (.cells #[.slice A0 l0.length c0] 22)).alloc (.cells #[.int .i64 a2] 3) = W0 := ⟨_, rfl⟩
 have bN : Boxed W0 w4.heap.size 22 (.slice A0 l0.length c0) := by rw [← hW0]; exact (Boxed.new w4 22 (.slice A0 l0.length c0)).alloc _
 have bA : Boxed W0 (w4.heap.size + 1) 3 (.int .i64 a2) := by
  have h := Boxed.new (w4.alloc (.cells #[.slice A0 l0.length c0] 22)) 3 (.int .i64 a2)
  rw [hW0, World.size_alloc] at h
  exact h
 have hs0 : W0.heap.size = w4.heap.size + 2 := by rw [← hW0]; simp
 have hB0 : Below w.heap.size w W0 := by rw [← hW0]; exact (hB4.alloc hB4.size _).alloc (by simp; omega) _
 have by0 : Boxed W0 w.heap.size 23 (.slice A1 l1.length c1) := by rw [← hW0]; exact (bx0.alloc _).alloc _
 have by1 : Boxed W0 (w.heap.size + 1) 3 (.int .i64 a3) := by rw [← hW0]; exact (bx1.alloc _).alloc _
 have by2 : Boxed W0 (w.heap.size + 1 + 1) 3 (.int .i64 0) := by rw [← hW0]; exact (bx2.alloc _).alloc _
 have by3 : Boxed W0 (w.heap.size + 1 + 1 + 1) 4 (.bool false) := by rw [← hW0]; exact (bx3.alloc _).alloc _
 clear bx0 bx1 bx2 bx3
 have hn4 : w4.heap.size = w.heap.size + 1 + 1 + 1 + 1 := by omega
 rw [hn4] at bN bA hs0
 rw [hW0]
 clear hW0
 have HW0 := a_ (And.intro hs0 hs4)
 clear hs0 hs4
 refine wpIn_rangeFunc_ownH (n := 4) rfl (by omega) (gf := 43) (lb := #[.pointer (some ⟨w.heap.size + 1 + 1 + 1 + 1 + 1, 0, none⟩), .pointer (some ⟨w.heap.size + 1 + 1 + 1 + 1, 0, none⟩)]) rfl trivial (enters_of Tryz.func43 (by kernel_rfl) rfl)
  (tree_Below.stopsF (4 - 1) (by omega) A0 c0 l0 a2 HM.out.1 HM.out.2.1 (by have := HM.out.2.2.2; omega) W0 (Kd.C_below HR0.out hB0) (w.heap.size + 1 + 1 + 1 + 1) (w.heap.size + 1 + 1 + 1 + 1 + 1) W0.heap.size (Nat.le_refl _) (by have := HW0.out; omega) (by have := HW0.out; omega) bN.cell bA.cell w hB0 HR0.out hB0.size) belowK_t (belowK_b (Nat.le_refl _)) (Below.refl _ _) (fun _ => rfl)
  (fun pre W => (((Boxed W w.heap.size 23 (.slice A1 l1.length c1) ∧ Boxed W (w.heap.size + 1) 3 (.int .i64 a3)) ∧ Boxed W (w.heap.size + 1 + 1) 3 (.int .i64 0)) ∧ Boxed W (w.heap.size + 1 + 1 + 1) 4 (.bool false)) ∧ Below w.heap.size W0 W ∧ (∀ y ∈ pre.map (·.1), (rd l1 y == a3) = false))
  (fun c pre W => c = .ret ∧ ∃ (q : List (KX l0.length)) (x : KX l0.length), pre = q ++ [x] ∧ (rd l1 x.1 == a3) = true ∧ (∀ y ∈ q.map (·.1), (rd l1 y == a3) = false) ∧ (Boxed W (w.heap.size + 1 + 1) 3 (.int .i64 x.1) ∧ Boxed W (w.heap.size + 1 + 1 + 1) 4 (.bool true)) ∧ Below w.heap.size W0 W)
  (OwnFrom.and (OwnFrom.and (OwnFrom.and (OwnFrom.and (boxed_ownT _ _ _ _) (boxed_ownT _ _ _ _)) (boxed_ownT _ _ _ _)) (boxed_ownT _ _ _ _)) (OwnFrom.and (ownFrom_below hB0.size hB0.size) (ownFrom_pure _ _)))
  (fun c s A B row hs hg hr => by
   obtain ⟨h1, q, x, h2, h3, h4, h5, h6⟩ := hs
   exact ⟨h1, q, x, h2, h3, h4, (OwnFrom.and (boxed_ownT (β := Unit) _ _ _ _) (boxed_ownT _ _ _ _)) () A B row h5 hg hr, ownFrom_below (β := Unit) hB0.size hB0.size () A B row h6 hg hr⟩)
  ⟨⟨⟨⟨by0, by1⟩, by2⟩, by3⟩, Below.refl _ _, by simp⟩
  (fun x a' W => a' = { tmps := #[.slice A0 l0.length c0, .slice A1 l1.length c1, .int .i64 a2, .int .i64 a3, undef, .pointer (some ⟨w.heap.size, 0, none⟩), undef, .pointer (some ⟨w.heap.size + 1, 0, none⟩), .pointer (some ⟨w.heap.size + 1 + 1, 0, none⟩), .pointer (some ⟨w.heap.size + 1 + 1 + 1, 0, none⟩), .int .i64 x.1, .slice A0 l0.length c0, .int .i64 a2, .func (.func 43) #[] #[.pointer (some ⟨w.heap.size + 1 + 1 + 1 + 1 + 1, 0, none⟩), .pointer (some ⟨w.heap.size + 1 + 1 + 1 + 1, 0, none⟩)], .int .i64 x.1, undef, undef, undef, undef, undef, undef, undef], defers := [] })
  (fun x a' _ X Y row hs hg hr => hs)
  ?assign ?body ?done ?stop
 case assign =>
  rintro l pre x W K hI hK
  gi_wp2
  exact hK _ _ (KeepsFrom.refl _ _) (Below.refl _ _) hI rfl
 case body =>
  rintro l pre ⟨xv, hv0, hv1⟩ a' W hl ⟨r, hr⟩ ⟨⟨⟨⟨b0, b1⟩, b2⟩, b3⟩, hb, hq⟩ rfl hlt
  dsimp only
  have HQ := a_ (And.intro hq (And.intro hb (And.intro b0 (And.intro b1 (And.intro b2 b3)))))
  have hx1 : xv < (l1.length : Int) := by have := HM.out.2.2.1; omega
  obtain ⟨ad, e0, g0⟩ := Kd.at_int HR1.out xv hv0 hx1
  cases e0
  have hbw := hB0.trans hb
  have g1 := (hbw.cell (World.block_lt_of_cell? w _ g0)).trans g0
  have c0_ := b0.cell
  have c1_ := b1.cell
  have hx0 := eq_true hv0
  have hlx := eq_true hx1
  clear hq hlt hr hb b0 b1 b2 b3 hbw g0 hx1
  obtain ⟨bv, hbv⟩ : ∃ bv, (rd l1 xv == a3) = bv := ⟨_, rfl⟩
  gi_wp2
  refine wpIn_mono (Q := fun e a w' => e = .normal ∧ (∃ (t15 t16 t17 t18 t19 : Value), a = { tmps := #[.slice A0 l0.length c0, .slice (some ad) l1.length c1, .int .i64 a2, .int .i64 a3, undef, .pointer (some ⟨w.heap.size, 0, none⟩), undef, .pointer (some ⟨w.heap.size + 1, 0, none⟩), .pointer (some ⟨w.heap.size + 1 + 1, 0, none⟩), .pointer (some ⟨w.heap.size + 1 + 1 + 1, 0, none⟩), .int .i64 xv, .slice A0 l0.length c0, .int .i64 a2, .func (.func 43) #[] #[.pointer (some ⟨w.heap.size + 1 + 1 + 1 + 1 + 1, 0, none⟩), .pointer (some ⟨w.heap.size + 1 + 1 + 1 + 1, 0, none⟩)], .int .i64 xv, t15, t16, t17, t18, t19, .bool bv, undef], defers := [] }) ∧ ∃ nq, w' = W.drewN nq) ?reg ?post
  case reg =>
   clear HQ HW0 HM HRR
   gi_region_with_o (fail)
   all_goals exact ⟨rfl, ⟨_, _, _, _, _, rfl⟩, _, rfl⟩
  case post =>
   rintro e a W3 ⟨rfl, ⟨t15, t16, t17, t18, t19, rfl⟩, nq, rfl⟩
   clear c0_ c1_ g1 hx0 hlx
   obtain ⟨hq, hb, b0, b1, b2, b3⟩ := HQ.out
   have b2' : Boxed (W.drewN nq) (w.heap.size + 1 + 1) 3 (.int .i64 0) := b2
   have b3' : Boxed (W.drewN nq) (w.heap.size + 1 + 1 + 1) 4 (.bool false) := b3
   have c2_ := b2'.cell
   have c3_ := b3'.cell
   have f2_ := b2'.frozen
   have f3_ := b3'.frozen
   have HP := a_ (And.intro hq (And.intro hb (And.intro b2' b3')))
   have HX := a_ hbv
   have kq : KeepsFrom W0.heap.size W (W.drewN nq) := ⟨Nat.le_refl _, fun k o _ h _ => h⟩
   have HK := a_ kq
   clear hq hb b2 b3 b2' b3' hbv kq
   cases bv
   · gi_wp2
     refine ⟨HK.out, below_dn (Below.refl _ _) nq, ⟨⟨⟨b0, b1⟩, HP.out.2.2.1⟩, HP.out.2.2.2⟩, below_dn HP.out.2.1 nq, ?_⟩
     intro y hy
     rw [List.map_append, List.mem_append] at hy
     rcases hy with hy | hy
     · exact HP.out.1 y hy
     · rw [List.map_cons, List.map_nil, List.mem_singleton] at hy
       subst hy
       exact HX.out
   · gi_wp2
     clear c2_ c3_ f2_ f3_
     refine ⟨HK.out.trans (((KeepsOthers.setCell _ _ _).trans (KeepsOthers.setCell _ _ _)).from _), rfl, pre, ⟨xv, hv0, hv1⟩, rfl, HX.out, HP.out.1, ⟨?_, ?_⟩, ?_⟩
     · exact (HP.out.2.2.1.set _).other (by omega) _
     · exact (HP.out.2.2.2.other (by omega) _).set _
     · exact (((below_dn HP.out.2.1 nq).setCell (p := ⟨w.heap.size + 1 + 1, 0, none⟩) (by show w.heap.size ≤ w.heap.size + 1 + 1; omega) _).setCell (p := ⟨w.heap.size + 1 + 1 + 1, 0, none⟩) (by show w.heap.size ≤ w.heap.size + 1 + 1 + 1; omega) _)
 case done =>
  rintro D ys W hD hS ⟨⟨⟨⟨b0, b1⟩, b2⟩, b3⟩, hb, hq⟩ hK
  have HQ := a_ (And.intro hq (And.intro hb hS))
  clear hq hS
  have c2_ := b2.cell
  have c3_ := b3.cell
  have f2_ := b2.frozen
  have f3_ := b3.frozen
  gi_wp2
  clear c2_ c3_ f2_ f3_
  have hl : fstK l0 l1 a2 a3 = none := find_none_all _ _ (fun y hy => HQ.out.1 y (by rw [HQ.out.2.2]; exact hy))
  have hrr := HRR.out
  rw [hl] at hrr
  obtain ⟨rfl, rfl⟩ := Prod.mk.inj hrr
  exact first_ends (((KeepsOthers.setCell _ _ _).trans (KeepsOthers.setCell _ _ _)).same D _ hK rfl) ((b2.set _).other (by omega) _) ((b3.other (by omega) _).set _)
   (((hB0.trans HQ.out.2.1).setCell (p := ⟨w.heap.size + 1 + 1, 0, none⟩) (by show w.heap.size ≤ w.heap.size + 1 + 1; omega) _).setCell (p := ⟨w.heap.size + 1 + 1 + 1, 0, none⟩) (by show w.heap.size ≤ w.heap.size + 1 + 1 + 1; omega) _) (by have := hB0.size; omega) rfl rfl
 case stop =>
  rintro D c pre W hD hSp ⟨rfl, q, x, h1, h2, h3, ⟨b2, b3⟩, hb⟩ hK
  have HQ := a_ (And.intro hSp (And.intro h1 (And.intro h2 (And.intro h3 hb))))
  clear hSp h1 h2 h3
  have c2_ := b2.cell
  have c3_ := b3.cell
  gi_wp2
  clear c2_ c3_
  obtain ⟨hSp, h1, h2, h3, hb⟩ := HQ.out
  have hl : fstK l0 l1 a2 a3 = some x.1 := find_pre _ x.1 h2 (q.map (·.1)) _ (by rw [h1, List.map_append] at hSp; exact hSp) h3
  have hrr := HRR.out
  rw [hl] at hrr
  obtain ⟨rfl, rfl⟩ := Prod.mk.inj hrr
  exact first_ends hK b2 b3 (hB0.trans hb) (by have := hB0.size; omega) rfl rfl
end
theorem top_first.calls (A0 : Option Addr) (c0 : Nat) (l0 : List (S40)) (A1 : Option Addr) (c1 : Nat) (l1 : List Int) (a2 : Int) (a3 : Int) (r1 : Int) (r2 : Bool) (w : World) (hr0 : Kd.C k40 w A0 l0.length l0) (hc0 : l0.length ≤ c0) (hr1 : Kd.C (Kd.int .i64) w A1 l1.length l1) (hc1 : l1.length ≤ c1) (h : top_first.f l0 l1 a2 a3 = some (r1, r2)) :
 Calls Tryz.prog 38 #[.slice A0 l0.length c0, .slice A1 l1.length c1, .int .i64 a2, .int .i64 a3] w fun e w' => e = .returned (.tuple #[.int .i64 r1, .bool r2]) ∧ Below w.heap.size w w' := by
 unfold top_first.f at h
 by_cases c : 0 ≤ a2 ∧ a2 < (l0.length : Int) ∧ l0.length ≤ l1.length ∧ l0.length ≤ 512
 case neg =>
  rw [if_neg c] at h; cases h

 rw [if_pos c] at h
 refine (callsIn_wide (n := 4)).1 (top_first.inW A0 c0 l0 A1 c1 l1 a2 a3 r1 r2 w hr0 hr1 c.1 c.2.1 c.2.2.1 c.2.2.2 ?_)
 cases hf : fstK l0 l1 a2 a3 with
 | none => rw [hf] at h; exact Option.some.inj h
 | some k => rw [hf] at h; exact Option.some.inj h
set_option maxHeartbeats 8000000
set_option maxRecDepth 100000
attribute [local go_sem] max2_int min2_int max_two min_two max_three min_three max_four min_four   -- for this text's walks alone
set_option linter.unusedVariables false
set_option linter.unusedSimpArgs false

def bugS (ns : List S40) (ms : List Int) (a : Int) : Int × Int := if ((kidsTo ns a ns.length).all fun k => rd ms k == 1) = true then (1, a) else (3, 0)
def top_Bug.f (l0 : List S40) (l1 : List Int) (a2 : Int) : Option (Int × Int) :=
 if 0 ≤ a2 ∧ a2 < (l0.length : Int) ∧ l0.length ≤ l1.length ∧ l0.length ≤ 512 then some (bugS l0 l1 a2) else none
/-- a block of two cells -/
def Boxed2 (W : World) (B : Nat) (t : TypeId) (u v : Value) : Prop := W.heap[B]? = some (.cells #[u, v] t (0, 0))
theorem Boxed2.lt {W : World} {B : Nat} {t : TypeId} {u v : Value} (h : Boxed2 W B t u v) : B < W.heap.size := (Array.getElem?_eq_some_iff.1 h).1
theorem Boxed2.c0 {W : World} {B : Nat} {t : TypeId} {u v : Value} (h : Boxed2 W B t u v) : W.cell? ⟨B, 0, none⟩ = some u := by simp [World.cell?, show W.heap[B]? = _ from h]
theorem Boxed2.c1 {W : World} {B : Nat} {t : TypeId} {u v : Value} (h : Boxed2 W B t u v) : W.cell? ⟨B, 1, none⟩ = some v := by simp [World.cell?, show W.heap[B]? = _ from h]
theorem Boxed2.f0 {W : World} {B : Nat} {t : TypeId} {u v : Value} (h : Boxed2 W B t u v) : W.frozen? ⟨B, 0, none⟩ = false := by simp [World.frozen?, show W.heap[B]? = _ from h]
theorem Boxed2.f1 {W : World} {B : Nat} {t : TypeId} {u v : Value} (h : Boxed2 W B t u v) : W.frozen? ⟨B, 1, none⟩ = false := by simp [World.frozen?, show W.heap[B]? = _ from h]
theorem Boxed2.kept {W W' : World} {row : Option Nat} {B : Nat} {t : TypeId} {u v : Value} (h : Boxed2 W B t u v) (hg : W.grownBy W' row) (hne : some B ≠ row) : Boxed2 W' B t u v := (hg.block B h.lt hne).trans h
theorem Boxed2.new (W : World) (t : TypeId) (u v : Value) : Boxed2 (W.alloc (.cells #[u, v] t)) W.heap.size t u v := World.alloc_heap_new W _
theorem Boxed2.alloc {W : World} {B : Nat} {t : TypeId} {u v : Value} (h : Boxed2 W B t u v) (o : Obj) : Boxed2 (W.alloc o) B t u v := h.kept (World.grownBy_alloc W o none) (by simp)
theorem Boxed2.set0 {W : World} {B : Nat} {t : TypeId} {u v : Value} (h : Boxed2 W B t u v) (a : Value) : Boxed2 (W.setCell ⟨B, 0, none⟩ a) B t a v := by
 obtain ⟨hlt, hk⟩ := Array.getElem?_eq_some_iff.1 h
 show (W.heap.modify B _)[B]? = _
 rw [Array.getElem?_eq_getElem (by rw [Array.size_modify]; exact hlt), Array.getElem_modify_self, hk]
 rfl
theorem Boxed2.set1 {W : World} {B : Nat} {t : TypeId} {u v : Value} (h : Boxed2 W B t u v) (a : Value) : Boxed2 (W.setCell ⟨B, 1, none⟩ a) B t u a := by
 obtain ⟨hlt, hk⟩ := Array.getElem?_eq_some_iff.1 h
 show (W.heap.modify B _)[B]? = _
 rw [Array.getElem?_eq_getElem (by rw [Array.size_modify]; exact hlt), Array.getElem_modify_self, hk]
 rfl
theorem Boxed2.put {W : World} {B : Nat} {t : TypeId} {u v : Value} (h : Boxed2 W B t u v) (a b : Value) : Boxed2 ((W.setCell ⟨B, 0, none⟩ a).setCell ⟨B, 1, none⟩ b) B t a b := (h.set0 a).set1 b
theorem bug_ends {W w : World} {D : Nat} {tmps : Array Value} {i j : Int} (hK : W.heap[D]? = some (.deferred (some []))) (b : Boxed2 W (w.heap.size + 1) 27 (.int .i64 i) (.int .i64 j))
 (hB : Below w.heap.size w W) (hD : w.heap.size ≤ D) (h6 : tmps[6]? = some (.pointer (some ⟨w.heap.size + 1, 0, none⟩))) :
 bodyPostM Fence.wide 4 Tryz.prog Tryz.f30 (fun e w' => e = .returned (.agg #[.int .i64 i, .int .i64 j]) ∧ Below w.heap.size w w') .ret { tmps := tmps, defers := [{ target := .collected D, args := #[] }] } W := by
 have e0 := Go.cell_kept b.c0 (grownBy_putObj' _ D (.deferred none)) (fun r e => by cases e; exact ⟨_, hK, rfl⟩)
 have e1 := Go.cell_kept b.c1 (grownBy_putObj' _ D (.deferred none)) (fun r e => by cases e; exact ⟨_, hK, rfl⟩)
 have hu := Tryz.underlying27
 refine ⟨by simp, .inl ⟨_, _, rfl, run_takeDeferred hK, ?_⟩⟩
 refine ⟨.agg #[.int .i64 i, .int .i64 j], ?_, rfl, hB.trans (belowK_b (w := w) (Nat.le_refl _) W D _ _ hD hK rfl rfl)⟩
 simp [results, Tryz.f30, go_sem, e0, e1, h6]
theorem boxed2_ownT {β : Type} (B0 B : Nat) (t : TypeId) (u v : Value) : OwnFrom B0 (fun (_ : β) W => Boxed2 W B t u v) :=
 Own.from (fun s X Y row hs hg hrow => hs.kept hg (fun e' => by obtain ⟨o, ho, hc⟩ := hrow B e'.symm; rw [show X.heap[B]? = _ from hs] at ho; cases ho; cases hc)) B0
section
attribute [local go_sem] Oper.semAt_some
theorem top_Bug.inW (A0 : Option Addr) (c0 : Nat) (l0 : List (S40)) (A1 : Option Addr) (c1 : Nat) (l1 : List Int) (a2 r1 : Int) (r2 : Int) (w : World) (hr0 : Kd.C k40 w A0 l0.length l0) (hr1 : Kd.C (Kd.int .i64) w A1 l1.length l1) (h0 : 0 ≤ a2) (h1 : a2 < (l0.length : Int)) (hl : l0.length ≤ l1.length) (h512 : l0.length ≤ 512) (hr : bugS l0 l1 a2 = (r1, r2)) :
 CallsIn Fence.wide 4 Tryz.prog 30 #[.slice A0 l0.length c0, .slice A1 l1.length c1, .int .i64 a2] w fun e w' => e = .returned (.agg #[.int .i64 r1, .int .i64 r2]) ∧ Below w.heap.size w w' := by
 have HR0 := a_ hr0
 have HR1 := a_ hr1
 have HRR := a_ hr
 have HM := a_ (And.intro h0 (And.intro h1 (And.intro hl h512)))
 have hmix : Tryz.prog.follows .mixedOrders = true := by kernel_rfl
 have hu := Tryz.underlying27
 clear hr0 hr1 hr h0 h1 hl h512
 refine callsIn_of_wp_marks Tryz.func30 rfl trivial ?_ rfl
 simp only [Tryz.ntmps30, List.size_toArray, List.length_cons, List.length_nil, Nat.reduceAdd, Nat.reduceSub, Array.replicate_succ, Array.replicate_zero, List.push_toArray, List.append_toArray, List.nil_append, List.cons_append]
 have ff1 : Fence.wide.fn 39 := trivial
 gi_wp2_with (first
  | (gi_at_call 39; refine (tree_Below.in_ _ (by omega) _ _ _ _ _).mono ?_; rintro e w7 ⟨rfl, rfl⟩))
 have bx0 := ((Boxed.new w 23 (.slice A1 l1.length c1)).alloc (.cells #[.int .i64 0, .int .i64 0] 27))
 have bx1 := Boxed2.new (w.alloc (.cells #[.slice A1 l1.length c1] 23)) 27 (.int .i64 0) (.int .i64 0)
 obtain ⟨w4, hw4⟩ : ∃ w4, (w.alloc (.cells #[.slice A1 l1.length c1] 23)).alloc (.cells #[.int .i64 0, .int .i64 0] 27) = w4 := ⟨_, rfl⟩
 have hB4 : Below w.heap.size w w4 := by rw [← hw4]; exact ((Below.refl _ w).alloc (Nat.le_refl _) _).alloc (by simp) _
 have hn4 : w4.heap.size = w.heap.size + 1 + 1 := by rw [← hw4]; simp
 rw [hw4] at bx0 bx1
 simp only [World.size_alloc] at bx1
 simp only [hw4]
 clear hw4
 obtain ⟨W0, hW0⟩ : ∃ W0, (w4.alloc (.cells #[.slice A0 l0.length c0] 22)).alloc (.cells #[.int .i64 a2] 3) = W0 := ⟨_, rfl⟩
 have bN : Boxed W0 w4.heap.size 22 (.slice A0 l0.length c0) := by rw [← hW0]; exact (Boxed.new w4 22 (.slice A0 l0.length c0)).alloc _
 have bA : Boxed W0 (w4.heap.size + 1) 3 (.int .i64 a2) := by
  have h := Boxed.new (w4.alloc (.cells #[.slice A0 l0.length c0] 22)) 3 (.int .i64 a2)
  rw [hW0, World.size_alloc] at h
  exact h
 have hs0 : W0.heap.size = w4.heap.size + 2 := by rw [← hW0]; simp
 have hB0 : Below w.heap.size w W0 := by rw [← hW0]; exact (hB4.alloc hB4.size _).alloc (by simp; omega) _
 have by0 : Boxed W0 w.heap.size 23 (.slice A1 l1.length c1) := by rw [← hW0]; exact (bx0.alloc _).alloc _
 have by1 : Boxed2 W0 (w.heap.size + 1) 27 (.int .i64 0) (.int .i64 0) := by rw [← hW0]; exact (bx1.alloc _).alloc _
 clear bx0 bx1
 rw [hn4] at bN bA hs0
 rw [hW0]
 clear hW0
 have HW0 := a_ hs0
 clear hs0
 refine wpIn_rangeFunc_ownH (n := 4) rfl (by omega) (gf := 43) (lb := #[.pointer (some ⟨w.heap.size + 1 + 1 + 1, 0, none⟩), .pointer (some ⟨w.heap.size + 1 + 1, 0, none⟩)]) rfl trivial (enters_of Tryz.func43 (by kernel_rfl) rfl)
  (tree_Below.stopsF (4 - 1) (by omega) A0 c0 l0 a2 HM.out.1 HM.out.2.1 (by have := HM.out.2.2.2; omega) W0 (Kd.C_below HR0.out hB0) (w.heap.size + 1 + 1) (w.heap.size + 1 + 1 + 1) W0.heap.size (Nat.le_refl _) (by have := HW0.out; omega) (by have := HW0.out; omega) bN.cell bA.cell w hB0 HR0.out hB0.size) belowK_t (belowK_b (Nat.le_refl _)) (Below.refl _ _) (fun _ => rfl)
  (fun pre W => (Boxed W w.heap.size 23 (.slice A1 l1.length c1) ∧ Boxed2 W (w.heap.size + 1) 27 (.int .i64 0) (.int .i64 0)) ∧ Below w.heap.size W0 W ∧ (∀ y ∈ pre.map (·.1), (rd l1 y == 1) = true))
  (fun c pre W => c = .ret ∧ ∃ (q : List (KX l0.length)) (x : KX l0.length), pre = q ++ [x] ∧ (rd l1 x.1 == 1) = false ∧ Boxed2 W (w.heap.size + 1) 27 (.int .i64 3) (.int .i64 0) ∧ Below w.heap.size W0 W)
  (OwnFrom.and (OwnFrom.and (boxed_ownT _ _ _ _) (boxed2_ownT _ _ _ _ _)) (OwnFrom.and (ownFrom_below hB0.size hB0.size) (ownFrom_pure _ _)))
  (fun c s A B row hs hg hr => by
   obtain ⟨h1, q, x, h2, h3, h5, h6⟩ := hs
   exact ⟨h1, q, x, h2, h3, (boxed2_ownT (β := Unit) _ _ _ _ _) () A B row h5 hg hr, ownFrom_below (β := Unit) hB0.size hB0.size () A B row h6 hg hr⟩)
  ⟨⟨by0, by1⟩, Below.refl _ _, by simp⟩
  (fun x a' W => a' = { tmps := #[.slice A0 l0.length c0, .slice A1 l1.length c1, .int .i64 a2, undef, .pointer (some ⟨w.heap.size, 0, none⟩), undef, .pointer (some ⟨w.heap.size + 1, 0, none⟩), .int .i64 x.1, .slice A0 l0.length c0, .int .i64 a2, .func (.func 43) #[] #[.pointer (some ⟨w.heap.size + 1 + 1 + 1, 0, none⟩), .pointer (some ⟨w.heap.size + 1 + 1, 0, none⟩)], .int .i64 x.1, undef, undef, undef, undef, undef, undef, undef, undef], defers := [] })
  (fun x a' _ X Y row hs hg hr => hs)
  ?assign ?body ?done ?stop
 case assign =>
  rintro l pre x W K hI hK
  gi_wp2
  exact hK _ _ (KeepsFrom.refl _ _) (Below.refl _ _) hI rfl
 case body =>
  rintro l pre ⟨xv, hv0, hv1⟩ a' W hl ⟨r, hr⟩ ⟨⟨b0, b1⟩, hb, hq⟩ rfl hlt
  dsimp only
  have HQ := a_ (And.intro hq (And.intro hb (And.intro b0 b1)))
  have hx1 : xv < (l1.length : Int) := by have := HM.out.2.2.1; omega
  obtain ⟨ad, e0, g0⟩ := Kd.at_int HR1.out xv hv0 hx1
  cases e0
  have hbw := hB0.trans hb
  have g1 := (hbw.cell (World.block_lt_of_cell? w _ g0)).trans g0
  have c0_ := b0.cell
  have c1_ := b1.c0
  have c2_ := b1.c1
  have f1_ := b1.f0
  have f2_ := b1.f1
  have hx0 := eq_true hv0
  have hlx := eq_true hx1
  clear hq hlt hr hb b0 b1 hbw g0 hx1
  cases hbv : (rd l1 xv == 1) with
  | true =>
   have hne : (rd l1 xv != 1) = false := by rw [bne, hbv]; rfl
   have HX := a_ hbv
   clear hbv
   gi_wp2
   refine ⟨KeepsFrom.refl _ _, Below.refl _ _, HQ.out.2.2, HQ.out.2.1, ?_⟩
   intro y hy
   rw [List.map_append, List.mem_append] at hy
   rcases hy with hy | hy
   · exact HQ.out.1 y hy
   · rw [List.map_cons, List.map_nil, List.mem_singleton] at hy
     subst hy
     exact HX.out
  | false =>
   have hne : (rd l1 xv != 1) = true := by rw [bne, hbv]; rfl
   have HX := a_ hbv
   clear hbv
   gi_wp2
   clear c1_ c2_ f1_ f2_
   exact ⟨((KeepsOthers.setCell _ _ _).trans (KeepsOthers.setCell _ _ _)).from _, rfl, pre, ⟨xv, hv0, hv1⟩, rfl, HX.out, HQ.out.2.2.2.put _ _, (HQ.out.2.1.setCell (p := ⟨w.heap.size + 1, 0, none⟩) (by show w.heap.size ≤ w.heap.size + 1; omega) _).setCell (p := ⟨w.heap.size + 1, 1, none⟩) (by show w.heap.size ≤ w.heap.size + 1; omega) _⟩
 case done =>
  rintro D ys W hD hS ⟨⟨b0, b1⟩, hb, hq⟩ hK
  have HQ := a_ (And.intro hq (And.intro hb hS))
  clear hq hS
  have c1_ := b1.c0
  have c2_ := b1.c1
  have f1_ := b1.f0
  have f2_ := b1.f1
  gi_wp2
  clear c1_ c2_ f1_ f2_
  have hl : bugS l0 l1 a2 = (1, a2) := by
   unfold bugS
   rw [if_pos (List.all_eq_true.2 fun y hy => HQ.out.1 y (by rw [HQ.out.2.2]; exact hy))]
  have hrr := HRR.out
  rw [hl] at hrr
  obtain ⟨rfl, rfl⟩ := Prod.mk.inj hrr
  exact bug_ends (((KeepsOthers.setCell _ _ _).trans (KeepsOthers.setCell _ _ _)).same D _ hK rfl) (b1.put _ _)
   (((hB0.trans HQ.out.2.1).setCell (p := ⟨w.heap.size + 1, 0, none⟩) (by show w.heap.size ≤ w.heap.size + 1; omega) _).setCell (p := ⟨w.heap.size + 1, 1, none⟩) (by show w.heap.size ≤ w.heap.size + 1; omega) _) (by have := hB0.size; omega) rfl
 case stop =>
  rintro D c pre W hD hSp ⟨rfl, q, x, h1, h2, b, hb⟩ hK
  have HQ := a_ (And.intro hSp (And.intro h1 (And.intro h2 hb)))
  clear hSp h1 h2
  gi_wp2
  obtain ⟨hSp, h1, h2, hb⟩ := HQ.out
  have hl : bugS l0 l1 a2 = (3, 0) := by
   unfold bugS
   rw [if_neg]
   intro hall
   have hm : x.1 ∈ kidsTo l0 a2 l0.length := hSp.subset (by rw [h1]; simp)
   have := List.all_eq_true.1 hall x.1 hm
   rw [h2] at this
   exact Bool.false_ne_true this
  have hrr := HRR.out
  rw [hl] at hrr
  obtain ⟨rfl, rfl⟩ := Prod.mk.inj hrr
  exact bug_ends hK b (hB0.trans hb) (by have := hB0.size; omega) rfl
end
theorem top_Bug.calls (A0 : Option Addr) (c0 : Nat) (l0 : List (S40)) (A1 : Option Addr) (c1 : Nat) (l1 : List Int) (a2 : Int) (r1 : Int) (r2 : Int) (w : World) (hr0 : Kd.C k40 w A0 l0.length l0) (hc0 : l0.length ≤ c0) (hr1 : Kd.C (Kd.int .i64) w A1 l1.length l1) (hc1 : l1.length ≤ c1) (h : top_Bug.f l0 l1 a2 = some (r1, r2)) :
 Calls Tryz.prog 30 #[.slice A0 l0.length c0, .slice A1 l1.length c1, .int .i64 a2] w fun e w' => e = .returned (.agg #[.int .i64 r1, .int .i64 r2]) ∧ Below w.heap.size w w' := by
 unfold top_Bug.f at h
 by_cases c : 0 ≤ a2 ∧ a2 < (l0.length : Int) ∧ l0.length ≤ l1.length ∧ l0.length ≤ 512
 case neg =>
  rw [if_neg c] at h; cases h

 rw [if_pos c] at h
 exact (callsIn_wide (n := 4)).1 (top_Bug.inW A0 c0 l0 A1 c1 l1 a2 r1 r2 w hr0 hr1 c.1 c.2.1 c.2.2.1 c.2.2.2 (Option.some.inj h))
end Go.Proofs.YtifhpkakdlfgnaaGreatDoor.G
end
