/- Parts of this proof, one behind the other: G4, G5, G6, G7, G8, G9, G10, G11, G12, G18, G19. -/
import Derived.Test.YtgokcaccamfgfaaGreatDoorG0
import Derived.Test.YtgokcaccamfgfaaGreatDoorU2
section
-- Laid by the session's own driver gp.py over the kit's printer. Not trusted: Lean checks it.
namespace Go.Proofs.YtgokcaccamfgfaaGreatDoor.G
open Go.RowKit Go.Proofs.YtgokcaccamfgfaaGreatDoorW.PrintWords Go.Proofs.YtgokcaccamfgfaaGreatDoorW.PrintLast Go.Proofs.YtgokcaccamfgfaaGreatDoorW.PrintMore
set_option maxHeartbeats 8000000
set_option maxRecDepth 100000
attribute [local go_sem] max2_int min2_int max_two min_two max_three min_three max_four min_four   -- for this text's walks alone
set_option linter.unusedVariables false
set_option linter.unusedSimpArgs false

/-- where the first blank or bracket stands -/
abbrev seps : ByteArray := ⟨#[32, 40, 41]⟩
theorem rune_err (w : World) :
 Calls Tryz.prog 91 #[.string seps, .int .i32 65533] w fun e w' => e = .returned (.int .i64 (-1)) ∧ Below w.heap.size w w' := by
 have hnx0 := fun ty => run_next_ascii (P := Tryz.prog) w seps 0 ty (by decide) (by decide)
 have hnx1 := fun ty => run_next_ascii (P := Tryz.prog) w seps 1 ty (by decide) (by decide)
 have hnx2 := fun ty => run_next_ascii (P := Tryz.prog) w seps 2 ty (by decide) (by decide)
 have hnx3 := fun ty => run_next_end (P := Tryz.prog) w seps 3 ty (by decide)
 go_enter Tryz.func91, Tryz.ntmps91
 go_wp2
 go_loopg [5, 6] 3 (fun g _ _ wx => ∃ i : Nat, i + g = 3 ∧ wx = w.iter seps i)
 case atStart => exact ⟨0, rfl, rfl⟩
 case round =>
  obtain ⟨i, hi, rfl⟩ := hrel
  cases gk with
  | zero =>
   obtain rfl : i = 3 := by omega
   go_wp2
   go_ret
   exact ⟨rfl, by apply below_alloc; exact Below.refl _ _⟩
  | succ g =>
   rcases (show i = 0 ∨ i = 1 ∨ i = 2 by omega) with rfl | rfl | rfl
   all_goals go_wp2
   all_goals go_roundg g
   all_goals first | omega | exact ⟨_, by omega, rfl⟩
theorem rune_two (w : World) (c : Int) (hc : 128 ≤ c) (hc2 : c < 2048) (hv : Lib.validRune c = true) (hc3 : c ≠ 65533) :
 Calls Tryz.prog 91 #[.string seps, .int .i32 c] w fun e w' => e = .returned (.int .i64 (-1)) ∧ Below w.heap.size w w' := by
 obtain ⟨p1, p2, hxy, hy⟩ : ∃ p1 p2 : UInt8, Utf8.encode c = ⟨#[p1, p2]⟩ ∧ 128 ≤ p2.toNat := by
  have hv2 : Utf8.valid c = true := by
   rw [← hv]; unfold Utf8.valid Lib.validRune
   rw [Bool.eq_iff_iff]; simp; omega
  refine ⟨UInt8.ofNat (0xC0 + c.toNat / 64), UInt8.ofNat (0x80 + c.toNat % 64), ?_, ?_⟩
  · unfold Utf8.encode
    simp only [hv2, if_true]
    rw [if_neg (by omega), if_pos (by omega)]
  · simp; omega
 have hcv : ∀ W : World, (convert 21 9 (.int .i32 c)).run Tryz.prog W = .ok (.string ⟨#[p1, p2]⟩) W := by
  intro W
  rw [← hxy]
  simp [convert, run_underlying Tryz.underlying21, run_underlying Tryz.underlying9, Conv.intToString, Result.andThen]
 have n1 : (c == 65533) = false := beq_eq_false_iff_ne.2 (by omega)
 have n2 : decide (c < 128) = false := decide_eq_false (by omega)
 clear hxy
 go_enter Tryz.func91, Tryz.ntmps91
 go_wp2_with (first
  | (go_at_call 100; refine (Tryz.utf8_ValidRune _ _).mono ?_; rintro e w1 ⟨rfl, hw⟩; rw [hw, hv])
  )
 go_step3
 go_wp2
 go_loopg [9, 10] 1 (fun g v9 v10 wx => v9 = .int .i64 1 ∧ v10 = .int .i64 0 ∧ wx = w)
 case atStart => exact ⟨rfl, rfl, rfl⟩
 case round =>
  obtain ⟨rfl, rfl, rfl⟩ := hrel
  have hne : ((40 : Int) == (p2.toNat : Int)) = false := beq_eq_false_iff_ne.2 (by omega)
  have hb : 1 < ({ data := #[p1, p2] } : ByteArray).size := by show 1 < 2; decide
  have hne2 : ((seps[1].toNat : Int) != ((({ data := #[p1, p2] } : ByteArray)[1]'hb).toNat : Int)) = true := by
   show ((40 : Int) != (p2.toNat : Int)) = true
   rw [bne, hne]; rfl
  have hix : Lib.indexByte (seps.extract 2 3).data.toList ((p2.toNat : Int)).toNat.toUInt8 = -1 := by
   rw [show ((p2.toNat : Int)).toNat.toUInt8 = p2 by simp]
   show Lib.indexByte [41] p2 = -1
   unfold Lib.indexByte
   rw [if_neg (by intro h; have := beq_iff_eq.1 h; subst this; revert hy; decide)]; rfl
  have hw2 : IntKind.i64.wrap 2 = 2 := by decide
  have hwi : IntKind.i64.wrap (1 + 1) = 2 := by decide
  go_wp2
  go_step3
  go_wp2
  go_region
  simp only [Exit.then, hne2]
  go_wp2
  go_region_with (go_at_call 99; refine (Tryz.strings_IndexByte (seps.extract 2 3) (p2.toNat : Int) _).mono ?_; rintro e w2 ⟨rfl, hw2⟩; rw [hw2, hix])
  all_goals simp only [Exit.then]
  all_goals go_wp2
  all_goals simp only [Exit.noGoto, Exit.inBlock, Exit.then]
  all_goals go_ret
  all_goals exact ⟨rfl, by repeat (first | exact Below.refl _ _ | apply Below.drew)⟩
theorem rune_three (w : World) (c : Int) (hc : 2048 ≤ c) (hc2 : c < 65536) (hv : Lib.validRune c = true) (hc3 : c ≠ 65533) :
 Calls Tryz.prog 91 #[.string seps, .int .i32 c] w fun e w' => e = .returned (.int .i64 (-1)) ∧ Below w.heap.size w w' := by
 obtain ⟨p1, p2, p3, hxy, hy⟩ : ∃ p1 p2 p3 : UInt8, Utf8.encode c = ⟨#[p1, p2, p3]⟩ ∧ 128 ≤ p3.toNat := by
  have hv2 : Utf8.valid c = true := by
   rw [← hv]; unfold Utf8.valid Lib.validRune
   rw [Bool.eq_iff_iff]; simp; omega
  refine ⟨UInt8.ofNat (0xE0 + c.toNat / 4096), UInt8.ofNat (0x80 + c.toNat / 64 % 64), UInt8.ofNat (0x80 + c.toNat % 64), ?_, ?_⟩
  · unfold Utf8.encode
    simp only [hv2, if_true]
    rw [if_neg (by omega), if_neg (by omega), if_pos (by omega)]
  · simp; omega
 have hcv : ∀ W : World, (convert 21 9 (.int .i32 c)).run Tryz.prog W = .ok (.string ⟨#[p1, p2, p3]⟩) W := by
  intro W
  rw [← hxy]
  simp [convert, run_underlying Tryz.underlying21, run_underlying Tryz.underlying9, Conv.intToString, Result.andThen]
 have n1 : (c == 65533) = false := beq_eq_false_iff_ne.2 (by omega)
 have n2 : decide (c < 128) = false := decide_eq_false (by omega)
 clear hxy
 go_enter Tryz.func91, Tryz.ntmps91
 go_wp2_with (first
  | (go_at_call 100; refine (Tryz.utf8_ValidRune _ _).mono ?_; rintro e w1 ⟨rfl, hw⟩; rw [hw, hv])
  )
 go_step3
 go_wp2
 go_loopg [9, 10] 1 (fun g v9 v10 wx => v9 = .int .i64 2 ∧ v10 = .int .i64 0 ∧ wx = w)
 case atStart => exact ⟨rfl, rfl, rfl⟩
 case round =>
  obtain ⟨rfl, rfl, rfl⟩ := hrel
  have hne : ((41 : Int) == (p3.toNat : Int)) = false := beq_eq_false_iff_ne.2 (by omega)
  have hb : 2 < ({ data := #[p1, p2, p3] } : ByteArray).size := by show 2 < 3; decide
  have hne2 : ((seps[2].toNat : Int) != ((({ data := #[p1, p2, p3] } : ByteArray)[2]'hb).toNat : Int)) = true := by
   show ((41 : Int) != (p3.toNat : Int)) = true
   rw [bne, hne]; rfl
  have hix : Lib.indexByte (seps.extract 3 3).data.toList ((p3.toNat : Int)).toNat.toUInt8 = -1 := by
   rw [show ((p3.toNat : Int)).toNat.toUInt8 = p3 by simp]
   show Lib.indexByte [] p3 = -1
   unfold Lib.indexByte
   rfl
  have hw2 : IntKind.i64.wrap 3 = 3 := by decide
  have hwi : IntKind.i64.wrap (2 + 1) = 3 := by decide
  go_wp2
  go_step3
  go_wp2
  go_region
  simp only [Exit.then, hne2]
  go_wp2
  go_region_with (go_at_call 99; refine (Tryz.strings_IndexByte (seps.extract 3 3) (p3.toNat : Int) _).mono ?_; rintro e w2 ⟨rfl, hw2⟩; rw [hw2, hix])
  all_goals simp only [Exit.then]
  all_goals go_wp2
  all_goals simp only [Exit.noGoto, Exit.inBlock, Exit.then]
  all_goals go_ret
  all_goals exact ⟨rfl, by repeat (first | exact Below.refl _ _ | apply Below.drew)⟩
theorem rune_four (w : World) (c : Int) (hc : 65536 ≤ c) (hc2 : c < 2147483648) (hv : Lib.validRune c = true) (hc3 : c ≠ 65533) :
 Calls Tryz.prog 91 #[.string seps, .int .i32 c] w fun e w' => e = .returned (.int .i64 (-1)) ∧ Below w.heap.size w w' := by
 obtain ⟨p1, p2, p3, p4, hxy, hy⟩ : ∃ p1 p2 p3 p4 : UInt8, Utf8.encode c = ⟨#[p1, p2, p3, p4]⟩ ∧ 128 ≤ p4.toNat := by
  have hv2 : Utf8.valid c = true := by
   rw [← hv]; unfold Utf8.valid Lib.validRune
   rw [Bool.eq_iff_iff]; simp; omega
  refine ⟨UInt8.ofNat (0xF0 + c.toNat / 262144), UInt8.ofNat (0x80 + c.toNat / 4096 % 64), UInt8.ofNat (0x80 + c.toNat / 64 % 64), UInt8.ofNat (0x80 + c.toNat % 64), ?_, ?_⟩
  · unfold Utf8.encode
    simp only [hv2, if_true]
    rw [if_neg (by omega), if_neg (by omega), if_neg (by omega)]
  · simp; omega
 have hcv : ∀ W : World, (convert 21 9 (.int .i32 c)).run Tryz.prog W = .ok (.string ⟨#[p1, p2, p3, p4]⟩) W := by
  intro W
  rw [← hxy]
  simp [convert, run_underlying Tryz.underlying21, run_underlying Tryz.underlying9, Conv.intToString, Result.andThen]
 have n1 : (c == 65533) = false := beq_eq_false_iff_ne.2 (by omega)
 have n2 : decide (c < 128) = false := decide_eq_false (by omega)
 clear hxy
 go_enter Tryz.func91, Tryz.ntmps91
 go_wp2_with (first
  | (go_at_call 100; refine (Tryz.utf8_ValidRune _ _).mono ?_; rintro e w1 ⟨rfl, hw⟩; rw [hw, hv])
  )
 go_step3
 go_wp2
 go_loopg [9, 10] 1 (fun g v9 v10 wx => v9 = .int .i64 3 ∧ v10 = .int .i64 0 ∧ wx = w)
 case atStart => exact ⟨rfl, rfl, rfl⟩
 case round =>
  obtain ⟨rfl, rfl, rfl⟩ := hrel
  go_wp2
  simp only [Exit.noGoto_ret, Exit.noGoto_normal]
  go_ret
  exact ⟨rfl, Below.refl _ _⟩
theorem rune_high (w : World) (c : Int) (hc : 128 ≤ c) (hm : c ≤ 2147483647) (hv : c = 65533 ∨ Lib.validRune c = true) :
 Calls Tryz.prog 91 #[.string seps, .int .i32 c] w fun e w' => e = .returned (.int .i64 (-1)) ∧ Below w.heap.size w w' := by
 by_cases h3 : c = 65533
 case pos =>
  subst h3; exact rune_err w
 have hv := hv.resolve_left h3
 by_cases h1 : c < 2048
 case pos =>
  exact rune_two w c hc h1 hv h3
 by_cases h2 : c < 65536
 case pos =>
  exact rune_three w c (by omega) h2 hv h3
 exact rune_four w c (by omega) (by omega) hv h3
theorem get_bang (s : ByteArray) (i : Nat) (h : i < s.size) : s.get! i = s[i]'h := by
 simp [ByteArray.get!, getElem!_pos, h]; rfl
theorem dec_valid (s : ByteArray) (p : Nat) (h : p < s.size) (ha : 128 ≤ (s[p]'h).toNat) :
 ((Utf8.decode s p).1 : Int) = 65533 ∨ Lib.validRune ((Utf8.decode s p).1 : Int) = true := by
 have hb : ∀ k, (s.get! (p + k)).toNat < 256 := fun k => (s.get! (p + k)).toNat_lt
 have h0 := hb 0; have h1 := hb 1; have h2 := hb 2; have h3 := hb 3
 have hn : ¬ (s.get! (p + 0)).toNat < 128 := by rw [show p + 0 = p from rfl, get_bang s p h]; omega
 simp only [Utf8.decode, hn, if_false]
 repeat' split
 all_goals simp_all [Utf8.runeError, Lib.validRune, Utf8.valid]
 all_goals omega
theorem dec_high (s : ByteArray) (p : Nat) (h : p < s.size) (ha : 128 ≤ (s[p]'h).toNat) (j : Nat) (hj : p ≤ j) (hj2 : j < p + (Utf8.decode s p).2) (hjs : j < s.size) : 128 ≤ (s[j]'hjs).toNat := by
 have hn : ¬ (s.get! (p + 0)).toNat < 128 := by rw [show p + 0 = p from rfl, get_bang s p h]; omega
 have e1 : ∀ k, p + k < s.size → (s.get! (p + k)).toNat / 64 = 2 → ∀ hk : p + k < s.size, 128 ≤ (s[p + k]'hk).toNat := by
  intro k hk h2 hk'
  rw [get_bang s (p + k) hk] at h2
  omega
 obtain ⟨k, rfl⟩ : ∃ k, j = p + k := ⟨j - p, by omega⟩
 have hk4 : k < 4 := by
  revert hj2
  simp only [Utf8.decode, hn, if_false]
  repeat' split
  all_goals simp
  all_goals omega
 have hc : k = 0 ∨ (s.get! (p + k)).toNat / 64 = 2 := by
  revert hj2
  simp only [Utf8.decode, hn, if_false]
  rcases (show k = 0 ∨ k = 1 ∨ k = 2 ∨ k = 3 by omega) with rfl | rfl | rfl | rfl
  · intro _; exact .inl rfl
  all_goals repeat' split
  all_goals simp_all
 rcases hc with rfl | hc
 · exact ha
 · exact e1 k hjs hc hjs
theorem noany_skip (s : ByteArray) (p : Nat) (h : p < s.size) (ha : 128 ≤ (s[p]'h).toNat) (hno : Lib.NoAny s.data.toList seps.data.toList p) :
 Lib.NoAny s.data.toList seps.data.toList (p + (Utf8.decode s p).2) := by
 intro j b hj hb
 by_cases hjp : j < p
 case pos =>
  exact hno j b hjp hb
 have hjs : j < s.size := by
  have := (List.getElem?_eq_some_iff.1 hb).1
  rwa [← Lib.size_eq] at this
 have h1 := dec_high s p h ha j (by omega) hj hjs
 have h2 : s.data.toList[j]? = some (s[j]'hjs) := Lib.data_getElem? s j hjs
 rw [h2] at hb
 obtain rfl := Option.some.inj hb
 show [(32 : UInt8), 40, 41].contains (s[j]'hjs) = false
 generalize s[j]'hjs = b at h1
 rw [Bool.eq_false_iff]
 intro hc
 simp at hc
 rcases hc with rfl | rfl | rfl <;> revert h1 <;> decide
theorem any_short (s : ByteArray) (w : World) (h8 : s.size ≤ 8) :
 Calls Tryz.prog 80 #[.string s, .string seps] w fun e w' => e = .returned (.int .i64 (Lib.indexAny s.data.toList seps.data.toList)) ∧ Below w.heap.size w w' := by
 have hemp : seps.toList.isEmpty = false := by rw [Lib.toList_data]; rfl
 have hn1 : ((seps.size : Int) == 1) = false := by decide
 have h8z : decide ((8 : Int) < (s.size : Int)) = false := decide_eq_false (by omega)
 go_enter Tryz.func80, Tryz.ntmps80
 go_wp2_with (go_at_call 92; refine (Tryz.strings_shouldUseASCIISet _ _).mono ?_; rintro e w' ⟨rfl, hw⟩; rw [hw, h8z])
 go_loopg [9, 10] s.size (fun g _ _ wx => ∃ i : Nat, s.size ≤ i + g ∧ Below w.heap.size w wx ∧ wx.heap[w.heap.size]? = some (.stringIter s i) ∧ Lib.NoAny s.data.toList seps.data.toList i)
 case atStart => exact ⟨0, by omega, by apply below_alloc; exact Below.refl _ _, World.iter_heap _ _ _, Lib.NoAny.zero _ _⟩
 case round =>
  obtain ⟨i, hig, hB, hit, hno⟩ := hrel
  have HB : Aside (Below w.heap.size w wr) := hB
  have HN : Aside (Lib.NoAny s.data.toList seps.data.toList i) := hno
  clear hno
  by_cases hi : i < s.size
  case neg =>
   have hnx := fun ty => Lib.run_next_end_at (P := Tryz.prog) wr w.heap.size s i ty hit hi
   go_wp2
   go_ret
   exact ⟨by rw [Lib.indexAny_none (fun j b hj hb => HN.out j b (by have := (List.getElem?_eq_some_iff.1 hb).1; rw [← Lib.size_eq] at this; omega) hb)]; rfl, HB.out⟩
  cases gk with
  | zero => exact absurd hig (by omega)
  | succ g =>
   have hws : w.heap.size < wr.heap.size := (Array.getElem?_eq_some_iff.1 hit).1
   have hnx := fun ty => Lib.run_next_any_at (P := Tryz.prog) wr w.heap.size s i ty hit hi
   have hit2 := Lib.iterAt_heap wr w.heap.size s i (i + (Utf8.decode s i).2) hit
   have hB2 : Below w.heap.size w (wr.iterAt w.heap.size s (i + (Utf8.decode s i).2)) := Lib.below_iterAt hB (Nat.le_refl _) s _
   have hsz2 : (wr.iterAt w.heap.size s (i + (Utf8.decode s i).2)).heap.size = wr.heap.size := Lib.iterAt_size _ _ _ _
   generalize hx : s[i]'hi = x at *
   by_cases hx128 : x.toNat < 128
   case neg =>
    have hxh : 128 ≤ (s[i]'hi).toNat := by rw [hx]; omega
    have hd := decode_high s i hi hxh
    have hdl := decode_le s i
    have hv := dec_valid s i hi hxh
    have HN2 : Aside (Lib.NoAny s.data.toList seps.data.toList (i + (Utf8.decode s i).2)) := noany_skip s i hi hxh HN.out
    clear hx hxh
    generalize Utf8.decode s i = d at *
    obtain ⟨d1, d2⟩ := d
    dsimp only at *
    have HB2 : Aside (Below w.heap.size w (wr.iterAt w.heap.size s (i + d2))) := hB2
    have HI2 : Aside ((wr.iterAt w.heap.size s (i + d2)).heap[w.heap.size]? = some (.stringIter s (i + d2))) := hit2
    clear hB2 hit2
    generalize wr.iterAt w.heap.size s (i + d2) = wx at *
    have hneg : ¬ ((0 : Int) ≤ -1) := by omega
    have HR : Aside (Calls Tryz.prog 91 #[.string seps, .int .i32 (d1 : Int)] wx fun e w' => e = .returned (.int .i64 (-1)) ∧ Below wx.heap.size wx w') := rune_high wx d1 (by omega) (by omega) hv
    clear hv hdl
    go_wp2_with (go_at_call 91; refine (HR.out).mono ?_; rintro e w' ⟨rfl, hb⟩; have HBr : Aside (Below wx.heap.size wx w') := hb; clear hb)
    go_roundg g
    case measure => omega
    case rel =>
     refine ⟨i + d2, by omega, below_step HB2.out HBr.out, ?_, HN2.out⟩
     rw [← HI2.out]
     exact (HBr.out.block _ (by omega))
   have hd := decode_ascii s i hi (by rw [hx]; exact hx128)
   rw [hd] at hnx hit2 hB2 hsz2
   rw [hx] at hnx
   have hxl : s.data.toList[i]? = some x := by rw [← hx]; exact Lib.data_getElem? s i hi
   have hcon := Lib.contains_iff_indexByte seps.data.toList x
   have hback : ((x.toNat : Int)).toNat.toUInt8 = x := by simp
   have HB2 : Aside (Below w.heap.size w (wr.iterAt w.heap.size s (i + 1))) := hB2
   have HI2 : Aside ((wr.iterAt w.heap.size s (i + 1)).heap[w.heap.size]? = some (.stringIter s (i + 1))) := hit2
   have Hx : Aside (s.data.toList[i]? = some x) := hxl
   clear hxl hx hd hB2 hit2 hsz2
   generalize wr.iterAt w.heap.size s (i + 1) = wx at *
   cases hin : seps.data.toList.contains x
   · rw [hin] at hcon
     have hlt : ¬ ((0 : Int) ≤ Lib.indexByte seps.data.toList x) := of_decide_eq_false hcon.symm
     clear hcon
     go_wp2_with (go_at_call 91; refine (Tryz.strings_IndexRune_ascii _ _ _ (by omega) (by omega)).mono ?_; rintro e w' ⟨rfl, hw⟩; rw [hw, hback])
     go_roundg g
     case measure => omega
     case rel => exact ⟨i + 1, by omega, HB2.out, HI2.out, HN.out.succ Hx.out hin⟩
   · rw [hin] at hcon
     have hge : (0 : Int) ≤ Lib.indexByte seps.data.toList x := of_decide_eq_true hcon.symm
     clear hcon
     go_wp2_with (go_at_call 91; refine (Tryz.strings_IndexRune_ascii _ _ _ (by omega) (by omega)).mono ?_; rintro e w' ⟨rfl, hw⟩; rw [hw, hback])
     go_ret
     exact ⟨by rw [Lib.indexAny_hit HN.out Hx.out hin]; rfl, HB2.out⟩
def strings_IndexAny.f (a0 : ByteArray) (a1 : ByteArray) : Option Int := if a1 = seps ∧ a0.size < 4294967281 then some (Lib.indexAny a0.data.toList seps.data.toList) else none
theorem strings_IndexAny.calls (a0 : ByteArray) (a1 : ByteArray) (r : Int) (w : World) (h : strings_IndexAny.f a0 a1 = some r) :
 Calls Tryz.prog 80 #[.string a0, .string a1] w fun e w' => e = .returned (.int .i64 r) ∧ Below w.heap.size w w' := by
 unfold strings_IndexAny.f at h
 by_cases hc : a1 = seps ∧ a0.size < 4294967281
 case neg =>
  rw [if_neg hc] at h; cases h

 rw [if_pos hc] at h
 obtain rfl := Option.some.inj h
 obtain ⟨rfl, hs⟩ := hc
 by_cases h8 : a0.size ≤ 8
 case pos =>
  exact any_short a0 w h8
 refine (Tryz.strings_IndexAny_long (zero_of_info (n := 256) (by kernel_rfl)).1 a0 seps w (by decide) (by omega) hs (by decide) ?_).mono ?_
 · intro j b hb
   have : j < 3 := (List.getElem?_eq_some_iff.1 hb).1
   rcases (show j = 0 ∨ j = 1 ∨ j = 2 by omega) with rfl | rfl | rfl <;> (obtain rfl := Option.some.inj hb; decide)
 · rintro e w' ⟨rfl, rfl⟩
   exact ⟨rfl, by apply below_alloc; apply below_alloc; exact Below.refl _ _⟩
end Go.Proofs.YtgokcaccamfgfaaGreatDoor.G
end
section
-- Laid by the session's own driver gp.py over the kit's printer. Not trusted: Lean checks it.
namespace Go.Proofs.YtgokcaccamfgfaaGreatDoor.G
open Go.RowKit Go.Proofs.YtgokcaccamfgfaaGreatDoorW.PrintWords Go.Proofs.YtgokcaccamfgfaaGreatDoorW.PrintLast Go.Proofs.YtgokcaccamfgfaaGreatDoorW.PrintMore
set_option maxHeartbeats 8000000
set_option maxRecDepth 100000
attribute [local go_sem] max2_int min2_int max_two min_two max_three min_three max_four min_four   -- for this text's walks alone
set_option linter.unusedVariables false
set_option linter.unusedSimpArgs false

def term_word.f (a0 : ByteArray) : Option (ByteArray × ByteArray) := (strings_IndexAny.f a0 (⟨#[32, 40, 41]⟩ : ByteArray)).bind fun t123 => (if t123 < 0 then (if 0 ≤ (a0.size : Int) then (if (a0.size : Int) ≤ (a0.size : Int) then (some (a0.extract 0 ((a0.size : Int) : Int).toNat, a0.extract ((a0.size : Int) : Int).toNat a0.size)) else (none)) else (none)) else (if 0 ≤ t123 then (if t123 ≤ (a0.size : Int) then (some (a0.extract 0 (t123 : Int).toNat, a0.extract (t123 : Int).toNat a0.size)) else (none)) else (none)))
theorem term_word.calls (a0 : ByteArray) (r1 : ByteArray) (r2 : ByteArray) (w : World) (h : term_word.f a0 = some (r1, r2)) :
 Calls Tryz.prog 74 #[.string a0] w fun e w' => e = .returned (.tuple #[.string r1, .string r2]) ∧ Below w.heap.size w w' := by
 have HB := a_ (Below.refl w.heap.size w)
 have H : ((strings_IndexAny.f a0 (⟨#[32, 40, 41]⟩ : ByteArray)).bind fun t123 => (if t123 < 0 then (if 0 ≤ (a0.size : Int) then (if (a0.size : Int) ≤ (a0.size : Int) then (some (a0.extract 0 ((a0.size : Int) : Int).toNat, a0.extract ((a0.size : Int) : Int).toNat a0.size)) else (none)) else (none)) else (if 0 ≤ t123 then (if t123 ≤ (a0.size : Int) then (some (a0.extract 0 (t123 : Int).toNat, a0.extract (t123 : Int).toNat a0.size)) else (none)) else (none)))) = some (r1, r2) := h
 clear h
 replace H := Option.bind_eq_some_iff.mp H
 obtain ⟨t123, A20, H⟩ := H
 replace H : (if t123 < 0 then (if 0 ≤ (a0.size : Int) then (if (a0.size : Int) ≤ (a0.size : Int) then (some (a0.extract 0 ((a0.size : Int) : Int).toNat, a0.extract ((a0.size : Int) : Int).toNat a0.size)) else (none)) else (none)) else (if 0 ≤ t123 then (if t123 ≤ (a0.size : Int) then (some (a0.extract 0 (t123 : Int).toNat, a0.extract (t123 : Int).toNat a0.size)) else (none)) else (none))) = some (r1, r2) := H
 have A2 := a_ A20
 clear A20
 by_cases c3 : t123 < 0
 case neg =>
  rw [if_neg c3] at H
  have c3b0 : decide (t123 < 0) = false := decide_eq_false c3
  clear c3
  replace H := ifI_ H; obtain ⟨c9, H⟩ := H
  have c9b0 := eq_true c9
  have c9b1 : decide (0 ≤ t123) = true := decide_eq_true c9
  clear c9
  replace H := ifI_ H; obtain ⟨c10, H⟩ := H
  have c10b0 := eq_true c10
  have c10b1 : decide (t123 ≤ (a0.size : Int)) = true := decide_eq_true c10
  clear c10
  have c11b0 := eq_true (of_decide_eq_true hA_ : 0 ≤ t123)
  have c12b0 := eq_true (of_decide_eq_true hA_ : t123 ≤ (a0.size : Int))
  simp only [Option.some.injEq, Prod.mk.injEq] at H
  obtain ⟨rfl, rfl⟩ := H
  go_enter Tryz.func74, Tryz.ntmps74
  go_wp2_with (first | (go_at_call 80; (with_reducible refine (strings_IndexAny.calls a0 (⟨#[32, 40, 41]⟩ : ByteArray) t123 _ A2.out).mono ?_); rintro e w13 ⟨rfl, hb⟩; replace HB := a_ (below_step hB_ hb); (try clear hb); (try clear hb2); (try clear hk); (try clear hi)))
  repeat (go_quiet (first | (go_at_call 80; (with_reducible refine (strings_IndexAny.calls a0 (⟨#[32, 40, 41]⟩ : ByteArray) t123 _ A2.out).mono ?_); rintro e w13 ⟨rfl, hb⟩; replace HB := a_ (below_step hB_ hb); (try clear hb); (try clear hb2); (try clear hk); (try clear hi))); try go_wp2_with (first | (go_at_call 80; (with_reducible refine (strings_IndexAny.calls a0 (⟨#[32, 40, 41]⟩ : ByteArray) t123 _ A2.out).mono ?_); rintro e w13 ⟨rfl, hb⟩; replace HB := a_ (below_step hB_ hb); (try clear hb); (try clear hb2); (try clear hk); (try clear hi))))
  go_ret2
  exact ⟨hV_, hC_⟩
 rw [if_pos c3] at H
 have c3b0 : decide (t123 < 0) = true := decide_eq_true c3
 clear c3
 replace H := ifI_ H; obtain ⟨c4, H⟩ := H
 have c4b0 := eq_true c4
 have c4b1 : decide (0 ≤ (a0.size : Int)) = true := decide_eq_true c4
 clear c4
 replace H := ifI_ H; obtain ⟨c5, H⟩ := H
 have c5b0 := eq_true c5
 have c5b1 : decide ((a0.size : Int) ≤ (a0.size : Int)) = true := decide_eq_true c5
 clear c5
 have c6b0 := eq_true (of_decide_eq_true hA_ : 0 ≤ (a0.size : Int))
 have c7b0 := eq_true (of_decide_eq_true hA_ : (a0.size : Int) ≤ (a0.size : Int))
 simp only [Option.some.injEq, Prod.mk.injEq] at H
 obtain ⟨rfl, rfl⟩ := H
 go_enter Tryz.func74, Tryz.ntmps74
 go_wp2_with (first | (go_at_call 80; (with_reducible refine (strings_IndexAny.calls a0 (⟨#[32, 40, 41]⟩ : ByteArray) t123 _ A2.out).mono ?_); rintro e w8 ⟨rfl, hb⟩; replace HB := a_ (below_step hB_ hb); (try clear hb); (try clear hb2); (try clear hk); (try clear hi)))
 repeat (go_quiet (first | (go_at_call 80; (with_reducible refine (strings_IndexAny.calls a0 (⟨#[32, 40, 41]⟩ : ByteArray) t123 _ A2.out).mono ?_); rintro e w8 ⟨rfl, hb⟩; replace HB := a_ (below_step hB_ hb); (try clear hb); (try clear hb2); (try clear hk); (try clear hi))); try go_wp2_with (first | (go_at_call 80; (with_reducible refine (strings_IndexAny.calls a0 (⟨#[32, 40, 41]⟩ : ByteArray) t123 _ A2.out).mono ?_); rintro e w8 ⟨rfl, hb⟩; replace HB := a_ (below_step hB_ hb); (try clear hb); (try clear hb2); (try clear hk); (try clear hi))))
 go_ret2
 exact ⟨hV_, hC_⟩
end Go.Proofs.YtgokcaccamfgfaaGreatDoor.G
end
section
-- Laid by the session's own driver gp.py over the kit's printer. Not trusted: Lean checks it.
namespace Go.Proofs.YtgokcaccamfgfaaGreatDoor.G
open Go.RowKit Go.Proofs.YtgokcaccamfgfaaGreatDoorW.PrintWords Go.Proofs.YtgokcaccamfgfaaGreatDoorW.PrintLast Go.Proofs.YtgokcaccamfgfaaGreatDoorW.PrintMore
set_option maxHeartbeats 8000000
set_option maxRecDepth 100000
attribute [local go_sem] max2_int min2_int max_two min_two max_three min_three max_four min_four   -- for this text's walks alone
set_option linter.unusedVariables false
set_option linter.unusedSimpArgs false

def term_Number.f (a0 : ByteArray) : Option (Int × Bool) := if a0.size ≤ 281474976710656 then some (numF a0) else none
theorem term_Number.calls (a0 : ByteArray) (r1 : Int) (r2 : Bool) (w : World) (h : term_Number.f a0 = some (r1, r2)) (hG : GOK w) :
 Calls Tryz.prog 75 #[.string a0] w fun e w' => e = .returned (.tuple #[.int .i64 r1, .bool r2]) ∧ Below w.heap.size w w' := by
 unfold term_Number.f at h
 by_cases hs : a0.size ≤ 281474976710656
 case neg =>
  rw [if_neg hs] at h
  cases h

 rw [if_pos hs] at h
 have h := Option.some.inj h
 obtain ⟨rfl, rfl⟩ : r1 = (numF a0).1 ∧ r2 = (numF a0).2 := by rw [h]; exact ⟨rfl, rfl⟩
 clear h
 have hr := atoiF_range a0
 have hC := a_ (atoi_calls a0 hs w hG)
 have hn : (numF a0).1 = (atoiF a0).1 := by unfold numF atoiF; cases Lib.atoiAll a0.data.toList <;> rfl
 rw [hn]
 have hb : (numF a0).2 = ((atoiF a0).2 && ((decide (-32768 ≤ (atoiF a0).1) && decide ((atoiF a0).1 ≤ 32767)) && itoaK (atoiF a0).1 == a0.data.toList)) := by
  unfold numF atoiF; cases Lib.atoiAll a0.data.toList <;> rfl
 rw [hb]
 clear hn hb
 generalize (atoiF a0).1 = v at hr hC ⊢
 generalize (atoiF a0).2 = ok at hC ⊢
 cases ok with
 | false =>
  go_enter Tryz.func75, Tryz.ntmps75
  go_wp2_with (go_at_call 81; refine (hC.out).mono ?_; rintro e w1 ⟨⟨N, rfl⟩, hb⟩; have HB := a_ hb; clear hb; simp only [errV, Bool.false_eq_true, if_false])
  go_ret2
  exact ⟨rfl, by repeat (first | exact HB.out | apply below_alloc | apply pw_below_drewN | apply below_drew1)⟩
 | true =>
  by_cases c1 : -32768 ≤ v
  case neg =>
   have k1 : decide (-32768 ≤ v) = false := decide_eq_false c1
   have e1 : (true && ((decide (-32768 ≤ v) && decide (v ≤ 32767)) && itoaK v == a0.data.toList)) = false := by rw [k1]; rfl
   rw [e1]
   clear e1
   go_enter Tryz.func75, Tryz.ntmps75
   go_wp2_with (first
    | (go_at_call 81; refine (hC.out).mono ?_; rintro e w1 ⟨⟨N, rfl⟩, hb⟩; have HB := a_ hb; clear hb; simp only [errV, if_true])
    | go_in)
   go_ret2
   exact ⟨rfl, by repeat (first | exact HB.out | apply below_alloc | apply pw_below_drewN | apply below_drew1)⟩
  by_cases c2 : v ≤ 32767
  case neg =>
   have k1 : decide (-32768 ≤ v) = true := decide_eq_true c1
   have k2 : decide (v ≤ 32767) = false := decide_eq_false c2
   have e1 : (true && ((decide (-32768 ≤ v) && decide (v ≤ 32767)) && itoaK v == a0.data.toList)) = false := by rw [k1, k2]; rfl
   rw [e1]
   clear e1
   go_enter Tryz.func75, Tryz.ntmps75
   go_wp2_with (first
    | (go_at_call 81; refine (hC.out).mono ?_; rintro e w1 ⟨⟨N, rfl⟩, hb⟩; have HB := a_ hb; clear hb; simp only [errV, if_true])
    | go_in)
   go_ret2
   exact ⟨rfl, by repeat (first | exact HB.out | apply below_alloc | apply pw_below_drewN | apply below_drew1)⟩
  have k1 : decide (-32768 ≤ v) = true := decide_eq_true c1
  have k2 : decide (v ≤ 32767) = true := decide_eq_true c2
  have e1 : (true && ((decide (-32768 ≤ v) && decide (v ≤ 32767)) && itoaK v == a0.data.toList)) = (itoaK v == a0.data.toList) := by rw [k1, k2]; rfl
  rw [e1]
  clear e1
  go_enter Tryz.func75, Tryz.ntmps75
  go_wp2_with (first
   | (go_at_call 81; refine (hC.out).mono ?_; rintro e w1 ⟨⟨N, rfl⟩, hb⟩; have HB := a_ hb; have HG1 := hG.below hb; clear hb; simp only [errV, if_true])
   | (go_at_call 83; refine (itoa_calls v (by omega) (by omega) _ HG1).mono ?_; rintro e w2 ⟨rfl, hb⟩; have HB2 := a_ (below_step HB.out hb); clear hb)
   | go_in)
  go_ret2
  exact ⟨by rw [Lib.toList_data]; rfl, by repeat (first | exact HB2.out | apply below_alloc | apply pw_below_drewN | apply below_drew1)⟩
end Go.Proofs.YtgokcaccamfgfaaGreatDoor.G
end
section
-- Laid by the session's own driver gp.py over the kit's printer. Not trusted: Lean checks it.
namespace Go.Proofs.YtgokcaccamfgfaaGreatDoor.G
open Go.RowKit Go.Proofs.YtgokcaccamfgfaaGreatDoorW.PrintWords Go.Proofs.YtgokcaccamfgfaaGreatDoorW.PrintLast Go.Proofs.YtgokcaccamfgfaaGreatDoorW.PrintMore
attribute [local go_sem] max2_int min2_int max_two min_two max_three min_three max_four min_four   -- for this text's walks alone
set_option linter.unusedVariables false
set_option linter.unusedSimpArgs false

def strings_CutPrefix.f (a0 : ByteArray) (a1 : ByteArray) : Option (ByteArray × Bool) := some (⟨(Lib.trimPrefix a0.data.toList a1.data.toList).toArray⟩, Lib.hasPrefix a0.data.toList a1.data.toList)
theorem strings_CutPrefix.calls (a0 : ByteArray) (a1 : ByteArray) (r1 : ByteArray) (r2 : Bool) (w : World) (h : strings_CutPrefix.f a0 a1 = some (r1, r2)) :
 Calls Tryz.prog 78 #[.string a0, .string a1] w fun e w' => e = .returned (.tuple #[.string r1, .bool r2]) ∧ Drawn0 w w' := by
 have h := Option.some.inj h
 obtain ⟨rfl, rfl⟩ := Prod.mk.inj h
 refine (Tryz.strings_CutPrefix a0 a1 w).mono ?_
 rintro e w' ⟨rfl, rfl⟩
 exact ⟨rfl, Drawn0.refl _⟩

end Go.Proofs.YtgokcaccamfgfaaGreatDoor.G
end
section
-- Laid by the session's own driver gp.py over the kit's printer. Not trusted: Lean checks it.
namespace Go.Proofs.YtgokcaccamfgfaaGreatDoor.G
open Go.RowKit Go.Proofs.YtgokcaccamfgfaaGreatDoorW.PrintWords Go.Proofs.YtgokcaccamfgfaaGreatDoorW.PrintLast Go.Proofs.YtgokcaccamfgfaaGreatDoorW.PrintMore
set_option maxHeartbeats 8000000
set_option maxRecDepth 100000
attribute [local go_sem] max2_int min2_int max_two min_two max_three min_three max_four min_four   -- for this text's walks alone
set_option linter.unusedVariables false
set_option linter.unusedSimpArgs false

def term_Digits.f (a0 : ByteArray) (a1 : Int) : Option (Int × Bool) := if a0.size ≤ 281474976710656 then some (digF a0 a1) else none
theorem term_Digits.calls (a0 : ByteArray) (a1 : Int) (r1 : Int) (r2 : Bool) (w : World) (h : term_Digits.f a0 a1 = some (r1, r2)) (hG : GOK w) :
 Calls Tryz.prog 84 #[.string a0, .int .i64 a1] w fun e w' => e = .returned (.tuple #[.int .i64 r1, .bool r2]) ∧ Below w.heap.size w w' := by
 unfold term_Digits.f at h
 by_cases hs : a0.size ≤ 281474976710656
 case neg =>
  rw [if_neg hs] at h
  cases h

 rw [if_pos hs] at h
 have h := Option.some.inj h
 obtain ⟨rfl, rfl⟩ : r1 = (digF a0 a1).1 ∧ r2 = (digF a0 a1).2 := by rw [h]; exact ⟨rfl, rfl⟩
 clear h
 have hr := atoiF_range a0
 have hC := a_ (atoi_calls a0 hs w hG)
 have hn : (digF a0 a1).1 = (atoiF a0).1 := by unfold digF atoiF; cases Lib.atoiAll a0.data.toList <;> rfl
 rw [hn]
 have hb : (digF a0 a1).2 = ((atoiF a0).2 && ((decide (0 ≤ (atoiF a0).1) && decide ((atoiF a0).1 ≤ a1)) && itoaK (atoiF a0).1 == a0.data.toList)) := by
  unfold digF atoiF; cases Lib.atoiAll a0.data.toList <;> rfl
 rw [hb]
 clear hn hb
 generalize (atoiF a0).1 = v at hr hC ⊢
 generalize (atoiF a0).2 = ok at hC ⊢
 cases ok with
 | false =>
  go_enter Tryz.func84, Tryz.ntmps84
  go_wp2_with (go_at_call 81; refine (hC.out).mono ?_; rintro e w1 ⟨⟨N, rfl⟩, hb⟩; have HB := a_ hb; clear hb; simp only [errV, Bool.false_eq_true, if_false])
  go_ret2
  exact ⟨rfl, by repeat (first | exact HB.out | apply below_alloc | apply pw_below_drewN | apply below_drew1)⟩
 | true =>
  by_cases c1 : 0 ≤ v
  case neg =>
   have k1 : decide (0 ≤ v) = false := decide_eq_false c1
   have e1 : (true && ((decide (0 ≤ v) && decide (v ≤ a1)) && itoaK v == a0.data.toList)) = false := by rw [k1]; rfl
   rw [e1]
   clear e1
   go_enter Tryz.func84, Tryz.ntmps84
   go_wp2_with (first
    | (go_at_call 81; refine (hC.out).mono ?_; rintro e w1 ⟨⟨N, rfl⟩, hb⟩; have HB := a_ hb; clear hb; simp only [errV, if_true])
    | go_in)
   go_ret2
   exact ⟨rfl, by repeat (first | exact HB.out | apply below_alloc | apply pw_below_drewN | apply below_drew1)⟩
  by_cases c2 : v ≤ a1
  case neg =>
   have k1 : decide (0 ≤ v) = true := decide_eq_true c1
   have k2 : decide (v ≤ a1) = false := decide_eq_false c2
   have e1 : (true && ((decide (0 ≤ v) && decide (v ≤ a1)) && itoaK v == a0.data.toList)) = false := by rw [k1, k2]; rfl
   rw [e1]
   clear e1
   go_enter Tryz.func84, Tryz.ntmps84
   go_wp2_with (first
    | (go_at_call 81; refine (hC.out).mono ?_; rintro e w1 ⟨⟨N, rfl⟩, hb⟩; have HB := a_ hb; clear hb; simp only [errV, if_true])
    | go_in)
   go_ret2
   exact ⟨rfl, by repeat (first | exact HB.out | apply below_alloc | apply pw_below_drewN | apply below_drew1)⟩
  have k1 : decide (0 ≤ v) = true := decide_eq_true c1
  have k2 : decide (v ≤ a1) = true := decide_eq_true c2
  have e1 : (true && ((decide (0 ≤ v) && decide (v ≤ a1)) && itoaK v == a0.data.toList)) = (itoaK v == a0.data.toList) := by rw [k1, k2]; rfl
  rw [e1]
  clear e1
  go_enter Tryz.func84, Tryz.ntmps84
  go_wp2_with (first
   | (go_at_call 81; refine (hC.out).mono ?_; rintro e w1 ⟨⟨N, rfl⟩, hb⟩; have HB := a_ hb; have HG1 := hG.below hb; clear hb; simp only [errV, if_true])
   | (go_at_call 83; refine (itoa_calls v (by omega) (by omega) _ HG1).mono ?_; rintro e w2 ⟨rfl, hb⟩; have HB2 := a_ (below_step HB.out hb); clear hb)
   | go_in)
  go_ret2
  exact ⟨by rw [Lib.toList_data]; rfl, by repeat (first | exact HB2.out | apply below_alloc | apply pw_below_drewN | apply below_drew1)⟩
end Go.Proofs.YtgokcaccamfgfaaGreatDoor.G
end
section
-- Laid by the session's own driver gp.py over the kit's printer. Not trusted: Lean checks it.
namespace Go.Proofs.YtgokcaccamfgfaaGreatDoor.G
open Go.RowKit Go.Proofs.YtgokcaccamfgfaaGreatDoorW.PrintWords Go.Proofs.YtgokcaccamfgfaaGreatDoorW.PrintLast Go.Proofs.YtgokcaccamfgfaaGreatDoorW.PrintMore
set_option maxHeartbeats 8000000
set_option maxRecDepth 100000
attribute [local go_sem] max2_int min2_int max_two min_two max_three min_three max_four min_four   -- for this text's walks alone
set_option linter.unusedVariables false
set_option linter.unusedSimpArgs false

def term_Tag.f (a0 : ByteArray) : Option (Int × Bool) := (strings_CutPrefix.f a0 (⟨#[64]⟩ : ByteArray)).bind fun bt124 => ((term_Digits.f bt124.1 99).bind fun bt126 => (if bt124.2 = true then (some (bt126.1, bt126.2)) else (some (bt126.1, false))))
theorem term_Tag.calls (a0 : ByteArray) (r1 : Int) (r2 : Bool) (w : World) (h : term_Tag.f a0 = some (r1, r2)) (hG : GOK w) :
 Calls Tryz.prog 76 #[.string a0] w fun e w' => e = .returned (.tuple #[.int .i64 r1, .bool r2]) ∧ Below w.heap.size w w' := by
 have HB := a_ (Below.refl w.heap.size w)
 have H : ((strings_CutPrefix.f a0 (⟨#[64]⟩ : ByteArray)).bind fun bt124 => ((term_Digits.f bt124.1 99).bind fun bt126 => (if bt124.2 = true then (some (bt126.1, bt126.2)) else (some (bt126.1, false))))) = some (r1, r2) := h
 clear h
 replace H := Option.bind_eq_some_iff.mp H
 obtain ⟨⟨t124, t125⟩, A20, H⟩ := H
 replace H : ((term_Digits.f t124 99).bind fun bt126 => (if t125 = true then (some (bt126.1, bt126.2)) else (some (bt126.1, false)))) = some (r1, r2) := H
 have A2 := a_ A20
 clear A20
 replace H := Option.bind_eq_some_iff.mp H
 obtain ⟨⟨t126, t127⟩, A30, H⟩ := H
 replace H : (if t125 = true then (some (t126, t127)) else (some (t126, false))) = some (r1, r2) := H
 have A3 := a_ A30
 clear A30
 by_cases c4 : t125 = true
 case pos =>
  subst c4
  have H1 : (some (t126, t127)) = some (r1, r2) := by rw [if_pos rfl] at H; exact H
  clear H
  have H := H1
  clear H1
  simp only [Option.some.injEq, Prod.mk.injEq] at H
  obtain ⟨rfl, rfl⟩ := H
  go_enter Tryz.func76, Tryz.ntmps76
  go_wp2_with (first | ((with_reducible refine gate_callee (f := 78) rfl ?_); refine goesL_ (some 10) rfl rfl Tryz.func78 (by kernel_rfl) rfl #[.string a0, .string (⟨#[64]⟩ : ByteArray)] rfl hL_ ?_; (with_reducible refine (strings_CutPrefix.calls a0 (⟨#[64]⟩ : ByteArray) t124 true _ A2.out).mono ?_); rintro e w' ⟨rfl, ⟨nd, rfl⟩⟩; refine ⟨_, rfl, ?_⟩) | ((with_reducible refine gate_callee (f := 84) rfl ?_); refine goesL_ (some 15) rfl rfl Tryz.func84 (by kernel_rfl) rfl #[.string t124, .int .i64 99] rfl hL_ ?_; (with_reducible refine (term_Digits.calls t124 99 t126 t127 _ A3.out hG_).mono ?_); rintro e w5 ⟨rfl, hb⟩; refine ⟨_, rfl, ?_⟩; replace HB := a_ (below_step hB_ hb); (try clear hb); (try clear hb2); (try clear hk); (try clear hi)))
  go_ret2
  exact ⟨hV_, hC_⟩
 replace c4 := Bool.eq_false_iff.mpr c4
 subst c4
 have H1 : (some (t126, false)) = some (r1, r2) := by rw [if_neg (show ¬ (false = true) by decide)] at H; exact H
 clear H
 have H := H1
 clear H1
 simp only [Option.some.injEq, Prod.mk.injEq] at H
 obtain ⟨rfl, rfl⟩ := H
 go_enter Tryz.func76, Tryz.ntmps76
 go_wp2_with (first | ((with_reducible refine gate_callee (f := 78) rfl ?_); refine goesL_ (some 10) rfl rfl Tryz.func78 (by kernel_rfl) rfl #[.string a0, .string (⟨#[64]⟩ : ByteArray)] rfl hL_ ?_; (with_reducible refine (strings_CutPrefix.calls a0 (⟨#[64]⟩ : ByteArray) t124 false _ A2.out).mono ?_); rintro e w' ⟨rfl, ⟨nd, rfl⟩⟩; refine ⟨_, rfl, ?_⟩) | ((with_reducible refine gate_callee (f := 84) rfl ?_); refine goesL_ (some 15) rfl rfl Tryz.func84 (by kernel_rfl) rfl #[.string t124, .int .i64 99] rfl hL_ ?_; (with_reducible refine (term_Digits.calls t124 99 t126 t127 _ A3.out hG_).mono ?_); rintro e w6 ⟨rfl, hb⟩; refine ⟨_, rfl, ?_⟩; replace HB := a_ (below_step hB_ hb); (try clear hb); (try clear hb2); (try clear hk); (try clear hi)))
 go_ret2
 exact ⟨hV_, hC_⟩

end Go.Proofs.YtgokcaccamfgfaaGreatDoor.G
end
section
-- Laid by the session's own driver gp.py over the kit's printer. Not trusted: Lean checks it.
namespace Go.Proofs.YtgokcaccamfgfaaGreatDoor.G
open Go.RowKit Go.Proofs.YtgokcaccamfgfaaGreatDoorW.PrintWords Go.Proofs.YtgokcaccamfgfaaGreatDoorW.PrintLast Go.Proofs.YtgokcaccamfgfaaGreatDoorW.PrintMore
attribute [local go_sem] max2_int min2_int max_two min_two max_three min_three max_four min_four   -- for this text's walks alone
set_option linter.unusedVariables false
set_option linter.unusedSimpArgs false

def strings_HasPrefix.f (a0 : ByteArray) (a1 : ByteArray) : Option Bool := some (Lib.hasPrefix a0.data.toList a1.data.toList)
theorem strings_HasPrefix.calls (a0 : ByteArray) (a1 : ByteArray) (r : Bool) (w : World) (h : strings_HasPrefix.f a0 a1 = some r) :
 Calls Tryz.prog 77 #[.string a0, .string a1] w fun e w' => e = .returned (.bool r) ∧ Drawn0 w w' := by
 obtain rfl := Option.some.inj h
 refine (Tryz.strings_HasPrefix a0 a1 w).mono ?_
 rintro e w' ⟨rfl, rfl⟩
 exact ⟨rfl, Drawn0.refl _⟩

end Go.Proofs.YtgokcaccamfgfaaGreatDoor.G
end
section
-- Laid by the session's own driver gp.py over the kit's printer. Not trusted: Lean checks it.
namespace Go.Proofs.YtgokcaccamfgfaaGreatDoor.G
open Go.RowKit Go.Proofs.YtgokcaccamfgfaaGreatDoorW.PrintWords Go.Proofs.YtgokcaccamfgfaaGreatDoorW.PrintLast Go.Proofs.YtgokcaccamfgfaaGreatDoorW.PrintMore
set_option maxHeartbeats 8000000
set_option maxRecDepth 100000
attribute [local go_sem] max2_int min2_int max_two min_two max_three min_three max_four min_four   -- for this text's walks alone
set_option linter.unusedVariables false
set_option linter.unusedSimpArgs false

mutual
def term_cut.j0 : Nat → ByteArray → Int → Bool → Bool → Option (Int × Int × List ByteArray × ByteArray × Bool)
 | 0, _, _, _, _ => none
 | k + 1, x8, x11, x12, x52 => if x52 = true then (some (2, x11, ([] : List ByteArray), x8, x12)) else (term_cut.l0 k x8 x11 ([] : List ByteArray))
def term_cut.l0 : Nat → ByteArray → Int → List ByteArray → Option (Int × Int × List ByteArray × ByteArray × Bool)
 | 0, _, _, _ => none
 | k + 1, x8, x11, x13 => if (x13.length : Int) < 3 then (if 1 ≤ (x8.size : Int) then ((term_cut.f k (x8.extract 1 x8.size)).bind fun bt137 => (if bt137.2.2.2.2 = true then (if 0 ≤ (wrap64 (((x8.extract 1 x8.size).size : Int) - (bt137.2.2.2.1.size : Int))) then (if (wrap64 (((x8.extract 1 x8.size).size : Int) - (bt137.2.2.2.1.size : Int))) ≤ ((x8.extract 1 x8.size).size : Int) then (if x13.length < 8796093022208 then ((some (x13 ++ [(x8.extract 1 x8.size).extract 0 ((wrap64 (((x8.extract 1 x8.size).size : Int) - (bt137.2.2.2.1.size : Int))) : Int).toNat] : List ByteArray)).bind fun y144 => ((strings_HasPrefix.f bt137.2.2.2.1 (⟨#[32]⟩ : ByteArray)).bind fun t147 => (if t147 = true then (term_cut.l0 k bt137.2.2.2.1 x11 y144) else ((strings_CutPrefix.f bt137.2.2.2.1 (⟨#[41]⟩ : ByteArray)).bind fun bt148 => (some (2, x11, y144, bt148.1, bt148.2)))))) else (none)) else (none)) else (none)) else (some (0, 0, ([] : List ByteArray), (⟨#[]⟩ : ByteArray), false)))) else (none)) else ((strings_CutPrefix.f x8 (⟨#[41]⟩ : ByteArray)).bind fun bt135 => (some (2, x11, x13, bt135.1, bt135.2)))
def term_cut.f : Nat → ByteArray → Option (Int × Int × List ByteArray × ByteArray × Bool)
 | 0, _ => none
 | k + 1, a0 => (term_word.f a0).bind fun bt128 => (if bt128.1.toList = ([95] : List UInt8) then (some (0, 0, ([] : List ByteArray), bt128.2, true)) else (if bt128.1.toList = ([33] : List UInt8) then (some (3, 0, ([] : List ByteArray), bt128.2, true)) else ((term_Number.f bt128.1).bind fun bt130 => (if bt130.2 = true then (some (1, bt130.1, ([] : List ByteArray), bt128.2, true)) else ((term_Tag.f bt128.1).bind fun bt132 => (if bt132.2 = true then ((strings_HasPrefix.f bt128.2 (⟨#[40]⟩ : ByteArray)).bind fun t134 => (term_cut.j0 k bt128.2 bt132.1 bt132.2 (!t134))) else (term_cut.j0 k bt128.2 bt132.1 bt132.2 true)))))))
end
theorem term_cut.mono_l : ∀ k, (∀ y0, LeO (term_cut.f k y0) (term_cut.f (k + 1) y0)) ∧ (∀ y0 y1 y2 y3, LeO (term_cut.j0 k y0 y1 y2 y3) (term_cut.j0 (k + 1) y0 y1 y2 y3)) ∧ (∀ y0 y1 y2, LeO (term_cut.l0 k y0 y1 y2) (term_cut.l0 (k + 1) y0 y1 y2))
 | 0 => ⟨fun _ r h => by simp [term_cut.f] at h, fun _ _ _ _ r h => by simp [term_cut.j0] at h, fun _ _ _ r h => by simp [term_cut.l0] at h⟩
 | k + 1 => by
  obtain ⟨ih0, ih1, ih2⟩ := term_cut.mono_l k
  refine ⟨?_, ?_, ?_⟩
  · intro y0
    unfold term_cut.f
    repeat' first
    | (with_reducible exact ih0 _)
    | (with_reducible exact ih1 _ _ _ _)
    | (with_reducible exact ih2 _ _ _)
    | (with_reducible exact LeO.refl _)
    | (with_reducible exact LeO.none _)
    | (with_reducible refine LeO.ite ?_ ?_)
    | (with_reducible refine LeO.bind ?_ (fun _ => ?_))
    | exact ih0 _
    | exact ih1 _ _ _ _
    | exact ih2 _ _ _
    | exact LeO.none _
    | refine LeO.ite ?_ ?_
    | refine LeO.bind ?_ (fun _ => ?_)
  · intro y0 y1 y2 y3
    unfold term_cut.j0
    repeat' first
    | (with_reducible exact ih0 _)
    | (with_reducible exact ih1 _ _ _ _)
    | (with_reducible exact ih2 _ _ _)
    | (with_reducible exact LeO.refl _)
    | (with_reducible exact LeO.none _)
    | (with_reducible refine LeO.ite ?_ ?_)
    | (with_reducible refine LeO.bind ?_ (fun _ => ?_))
    | exact ih0 _
    | exact ih1 _ _ _ _
    | exact ih2 _ _ _
    | exact LeO.none _
    | refine LeO.ite ?_ ?_
    | refine LeO.bind ?_ (fun _ => ?_)
  · intro y0 y1 y2
    unfold term_cut.l0
    repeat' first
    | (with_reducible exact ih0 _)
    | (with_reducible exact ih1 _ _ _ _)
    | (with_reducible exact ih2 _ _ _)
    | (with_reducible exact LeO.refl _)
    | (with_reducible exact LeO.none _)
    | (with_reducible refine LeO.ite ?_ ?_)
    | (with_reducible refine LeO.bind ?_ (fun _ => ?_))
    | exact ih0 _
    | exact ih1 _ _ _ _
    | exact ih2 _ _ _
    | exact LeO.none _
    | refine LeO.ite ?_ ?_
    | refine LeO.bind ?_ (fun _ => ?_)
theorem term_cut.mono : ∀ a0 k, LeO (term_cut.f k a0) (term_cut.f (k + 1) a0) := by
 intro a0 k
 obtain ⟨ih0, ih1, ih2⟩ := term_cut.mono_l k
 exact ih0 a0
theorem term_cut.calls (k : Nat) : ∀ (a0 : ByteArray) (r1 : Int) (r2 : Int) (r3 : List ByteArray) (r4 : ByteArray) (r5 : Bool) (w : World) (h : term_cut.f k a0 = some (r1, r2, r3, r4, r5)) (hG : GOK w),
 Calls Tryz.prog 71 #[.string a0] w fun e w' => ∃ v2_ : Value, e = .returned (.tuple #[.int .i64 r1, .int .i64 r2, v2_, .string r4, .bool r5]) ∧ Kd.R Kd.string 9 w' w.heap.size (fun _ => True) v2_ r3 ∧ Below w.heap.size w w' := by
 induction k using Nat.strongRecOn with
 | _ k ih =>
 intro a0 r1 r2 r3 r4 r5 w h hG
 cases k with
 | zero => exact absurd h (by simp [term_cut.f])
 | succ k =>
 simp only [term_cut.f] at h
 have HB := a_ (Below.refl w.heap.size w)
 have H : ((term_word.f a0).bind fun bt128 => (if bt128.1.toList = ([95] : List UInt8) then (some (0, 0, ([] : List ByteArray), bt128.2, true)) else (if bt128.1.toList = ([33] : List UInt8) then (some (3, 0, ([] : List ByteArray), bt128.2, true)) else ((term_Number.f bt128.1).bind fun bt130 => (if bt130.2 = true then (some (1, bt130.1, ([] : List ByteArray), bt128.2, true)) else ((term_Tag.f bt128.1).bind fun bt132 => (if bt132.2 = true then ((strings_HasPrefix.f bt128.2 (⟨#[40]⟩ : ByteArray)).bind fun t134 => (term_cut.j0 k bt128.2 bt132.1 bt132.2 (!t134))) else (term_cut.j0 k bt128.2 bt132.1 bt132.2 true)))))))) = some (r1, r2, r3, r4, r5) := h
 clear h
 replace H := Option.bind_eq_some_iff.mp H
 obtain ⟨⟨t128, t129⟩, A20, H⟩ := H
 replace H : (if t128.toList = ([95] : List UInt8) then (some (0, 0, ([] : List ByteArray), t129, true)) else (if t128.toList = ([33] : List UInt8) then (some (3, 0, ([] : List ByteArray), t129, true)) else ((term_Number.f t128).bind fun bt130 => (if bt130.2 = true then (some (1, bt130.1, ([] : List ByteArray), t129, true)) else ((term_Tag.f t128).bind fun bt132 => (if bt132.2 = true then ((strings_HasPrefix.f t129 (⟨#[40]⟩ : ByteArray)).bind fun t134 => (term_cut.j0 k t129 bt132.1 bt132.2 (!t134))) else (term_cut.j0 k t129 bt132.1 bt132.2 true))))))) = some (r1, r2, r3, r4, r5) := H
 have A2 := a_ A20
 clear A20
 by_cases c3 : t128.toList = ([95] : List UInt8)
 case pos =>
  rw [if_pos c3] at H
  have c3b0 : (t128.toList == ([95] : List UInt8)) = true := beq_iff_eq.mpr c3
  have c3b1 : (t128.toList != ([95] : List UInt8)) = false := bne_eq_false_iff_eq.mpr c3
  clear c3
  simp only [Option.some.injEq, Prod.mk.injEq] at H
  obtain ⟨rfl, rfl, rfl, rfl, rfl⟩ := H
  go_enter Tryz.func71, Tryz.ntmps71
  go_wp2_with (first | ((with_reducible refine gate_callee (f := 74) rfl ?_); refine goesL_ (some 24) rfl rfl Tryz.func74 (by kernel_rfl) rfl #[.string a0] rfl hL_ ?_; (with_reducible refine (term_word.calls a0 t128 t129 _ A2.out).mono ?_); rintro e w4 ⟨rfl, hb⟩; refine ⟨_, rfl, ?_⟩; replace HB := a_ (below_step hB_ hb); (try clear hb); (try clear hb2); (try clear hk); (try clear hi)))
  refine bodyPost_ret (results_list (rs := [.tmp 2, .tmp 3, .tmp 4, .tmp 5, .tmp 6]) rfl (by simp) (.tmp (.tmp (.tmp (.tmp (.tmp .nil)))))) rfl ?_
  exact ⟨_, hV_, by first | exact Kd.R_nil _ _ _ _ _ | exact Kd.N_nil _ _ _ _ _ | exact Kd.V_nil _ _ _ _ _ | exact Kd.Q_nil _ _ _ _ _ | exact Kd.S_nil _ _ _ _ _, hC_⟩
 rw [if_neg c3] at H
 have c3b0 : (t128.toList == ([95] : List UInt8)) = false := beq_eq_false_iff_ne.mpr c3
 have c3b1 : (t128.toList != ([95] : List UInt8)) = true := bne_iff_ne.mpr c3
 by_cases c5 : t128.toList = ([33] : List UInt8)
 case pos =>
  rw [if_pos c5] at H
  have c5b0 : (t128.toList == ([33] : List UInt8)) = true := beq_iff_eq.mpr c5
  have c5b1 : (t128.toList != ([33] : List UInt8)) = false := bne_eq_false_iff_eq.mpr c5
  clear c5
  simp only [Option.some.injEq, Prod.mk.injEq] at H
  obtain ⟨rfl, rfl, rfl, rfl, rfl⟩ := H
  go_enter Tryz.func71, Tryz.ntmps71
  go_wp2_with (first | ((with_reducible refine gate_callee (f := 74) rfl ?_); refine goesL_ (some 24) rfl rfl Tryz.func74 (by kernel_rfl) rfl #[.string a0] rfl hL_ ?_; (with_reducible refine (term_word.calls a0 t128 t129 _ A2.out).mono ?_); rintro e w6 ⟨rfl, hb⟩; refine ⟨_, rfl, ?_⟩; replace HB := a_ (below_step hB_ hb); (try clear hb); (try clear hb2); (try clear hk); (try clear hi)))
  refine bodyPost_ret (results_list (rs := [.tmp 2, .tmp 3, .tmp 4, .tmp 5, .tmp 6]) rfl (by simp) (.tmp (.tmp (.tmp (.tmp (.tmp .nil)))))) rfl ?_
  exact ⟨_, hV_, by first | exact Kd.R_nil _ _ _ _ _ | exact Kd.N_nil _ _ _ _ _ | exact Kd.V_nil _ _ _ _ _ | exact Kd.Q_nil _ _ _ _ _ | exact Kd.S_nil _ _ _ _ _, hC_⟩
 rw [if_neg c5] at H
 have c5b0 : (t128.toList == ([33] : List UInt8)) = false := beq_eq_false_iff_ne.mpr c5
 have c5b1 : (t128.toList != ([33] : List UInt8)) = true := bne_iff_ne.mpr c5
 replace H := Option.bind_eq_some_iff.mp H
 obtain ⟨⟨t130, t131⟩, A70, H⟩ := H
 replace H : (if t131 = true then (some (1, t130, ([] : List ByteArray), t129, true)) else ((term_Tag.f t128).bind fun bt132 => (if bt132.2 = true then ((strings_HasPrefix.f t129 (⟨#[40]⟩ : ByteArray)).bind fun t134 => (term_cut.j0 k t129 bt132.1 bt132.2 (!t134))) else (term_cut.j0 k t129 bt132.1 bt132.2 true)))) = some (r1, r2, r3, r4, r5) := H
 have A7 := a_ A70
 clear A70
 by_cases c8 : t131 = true
 case pos =>
  subst c8
  have H1 : (some (1, t130, ([] : List ByteArray), t129, true)) = some (r1, r2, r3, r4, r5) := by rw [if_pos rfl] at H; exact H
  clear H
  have H := H1
  clear H1
  simp only [Option.some.injEq, Prod.mk.injEq] at H
  obtain ⟨rfl, rfl, rfl, rfl, rfl⟩ := H
  go_enter Tryz.func71, Tryz.ntmps71
  go_wp2_with (first | ((with_reducible refine gate_callee (f := 74) rfl ?_); refine goesL_ (some 24) rfl rfl Tryz.func74 (by kernel_rfl) rfl #[.string a0] rfl hL_ ?_; (with_reducible refine (term_word.calls a0 t128 t129 _ A2.out).mono ?_); rintro e w9 ⟨rfl, hb⟩; refine ⟨_, rfl, ?_⟩; replace HB := a_ (below_step hB_ hb); (try clear hb); (try clear hb2); (try clear hk); (try clear hi)) | ((with_reducible refine gate_callee (f := 75) rfl ?_); refine goesL_ (some 35) rfl rfl Tryz.func75 (by kernel_rfl) rfl #[.string t128] rfl hL_ ?_; (with_reducible refine (term_Number.calls t128 t130 true _ A7.out hG_).mono ?_); rintro e w10 ⟨rfl, hb⟩; refine ⟨_, rfl, ?_⟩; replace HB := a_ (below_step hB_ hb); (try clear hb); (try clear hb2); (try clear hk); (try clear hi)))
  refine bodyPost_ret (results_list (rs := [.tmp 2, .tmp 3, .tmp 4, .tmp 5, .tmp 6]) rfl (by simp) (.tmp (.tmp (.tmp (.tmp (.tmp .nil)))))) rfl ?_
  exact ⟨_, hV_, by first | exact Kd.R_nil _ _ _ _ _ | exact Kd.N_nil _ _ _ _ _ | exact Kd.V_nil _ _ _ _ _ | exact Kd.Q_nil _ _ _ _ _ | exact Kd.S_nil _ _ _ _ _, hC_⟩
 replace c8 := Bool.eq_false_iff.mpr c8
 subst c8
 have H1 : ((term_Tag.f t128).bind fun bt132 => (if bt132.2 = true then ((strings_HasPrefix.f t129 (⟨#[40]⟩ : ByteArray)).bind fun t134 => (term_cut.j0 k t129 bt132.1 bt132.2 (!t134))) else (term_cut.j0 k t129 bt132.1 bt132.2 true))) = some (r1, r2, r3, r4, r5) := by rw [if_neg (show ¬ (false = true) by decide)] at H; exact H
 clear H
 have H := H1
 clear H1
 replace H := Option.bind_eq_some_iff.mp H
 obtain ⟨⟨t132, t133⟩, A110, H⟩ := H
 replace H : (if t133 = true then ((strings_HasPrefix.f t129 (⟨#[40]⟩ : ByteArray)).bind fun t134 => (term_cut.j0 k t129 t132 t133 (!t134))) else (term_cut.j0 k t129 t132 t133 true)) = some (r1, r2, r3, r4, r5) := H
 have A11 := a_ A110
 clear A110
 have HC12 := a_ H
 clear H
 go_enter Tryz.func71, Tryz.ntmps71
 go_upto_region 10 with (first | ((with_reducible refine gate_callee (f := 74) rfl ?_); refine goesL_ (some 24) rfl rfl Tryz.func74 (by kernel_rfl) rfl #[.string a0] rfl hL_ ?_; (with_reducible refine (term_word.calls a0 t128 t129 _ A2.out).mono ?_); rintro e w13 ⟨rfl, hb⟩; refine ⟨_, rfl, ?_⟩; replace HB := a_ (below_step hB_ hb); (try clear hb); (try clear hb2); (try clear hk); (try clear hi)) | ((with_reducible refine gate_callee (f := 75) rfl ?_); refine goesL_ (some 35) rfl rfl Tryz.func75 (by kernel_rfl) rfl #[.string t128] rfl hL_ ?_; (with_reducible refine (term_Number.calls t128 t130 false _ A7.out hG_).mono ?_); rintro e w14 ⟨rfl, hb⟩; refine ⟨_, rfl, ?_⟩; replace HB := a_ (below_step hB_ hb); (try clear hb); (try clear hb2); (try clear hk); (try clear hi)) | ((with_reducible refine gate_callee (f := 76) rfl ?_); refine goesL_ (some 43) rfl rfl Tryz.func76 (by kernel_rfl) rfl #[.string t128] rfl hL_ ?_; (with_reducible refine (term_Tag.calls t128 t132 t133 _ A11.out hG_).mono ?_); rintro e w15 ⟨rfl, hb⟩; refine ⟨_, rfl, ?_⟩; replace HB := a_ (below_step hB_ hb); (try clear hb); (try clear hb2); (try clear hk); (try clear hi)))
 (try simp only [Act.put, List.setIfInBounds_toArray, List.set_cons_zero, List.set_cons_succ])
 go_cut [52] (fun v52 wc => ∃ (kq : Nat) (x52_11 : Bool), v52 = .bool x52_11 ∧ Aside0 (term_cut.j0 kq t129 t132 t133 x52_11 = some (r1, r2, r3, r4, r5)) ∧ Aside0 (kq ≤ k) ∧ Aside0 (Below w.heap.size w wc))
 case first =>
  have H := HC12.out
  clear HC12
  by_cases c16 : t133 = true
  case neg =>
   replace c16 := Bool.eq_false_iff.mpr c16
   subst c16
   have H1 : (term_cut.j0 k t129 t132 false true) = some (r1, r2, r3, r4, r5) := by rw [if_neg (show ¬ (false = true) by decide)] at H; exact H
   clear H
   have H := H1
   clear H1
   have H' := a_ H
   clear H
   go_wp2
   go_meet
   case rel => exact ⟨_, (true), hW_, H', ⟨by first | omega | exact Nat.le_refl _⟩, ⟨hC_⟩⟩
  subst c16
  have H1 : ((strings_HasPrefix.f t129 (⟨#[40]⟩ : ByteArray)).bind fun t134 => (term_cut.j0 k t129 t132 true (!t134))) = some (r1, r2, r3, r4, r5) := by rw [if_pos rfl] at H; exact H
  clear H
  have H := H1
  clear H1
  replace H := Option.bind_eq_some_iff.mp H
  obtain ⟨t134, A170, H⟩ := H
  replace H : (term_cut.j0 k t129 t132 true (!t134)) = some (r1, r2, r3, r4, r5) := H
  have A17 := a_ A170
  clear A170
  have H' := a_ H
  clear H
  go_wp2_with (first | (go_at_call 77; (with_reducible refine (strings_HasPrefix.calls t129 (⟨#[40]⟩ : ByteArray) t134 _ A17.out).mono ?_); rintro e w' ⟨rfl, ⟨nd, rfl⟩⟩))
  go_meet
  case rel => exact ⟨_, (!t134), hW_, H', ⟨by first | omega | exact Nat.le_refl _⟩, ⟨hC_⟩⟩
 case rest =>
  clear HC12
  try clear c1
  try clear p2
  try clear c3
  try clear c3b0
  try clear c3b1
  try clear c5
  try clear c5b0
  try clear c5b1
  try clear c7
  try clear c8
  try clear c16
  obtain ⟨kq, x52_11, rfl, HA, HJ11, HB⟩ := hcut
  cases kq with
  | zero => exact absurd HA.out (by simp [term_cut.j0])
  | succ kj11 =>
   have H := HA.out
   clear HA
   simp only [term_cut.j0] at H
   by_cases c18 : x52_11 = true
   case pos =>
    subst c18
    have H1 : (some (2, t132, ([] : List ByteArray), t129, t133)) = some (r1, r2, r3, r4, r5) := by rw [if_pos rfl] at H; exact H
    clear H
    have H := H1
    clear H1
    simp only [Option.some.injEq, Prod.mk.injEq] at H
    obtain ⟨rfl, rfl, rfl, rfl, rfl⟩ := H
    go_wp2
    refine bodyPost_ret (results_list (rs := [.tmp 2, .tmp 3, .tmp 4, .tmp 5, .tmp 6]) rfl (by simp) (.tmp (.tmp (.tmp (.tmp (.tmp .nil)))))) rfl ?_
    exact ⟨_, hV_, by first | exact Kd.R_nil _ _ _ _ _ | exact Kd.N_nil _ _ _ _ _ | exact Kd.V_nil _ _ _ _ _ | exact Kd.Q_nil _ _ _ _ _ | exact Kd.S_nil _ _ _ _ _, hC_⟩
   replace c18 := Bool.eq_false_iff.mpr c18
   subst c18
   have H1 : (term_cut.l0 kj11 t129 t132 ([] : List ByteArray)) = some (r1, r2, r3, r4, r5) := by rw [if_neg (show ¬ (false = true) by decide)] at H; exact H
   clear H
   have H := H1
   clear H1
   have H' := a_ H
   clear H
   go_wp2
   go_loopg [8, 13] kj11 (fun kq v8 v13 w' => ∃ (x8_2 : ByteArray) (x13_2 : List ByteArray), v8 = .string x8_2 ∧ Aside0 (term_cut.l0 kq x8_2 t132 x13_2 = some (r1, r2, r3, r4, r5)) ∧ Aside0 (kq ≤ kj11) ∧ Aside0 (Kd.R Kd.string 9 w' w.heap.size (fun _ => True) v13 x13_2) ∧ Aside0 (Below w.heap.size w w'))
   case atStart => exact ⟨(t129), (([] : List ByteArray)), hW_, H', ⟨Nat.le_refl _⟩, ⟨by first | exact Kd.R_nil _ _ _ _ _ | exact Kd.N_nil _ _ _ _ _ | exact Kd.V_nil _ _ _ _ _ | exact Kd.Q_nil _ _ _ _ _ | exact Kd.S_nil _ _ _ _ _⟩, ⟨hC_⟩⟩
   case round =>
    clear H'
    try clear c1
    try clear p2
    try clear c3
    try clear c3b0
    try clear c3b1
    try clear c5
    try clear c5b0
    try clear c5b1
    try clear c7
    try clear c8
    try clear c16
    try clear c18
    try clear p2
    obtain ⟨x8_2, x13_2, rfl, HA, HK2, HO_13, HB⟩ := hrel
    cases gk with
    | zero => exact absurd HA.out (by simp [term_cut.l0])
    | succ k2 =>
     have H := HA.out
     clear HA
     simp only [term_cut.l0] at H
     by_cases c19 : (x13_2.length : Int) < 3
     case neg =>
      rw [if_neg c19] at H
      have c19b0 : decide ((x13_2.length : Int) < 3) = false := decide_eq_false c19
      have c19b1 : decide (x13_2.length < 3) = false := decide_eq_false (by omega)
      clear c19
      replace H := Option.bind_eq_some_iff.mp H
      obtain ⟨⟨t135, t136⟩, A380, H⟩ := H
      replace H : (some (2, t132, x13_2, t135, t136)) = some (r1, r2, r3, r4, r5) := H
      have A38 := a_ A380
      clear A380
      simp only [Option.some.injEq, Prod.mk.injEq] at H
      obtain ⟨rfl, rfl, rfl, rfl, rfl⟩ := H
      obtain ⟨Ao39, co39, eo39⟩ := Kd.R_slice HO_13.out
      subst eo39
      go_wp2_with (first | ((with_reducible refine gate_callee (f := 78) rfl ?_); refine goesL_ (some 87) rfl rfl Tryz.func78 (by kernel_rfl) rfl #[.string x8_2, .string (⟨#[41]⟩ : ByteArray)] rfl hL_ ?_; (with_reducible refine (strings_CutPrefix.calls x8_2 (⟨#[41]⟩ : ByteArray) t135 t136 _ A38.out).mono ?_); rintro e w' ⟨rfl, ⟨nd, rfl⟩⟩; refine ⟨_, rfl, ?_⟩))
      refine bodyPost_ret (results_list (rs := [.tmp 2, .tmp 3, .tmp 4, .tmp 5, .tmp 6]) rfl (by simp) (.tmp (.tmp (.tmp (.tmp (.tmp .nil)))))) rfl ?_
      exact ⟨_, hV_, hR_ HO_13.out, hC_⟩

     rw [if_pos c19] at H
     have c19b0 : decide ((x13_2.length : Int) < 3) = true := decide_eq_true c19
     have c19b1 : decide (x13_2.length < 3) = true := decide_eq_true (by omega)
     clear c19
     replace H := ifI_ H; obtain ⟨c20, H⟩ := H
     have c20b0 := eq_true c20
     have c20b1 : decide (1 ≤ (x8_2.size : Int)) = true := decide_eq_true c20
     clear c20
     replace H := Option.bind_eq_some_iff.mp H
     obtain ⟨⟨t137, t138, t139, t140, t141⟩, A210, H⟩ := H
     replace H : (if t141 = true then (if 0 ≤ (wrap64 (((x8_2.extract 1 x8_2.size).size : Int) - (t140.size : Int))) then (if (wrap64 (((x8_2.extract 1 x8_2.size).size : Int) - (t140.size : Int))) ≤ ((x8_2.extract 1 x8_2.size).size : Int) then (if x13_2.length < 8796093022208 then ((some (x13_2 ++ [(x8_2.extract 1 x8_2.size).extract 0 ((wrap64 (((x8_2.extract 1 x8_2.size).size : Int) - (t140.size : Int))) : Int).toNat] : List ByteArray)).bind fun y144 => ((strings_HasPrefix.f t140 (⟨#[32]⟩ : ByteArray)).bind fun t147 => (if t147 = true then (term_cut.l0 k2 t140 t132 y144) else ((strings_CutPrefix.f t140 (⟨#[41]⟩ : ByteArray)).bind fun bt148 => (some (2, t132, y144, bt148.1, bt148.2)))))) else (none)) else (none)) else (none)) else (some (0, 0, ([] : List ByteArray), (⟨#[]⟩ : ByteArray), false))) = some (r1, r2, r3, r4, r5) := H
     have A21 := a_ A210
     clear A210
     by_cases c22 : t141 = true
     case neg =>
      replace c22 := Bool.eq_false_iff.mpr c22
      subst c22
      have H1 : (some (0, 0, ([] : List ByteArray), (⟨#[]⟩ : ByteArray), false)) = some (r1, r2, r3, r4, r5) := by rw [if_neg (show ¬ (false = true) by decide)] at H; exact H
      clear H
      have H := H1
      clear H1
      simp only [Option.some.injEq, Prod.mk.injEq] at H
      obtain ⟨rfl, rfl, rfl, rfl, rfl⟩ := H
      obtain ⟨Ao36, co36, eo36⟩ := Kd.R_slice HO_13.out
      subst eo36
      go_wp2_with (first | ((with_reducible refine gate_callee (f := 71) rfl ?_); refine goesL_ (some 63) rfl rfl Tryz.func71 (by kernel_rfl) rfl #[.string (x8_2.extract 1 x8_2.size)] rfl hL_ ?_; (with_reducible refine (ih k2 (by have := HJ11.out; have := HK2.out; omega) (x8_2.extract 1 x8_2.size) t137 t138 t139 t140 false _ A21.out hG_).mono ?_); rintro e w37 ⟨v142, rfl, ho0, hb⟩; refine ⟨_, rfl, ?_⟩; have HO143 := a_ (Kd.R_lower (Kd.R_new' ho0 (Kd.R_lt (hR_ HO_13.out))) hS_); replace HO_13 := a_ (Kd.R_elder' (hR_ HO_13.out) (Kd.R_base ho0) hb); replace HB := a_ (below_step hB_ hb); (try clear hb); (try clear hb2); (try clear hk); (try clear hi); (try clear ho0)))
      refine bodyPost_ret (results_list (rs := [.tmp 2, .tmp 3, .tmp 4, .tmp 5, .tmp 6]) rfl (by simp) (.tmp (.tmp (.tmp (.tmp (.tmp .nil)))))) rfl ?_
      exact ⟨_, hV_, by first | exact Kd.R_nil _ _ _ _ _ | exact Kd.N_nil _ _ _ _ _ | exact Kd.V_nil _ _ _ _ _ | exact Kd.Q_nil _ _ _ _ _ | exact Kd.S_nil _ _ _ _ _, hC_⟩
     subst c22
     have H1 : (if 0 ≤ (wrap64 (((x8_2.extract 1 x8_2.size).size : Int) - (t140.size : Int))) then (if (wrap64 (((x8_2.extract 1 x8_2.size).size : Int) - (t140.size : Int))) ≤ ((x8_2.extract 1 x8_2.size).size : Int) then (if x13_2.length < 8796093022208 then ((some (x13_2 ++ [(x8_2.extract 1 x8_2.size).extract 0 ((wrap64 (((x8_2.extract 1 x8_2.size).size : Int) - (t140.size : Int))) : Int).toNat] : List ByteArray)).bind fun y144 => ((strings_HasPrefix.f t140 (⟨#[32]⟩ : ByteArray)).bind fun t147 => (if t147 = true then (term_cut.l0 k2 t140 t132 y144) else ((strings_CutPrefix.f t140 (⟨#[41]⟩ : ByteArray)).bind fun bt148 => (some (2, t132, y144, bt148.1, bt148.2)))))) else (none)) else (none)) else (none)) = some (r1, r2, r3, r4, r5) := by rw [if_pos rfl] at H; exact H
     clear H
     have H := H1
     clear H1
     obtain ⟨ji23, hji23⟩ : ∃ j_ : Int, (wrap64 (((x8_2.extract 1 x8_2.size).size : Int) - (t140.size : Int))) = j_ := ⟨_, rfl⟩
     replace H : (if 0 ≤ (ji23) then (if (ji23) ≤ ((x8_2.extract 1 x8_2.size).size : Int) then (if x13_2.length < 8796093022208 then ((some (x13_2 ++ [(x8_2.extract 1 x8_2.size).extract 0 ((ji23) : Int).toNat] : List ByteArray)).bind fun y144 => ((strings_HasPrefix.f t140 (⟨#[32]⟩ : ByteArray)).bind fun t147 => (if t147 = true then (term_cut.l0 k2 t140 t132 y144) else ((strings_CutPrefix.f t140 (⟨#[41]⟩ : ByteArray)).bind fun bt148 => (some (2, t132, y144, bt148.1, bt148.2)))))) else (none)) else (none)) else (none)) = some (r1, r2, r3, r4, r5) := by first | (rw [hji23] at H; exact H) | (simp only [hji23] at H ⊢; exact H)
     (try rw [hji23] at A21)
     have hji23w : (IntKind.i64.wrap (((x8_2.extract 1 x8_2.size).size : Int) - (t140.size : Int))) = ji23 := (i64_w _).trans hji23
     (try (have hji23s := hji23; simp only [ByteArray.size_extract, Nat.min_self] at hji23s; have hji23sw := hji23w; simp only [ByteArray.size_extract, Nat.min_self] at hji23sw))
     replace H := ifI_ H; obtain ⟨c24, H⟩ := H
     have c24b0 := eq_true c24
     have c24b1 : decide (0 ≤ (ji23)) = true := decide_eq_true c24
     clear c24
     replace H := ifI_ H; obtain ⟨c25, H⟩ := H
     have c25b0 := eq_true c25
     (try (have c25b0s := c25b0; simp only [ByteArray.size_extract, Nat.min_self] at c25b0s))
     have c25b1 : decide ((ji23) ≤ ((x8_2.extract 1 x8_2.size).size : Int)) = true := decide_eq_true c25
     (try (have c25b1s := c25b1; simp only [ByteArray.size_extract, Nat.min_self] at c25b1s))
     clear c25
     replace H := ifI_ H; obtain ⟨c26, H⟩ := H
     have LMc26 := a_ c26
     clear c26
     obtain ⟨y144, hy144⟩ : ∃ y_ : List ByteArray, y_ = (x13_2 ++ [(x8_2.extract 1 x8_2.size).extract 0 ((ji23) : Int).toNat]) := ⟨_, rfl⟩
     replace H : ((strings_HasPrefix.f t140 (⟨#[32]⟩ : ByteArray)).bind fun t147 => (if t147 = true then (term_cut.l0 k2 t140 t132 y144) else ((strings_CutPrefix.f t140 (⟨#[41]⟩ : ByteArray)).bind fun bt148 => (some (2, t132, y144, bt148.1, bt148.2))))) = some (r1, r2, r3, r4, r5) := by first | (rw [hy144]; with_reducible exact H) | (have H2_ := (Option.bind_some _ _).symm.trans H; rw [hy144]; with_reducible exact H2_) | (have H2_ := (Option.bind_some _ _).symm.trans H; with_reducible exact H2_) | with_reducible exact H | (rw [hy144]; exact H) | exact H
     have Ny144 := a_ hy144
     clear hy144
     replace H := Option.bind_eq_some_iff.mp H
     obtain ⟨t147, A270, H⟩ := H
     replace H : (if t147 = true then (term_cut.l0 k2 t140 t132 y144) else ((strings_CutPrefix.f t140 (⟨#[41]⟩ : ByteArray)).bind fun bt148 => (some (2, t132, y144, bt148.1, bt148.2)))) = some (r1, r2, r3, r4, r5) := H
     have A27 := a_ A270
     clear A270
     by_cases c28 : t147 = true
     case pos =>
      subst c28
      have H1 : (term_cut.l0 k2 t140 t132 y144) = some (r1, r2, r3, r4, r5) := by rw [if_pos rfl] at H; exact H
      clear H
      have H := H1
      clear H1
      have H' := a_ H
      clear H
      obtain ⟨Ao29, co29, eo29⟩ := Kd.R_slice HO_13.out
      subst eo29
      go_wp2_with (first | ((with_reducible refine gate_callee (f := 71) rfl ?_); refine goesL_ (some 63) rfl rfl Tryz.func71 (by kernel_rfl) rfl #[.string (x8_2.extract 1 x8_2.size)] rfl hL_ ?_; (with_reducible refine (ih k2 (by have := HJ11.out; have := HK2.out; omega) (x8_2.extract 1 x8_2.size) t137 t138 t139 t140 true _ A21.out hG_).mono ?_); rintro e w30 ⟨v142, rfl, ho0, hb⟩; refine ⟨_, rfl, ?_⟩; have HO143 := a_ (Kd.R_lower (Kd.R_new' ho0 (Kd.R_lt (hR_ HO_13.out))) hS_); replace HO_13 := a_ (Kd.R_elder' (hR_ HO_13.out) (Kd.R_base ho0) hb); replace HB := a_ (below_step hB_ hb); (try clear hb); (try clear hb2); (try clear hk); (try clear hi); (try clear ho0)) | ((with_reducible refine gate_builtin (b := .append) (xs := #[.tmp 71, .tmp 79]) rfl ?_); at_builtin; refine Kd.R_append Kd.string (w0 := w) w.heap.size rfl (.tmp 71) (.tmp 79) 62 9 (.string ⟨#[]⟩) 16 rfl Tryz.underlying62 info9 rfl (by decide) (by omega) (.slice Ao29 x13_2.length co29) x13_2 ((x8_2.extract 1 x8_2.size).extract 0 ((ji23) : Int).toNat) [.string ((x8_2.extract 1 x8_2.size).extract 0 ((ji23) : Int).toNat)] (fun k_ => some k_ ≠ (v142 : Value).ownBlock) (fun _ => False) rfl rfl ?aP (fun _ hk => hk.elim) ?aF ?aO ?aB ?aS ?aL ?_; (case aP => exact rfl); (case aB => exact hB_); (case aF => exact (fun k_ hk => Kd.fresh' (Kd.R_lt (hR_ HO143.out)) k_ hk)); (case aO => exact (by (with_reducible repeat (first | apply Kd.R_alloc | apply Kd.R_drewN | apply Kd.R_drew)); exact Kd.R_mono HO_13.out (fun _ hk => hk.2))); (case aS => exact hS_); (case aL => have := LMc26.out; omega); intro v145 w31 ho hb hg hat; rw [← Ny144.out] at ho; replace HO143 := a_ (Kd.R_after (ok := (fun _ => True)) (hR_ HO143.out) hg hat); replace HB := a_ (hb); have HO146 := a_ (ho); clear HO_13; clear ho hb hg hat) | ((with_reducible refine gate_callee (f := 77) rfl ?_); refine goesL_ (some 83) rfl rfl Tryz.func77 (by kernel_rfl) rfl #[.string t140, .string (⟨#[32]⟩ : ByteArray)] rfl hL_ ?_; (with_reducible refine (strings_HasPrefix.calls t140 (⟨#[32]⟩ : ByteArray) true _ A27.out).mono ?_); rintro e w' ⟨rfl, ⟨nd, rfl⟩⟩; refine ⟨_, rfl, ?_⟩))
      go_roundg k2
      case measure => have := HJ11.out; have := HK2.out; omega
      case rel => exact ⟨(t140), (y144), hW_, H', ⟨by have := HJ11.out; have := HK2.out; omega⟩, ⟨hR_ (Kd.R_mono HO146.out (fun _ hk => trivial))⟩, ⟨hC_⟩⟩
     replace c28 := Bool.eq_false_iff.mpr c28
     subst c28
     have H1 : ((strings_CutPrefix.f t140 (⟨#[41]⟩ : ByteArray)).bind fun bt148 => (some (2, t132, y144, bt148.1, bt148.2))) = some (r1, r2, r3, r4, r5) := by rw [if_neg (show ¬ (false = true) by decide)] at H; exact H
     clear H
     have H := H1
     clear H1
     replace H := Option.bind_eq_some_iff.mp H
     obtain ⟨⟨t148, t149⟩, A320, H⟩ := H
     replace H : (some (2, t132, y144, t148, t149)) = some (r1, r2, r3, r4, r5) := H
     have A32 := a_ A320
     clear A320
     simp only [Option.some.injEq, Prod.mk.injEq] at H
     obtain ⟨rfl, rfl, rfl, rfl, rfl⟩ := H
     obtain ⟨Ao33, co33, eo33⟩ := Kd.R_slice HO_13.out
     subst eo33
     go_wp2_with (first | ((with_reducible refine gate_callee (f := 71) rfl ?_); refine goesL_ (some 63) rfl rfl Tryz.func71 (by kernel_rfl) rfl #[.string (x8_2.extract 1 x8_2.size)] rfl hL_ ?_; (with_reducible refine (ih k2 (by have := HJ11.out; have := HK2.out; omega) (x8_2.extract 1 x8_2.size) t137 t138 t139 t140 true _ A21.out hG_).mono ?_); rintro e w34 ⟨v142, rfl, ho0, hb⟩; refine ⟨_, rfl, ?_⟩; have HO143 := a_ (Kd.R_lower (Kd.R_new' ho0 (Kd.R_lt (hR_ HO_13.out))) hS_); replace HO_13 := a_ (Kd.R_elder' (hR_ HO_13.out) (Kd.R_base ho0) hb); replace HB := a_ (below_step hB_ hb); (try clear hb); (try clear hb2); (try clear hk); (try clear hi); (try clear ho0)) | ((with_reducible refine gate_builtin (b := .append) (xs := #[.tmp 71, .tmp 79]) rfl ?_); at_builtin; refine Kd.R_append Kd.string (w0 := w) w.heap.size rfl (.tmp 71) (.tmp 79) 62 9 (.string ⟨#[]⟩) 16 rfl Tryz.underlying62 info9 rfl (by decide) (by omega) (.slice Ao33 x13_2.length co33) x13_2 ((x8_2.extract 1 x8_2.size).extract 0 ((ji23) : Int).toNat) [.string ((x8_2.extract 1 x8_2.size).extract 0 ((ji23) : Int).toNat)] (fun k_ => some k_ ≠ (v142 : Value).ownBlock) (fun _ => False) rfl rfl ?aP (fun _ hk => hk.elim) ?aF ?aO ?aB ?aS ?aL ?_; (case aP => exact rfl); (case aB => exact hB_); (case aF => exact (fun k_ hk => Kd.fresh' (Kd.R_lt (hR_ HO143.out)) k_ hk)); (case aO => exact (by (with_reducible repeat (first | apply Kd.R_alloc | apply Kd.R_drewN | apply Kd.R_drew)); exact Kd.R_mono HO_13.out (fun _ hk => hk.2))); (case aS => exact hS_); (case aL => have := LMc26.out; omega); intro v145 w35 ho hb hg hat; rw [← Ny144.out] at ho; replace HO143 := a_ (Kd.R_after (ok := (fun _ => True)) (hR_ HO143.out) hg hat); replace HB := a_ (hb); have HO146 := a_ (ho); clear HO_13; clear ho hb hg hat) | ((with_reducible refine gate_callee (f := 77) rfl ?_); refine goesL_ (some 83) rfl rfl Tryz.func77 (by kernel_rfl) rfl #[.string t140, .string (⟨#[32]⟩ : ByteArray)] rfl hL_ ?_; (with_reducible refine (strings_HasPrefix.calls t140 (⟨#[32]⟩ : ByteArray) false _ A27.out).mono ?_); rintro e w' ⟨rfl, ⟨nd, rfl⟩⟩; refine ⟨_, rfl, ?_⟩) | ((with_reducible refine gate_callee (f := 78) rfl ?_); refine goesL_ (some 87) rfl rfl Tryz.func78 (by kernel_rfl) rfl #[.string t140, .string (⟨#[41]⟩ : ByteArray)] rfl hL_ ?_; (with_reducible refine (strings_CutPrefix.calls t140 (⟨#[41]⟩ : ByteArray) t148 t149 _ A32.out).mono ?_); rintro e w' ⟨rfl, ⟨nd, rfl⟩⟩; refine ⟨_, rfl, ?_⟩))
     refine bodyPost_ret (results_list (rs := [.tmp 2, .tmp 3, .tmp 4, .tmp 5, .tmp 6]) rfl (by simp) (.tmp (.tmp (.tmp (.tmp (.tmp .nil)))))) rfl ?_
     exact ⟨_, by first | rfl | (simp [errW_none, errW_some] <;> rfl) | (simp only [← hji23]; first | rfl | (simp [errW_none, errW_some] <;> rfl)) | (simp [*, errW_none, errW_some] <;> rfl), hR_ (Kd.R_mono HO146.out (fun _ hk => trivial)), hC_⟩
end Go.Proofs.YtgokcaccamfgfaaGreatDoor.G
end
section
-- Laid by the session's own driver gp.py over the kit's printer. Not trusted: Lean checks it.
namespace Go.Proofs.YtgokcaccamfgfaaGreatDoor.G
open Go.RowKit Go.Proofs.YtgokcaccamfgfaaGreatDoorW.PrintWords Go.Proofs.YtgokcaccamfgfaaGreatDoorW.PrintLast Go.Proofs.YtgokcaccamfgfaaGreatDoorW.PrintMore
set_option maxHeartbeats 8000000
set_option maxRecDepth 100000
attribute [local go_sem] max2_int min2_int max_two min_two max_three min_three max_four min_four   -- for this text's walks alone
set_option linter.unusedVariables false
set_option linter.unusedSimpArgs false

def term_May.f (k : Nat) (a0 : ByteArray) : Option (Bool) := if (a0.size : Int) > 1024 then (some false) else ((term_cut.f k a0).bind fun bt150 => (if bt150.2.2.2.2 = true then (some (bt150.2.2.2.1.toList == ([] : List UInt8))) else (some false)))
theorem term_May.mono : ∀ a0 k, LeO (term_May.f k a0) (term_May.f (k + 1) a0) := by
 intro a0 k
 unfold term_May.f
 repeat' first
  | (with_reducible exact term_cut.mono _ _)
  | (with_reducible exact LeO.refl _)
  | (with_reducible exact LeO.none _)
  | (with_reducible refine LeO.ite ?_ ?_)
  | (with_reducible refine LeO.bind ?_ (fun _ => ?_))
  | exact term_cut.mono _ _
  | exact LeO.none _
  | refine LeO.ite ?_ ?_
  | refine LeO.bind ?_ (fun _ => ?_)
theorem term_May.calls (k : Nat) (a0 : ByteArray) (r : Bool) (w : World) (h : term_May.f k a0 = some r) (hG : GOK w) :
 Calls Tryz.prog 68 #[.string a0] w fun e w' => e = .returned (.bool r) ∧ Below w.heap.size w w' := by
 have HB := a_ (Below.refl w.heap.size w)
 have H : (if (a0.size : Int) > 1024 then (some false) else ((term_cut.f k a0).bind fun bt150 => (if bt150.2.2.2.2 = true then (some (bt150.2.2.2.1.toList == ([] : List UInt8))) else (some false)))) = some r := h
 clear h
 by_cases c2 : (a0.size : Int) > 1024
 case pos =>
  rw [if_pos c2] at H
  have c2b0 : decide (1024 < (a0.size : Int)) = true := decide_eq_true c2
  have c2b1 : decide (1024 < a0.size) = true := decide_eq_true (by omega)
  clear c2
  obtain rfl := Option.some.inj H
  go_enter Tryz.func68, Tryz.ntmps68
  go_wp2
  go_ret
  exact ⟨hV_, hC_⟩
 rw [if_neg c2] at H
 have c2b0 : decide (1024 < (a0.size : Int)) = false := decide_eq_false c2
 have c2b1 : decide (1024 < a0.size) = false := decide_eq_false (by omega)
 clear c2
 replace H := Option.bind_eq_some_iff.mp H
 obtain ⟨⟨t150, t151, t152, t153, t154⟩, A30, H⟩ := H
 replace H : (if t154 = true then (some (t153.toList == ([] : List UInt8))) else (some false)) = some r := H
 have A3 := a_ A30
 clear A30
 by_cases c4 : t154 = true
 case pos =>
  subst c4
  have H1 : (some (t153.toList == ([] : List UInt8))) = some r := by rw [if_pos rfl] at H; exact H
  clear H
  have H := H1
  clear H1
  obtain rfl := Option.some.inj H
  go_enter Tryz.func68, Tryz.ntmps68
  go_wp2_with (first | ((with_reducible refine gate_callee (f := 71) rfl ?_); refine goesL_ (some 13) rfl rfl Tryz.func71 (by kernel_rfl) rfl #[.string a0] rfl hL_ ?_; (with_reducible refine (term_cut.calls k a0 t150 t151 t152 t153 true _ A3.out hG_).mono ?_); rintro e w5 ⟨v155, rfl, ho0, hb⟩; refine ⟨_, rfl, ?_⟩; have HO156 := a_ (Kd.R_lower ho0 hS_); replace HB := a_ (below_step hB_ hb); (try clear hb); (try clear hb2); (try clear hk); (try clear hi); (try clear ho0)))
  go_ret
  exact ⟨hV_, hC_⟩
 replace c4 := Bool.eq_false_iff.mpr c4
 subst c4
 have H1 : (some false) = some r := by rw [if_neg (show ¬ (false = true) by decide)] at H; exact H
 clear H
 have H := H1
 clear H1
 obtain rfl := Option.some.inj H
 go_enter Tryz.func68, Tryz.ntmps68
 go_wp2_with (first | ((with_reducible refine gate_callee (f := 71) rfl ?_); refine goesL_ (some 13) rfl rfl Tryz.func71 (by kernel_rfl) rfl #[.string a0] rfl hL_ ?_; (with_reducible refine (term_cut.calls k a0 t150 t151 t152 t153 false _ A3.out hG_).mono ?_); rintro e w6 ⟨v155, rfl, ho0, hb⟩; refine ⟨_, rfl, ?_⟩; have HO156 := a_ (Kd.R_lower ho0 hS_); replace HB := a_ (below_step hB_ hb); (try clear hb); (try clear hb2); (try clear hk); (try clear hi); (try clear ho0)))
 go_ret
 exact ⟨hV_, hC_⟩

def term_All.l0 : Nat → List ByteArray → Int → Int → Option (Bool)
 | 0, _, _, _ => none
 | k + 1, x5, x6, x7 => if x7 < x6 then (if 0 ≤ x7 then (if x7 < (x5.length : Int) then ((term_May.f k (rdOf ByteArray.empty x5 x7)).bind fun t158 => (if t158 = true then (term_All.l0 k x5 x6 (wrap64 (x7 + 1))) else (some false))) else (none)) else (none)) else (some true)
def term_All.f (k : Nat) (l0 : List ByteArray) : Option (Bool) := term_All.l0 k l0 (l0.length : Int) 0
theorem term_All.mono_l : ∀ k, (∀ y0 y1 y2, LeO (term_All.l0 k y0 y1 y2) (term_All.l0 (k + 1) y0 y1 y2))
 | 0 => fun _ _ _ r h => by simp [term_All.l0] at h
 | k + 1 => by
  have ih0 := term_All.mono_l k
  · intro y0 y1 y2
    unfold term_All.l0
    repeat' first
    | (with_reducible exact ih0 _ _ _)
    | (with_reducible exact term_May.mono _ _)
    | (with_reducible exact LeO.refl _)
    | (with_reducible exact LeO.none _)
    | (with_reducible refine LeO.ite ?_ ?_)
    | (with_reducible refine LeO.bind ?_ (fun _ => ?_))
    | exact ih0 _ _ _
    | exact term_May.mono _ _
    | exact LeO.none _
    | refine LeO.ite ?_ ?_
    | refine LeO.bind ?_ (fun _ => ?_)
theorem term_All.mono : ∀ a0 k, LeO (term_All.f k a0) (term_All.f (k + 1) a0) := by
 intro a0 k
 have ih0 := term_All.mono_l k
 unfold term_All.f
 repeat' first
  | (with_reducible exact ih0 _ _ _)
  | (with_reducible exact term_May.mono _ _)
  | (with_reducible exact LeO.refl _)
  | (with_reducible exact LeO.none _)
  | (with_reducible refine LeO.ite ?_ ?_)
  | (with_reducible refine LeO.bind ?_ (fun _ => ?_))
  | exact ih0 _ _ _
  | exact term_May.mono _ _
  | exact LeO.none _
  | refine LeO.ite ?_ ?_
  | refine LeO.bind ?_ (fun _ => ?_)
theorem term_All.calls (k : Nat) (A0 : Option Addr) (c0 : Nat) (l0 : List ByteArray) (r : Bool) (w : World) (hr0 : Kd.C Kd.string w A0 l0.length l0) (hc0 : l0.length ≤ c0) (h : term_All.f k l0 = some r) (hG : GOK w) :
 Calls Tryz.prog 67 #[.slice A0 l0.length c0] w fun e w' => e = .returned (.bool r) ∧ Below w.heap.size w w' := by
 have HR0 := a_ hr0
 have HC0 := a_ hc0
 clear hr0 hc0
 have HB := a_ (Below.refl w.heap.size w)
 have H : (term_All.l0 k l0 (l0.length : Int) 0) = some r := h
 clear h
 have H' := a_ H
 clear H
 go_enter Tryz.func67, Tryz.ntmps67
 go_wp2
 go_loopg [7] k (fun kq v7 w' => ∃ (x7_1 : Int), v7 = .int .i64 x7_1 ∧ Aside0 (term_All.l0 kq l0 (l0.length : Int) x7_1 = some r) ∧ Aside0 (kq ≤ k) ∧ Aside0 (Below w.heap.size w w'))
 case atStart => exact ⟨(0), hW_, H', ⟨Nat.le_refl _⟩, ⟨hC_⟩⟩
 case round =>
  clear H'
  obtain ⟨x7_1, rfl, HA, HK1, HB⟩ := hrel
  cases gk with
  | zero => exact absurd HA.out (by simp [term_All.l0])
  | succ k1 =>
   have H := HA.out
   clear HA
   simp only [term_All.l0] at H
   by_cases c2 : x7_1 < (l0.length : Int)
   case neg =>
    rw [if_neg c2] at H
    have c2b0 : decide (x7_1 < (l0.length : Int)) = false := decide_eq_false c2
    clear c2
    obtain rfl := Option.some.inj H
    go_wp2
    go_ret
    exact ⟨hV_, hC_⟩

   rw [if_pos c2] at H
   have c2b0 : decide (x7_1 < (l0.length : Int)) = true := decide_eq_true c2
   clear c2
   replace H := ifI_ H; obtain ⟨c3, H⟩ := H
   have c3b0 : decide (0 ≤ x7_1) = true := decide_eq_true c3
   clear c3
   replace H := ifI_ H; obtain ⟨c4, H⟩ := H
   have c4b0 : decide (x7_1 < (l0.length : Int)) = true := decide_eq_true c4
   clear c4
   replace H := Option.bind_eq_some_iff.mp H
   obtain ⟨t158, A50, H⟩ := H
   replace H : (if t158 = true then (term_All.l0 k1 l0 (l0.length : Int) (wrap64 (x7_1 + 1))) else (some false)) = some r := H
   have A5 := a_ A50
   clear A50
   by_cases c6 : t158 = true
   case neg =>
    replace c6 := Bool.eq_false_iff.mpr c6
    subst c6
    have H1 : (some false) = some r := by rw [if_neg (show ¬ (false = true) by decide)] at H; exact H
    clear H
    have H := H1
    clear H1
    obtain rfl := Option.some.inj H
    have p157 : 0 ≤ (x7_1 : Int) := of_decide_eq_true hA_
    have q157 : x7_1 < (l0.length : Int) := of_decide_eq_true hA_
    obtain ⟨ad157, e157, hx157_0⟩ := Kd.at_string HR0.out x7_1 p157 q157
    cases e157
    replace hx157_0 := cl_ HB.out hx157_0
    replace p157 := eq_true p157
    replace q157 := eq_true q157
    go_wp2_with (first | ((with_reducible refine gate_callee (f := 68) rfl ?_); refine goesL_ (some 12) rfl rfl Tryz.func68 (by kernel_rfl) rfl #[.string (rdOf ByteArray.empty l0 x7_1)] rfl hL_ ?_; (with_reducible refine (term_May.calls k1 (rdOf ByteArray.empty l0 x7_1) false _ A5.out hG_).mono ?_); rintro e w8 ⟨rfl, hb⟩; refine ⟨_, rfl, ?_⟩; replace HB := a_ (below_step hB_ hb); (try clear hb); (try clear hb2); (try clear hk); (try clear hi)))
    go_ret
    exact ⟨hV_, hC_⟩
   subst c6
   have H1 : (term_All.l0 k1 l0 (l0.length : Int) (wrap64 (x7_1 + 1))) = some r := by rw [if_pos rfl] at H; exact H
   clear H
   have H := H1
   clear H1
   have H' := a_ H
   clear H
   have p157 : 0 ≤ (x7_1 : Int) := of_decide_eq_true hA_
   have q157 : x7_1 < (l0.length : Int) := of_decide_eq_true hA_
   obtain ⟨ad157, e157, hx157_0⟩ := Kd.at_string HR0.out x7_1 p157 q157
   cases e157
   replace hx157_0 := cl_ HB.out hx157_0
   replace p157 := eq_true p157
   replace q157 := eq_true q157
   go_wp2_with (first | ((with_reducible refine gate_callee (f := 68) rfl ?_); refine goesL_ (some 12) rfl rfl Tryz.func68 (by kernel_rfl) rfl #[.string (rdOf ByteArray.empty l0 x7_1)] rfl hL_ ?_; (with_reducible refine (term_May.calls k1 (rdOf ByteArray.empty l0 x7_1) true _ A5.out hG_).mono ?_); rintro e w7 ⟨rfl, hb⟩; refine ⟨_, rfl, ?_⟩; replace HB := a_ (below_step hB_ hb); (try clear hb); (try clear hb2); (try clear hk); (try clear hi)))
   go_roundg k1
   case measure => have := HK1.out; omega
   case rel => exact ⟨(wrap64 (x7_1 + 1)), hW_, H', ⟨by have := HK1.out; omega⟩, ⟨hC_⟩⟩
end Go.Proofs.YtgokcaccamfgfaaGreatDoor.G
end
section
-- Laid by the session's own driver gp.py over the kit's printer. Not trusted: Lean checks it.
namespace Go.Proofs.YtgokcaccamfgfaaGreatDoor.G
open Go.RowKit Go.Proofs.YtgokcaccamfgfaaGreatDoorW.PrintWords Go.Proofs.YtgokcaccamfgfaaGreatDoorW.PrintLast Go.Proofs.YtgokcaccamfgfaaGreatDoorW.PrintMore
set_option maxHeartbeats 8000000
set_option maxRecDepth 100000
attribute [local go_sem] max2_int min2_int max_two min_two max_three min_three max_four min_four   -- for this text's walks alone
set_option linter.unusedVariables false
set_option linter.unusedSimpArgs false

def sleuthref12_upTo.f (a0 : Int) (a1 : Int) (a2 : Int) : Option (Bool) := if a0 ≥ a1 then (some (decide (a0 ≤ a2))) else (some false)
theorem sleuthref12_upTo.calls (a0 : Int) (a1 : Int) (a2 : Int) (r : Bool) (w : World) (h : sleuthref12_upTo.f a0 a1 a2 = some r) :
 Calls Tryz.prog 28 #[.int .i64 a0, .int .i64 a1, .int .i64 a2] w fun e w' => e = .returned (.bool r) ∧ Drawn0 w w' := by
 have H : (if a0 ≥ a1 then (some (decide (a0 ≤ a2))) else (some false)) = some r := h
 clear h
 by_cases c4 : a0 ≥ a1
 case pos =>
  rw [if_pos c4] at H
  have c4b0 : decide (a1 ≤ a0) = true := decide_eq_true c4
  clear c4
  obtain rfl := Option.some.inj H
  go_enter Tryz.func28, Tryz.ntmps28
  go_wp2
  go_ret
  exact ⟨by first | rfl | (simp; done) | (simp [*]; done), by repeat (first | exact Drawn0.refl _ | apply Drawn0.step)⟩
 rw [if_neg c4] at H
 have c4b0 : decide (a1 ≤ a0) = false := decide_eq_false c4
 clear c4
 obtain rfl := Option.some.inj H
 go_enter Tryz.func28, Tryz.ntmps28
 go_wp2
 go_ret
 exact ⟨by first | rfl | (simp; done) | (simp [*]; done), by repeat (first | exact Drawn0.refl _ | apply Drawn0.step)⟩

def sleuthref1_bad.f  : Option (Int × Int × List ByteArray × Int) := some (0, 0, ([] : List ByteArray), (-1))
theorem sleuthref1_bad.calls  (r1 : Int) (r2 : Int) (r3 : List ByteArray) (r4 : Int) (w : World) (h : sleuthref1_bad.f  = some (r1, r2, r3, r4)) :
 Calls Tryz.prog 87 #[] w fun e w' => ∃ v2_ : Value, e = .returned (.agg #[.int .i64 r1, .int .i64 r2, v2_, .int .i64 r4]) ∧ Kd.R Kd.string 9 w' w.heap.size (fun _ => True) v2_ r3 ∧ Below w.heap.size w w' := by
 have hu107 := Tryz.underlying107
 have HB := a_ (Below.refl w.heap.size w)
 have H : (some (0, 0, ([] : List ByteArray), (-1))) = some (r1, r2, r3, r4) := h
 clear h
 simp only [Option.some.injEq, Prod.mk.injEq] at H
 obtain ⟨rfl, rfl, rfl, rfl⟩ := H
 go_enter Tryz.func87, Tryz.ntmps87
 go_wp2_with (first | ((with_reducible refine gate_dst (N := 0) rfl ?_); refine boxE_ 0 #[.int .i64 0, .int .i64 0, .slice none 0 0, .int .i64 0] 107 ?_; intro gb168 hg w1 hbox hb; have BK168 := a_ (hbox); have GW168 := a_ ((gE_ hg : w.heap.size ≤ gb168)); have GE168 := a_ ((gE_ hg : w.heap.size ≤ gb168)); replace HB := a_ (below_step hB_ hb); clear hb hbox hg; obtain ⟨hcz2_0, hcz2_1, hcz2_2, hcz2_3, hfz2_0, hfz2_1, hfz2_2, hfz2_3⟩ := bx4_ BK168.out))
 refine bodyPost_ret (results_cell_row rfl _ _ gb168 107 #[.int .i64 0, .int .i64 0, .slice none 0 0, .int .i64 (-1)] (0, 0) _ rfl (bP_ (bP_ (bP_ (bP_ (hK_ BK168.out))))) Tryz.underlying107 rfl (by kernel_rfl)) rfl ?_
 exact ⟨_, hV_, by first | exact Kd.R_nil _ _ _ _ _ | exact Kd.N_nil _ _ _ _ _ | exact Kd.V_nil _ _ _ _ _ | exact Kd.Q_nil _ _ _ _ _ | exact Kd.S_nil _ _ _ _ _, hC_⟩

def sleuthref1_digits.l0 : Nat → ByteArray → Int → Int → Option (Int × Int)
 | 0, _, _, _ => none
 | k + 1, x0, x4, x5 => if x5 < (x0.size : Int) then (if x5 < 6 then (if 0 ≤ x5 then (if (bt x0 x5) ≥ 48 then (if (bt x0 x5) ≤ 57 then (if x5 = 0 then (sleuthref1_digits.l0 k x0 (wrap64 ((wrap64 (10 * x4)) + (((bt x0 x5) - 48) % 256))) (wrap64 (x5 + 1))) else (if 0 < (x0.size : Int) then (if (bt x0 0) = 48 then (some (x4, x5)) else (sleuthref1_digits.l0 k x0 (wrap64 ((wrap64 (10 * x4)) + (((bt x0 x5) - 48) % 256))) (wrap64 (x5 + 1)))) else (none))) else (some (x4, x5))) else (some (x4, x5))) else (none)) else (some (x4, x5))) else (some (x4, x5))
def sleuthref1_digits.f (k : Nat) (a0 : ByteArray) : Option (Int × Int) := sleuthref1_digits.l0 k a0 0 0
theorem sleuthref1_digits.mono_l : ∀ k, (∀ y0 y1 y2, LeO (sleuthref1_digits.l0 k y0 y1 y2) (sleuthref1_digits.l0 (k + 1) y0 y1 y2))
 | 0 => fun _ _ _ r h => by simp [sleuthref1_digits.l0] at h
 | k + 1 => by
  have ih0 := sleuthref1_digits.mono_l k
  · intro y0 y1 y2
    unfold sleuthref1_digits.l0
    repeat' first
    | (with_reducible exact ih0 _ _ _)
    | (with_reducible exact LeO.refl _)
    | (with_reducible exact LeO.none _)
    | (with_reducible refine LeO.ite ?_ ?_)
    | (with_reducible refine LeO.bind ?_ (fun _ => ?_))
    | exact ih0 _ _ _
    | exact LeO.none _
    | refine LeO.ite ?_ ?_
    | refine LeO.bind ?_ (fun _ => ?_)
theorem sleuthref1_digits.mono : ∀ a0 k, LeO (sleuthref1_digits.f k a0) (sleuthref1_digits.f (k + 1) a0) := by
 intro a0 k
 have ih0 := sleuthref1_digits.mono_l k
 unfold sleuthref1_digits.f
 repeat' first
  | (with_reducible exact ih0 _ _ _)
  | (with_reducible exact LeO.refl _)
  | (with_reducible exact LeO.none _)
  | (with_reducible refine LeO.ite ?_ ?_)
  | (with_reducible refine LeO.bind ?_ (fun _ => ?_))
  | exact ih0 _ _ _
  | exact LeO.none _
  | refine LeO.ite ?_ ?_
  | refine LeO.bind ?_ (fun _ => ?_)
theorem sleuthref1_digits.calls (k : Nat) (a0 : ByteArray) (r1 : Int) (r2 : Int) (w : World) (h : sleuthref1_digits.f k a0 = some (r1, r2)) :
 Calls Tryz.prog 88 #[.string a0] w fun e w' => e = .returned (.tuple #[.int .i64 r1, .int .i64 r2]) ∧ Drawn0 w w' := by
 have H : (sleuthref1_digits.l0 k a0 0 0) = some (r1, r2) := h
 clear h
 have H' := a_ H
 clear H
 go_enter Tryz.func88, Tryz.ntmps88
 go_wp2
 go_loopg [4, 5] k (fun kq v4 v5 w' => ∃ (x4_1 : Int) (x5_1 : Int), v4 = .int .i64 x4_1 ∧ v5 = .int .i64 x5_1 ∧ Aside0 (sleuthref1_digits.l0 kq a0 x4_1 x5_1 = some (r1, r2)) ∧ Aside0 (kq ≤ k) ∧ Drawn0 w w')
 case atStart => exact ⟨(0), (0), hW_, hW_, H', ⟨Nat.le_refl _⟩, by repeat (first | exact Drawn0.refl _ | apply Drawn0.step)⟩
 case round =>
  clear H'
  obtain ⟨x4_1, x5_1, rfl, rfl, HA, HK1, ⟨m1, rfl⟩⟩ := hrel
  cases gk with
  | zero => exact absurd HA.out (by simp [sleuthref1_digits.l0])
  | succ k1 =>
   have H := HA.out
   clear HA
   simp only [sleuthref1_digits.l0] at H
   by_cases c2 : x5_1 < (a0.size : Int)
   case neg =>
    rw [if_neg c2] at H
    have c2b0 : decide (x5_1 < (a0.size : Int)) = false := decide_eq_false c2
    clear c2
    simp only [Option.some.injEq, Prod.mk.injEq] at H
    obtain ⟨rfl, rfl⟩ := H
    go_wp2
    go_ret2
    exact ⟨by first | rfl | (simp; done) | (simp [*]; done), by repeat (first | exact Drawn0.refl _ | apply Drawn0.step)⟩

   rw [if_pos c2] at H
   have c2b0 : decide (x5_1 < (a0.size : Int)) = true := decide_eq_true c2
   clear c2
   by_cases c3 : x5_1 < 6
   case neg =>
    rw [if_neg c3] at H
    have c3b0 : decide (x5_1 < 6) = false := decide_eq_false c3
    clear c3
    simp only [Option.some.injEq, Prod.mk.injEq] at H
    obtain ⟨rfl, rfl⟩ := H
    go_wp2
    go_ret2
    exact ⟨by first | rfl | (simp; done) | (simp [*]; done), by repeat (first | exact Drawn0.refl _ | apply Drawn0.step)⟩
   rw [if_pos c3] at H
   have c3b0 : decide (x5_1 < 6) = true := decide_eq_true c3
   clear c3
   replace H := ifI_ H; obtain ⟨c4, H⟩ := H
   have c4b0 : decide (0 ≤ x5_1) = true := decide_eq_true c4
   clear c4
   by_cases c6 : (bt a0 x5_1) ≥ 48
   case neg =>
    rw [if_neg c6] at H
    have c6b0 : decide (48 ≤ (bt a0 x5_1)) = false := decide_eq_false c6
    clear c6
    simp only [Option.some.injEq, Prod.mk.injEq] at H
    obtain ⟨rfl, rfl⟩ := H
    have p5 : 0 ≤ (x5_1 : Int) := of_decide_eq_true hA_
    have q5 : x5_1 < (a0.size : Int) := of_decide_eq_true hA_
    have hx5 := bt_at a0 x5_1
    replace p5 := eq_true p5
    replace q5 := eq_true q5
    go_wp2
    go_ret2
    exact ⟨by first | rfl | (simp; done) | (simp [*]; done), by repeat (first | exact Drawn0.refl _ | apply Drawn0.step)⟩
   rw [if_pos c6] at H
   have c6b0 : decide (48 ≤ (bt a0 x5_1)) = true := decide_eq_true c6
   clear c6
   by_cases c8 : (bt a0 x5_1) ≤ 57
   case neg =>
    rw [if_neg c8] at H
    have c8b0 : decide ((bt a0 x5_1) ≤ 57) = false := decide_eq_false c8
    clear c8
    simp only [Option.some.injEq, Prod.mk.injEq] at H
    obtain ⟨rfl, rfl⟩ := H
    have p5 : 0 ≤ (x5_1 : Int) := of_decide_eq_true hA_
    have q5 : x5_1 < (a0.size : Int) := of_decide_eq_true hA_
    have hx5 := bt_at a0 x5_1
    replace p5 := eq_true p5
    replace q5 := eq_true q5
    have p7 : 0 ≤ (x5_1 : Int) := of_decide_eq_true hA_
    have q7 : x5_1 < (a0.size : Int) := of_decide_eq_true hA_
    have hx7 := bt_at a0 x5_1
    replace p7 := eq_true p7
    replace q7 := eq_true q7
    go_wp2
    go_ret2
    exact ⟨by first | rfl | (simp; done) | (simp [*]; done), by repeat (first | exact Drawn0.refl _ | apply Drawn0.step)⟩
   rw [if_pos c8] at H
   have c8b0 : decide ((bt a0 x5_1) ≤ 57) = true := decide_eq_true c8
   clear c8
   by_cases c9 : x5_1 = 0
   case pos =>
    rw [if_pos c9] at H
    have c9b0 : (x5_1 == 0) = true := beq_iff_eq.mpr c9
    have c9b1 : (x5_1 != 0) = false := bne_eq_false_iff_eq.mpr c9
    clear c9
    have H' := a_ H
    clear H
    have p5 : 0 ≤ (x5_1 : Int) := of_decide_eq_true hA_
    have q5 : x5_1 < (a0.size : Int) := of_decide_eq_true hA_
    have hx5 := bt_at a0 x5_1
    replace p5 := eq_true p5
    replace q5 := eq_true q5
    have p7 : 0 ≤ (x5_1 : Int) := of_decide_eq_true hA_
    have q7 : x5_1 < (a0.size : Int) := of_decide_eq_true hA_
    have hx7 := bt_at a0 x5_1
    replace p7 := eq_true p7
    replace q7 := eq_true q7
    have p10 : 0 ≤ (x5_1 : Int) := of_decide_eq_true hA_
    have q10 : x5_1 < (a0.size : Int) := of_decide_eq_true hA_
    have hx10 := bt_at a0 x5_1
    replace p10 := eq_true p10
    replace q10 := eq_true q10
    go_wp2
    go_roundg k1
    case measure => have := HK1.out; omega
    case rel => exact ⟨(wrap64 ((wrap64 (10 * x4_1)) + (((bt a0 x5_1) - 48) % 256))), (wrap64 (x5_1 + 1)), hW_, hW_, H', ⟨by have := HK1.out; omega⟩, by repeat (first | exact Drawn0.refl _ | apply Drawn0.step)⟩
   rw [if_neg c9] at H
   have c9b0 : (x5_1 == 0) = false := beq_eq_false_iff_ne.mpr c9
   have c9b1 : (x5_1 != 0) = true := bne_iff_ne.mpr c9
   replace H := ifI_ H; obtain ⟨c11, H⟩ := H
   have c11b0 : decide (0 < (a0.size : Int)) = true := decide_eq_true c11
   have c11b1 : decide (0 < a0.size) = true := decide_eq_true (by omega)
   clear c11
   by_cases c13 : (bt a0 0) = 48
   case pos =>
    rw [if_pos c13] at H
    have c13b0 : ((bt a0 0) == 48) = true := beq_iff_eq.mpr c13
    have c13b1 : ((bt a0 0) != 48) = false := bne_eq_false_iff_eq.mpr c13
    clear c13
    simp only [Option.some.injEq, Prod.mk.injEq] at H
    obtain ⟨rfl, rfl⟩ := H
    have p5 : 0 ≤ (x5_1 : Int) := of_decide_eq_true hA_
    have q5 : x5_1 < (a0.size : Int) := of_decide_eq_true hA_
    have hx5 := bt_at a0 x5_1
    replace p5 := eq_true p5
    replace q5 := eq_true q5
    have p7 : 0 ≤ (x5_1 : Int) := of_decide_eq_true hA_
    have q7 : x5_1 < (a0.size : Int) := of_decide_eq_true hA_
    have hx7 := bt_at a0 x5_1
    replace p7 := eq_true p7
    replace q7 := eq_true q7
    have p12 : 0 ≤ (0 : Int) := (by omega)
    have q12 : 0 < a0.size := (by have : (0 : Int) < (a0.size : Int) := of_decide_eq_true hA_; omega)
    have hx12 : ∀ h : 0 < a0.size, ((a0[0]'h).toNat : Int) = bt a0 0 := bt_at a0 0
    clear p12
    have qi12 : (0 < (a0.size : Int)) = True := eq_true (of_decide_eq_true hA_)
    replace q12 := eq_true q12
    go_wp2
    go_ret2
    exact ⟨by first | rfl | (simp; done) | (simp [*]; done), by repeat (first | exact Drawn0.refl _ | apply Drawn0.step)⟩
   rw [if_neg c13] at H
   have c13b0 : ((bt a0 0) == 48) = false := beq_eq_false_iff_ne.mpr c13
   have c13b1 : ((bt a0 0) != 48) = true := bne_iff_ne.mpr c13
   have H' := a_ H
   clear H
   have p5 : 0 ≤ (x5_1 : Int) := of_decide_eq_true hA_
   have q5 : x5_1 < (a0.size : Int) := of_decide_eq_true hA_
   have hx5 := bt_at a0 x5_1
   replace p5 := eq_true p5
   replace q5 := eq_true q5
   have p7 : 0 ≤ (x5_1 : Int) := of_decide_eq_true hA_
   have q7 : x5_1 < (a0.size : Int) := of_decide_eq_true hA_
   have hx7 := bt_at a0 x5_1
   replace p7 := eq_true p7
   replace q7 := eq_true q7
   have p12 : 0 ≤ (0 : Int) := (by omega)
   have q12 : 0 < a0.size := (by have : (0 : Int) < (a0.size : Int) := of_decide_eq_true hA_; omega)
   have hx12 : ∀ h : 0 < a0.size, ((a0[0]'h).toNat : Int) = bt a0 0 := bt_at a0 0
   clear p12
   have qi12 : (0 < (a0.size : Int)) = True := eq_true (of_decide_eq_true hA_)
   replace q12 := eq_true q12
   have p14 : 0 ≤ (x5_1 : Int) := of_decide_eq_true hA_
   have q14 : x5_1 < (a0.size : Int) := of_decide_eq_true hA_
   have hx14 := bt_at a0 x5_1
   replace p14 := eq_true p14
   replace q14 := eq_true q14
   go_wp2
   go_roundg k1
   case measure => have := HK1.out; omega
   case rel => exact ⟨(wrap64 ((wrap64 (10 * x4_1)) + (((bt a0 x5_1) - 48) % 256))), (wrap64 (x5_1 + 1)), hW_, hW_, H', ⟨by have := HK1.out; omega⟩, by repeat (first | exact Drawn0.refl _ | apply Drawn0.step)⟩
-- (function 89, sleuthref1_parts: with its fellows)

def sleuthref1_upTo.f (a0 : Int) (a1 : Int) (a2 : Int) : Option (Bool) := if a0 ≥ a1 then (some (decide (a0 ≤ a2))) else (some false)
theorem sleuthref1_upTo.calls (a0 : Int) (a1 : Int) (a2 : Int) (r : Bool) (w : World) (h : sleuthref1_upTo.f a0 a1 a2 = some r) :
 Calls Tryz.prog 98 #[.int .i64 a0, .int .i64 a1, .int .i64 a2] w fun e w' => e = .returned (.bool r) ∧ Drawn0 w w' := by
 have H : (if a0 ≥ a1 then (some (decide (a0 ≤ a2))) else (some false)) = some r := h
 clear h
 by_cases c4 : a0 ≥ a1
 case pos =>
  rw [if_pos c4] at H
  have c4b0 : decide (a1 ≤ a0) = true := decide_eq_true c4
  clear c4
  obtain rfl := Option.some.inj H
  go_enter Tryz.func98, Tryz.ntmps98
  go_wp2
  go_ret
  exact ⟨by first | rfl | (simp; done) | (simp [*]; done), by repeat (first | exact Drawn0.refl _ | apply Drawn0.step)⟩
 rw [if_neg c4] at H
 have c4b0 : decide (a1 ≤ a0) = false := decide_eq_false c4
 clear c4
 obtain rfl := Option.some.inj H
 go_enter Tryz.func98, Tryz.ntmps98
 go_wp2
 go_ret
 exact ⟨by first | rfl | (simp; done) | (simp [*]; done), by repeat (first | exact Drawn0.refl _ | apply Drawn0.step)⟩

end Go.Proofs.YtgokcaccamfgfaaGreatDoor.G
end
section
-- Laid by the session's own driver gp.py over the kit's printer. Not trusted: Lean checks it.
namespace Go.Proofs.YtgokcaccamfgfaaGreatDoor.G
open Go.RowKit Go.Proofs.YtgokcaccamfgfaaGreatDoorW.PrintWords Go.Proofs.YtgokcaccamfgfaaGreatDoorW.PrintLast Go.Proofs.YtgokcaccamfgfaaGreatDoorW.PrintMore
set_option maxHeartbeats 8000000
set_option maxRecDepth 100000
attribute [local go_sem] max2_int min2_int max_two min_two max_three min_three max_four min_four   -- for this text's walks alone
set_option linter.unusedVariables false
set_option linter.unusedSimpArgs false

def sleuthref1_NumMay.f (a0 : Int) : Option (Bool) := (sleuthref1_upTo.f a0 (-32768) 32767).bind fun t199 => (some t199)
theorem sleuthref1_NumMay.calls (a0 : Int) (r : Bool) (w : World) (h : sleuthref1_NumMay.f a0 = some r) :
 Calls Tryz.prog 90 #[.int .i64 a0] w fun e w' => e = .returned (.bool r) ∧ Drawn0 w w' := by
 have H : ((sleuthref1_upTo.f a0 (-32768) 32767).bind fun t199 => (some t199)) = some r := h
 clear h
 replace H := Option.bind_eq_some_iff.mp H
 obtain ⟨t199, A20, H⟩ := H
 replace H : (some t199) = some r := H
 have A2 := a_ A20
 clear A20
 obtain rfl := Option.some.inj H
 go_enter Tryz.func90, Tryz.ntmps90
 go_wp2_with (first | ((with_reducible refine gate_callee (f := 98) rfl ?_); refine goesL_ (some 4) rfl rfl Tryz.func98 (by kernel_rfl) rfl #[.int .i64 a0, .int .i64 (-32768), .int .i64 32767] rfl hL_ ?_; (with_reducible refine (sleuthref1_upTo.calls a0 (-32768) 32767 t199 _ A2.out).mono ?_); rintro e w' ⟨rfl, ⟨nd, rfl⟩⟩; refine ⟨_, rfl, ?_⟩))
 go_ret
 exact ⟨by first | rfl | (simp; done) | (simp [*]; done), by repeat (first | exact Drawn0.refl _ | apply Drawn0.step)⟩

end Go.Proofs.YtgokcaccamfgfaaGreatDoor.G
end
