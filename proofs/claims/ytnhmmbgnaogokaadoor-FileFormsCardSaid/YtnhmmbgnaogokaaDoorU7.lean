/- Parts of this proof, one behind the other: G1, G2, G3, G4, G5, G6, G7, G8, G9, G10, G11, G12, G13, G14, G15, G16. -/
import Derived.Test.YtnhmmbgnaogokaaDoorG0
import Derived.Test.YtnhmmbgnaogokaaDoorTHead
section
namespace Go.Proofs.YtnhmmbgnaogokaaDoor.G
open Go.RowKit Go.Proofs.YtnhmmbgnaogokaaDoorW.PrintWords Go.Proofs.YtnhmmbgnaogokaaDoorW.PrintLast Go.Proofs.YtnhmmbgnaogokaaDoorW.PrintMore
set_option maxHeartbeats 8000000
set_option maxRecDepth 100000
attribute [local go_sem] max2_int min2_int max_two min_two max_three min_three max_four min_four   -- for this text's walks alone
set_option linter.unusedVariables false
set_option linter.unusedSimpArgs false

/-- where the first blank or bracket stands -/
abbrev seps : ByteArray := ⟨#[32, 40, 41]⟩
theorem rune_err (w : World) :
 Calls Tryd.prog 62 #[.string seps, .int .i32 65533] w fun e w' => e = .returned (.int .i64 (-1)) ∧ Below w.heap.size w w' := by
 have hnx0 := fun ty => run_next_ascii (P := Tryd.prog) w seps 0 ty (by decide) (by decide)
 have hnx1 := fun ty => run_next_ascii (P := Tryd.prog) w seps 1 ty (by decide) (by decide)
 have hnx2 := fun ty => run_next_ascii (P := Tryd.prog) w seps 2 ty (by decide) (by decide)
 have hnx3 := fun ty => run_next_end (P := Tryd.prog) w seps 3 ty (by decide)
 go_enter Tryd.func62, Tryd.ntmps62
 go_wp2
 go_loopg [5, 6] 3 (fun g _ _ wx => ∃ i : Nat, i + g = 3 ∧ wx = w.iter seps i)
 case atStart => exact ⟨0, rfl, rfl⟩
 case round =>
  obtain ⟨i, hi, rfl⟩ := hrel
  cases gk with
  | zero =>
   obtain rfl : i = 3 := by omega
   go_wp2
   go_ret
   exact ⟨rfl, by apply below_alloc; exact Below.refl _ _⟩
  | succ g =>
   rcases (show i = 0 ∨ i = 1 ∨ i = 2 by omega) with rfl | rfl | rfl
   all_goals go_wp2
   all_goals go_roundg g
   all_goals first | omega | exact ⟨_, by omega, rfl⟩
theorem rune_two (w : World) (c : Int) (hc : 128 ≤ c) (hc2 : c < 2048) (hv : Lib.validRune c = true) (hc3 : c ≠ 65533) :
 Calls Tryd.prog 62 #[.string seps, .int .i32 c] w fun e w' => e = .returned (.int .i64 (-1)) ∧ Below w.heap.size w w' := by
 obtain ⟨p1, p2, hxy, hy⟩ : ∃ p1 p2 : UInt8, Utf8.encode c = ⟨#[p1, p2]⟩ ∧ 128 ≤ p2.toNat := by
  have hv2 : Utf8.valid c = true := by
   rw [← hv]; unfold Utf8.valid Lib.validRune
   rw [Bool.eq_iff_iff]; simp; omega
  refine ⟨UInt8.ofNat (0xC0 + c.toNat / 64), UInt8.ofNat (0x80 + c.toNat % 64), ?_, ?_⟩
  · unfold Utf8.encode
    simp only [hv2, if_true]
    rw [if_neg (by omega), if_pos (by omega)]
  · simp; omega
 have hcv : ∀ W : World, (convert 21 9 (.int .i32 c)).run Tryd.prog W = .ok (.string ⟨#[p1, p2]⟩) W := by
  intro W
  rw [← hxy]
  simp [convert, run_underlying Tryd.underlying21, run_underlying Tryd.underlying9, Conv.intToString, Result.andThen]
 have n1 : (c == 65533) = false := beq_eq_false_iff_ne.2 (by omega)
 have n2 : decide (c < 128) = false := decide_eq_false (by omega)
 clear hxy
 go_enter Tryd.func62, Tryd.ntmps62
 go_wp2_with (first
  | (go_at_call 71; refine (Tryd.utf8_ValidRune _ _).mono ?_; rintro e w1 ⟨rfl, hw⟩; rw [hw, hv])
  )
 go_step3
 go_wp2
 go_loopg [9, 10] 1 (fun g v9 v0 wx => v9 = .int .i64 1 ∧ v0 = .int .i64 0 ∧ wx = w)
 case atStart => exact ⟨rfl, rfl, rfl⟩
 case round =>
  obtain ⟨rfl, rfl, rfl⟩ := hrel
  have hne : ((40 : Int) == (p2.toNat : Int)) = false := beq_eq_false_iff_ne.2 (by omega)
  have hb : 1 < ({ data := #[p1, p2] } : ByteArray).size := by show 1 < 2; decide
  have hne2 : ((seps[1].toNat : Int) != ((({ data := #[p1, p2] } : ByteArray)[1]'hb).toNat : Int)) = true := by
   show ((40 : Int) != (p2.toNat : Int)) = true
   rw [bne, hne]; rfl
  have hix : Lib.indexByte (seps.extract 2 3).data.toList ((p2.toNat : Int)).toNat.toUInt8 = -1 := by
   rw [show ((p2.toNat : Int)).toNat.toUInt8 = p2 by simp]
   show Lib.indexByte [41] p2 = -1
   unfold Lib.indexByte
   rw [if_neg (by intro h; have := beq_iff_eq.1 h; subst this; revert hy; decide)]; rfl
  have hw2 : IntKind.i64.wrap 2 = 2 := by decide
  have hwi : IntKind.i64.wrap (1 + 1) = 2 := by decide
  go_wp2
  go_step3
  go_wp2
  go_region
  simp only [Exit.then, hne2]
  go_wp2
  go_region_with (go_at_call 70; refine (Tryd.strings_IndexByte (seps.extract 2 3) (p2.toNat : Int) _).mono ?_; rintro e w2 ⟨rfl, hw2⟩; rw [hw2, hix])
  all_goals simp only [Exit.then]
  all_goals go_wp2
  all_goals simp only [Exit.noGoto, Exit.inBlock, Exit.then]
  all_goals go_ret
  all_goals exact ⟨rfl, by repeat (first | exact Below.refl _ _ | apply Below.drew)⟩
theorem rune_three (w : World) (c : Int) (hc : 2048 ≤ c) (hc2 : c < 65536) (hv : Lib.validRune c = true) (hc3 : c ≠ 65533) :
 Calls Tryd.prog 62 #[.string seps, .int .i32 c] w fun e w' => e = .returned (.int .i64 (-1)) ∧ Below w.heap.size w w' := by
 obtain ⟨p1, p2, p3, hxy, hy⟩ : ∃ p1 p2 p3 : UInt8, Utf8.encode c = ⟨#[p1, p2, p3]⟩ ∧ 128 ≤ p3.toNat := by
  have hv2 : Utf8.valid c = true := by
   rw [← hv]; unfold Utf8.valid Lib.validRune
   rw [Bool.eq_iff_iff]; simp; omega
  refine ⟨UInt8.ofNat (0xE0 + c.toNat / 4096), UInt8.ofNat (0x80 + c.toNat / 64 % 64), UInt8.ofNat (0x80 + c.toNat % 64), ?_, ?_⟩
  · unfold Utf8.encode
    simp only [hv2, if_true]
    rw [if_neg (by omega), if_neg (by omega), if_pos (by omega)]
  · simp; omega
 have hcv : ∀ W : World, (convert 21 9 (.int .i32 c)).run Tryd.prog W = .ok (.string ⟨#[p1, p2, p3]⟩) W := by
  intro W
  rw [← hxy]
  simp [convert, run_underlying Tryd.underlying21, run_underlying Tryd.underlying9, Conv.intToString, Result.andThen]
 have n1 : (c == 65533) = false := beq_eq_false_iff_ne.2 (by omega)
 have n2 : decide (c < 128) = false := decide_eq_false (by omega)
 clear hxy
 go_enter Tryd.func62, Tryd.ntmps62
 go_wp2_with (first
  | (go_at_call 71; refine (Tryd.utf8_ValidRune _ _).mono ?_; rintro e w1 ⟨rfl, hw⟩; rw [hw, hv])
  )
 go_step3
 go_wp2
 go_loopg [9, 10] 1 (fun g v9 v0 wx => v9 = .int .i64 2 ∧ v0 = .int .i64 0 ∧ wx = w)
 case atStart => exact ⟨rfl, rfl, rfl⟩
 case round =>
  obtain ⟨rfl, rfl, rfl⟩ := hrel
  have hne : ((41 : Int) == (p3.toNat : Int)) = false := beq_eq_false_iff_ne.2 (by omega)
  have hb : 2 < ({ data := #[p1, p2, p3] } : ByteArray).size := by show 2 < 3; decide
  have hne2 : ((seps[2].toNat : Int) != ((({ data := #[p1, p2, p3] } : ByteArray)[2]'hb).toNat : Int)) = true := by
   show ((41 : Int) != (p3.toNat : Int)) = true
   rw [bne, hne]; rfl
  have hix : Lib.indexByte (seps.extract 3 3).data.toList ((p3.toNat : Int)).toNat.toUInt8 = -1 := by
   rw [show ((p3.toNat : Int)).toNat.toUInt8 = p3 by simp]
   show Lib.indexByte [] p3 = -1
   unfold Lib.indexByte
   rfl
  have hw2 : IntKind.i64.wrap 3 = 3 := by decide
  have hwi : IntKind.i64.wrap (2 + 1) = 3 := by decide
  go_wp2
  go_step3
  go_wp2
  go_region
  simp only [Exit.then, hne2]
  go_wp2
  go_region_with (go_at_call 70; refine (Tryd.strings_IndexByte (seps.extract 3 3) (p3.toNat : Int) _).mono ?_; rintro e w2 ⟨rfl, hw2⟩; rw [hw2, hix])
  all_goals simp only [Exit.then]
  all_goals go_wp2
  all_goals simp only [Exit.noGoto, Exit.inBlock, Exit.then]
  all_goals go_ret
  all_goals exact ⟨rfl, by repeat (first | exact Below.refl _ _ | apply Below.drew)⟩
theorem rune_four (w : World) (c : Int) (hc : 65536 ≤ c) (hc2 : c < 2147483648) (hv : Lib.validRune c = true) (hc3 : c ≠ 65533) :
 Calls Tryd.prog 62 #[.string seps, .int .i32 c] w fun e w' => e = .returned (.int .i64 (-1)) ∧ Below w.heap.size w w' := by
 obtain ⟨p1, p2, p3, p4, hxy, hy⟩ : ∃ p1 p2 p3 p4 : UInt8, Utf8.encode c = ⟨#[p1, p2, p3, p4]⟩ ∧ 128 ≤ p4.toNat := by
  have hv2 : Utf8.valid c = true := by
   rw [← hv]; unfold Utf8.valid Lib.validRune
   rw [Bool.eq_iff_iff]; simp; omega
  refine ⟨UInt8.ofNat (0xF0 + c.toNat / 262144), UInt8.ofNat (0x80 + c.toNat / 4096 % 64), UInt8.ofNat (0x80 + c.toNat / 64 % 64), UInt8.ofNat (0x80 + c.toNat % 64), ?_, ?_⟩
  · unfold Utf8.encode
    simp only [hv2, if_true]
    rw [if_neg (by omega), if_neg (by omega), if_neg (by omega)]
  · simp; omega
 have hcv : ∀ W : World, (convert 21 9 (.int .i32 c)).run Tryd.prog W = .ok (.string ⟨#[p1, p2, p3, p4]⟩) W := by
  intro W
  rw [← hxy]
  simp [convert, run_underlying Tryd.underlying21, run_underlying Tryd.underlying9, Conv.intToString, Result.andThen]
 have n1 : (c == 65533) = false := beq_eq_false_iff_ne.2 (by omega)
 have n2 : decide (c < 128) = false := decide_eq_false (by omega)
 clear hxy
 go_enter Tryd.func62, Tryd.ntmps62
 go_wp2_with (first
  | (go_at_call 71; refine (Tryd.utf8_ValidRune _ _).mono ?_; rintro e w1 ⟨rfl, hw⟩; rw [hw, hv])
  )
 go_step3
 go_wp2
 go_loopg [9, 10] 1 (fun g v9 v0 wx => v9 = .int .i64 3 ∧ v0 = .int .i64 0 ∧ wx = w)
 case atStart => exact ⟨rfl, rfl, rfl⟩
 case round =>
  obtain ⟨rfl, rfl, rfl⟩ := hrel
  go_wp2
  simp only [Exit.noGoto_ret, Exit.noGoto_normal]
  go_ret
  exact ⟨rfl, Below.refl _ _⟩
theorem rune_high (w : World) (c : Int) (hc : 128 ≤ c) (hm : c ≤ 2147483647) (hv : c = 65533 ∨ Lib.validRune c = true) :
 Calls Tryd.prog 62 #[.string seps, .int .i32 c] w fun e w' => e = .returned (.int .i64 (-1)) ∧ Below w.heap.size w w' := by
 by_cases h3 : c = 65533
 case pos =>
  subst h3; exact rune_err w
 have hv := hv.resolve_left h3
 by_cases h1 : c < 2048
 case pos =>
  exact rune_two w c hc h1 hv h3
 by_cases h2 : c < 65536
 case pos =>
  exact rune_three w c (by omega) h2 hv h3
 exact rune_four w c (by omega) (by omega) hv h3
theorem get_bang (s : ByteArray) (i : Nat) (h : i < s.size) : s.get! i = s[i]'h := by
 simp [ByteArray.get!, getElem!_pos, h]; rfl
theorem dec_valid (s : ByteArray) (p : Nat) (h : p < s.size) (ha : 128 ≤ (s[p]'h).toNat) :
 ((Utf8.decode s p).1 : Int) = 65533 ∨ Lib.validRune ((Utf8.decode s p).1 : Int) = true := by
 have hb : ∀ k, (s.get! (p + k)).toNat < 256 := fun k => (s.get! (p + k)).toNat_lt
 have h0 := hb 0; have h1 := hb 1; have h2 := hb 2; have h3 := hb 3
 have hn : ¬ (s.get! (p + 0)).toNat < 128 := by rw [show p + 0 = p from rfl, get_bang s p h]; omega
 simp only [Utf8.decode, hn, if_false]
 repeat' split
 all_goals simp_all [Utf8.runeError, Lib.validRune, Utf8.valid]
 all_goals omega
theorem dec_high (s : ByteArray) (p : Nat) (h : p < s.size) (ha : 128 ≤ (s[p]'h).toNat) (j : Nat) (hj : p ≤ j) (hj2 : j < p + (Utf8.decode s p).2) (hjs : j < s.size) : 128 ≤ (s[j]'hjs).toNat := by
 have hn : ¬ (s.get! (p + 0)).toNat < 128 := by rw [show p + 0 = p from rfl, get_bang s p h]; omega
 have e1 : ∀ k, p + k < s.size → (s.get! (p + k)).toNat / 64 = 2 → ∀ hk : p + k < s.size, 128 ≤ (s[p + k]'hk).toNat := by
  intro k hk h2 hk'
  rw [get_bang s (p + k) hk] at h2
  omega
 obtain ⟨k, rfl⟩ : ∃ k, j = p + k := ⟨j - p, by omega⟩
 have hk4 : k < 4 := by
  revert hj2
  simp only [Utf8.decode, hn, if_false]
  repeat' split
  all_goals simp
  all_goals omega
 have hc : k = 0 ∨ (s.get! (p + k)).toNat / 64 = 2 := by
  revert hj2
  simp only [Utf8.decode, hn, if_false]
  rcases (show k = 0 ∨ k = 1 ∨ k = 2 ∨ k = 3 by omega) with rfl | rfl | rfl | rfl
  · intro _; exact .inl rfl
  all_goals repeat' split
  all_goals simp_all
 rcases hc with rfl | hc
 · exact ha
 · exact e1 k hjs hc hjs
theorem noany_skip (s : ByteArray) (p : Nat) (h : p < s.size) (ha : 128 ≤ (s[p]'h).toNat) (hno : Lib.NoAny s.data.toList seps.data.toList p) :
 Lib.NoAny s.data.toList seps.data.toList (p + (Utf8.decode s p).2) := by
 intro j b hj hb
 by_cases hjp : j < p
 case pos =>
  exact hno j b hjp hb
 have hjs : j < s.size := by
  have := (List.getElem?_eq_some_iff.1 hb).1
  rwa [← Lib.size_eq] at this
 have h1 := dec_high s p h ha j (by omega) hj hjs
 have h2 : s.data.toList[j]? = some (s[j]'hjs) := Lib.data_getElem? s j hjs
 rw [h2] at hb
 obtain rfl := Option.some.inj hb
 show [(32 : UInt8), 40, 41].contains (s[j]'hjs) = false
 generalize s[j]'hjs = b at h1
 rw [Bool.eq_false_iff]
 intro hc
 simp at hc
 rcases hc with rfl | rfl | rfl <;> revert h1 <;> decide
theorem any_short (s : ByteArray) (w : World) (h8 : s.size ≤ 8) :
 Calls Tryd.prog 51 #[.string s, .string seps] w fun e w' => e = .returned (.int .i64 (Lib.indexAny s.data.toList seps.data.toList)) ∧ Below w.heap.size w w' := by
 have hemp : seps.toList.isEmpty = false := by rw [Lib.toList_data]; rfl
 have hn1 : ((seps.size : Int) == 1) = false := by decide
 have h8z : decide ((8 : Int) < (s.size : Int)) = false := decide_eq_false (by omega)
 go_enter Tryd.func51, Tryd.ntmps51
 go_wp2_with (go_at_call 63; refine (Tryd.strings_shouldUseASCIISet _ _).mono ?_; rintro e w' ⟨rfl, hw⟩; rw [hw, h8z])
 go_loopg [9, 10] s.size (fun g _ _ wx => ∃ i : Nat, s.size ≤ i + g ∧ Below w.heap.size w wx ∧ wx.heap[w.heap.size]? = some (.stringIter s i) ∧ Lib.NoAny s.data.toList seps.data.toList i)
 case atStart => exact ⟨0, by omega, by apply below_alloc; exact Below.refl _ _, World.iter_heap _ _ _, Lib.NoAny.zero _ _⟩
 case round =>
  obtain ⟨i, hig, hB, hit, hno⟩ := hrel
  have HB : Aside (Below w.heap.size w wr) := hB
  have HN : Aside (Lib.NoAny s.data.toList seps.data.toList i) := hno
  clear hno
  by_cases hi : i < s.size
  case neg =>
   have hnx := fun ty => Lib.run_next_end_at (P := Tryd.prog) wr w.heap.size s i ty hit hi
   go_wp2
   go_ret
   exact ⟨by rw [Lib.indexAny_none (fun j b hj hb => HN.out j b (by have := (List.getElem?_eq_some_iff.1 hb).1; rw [← Lib.size_eq] at this; omega) hb)]; rfl, HB.out⟩
  cases gk with
  | zero => exact absurd hig (by omega)
  | succ g =>
   have hws : w.heap.size < wr.heap.size := (Array.getElem?_eq_some_iff.1 hit).1
   have hnx := fun ty => Lib.run_next_any_at (P := Tryd.prog) wr w.heap.size s i ty hit hi
   have hit2 := Lib.iterAt_heap wr w.heap.size s i (i + (Utf8.decode s i).2) hit
   have hB2 : Below w.heap.size w (wr.iterAt w.heap.size s (i + (Utf8.decode s i).2)) := Lib.below_iterAt hB (Nat.le_refl _) s _
   have hsz2 : (wr.iterAt w.heap.size s (i + (Utf8.decode s i).2)).heap.size = wr.heap.size := Lib.iterAt_size _ _ _ _
   generalize hx : s[i]'hi = x at *
   by_cases h0 : x.toNat < 128
   case neg =>
    have hxh : 128 ≤ (s[i]'hi).toNat := by rw [hx]; omega
    have hd := decode_high s i hi hxh
    have hdl := decode_le s i
    have hv := dec_valid s i hi hxh
    have HN2 : Aside (Lib.NoAny s.data.toList seps.data.toList (i + (Utf8.decode s i).2)) := noany_skip s i hi hxh HN.out
    clear hx hxh
    generalize Utf8.decode s i = d at *
    obtain ⟨d1, d2⟩ := d
    dsimp only at *
    have HB2 : Aside (Below w.heap.size w (wr.iterAt w.heap.size s (i + d2))) := hB2
    have HI2 : Aside ((wr.iterAt w.heap.size s (i + d2)).heap[w.heap.size]? = some (.stringIter s (i + d2))) := hit2
    clear hB2 hit2
    generalize wr.iterAt w.heap.size s (i + d2) = wx at *
    have hneg : ¬ ((0 : Int) ≤ -1) := by omega
    have HR : Aside (Calls Tryd.prog 62 #[.string seps, .int .i32 (d1 : Int)] wx fun e w' => e = .returned (.int .i64 (-1)) ∧ Below wx.heap.size wx w') := rune_high wx d1 (by omega) (by omega) hv
    clear hv hdl
    go_wp2_with (go_at_call 62; refine (HR.out).mono ?_; rintro e w' ⟨rfl, hb⟩; have HBr : Aside (Below wx.heap.size wx w') := hb; clear hb)
    go_roundg g
    case measure => omega
    case rel =>
     refine ⟨i + d2, by omega, below_step HB2.out HBr.out, ?_, HN2.out⟩
     rw [← HI2.out]
     exact (HBr.out.block _ (by omega))
   have hd := decode_ascii s i hi (by rw [hx]; exact h0)
   rw [hd] at hnx hit2 hB2 hsz2
   rw [hx] at hnx
   have hxl : s.data.toList[i]? = some x := by rw [← hx]; exact Lib.data_getElem? s i hi
   have hcon := Lib.contains_iff_indexByte seps.data.toList x
   have hback : ((x.toNat : Int)).toNat.toUInt8 = x := by simp
   have HB2 : Aside (Below w.heap.size w (wr.iterAt w.heap.size s (i + 1))) := hB2
   have HI2 : Aside ((wr.iterAt w.heap.size s (i + 1)).heap[w.heap.size]? = some (.stringIter s (i + 1))) := hit2
   have Hx : Aside (s.data.toList[i]? = some x) := hxl
   clear hxl hx hd hB2 hit2 hsz2
   generalize wr.iterAt w.heap.size s (i + 1) = wx at *
   cases hin : seps.data.toList.contains x
   · rw [hin] at hcon
     have hlt : ¬ ((0 : Int) ≤ Lib.indexByte seps.data.toList x) := of_decide_eq_false hcon.symm
     clear hcon
     go_wp2_with (go_at_call 62; refine (Tryd.strings_IndexRune_ascii _ _ _ (by omega) (by omega)).mono ?_; rintro e w' ⟨rfl, hw⟩; rw [hw, hback])
     go_roundg g
     case measure => omega
     case rel => exact ⟨i + 1, by omega, HB2.out, HI2.out, HN.out.succ Hx.out hin⟩
   · rw [hin] at hcon
     have hge : (0 : Int) ≤ Lib.indexByte seps.data.toList x := of_decide_eq_true hcon.symm
     clear hcon
     go_wp2_with (go_at_call 62; refine (Tryd.strings_IndexRune_ascii _ _ _ (by omega) (by omega)).mono ?_; rintro e w' ⟨rfl, hw⟩; rw [hw, hback])
     go_ret
     exact ⟨by rw [Lib.indexAny_hit HN.out Hx.out hin]; rfl, HB2.out⟩
def strings_IndexAny.f (a0 : ByteArray) (a1 : ByteArray) : Option Int := if a1 = seps ∧ a0.size < 4294967281 then some (Lib.indexAny a0.data.toList seps.data.toList) else none
theorem strings_IndexAny.calls (a0 : ByteArray) (a1 : ByteArray) (r : Int) (w : World) (h : strings_IndexAny.f a0 a1 = some r) :
 Calls Tryd.prog 51 #[.string a0, .string a1] w fun e w' => e = .returned (.int .i64 r) ∧ Below w.heap.size w w' := by
 unfold strings_IndexAny.f at h
 by_cases hc : a1 = seps ∧ a0.size < 4294967281
 case neg =>
  rw [if_neg hc] at h; cases h

 rw [if_pos hc] at h
 obtain rfl := Option.some.inj h
 obtain ⟨rfl, hs⟩ := hc
 by_cases h8 : a0.size ≤ 8
 case pos =>
  exact any_short a0 w h8
 refine (Tryd.strings_IndexAny_long (zero_of_info (n := 256) (by kernel_rfl)).1 a0 seps w (by decide) (by omega) hs (by decide) ?_).mono ?_
 · intro j b hb
   have : j < 3 := (List.getElem?_eq_some_iff.1 hb).1
   rcases (show j = 0 ∨ j = 1 ∨ j = 2 by omega) with rfl | rfl | rfl <;> (obtain rfl := Option.some.inj hb; decide)
 · rintro e w' ⟨rfl, rfl⟩
   exact ⟨rfl, by apply below_alloc; apply below_alloc; exact Below.refl _ _⟩
set_option maxHeartbeats 8000000
set_option maxRecDepth 100000
attribute [local go_sem] max2_int min2_int max_two min_two max_three min_three max_four min_four   -- for this text's walks alone
set_option linter.unusedVariables false
set_option linter.unusedSimpArgs false

def term_word.f (a0 : ByteArray) : Option (ByteArray × ByteArray) := (strings_IndexAny.f a0 (⟨#[32, 40, 41]⟩ : ByteArray)).bind fun t101 => (if t101 < 0 then (if 0 ≤ (a0.size : Int) then (if (a0.size : Int) ≤ (a0.size : Int) then (some (a0.extract 0 ((a0.size : Int) : Int).toNat, a0.extract ((a0.size : Int) : Int).toNat a0.size)) else (none)) else (none)) else (if 0 ≤ t101 then (if t101 ≤ (a0.size : Int) then (some (a0.extract 0 (t101 : Int).toNat, a0.extract (t101 : Int).toNat a0.size)) else (none)) else (none)))
theorem term_word.calls (a0 : ByteArray) (r1 : ByteArray) (r2 : ByteArray) (w : World) (h : term_word.f a0 = some (r1, r2)) :
 Calls Tryd.prog 45 #[.string a0] w fun e w' => e = .returned (.tuple #[.string r1, .string r2]) ∧ Below w.heap.size w w' := by
 have HB := a_ (Below.refl w.heap.size w)
 have H := h; unfold term_word.f at H
 clear h
 replace H := Option.bind_eq_some_iff.mp H
 obtain ⟨t0, A20, H⟩ := H
 try dsimp only at H
 have A2 := a_ A20
 clear A20
 by_cases c3 : t0 < 0
 case neg =>
  rw [if_neg c3] at H
  have c3b0 : decide (t0 < 0) = false := decide_eq_false c3
  clear c3
  replace H := ifI_ H; obtain ⟨c9, H⟩ := H
  have c9b0 := eq_true c9
  have c9b1 : decide (0 ≤ t0) = true := decide_eq_true c9
  clear c9
  replace H := ifI_ H; obtain ⟨c10, H⟩ := H
  have c10b0 := eq_true c10
  have c10b1 : decide (t0 ≤ (a0.size : Int)) = true := decide_eq_true c10
  clear c10
  have c11b0 := eq_true (of_decide_eq_true hA_ : 0 ≤ t0)
  have c12b0 := eq_true (of_decide_eq_true hA_ : t0 ≤ (a0.size : Int))
  simp only [Option.some.injEq, Prod.mk.injEq] at H
  obtain ⟨rfl, rfl⟩ := H
  go_enter Tryd.func45, Tryd.ntmps45
  go_wp2_with (first | (go_at_call 51; (with_reducible refine (strings_IndexAny.calls a0 (⟨#[32, 40, 41]⟩ : ByteArray) t0 _ A2.out).mono ?_); rintro e w0 ⟨rfl, hb⟩; replace HB := a_ (below_step hB_ hb); (try clear hb); (try clear hb2); (try clear hk); (try clear hi)))
  repeat (go_quiet (first | (go_at_call 51; (with_reducible refine (strings_IndexAny.calls a0 (⟨#[32, 40, 41]⟩ : ByteArray) t0 _ A2.out).mono ?_); rintro e w0 ⟨rfl, hb⟩; replace HB := a_ (below_step hB_ hb); (try clear hb); (try clear hb2); (try clear hk); (try clear hi))); try go_wp2_with (first | (go_at_call 51; (with_reducible refine (strings_IndexAny.calls a0 (⟨#[32, 40, 41]⟩ : ByteArray) t0 _ A2.out).mono ?_); rintro e w0 ⟨rfl, hb⟩; replace HB := a_ (below_step hB_ hb); (try clear hb); (try clear hb2); (try clear hk); (try clear hi))))
  go_ret2
  exact ⟨hV_, hC_⟩
 rw [if_pos c3] at H
 have c3b0 : decide (t0 < 0) = true := decide_eq_true c3
 clear c3
 replace H := ifI_ H; obtain ⟨c4, H⟩ := H
 have c4b0 := eq_true c4
 have c4b1 : decide (0 ≤ (a0.size : Int)) = true := decide_eq_true c4
 clear c4
 replace H := ifI_ H; obtain ⟨c5, H⟩ := H
 have c5b0 := eq_true c5
 have c5b1 : decide ((a0.size : Int) ≤ (a0.size : Int)) = true := decide_eq_true c5
 clear c5
 have c6b0 := eq_true (of_decide_eq_true hA_ : 0 ≤ (a0.size : Int))
 have c7b0 := eq_true (of_decide_eq_true hA_ : (a0.size : Int) ≤ (a0.size : Int))
 simp only [Option.some.injEq, Prod.mk.injEq] at H
 obtain ⟨rfl, rfl⟩ := H
 go_enter Tryd.func45, Tryd.ntmps45
 go_wp2_with (first | (go_at_call 51; (with_reducible refine (strings_IndexAny.calls a0 (⟨#[32, 40, 41]⟩ : ByteArray) t0 _ A2.out).mono ?_); rintro e w8 ⟨rfl, hb⟩; replace HB := a_ (below_step hB_ hb); (try clear hb); (try clear hb2); (try clear hk); (try clear hi)))
 repeat (go_quiet (first | (go_at_call 51; (with_reducible refine (strings_IndexAny.calls a0 (⟨#[32, 40, 41]⟩ : ByteArray) t0 _ A2.out).mono ?_); rintro e w8 ⟨rfl, hb⟩; replace HB := a_ (below_step hB_ hb); (try clear hb); (try clear hb2); (try clear hk); (try clear hi))); try go_wp2_with (first | (go_at_call 51; (with_reducible refine (strings_IndexAny.calls a0 (⟨#[32, 40, 41]⟩ : ByteArray) t0 _ A2.out).mono ?_); rintro e w8 ⟨rfl, hb⟩; replace HB := a_ (below_step hB_ hb); (try clear hb); (try clear hb2); (try clear hk); (try clear hi))))
 go_ret2
 exact ⟨hV_, hC_⟩
set_option maxHeartbeats 8000000
set_option maxRecDepth 100000
attribute [local go_sem] max2_int min2_int max_two min_two max_three min_three max_four min_four   -- for this text's walks alone
set_option linter.unusedVariables false
set_option linter.unusedSimpArgs false

def term_Number.f (a0 : ByteArray) : Option (Int × Bool) := if a0.size ≤ 281474976710656 then some (numF a0) else none
theorem term_Number.calls (a0 : ByteArray) (r1 : Int) (r2 : Bool) (w : World) (h : term_Number.f a0 = some (r1, r2)) (hG : GOK w) :
 Calls Tryd.prog 46 #[.string a0] w fun e w' => e = .returned (.tuple #[.int .i64 r1, .bool r2]) ∧ Below w.heap.size w w' := by
 unfold term_Number.f at h
 by_cases hs : a0.size ≤ 281474976710656
 case neg =>
  rw [if_neg hs] at h
  cases h

 rw [if_pos hs] at h
 have h := Option.some.inj h
 obtain ⟨rfl, rfl⟩ : r1 = (numF a0).1 ∧ r2 = (numF a0).2 := by rw [h]; exact ⟨rfl, rfl⟩
 clear h
 have hr := atoiF_range a0
 have hC := a_ (atoi_calls a0 hs w hG)
 have hn : (numF a0).1 = (atoiF a0).1 := by unfold numF atoiF; cases Lib.atoiAll a0.data.toList <;> rfl
 rw [hn]
 have hb : (numF a0).2 = ((atoiF a0).2 && ((decide (-32768 ≤ (atoiF a0).1) && decide ((atoiF a0).1 ≤ 32767)) && itoaK (atoiF a0).1 == a0.data.toList)) := by
  unfold numF atoiF; cases Lib.atoiAll a0.data.toList <;> rfl
 rw [hb]
 clear hn hb
 generalize (atoiF a0).1 = v at hr hC ⊢
 generalize (atoiF a0).2 = ok at hC ⊢
 cases ok with
 | false =>
  go_enter Tryd.func46, Tryd.ntmps46
  go_wp2_with (go_at_call 52; refine (hC.out).mono ?_; rintro e w1 ⟨⟨N, rfl⟩, hb⟩; have HB := a_ hb; clear hb; simp only [errV, Bool.false_eq_true, if_false])
  go_ret2
  exact ⟨rfl, by repeat (first | exact HB.out | apply below_alloc | apply pw_below_drewN | apply below_drew1)⟩
 | true =>
  by_cases c1 : -32768 ≤ v
  case neg =>
   have k1 : decide (-32768 ≤ v) = false := decide_eq_false c1
   have e1 : (true && ((decide (-32768 ≤ v) && decide (v ≤ 32767)) && itoaK v == a0.data.toList)) = false := by rw [k1]; rfl
   rw [e1]
   clear e1
   go_enter Tryd.func46, Tryd.ntmps46
   go_wp2_with (first
    | (go_at_call 52; refine (hC.out).mono ?_; rintro e w1 ⟨⟨N, rfl⟩, hb⟩; have HB := a_ hb; clear hb; simp only [errV, if_true])
    | go_in)
   go_ret2
   exact ⟨rfl, by repeat (first | exact HB.out | apply below_alloc | apply pw_below_drewN | apply below_drew1)⟩
  by_cases c2 : v ≤ 32767
  case neg =>
   have k1 : decide (-32768 ≤ v) = true := decide_eq_true c1
   have k2 : decide (v ≤ 32767) = false := decide_eq_false c2
   have e1 : (true && ((decide (-32768 ≤ v) && decide (v ≤ 32767)) && itoaK v == a0.data.toList)) = false := by rw [k1, k2]; rfl
   rw [e1]
   clear e1
   go_enter Tryd.func46, Tryd.ntmps46
   go_wp2_with (first
    | (go_at_call 52; refine (hC.out).mono ?_; rintro e w1 ⟨⟨N, rfl⟩, hb⟩; have HB := a_ hb; clear hb; simp only [errV, if_true])
    | go_in)
   go_ret2
   exact ⟨rfl, by repeat (first | exact HB.out | apply below_alloc | apply pw_below_drewN | apply below_drew1)⟩
  have k1 : decide (-32768 ≤ v) = true := decide_eq_true c1
  have k2 : decide (v ≤ 32767) = true := decide_eq_true c2
  have e1 : (true && ((decide (-32768 ≤ v) && decide (v ≤ 32767)) && itoaK v == a0.data.toList)) = (itoaK v == a0.data.toList) := by rw [k1, k2]; rfl
  rw [e1]
  clear e1
  go_enter Tryd.func46, Tryd.ntmps46
  go_wp2_with (first
   | (go_at_call 52; refine (hC.out).mono ?_; rintro e w1 ⟨⟨N, rfl⟩, hb⟩; have HB := a_ hb; have HG1 := hG.below hb; clear hb; simp only [errV, if_true])
   | (go_at_call 54; refine (itoa_calls v (by omega) (by omega) _ HG1).mono ?_; rintro e w2 ⟨rfl, hb⟩; have HB2 := a_ (below_step HB.out hb); clear hb)
   | go_in)
  go_ret2
  exact ⟨by rw [Lib.toList_data]; rfl, by repeat (first | exact HB2.out | apply below_alloc | apply pw_below_drewN | apply below_drew1)⟩
end Go.Proofs.YtnhmmbgnaogokaaDoor.G
end
section
namespace Go.Proofs.YtnhmmbgnaogokaaDoor.G
open Go.RowKit Go.Proofs.YtnhmmbgnaogokaaDoorW.PrintWords Go.Proofs.YtnhmmbgnaogokaaDoorW.PrintLast Go.Proofs.YtnhmmbgnaogokaaDoorW.PrintMore
attribute [local go_sem] max2_int min2_int max_two min_two max_three min_three max_four min_four
set_option linter.unusedVariables false
set_option linter.unusedSimpArgs false
def strings_CutPrefix.f (a0 : ByteArray) (a1 : ByteArray) : Option (ByteArray × Bool) := some (⟨(Lib.trimPrefix a0.data.toList a1.data.toList).toArray⟩, Lib.hasPrefix a0.data.toList a1.data.toList)
theorem strings_CutPrefix.calls (a0 : ByteArray) (a1 : ByteArray) (r1 : ByteArray) (r2 : Bool) (w : World) (h : strings_CutPrefix.f a0 a1 = some (r1, r2)) :
 Calls Tryd.prog 49 #[.string a0, .string a1] w fun e w' => e = .returned (.tuple #[.string r1, .bool r2]) ∧ Drawn0 w w' := by
 have h := Option.some.inj h
 obtain ⟨rfl, rfl⟩ := Prod.mk.inj h
 refine (Tryd.strings_CutPrefix a0 a1 w).mono ?_
 rintro e w' ⟨rfl, rfl⟩
 exact ⟨rfl, Drawn0.refl _⟩

end Go.Proofs.YtnhmmbgnaogokaaDoor.G
end
section
namespace Go.Proofs.YtnhmmbgnaogokaaDoor.G
open Go.RowKit Go.Proofs.YtnhmmbgnaogokaaDoorW.PrintWords Go.Proofs.YtnhmmbgnaogokaaDoorW.PrintLast Go.Proofs.YtnhmmbgnaogokaaDoorW.PrintMore
set_option maxHeartbeats 8000000
set_option maxRecDepth 100000
attribute [local go_sem] max2_int min2_int max_two min_two max_three min_three max_four min_four   -- for this text's walks alone
set_option linter.unusedVariables false
set_option linter.unusedSimpArgs false

def term_Digits.f (a0 : ByteArray) (a1 : Int) : Option (Int × Bool) := if a0.size ≤ 281474976710656 then some (digF a0 a1) else none
theorem term_Digits.calls (a0 : ByteArray) (a1 : Int) (r1 : Int) (r2 : Bool) (w : World) (h : term_Digits.f a0 a1 = some (r1, r2)) (hG : GOK w) :
 Calls Tryd.prog 55 #[.string a0, .int .i64 a1] w fun e w' => e = .returned (.tuple #[.int .i64 r1, .bool r2]) ∧ Below w.heap.size w w' := by
 unfold term_Digits.f at h
 by_cases hs : a0.size ≤ 281474976710656
 case neg =>
  rw [if_neg hs] at h
  cases h

 rw [if_pos hs] at h
 have h := Option.some.inj h
 obtain ⟨rfl, rfl⟩ : r1 = (digF a0 a1).1 ∧ r2 = (digF a0 a1).2 := by rw [h]; exact ⟨rfl, rfl⟩
 clear h
 have hr := atoiF_range a0
 have hC := a_ (atoi_calls a0 hs w hG)
 have hn : (digF a0 a1).1 = (atoiF a0).1 := by unfold digF atoiF; cases Lib.atoiAll a0.data.toList <;> rfl
 rw [hn]
 have hb : (digF a0 a1).2 = ((atoiF a0).2 && ((decide (0 ≤ (atoiF a0).1) && decide ((atoiF a0).1 ≤ a1)) && itoaK (atoiF a0).1 == a0.data.toList)) := by
  unfold digF atoiF; cases Lib.atoiAll a0.data.toList <;> rfl
 rw [hb]
 clear hn hb
 generalize (atoiF a0).1 = v at hr hC ⊢
 generalize (atoiF a0).2 = ok at hC ⊢
 cases ok with
 | false =>
  go_enter Tryd.func55, Tryd.ntmps55
  go_wp2_with (go_at_call 52; refine (hC.out).mono ?_; rintro e w1 ⟨⟨N, rfl⟩, hb⟩; have HB := a_ hb; clear hb; simp only [errV, Bool.false_eq_true, if_false])
  go_ret2
  exact ⟨rfl, by repeat (first | exact HB.out | apply below_alloc | apply pw_below_drewN | apply below_drew1)⟩
 | true =>
  by_cases c1 : 0 ≤ v
  case neg =>
   have k1 : decide (0 ≤ v) = false := decide_eq_false c1
   have e1 : (true && ((decide (0 ≤ v) && decide (v ≤ a1)) && itoaK v == a0.data.toList)) = false := by rw [k1]; rfl
   rw [e1]
   clear e1
   go_enter Tryd.func55, Tryd.ntmps55
   go_wp2_with (first
    | (go_at_call 52; refine (hC.out).mono ?_; rintro e w1 ⟨⟨N, rfl⟩, hb⟩; have HB := a_ hb; clear hb; simp only [errV, if_true])
    | go_in)
   go_ret2
   exact ⟨rfl, by repeat (first | exact HB.out | apply below_alloc | apply pw_below_drewN | apply below_drew1)⟩
  by_cases c2 : v ≤ a1
  case neg =>
   have k1 : decide (0 ≤ v) = true := decide_eq_true c1
   have k2 : decide (v ≤ a1) = false := decide_eq_false c2
   have e1 : (true && ((decide (0 ≤ v) && decide (v ≤ a1)) && itoaK v == a0.data.toList)) = false := by rw [k1, k2]; rfl
   rw [e1]
   clear e1
   go_enter Tryd.func55, Tryd.ntmps55
   go_wp2_with (first
    | (go_at_call 52; refine (hC.out).mono ?_; rintro e w1 ⟨⟨N, rfl⟩, hb⟩; have HB := a_ hb; clear hb; simp only [errV, if_true])
    | go_in)
   go_ret2
   exact ⟨rfl, by repeat (first | exact HB.out | apply below_alloc | apply pw_below_drewN | apply below_drew1)⟩
  have k1 : decide (0 ≤ v) = true := decide_eq_true c1
  have k2 : decide (v ≤ a1) = true := decide_eq_true c2
  have e1 : (true && ((decide (0 ≤ v) && decide (v ≤ a1)) && itoaK v == a0.data.toList)) = (itoaK v == a0.data.toList) := by rw [k1, k2]; rfl
  rw [e1]
  clear e1
  go_enter Tryd.func55, Tryd.ntmps55
  go_wp2_with (first
   | (go_at_call 52; refine (hC.out).mono ?_; rintro e w1 ⟨⟨N, rfl⟩, hb⟩; have HB := a_ hb; have HG1 := hG.below hb; clear hb; simp only [errV, if_true])
   | (go_at_call 54; refine (itoa_calls v (by omega) (by omega) _ HG1).mono ?_; rintro e w2 ⟨rfl, hb⟩; have HB2 := a_ (below_step HB.out hb); clear hb)
   | go_in)
  go_ret2
  exact ⟨by rw [Lib.toList_data]; rfl, by repeat (first | exact HB2.out | apply below_alloc | apply pw_below_drewN | apply below_drew1)⟩
set_option maxHeartbeats 8000000
set_option maxRecDepth 100000
attribute [local go_sem] max2_int min2_int max_two min_two max_three min_three max_four min_four   -- for this text's walks alone
set_option linter.unusedVariables false
set_option linter.unusedSimpArgs false

def term_Tag.f (a0 : ByteArray) : Option (Int × Bool) := (strings_CutPrefix.f a0 (⟨#[64]⟩ : ByteArray)).bind fun bt102 => ((term_Digits.f bt102.1 99).bind fun bt104 => (if bt102.2 = true then (some (bt104.1, bt104.2)) else (some (bt104.1, false))))
theorem term_Tag.calls (a0 : ByteArray) (r1 : Int) (r2 : Bool) (w : World) (h : term_Tag.f a0 = some (r1, r2)) (hG : GOK w) :
 Calls Tryd.prog 47 #[.string a0] w fun e w' => e = .returned (.tuple #[.int .i64 r1, .bool r2]) ∧ Below w.heap.size w w' := by
 have HB := a_ (Below.refl w.heap.size w)
 have H := h; unfold term_Tag.f at H
 clear h
 replace H := Option.bind_eq_some_iff.mp H
 obtain ⟨⟨t0, t3⟩, A20, H⟩ := H
 try dsimp only at H
 have A2 := a_ A20
 clear A20
 replace H := Option.bind_eq_some_iff.mp H
 obtain ⟨⟨t1, t2⟩, A30, H⟩ := H
 try dsimp only at H
 have A3 := a_ A30
 clear A30
 by_cases c4 : t3 = true
 case pos =>
  subst c4
  rw [if_pos rfl] at H
  simp only [Option.some.injEq, Prod.mk.injEq] at H
  obtain ⟨rfl, rfl⟩ := H
  go_enter Tryd.func47, Tryd.ntmps47
  go_wp2_with (first | ((with_reducible refine gate_callee (f := 49) rfl ?_); refine goesL_ _ rfl rfl Tryd.func49 (by kernel_rfl) rfl #[.string a0, .string (⟨#[64]⟩ : ByteArray)] rfl hL_ ?_; (with_reducible refine (strings_CutPrefix.calls a0 (⟨#[64]⟩ : ByteArray) t0 true _ A2.out).mono ?_); rintro e w' ⟨rfl, ⟨nd, rfl⟩⟩; refine ⟨_, rfl, ?_⟩) | ((with_reducible refine gate_callee (f := 55) rfl ?_); refine goesL_ (some 15) rfl rfl Tryd.func55 (by kernel_rfl) rfl #[.string t0, .int .i64 99] rfl hL_ ?_; (with_reducible refine (term_Digits.calls t0 99 t1 t2 _ A3.out hG_).mono ?_); rintro e w5 ⟨rfl, hb⟩; refine ⟨_, rfl, ?_⟩; replace HB := a_ (below_step hB_ hb); (try clear hb); (try clear hb2); (try clear hk); (try clear hi)))
  go_ret2
  exact ⟨hV_, hC_⟩
 replace c4 := Bool.eq_false_iff.mpr c4
 subst c4
 rw [if_neg (show ¬ (false = true) by decide)] at H
 simp only [Option.some.injEq, Prod.mk.injEq] at H
 obtain ⟨rfl, rfl⟩ := H
 go_enter Tryd.func47, Tryd.ntmps47
 go_wp2_with (first | ((with_reducible refine gate_callee (f := 49) rfl ?_); refine goesL_ _ rfl rfl Tryd.func49 (by kernel_rfl) rfl #[.string a0, .string (⟨#[64]⟩ : ByteArray)] rfl hL_ ?_; (with_reducible refine (strings_CutPrefix.calls a0 (⟨#[64]⟩ : ByteArray) t0 false _ A2.out).mono ?_); rintro e w' ⟨rfl, ⟨nd, rfl⟩⟩; refine ⟨_, rfl, ?_⟩) | ((with_reducible refine gate_callee (f := 55) rfl ?_); refine goesL_ (some 15) rfl rfl Tryd.func55 (by kernel_rfl) rfl #[.string t0, .int .i64 99] rfl hL_ ?_; (with_reducible refine (term_Digits.calls t0 99 t1 t2 _ A3.out hG_).mono ?_); rintro e w6 ⟨rfl, hb⟩; refine ⟨_, rfl, ?_⟩; replace HB := a_ (below_step hB_ hb); (try clear hb); (try clear hb2); (try clear hk); (try clear hi)))
 go_ret2
 exact ⟨hV_, hC_⟩

end Go.Proofs.YtnhmmbgnaogokaaDoor.G
end
section
namespace Go.Proofs.YtnhmmbgnaogokaaDoor.G
open Go.RowKit Go.Proofs.YtnhmmbgnaogokaaDoorW.PrintWords Go.Proofs.YtnhmmbgnaogokaaDoorW.PrintLast Go.Proofs.YtnhmmbgnaogokaaDoorW.PrintMore
attribute [local go_sem] max2_int min2_int max_two min_two max_three min_three max_four min_four
set_option linter.unusedVariables false
set_option linter.unusedSimpArgs false
def strings_HasPrefix.f (a0 : ByteArray) (a1 : ByteArray) : Option Bool := some (Lib.hasPrefix a0.data.toList a1.data.toList)
theorem strings_HasPrefix.calls (a0 : ByteArray) (a1 : ByteArray) (r : Bool) (w : World) (h : strings_HasPrefix.f a0 a1 = some r) :
 Calls Tryd.prog 48 #[.string a0, .string a1] w fun e w' => e = .returned (.bool r) ∧ Drawn0 w w' := by
 obtain rfl := Option.some.inj h
 refine (Tryd.strings_HasPrefix a0 a1 w).mono ?_
 rintro e w' ⟨rfl, rfl⟩
 exact ⟨rfl, Drawn0.refl _⟩

end Go.Proofs.YtnhmmbgnaogokaaDoor.G
end
section
namespace Go.Proofs.YtnhmmbgnaogokaaDoor.G
open Go.RowKit Go.Proofs.YtnhmmbgnaogokaaDoorW.PrintWords Go.Proofs.YtnhmmbgnaogokaaDoorW.PrintLast Go.Proofs.YtnhmmbgnaogokaaDoorW.PrintMore
set_option maxHeartbeats 8000000
set_option maxRecDepth 100000
attribute [local go_sem] max2_int min2_int max_two min_two max_three min_three max_four min_four   -- for this text's walks alone
set_option linter.unusedVariables false
set_option linter.unusedSimpArgs false

mutual
def term_cut.j0 : Nat → ByteArray → Int → Bool → Bool → Option (Int × Int × List ByteArray × ByteArray × Bool)
 | 0, _, _, _, _ => none
 | k + 1, x8, x11, x12, x52 => if x52 = true then (some (2, x11, ([] : List ByteArray), x8, x12)) else (term_cut.l0 k x8 x11 ([] : List ByteArray))
def term_cut.l0 : Nat → ByteArray → Int → List ByteArray → Option (Int × Int × List ByteArray × ByteArray × Bool)
 | 0, _, _, _ => none
 | k + 1, x8, x11, x13 => if (x13.length : Int) < 3 then (if 1 ≤ (x8.size : Int) then ((term_cut.f k (x8.extract 1 x8.size)).bind fun bt115 => (if bt115.2.2.2.2 = true then (if 0 ≤ (wrap64 (((x8.extract 1 x8.size).size : Int) - (bt115.2.2.2.1.size : Int))) then (if (wrap64 (((x8.extract 1 x8.size).size : Int) - (bt115.2.2.2.1.size : Int))) ≤ ((x8.extract 1 x8.size).size : Int) then (if x13.length < 8796093022208 then ((some (x13 ++ [(x8.extract 1 x8.size).extract 0 ((wrap64 (((x8.extract 1 x8.size).size : Int) - (bt115.2.2.2.1.size : Int))) : Int).toNat] : List ByteArray)).bind fun y122 => ((strings_HasPrefix.f bt115.2.2.2.1 (⟨#[32]⟩ : ByteArray)).bind fun t125 => (if t125 = true then (term_cut.l0 k bt115.2.2.2.1 x11 y122) else ((strings_CutPrefix.f bt115.2.2.2.1 (⟨#[41]⟩ : ByteArray)).bind fun bt126 => (some (2, x11, y122, bt126.1, bt126.2)))))) else (none)) else (none)) else (none)) else (some (0, 0, ([] : List ByteArray), (⟨#[]⟩ : ByteArray), false)))) else (none)) else ((strings_CutPrefix.f x8 (⟨#[41]⟩ : ByteArray)).bind fun bt113 => (some (2, x11, x13, bt113.1, bt113.2)))
def term_cut.f : Nat → ByteArray → Option (Int × Int × List ByteArray × ByteArray × Bool)
 | 0, _ => none
 | k + 1, a0 => (term_word.f a0).bind fun bt106 => (if bt106.1.toList = ([95] : List UInt8) then (some (0, 0, ([] : List ByteArray), bt106.2, true)) else (if bt106.1.toList = ([33] : List UInt8) then (some (3, 0, ([] : List ByteArray), bt106.2, true)) else ((term_Number.f bt106.1).bind fun bt108 => (if bt108.2 = true then (some (1, bt108.1, ([] : List ByteArray), bt106.2, true)) else ((term_Tag.f bt106.1).bind fun bt110 => (if bt110.2 = true then ((strings_HasPrefix.f bt106.2 (⟨#[40]⟩ : ByteArray)).bind fun t112 => (term_cut.j0 k bt106.2 bt110.1 bt110.2 (!t112))) else (term_cut.j0 k bt106.2 bt110.1 bt110.2 true)))))))
end
theorem term_cut.mono_l : ∀ k, (∀ y0, LeO (term_cut.f k y0) (term_cut.f (k + 1) y0)) ∧ (∀ y0 y1 y2 y3, LeO (term_cut.j0 k y0 y1 y2 y3) (term_cut.j0 (k + 1) y0 y1 y2 y3)) ∧ (∀ y0 y1 y2, LeO (term_cut.l0 k y0 y1 y2) (term_cut.l0 (k + 1) y0 y1 y2))
 | 0 => ⟨fun _ r h => by simp [term_cut.f] at h, fun _ _ _ _ r h => by simp [term_cut.j0] at h, fun _ _ _ r h => by simp [term_cut.l0] at h⟩
 | k + 1 => by
  obtain ⟨ih0, ih1, ih2⟩ := term_cut.mono_l k
  refine ⟨?_, ?_, ?_⟩
  · intro y0
    unfold term_cut.f
    repeat' first
    | (with_reducible exact ih0 _)
    | (with_reducible exact ih1 _ _ _ _)
    | (with_reducible exact ih2 _ _ _)
    | (with_reducible exact LeO.refl _)
    | (with_reducible exact LeO.none _)
    | (with_reducible refine LeO.ite ?_ ?_)
    | (with_reducible refine LeO.bind ?_ (fun _ => ?_))
    | exact ih0 _
    | exact ih1 _ _ _ _
    | exact ih2 _ _ _
    | exact LeO.none _
    | refine LeO.ite ?_ ?_
    | refine LeO.bind ?_ (fun _ => ?_)
  · intro y0 y1 y2 y3
    unfold term_cut.j0
    repeat' first
    | (with_reducible exact ih0 _)
    | (with_reducible exact ih1 _ _ _ _)
    | (with_reducible exact ih2 _ _ _)
    | (with_reducible exact LeO.refl _)
    | (with_reducible exact LeO.none _)
    | (with_reducible refine LeO.ite ?_ ?_)
    | (with_reducible refine LeO.bind ?_ (fun _ => ?_))
    | exact ih0 _
    | exact ih1 _ _ _ _
    | exact ih2 _ _ _
    | exact LeO.none _
    | refine LeO.ite ?_ ?_
    | refine LeO.bind ?_ (fun _ => ?_)
  · intro y0 y1 y2
    unfold term_cut.l0
    repeat' first
    | (with_reducible exact ih0 _)
    | (with_reducible exact ih1 _ _ _ _)
    | (with_reducible exact ih2 _ _ _)
    | (with_reducible exact LeO.refl _)
    | (with_reducible exact LeO.none _)
    | (with_reducible refine LeO.ite ?_ ?_)
    | (with_reducible refine LeO.bind ?_ (fun _ => ?_))
    | exact ih0 _
    | exact ih1 _ _ _ _
    | exact ih2 _ _ _
    | exact LeO.none _
    | refine LeO.ite ?_ ?_
    | refine LeO.bind ?_ (fun _ => ?_)
theorem term_cut.mono : ∀ a0 k, LeO (term_cut.f k a0) (term_cut.f (k + 1) a0) := by
 intro a0 k
 obtain ⟨ih0, ih1, ih2⟩ := term_cut.mono_l k
 exact ih0 a0
theorem term_cut.calls (k : Nat) : ∀ (a0 : ByteArray) (r1 : Int) (r2 : Int) (r3 : List ByteArray) (r4 : ByteArray) (r5 : Bool) (w : World) (h : term_cut.f k a0 = some (r1, r2, r3, r4, r5)) (hG : GOK w),
 Calls Tryd.prog 43 #[.string a0] w fun e w' => ∃ v2_ : Value, e = .returned (.tuple #[.int .i64 r1, .int .i64 r2, v2_, .string r4, .bool r5]) ∧ Kd.R Kd.string 9 w' w.heap.size (fun _ => True) v2_ r3 ∧ Below w.heap.size w w' := by
 induction k using Nat.strongRecOn with
 | _ k ih =>
 intro a0 r1 r2 r3 r4 r5 w h hG
 cases k with
 | zero => exact absurd h (by simp [term_cut.f])
 | succ k =>
 simp only [term_cut.f] at h
 have HB := a_ (Below.refl w.heap.size w)
 have H := h; unfold term_cut.f at H
 clear h
 replace H := Option.bind_eq_some_iff.mp H
 obtain ⟨⟨t0, t2⟩, A20, H⟩ := H
 try dsimp only at H
 have A2 := a_ A20
 clear A20
 by_cases c3 : t0.toList = ([95] : List UInt8)
 case pos =>
  rw [if_pos c3] at H
  have c3b0 : (t0.toList == ([95] : List UInt8)) = true := beq_iff_eq.mpr c3
  have c3b1 : (t0.toList != ([95] : List UInt8)) = false := bne_eq_false_iff_eq.mpr c3
  clear c3
  simp only [Option.some.injEq, Prod.mk.injEq] at H
  obtain ⟨rfl, rfl, rfl, rfl, rfl⟩ := H
  go_enter Tryd.func43, Tryd.ntmps43
  go_wp2_with (first | ((with_reducible refine gate_callee (f := 45) rfl ?_); refine goesL_ (some 24) rfl rfl Tryd.func45 (by kernel_rfl) rfl #[.string a0] rfl hL_ ?_; (with_reducible refine (term_word.calls a0 t0 t2 _ A2.out).mono ?_); rintro e w4 ⟨rfl, hb⟩; refine ⟨_, rfl, ?_⟩; replace HB := a_ (below_step hB_ hb); (try clear hb); (try clear hb2); (try clear hk); (try clear hi)))
  refine bodyPost_ret (results_list (rs := [.tmp 2, .tmp 3, .tmp 4, .tmp 5, .tmp 6]) rfl (by simp) (.tmp (.tmp (.tmp (.tmp (.tmp .nil)))))) rfl ?_
  exact ⟨_, hV_, by first | exact Kd.R_nil _ _ _ _ _ | exact Kd.N_nil _ _ _ _ _ | exact Kd.V_nil _ _ _ _ _ | exact Kd.Q_nil _ _ _ _ _ | exact Kd.S_nil _ _ _ _ _, hC_⟩
 rw [if_neg c3] at H
 have c3b0 : (t0.toList == ([95] : List UInt8)) = false := beq_eq_false_iff_ne.mpr c3
 have c3b1 : (t0.toList != ([95] : List UInt8)) = true := bne_iff_ne.mpr c3
 by_cases c5 : t0.toList = ([33] : List UInt8)
 case pos =>
  rw [if_pos c5] at H
  have c5b0 : (t0.toList == ([33] : List UInt8)) = true := beq_iff_eq.mpr c5
  have c5b1 : (t0.toList != ([33] : List UInt8)) = false := bne_eq_false_iff_eq.mpr c5
  clear c5
  simp only [Option.some.injEq, Prod.mk.injEq] at H
  obtain ⟨rfl, rfl, rfl, rfl, rfl⟩ := H
  go_enter Tryd.func43, Tryd.ntmps43
  go_wp2_with (first | ((with_reducible refine gate_callee (f := 45) rfl ?_); refine goesL_ (some 24) rfl rfl Tryd.func45 (by kernel_rfl) rfl #[.string a0] rfl hL_ ?_; (with_reducible refine (term_word.calls a0 t0 t2 _ A2.out).mono ?_); rintro e w6 ⟨rfl, hb⟩; refine ⟨_, rfl, ?_⟩; replace HB := a_ (below_step hB_ hb); (try clear hb); (try clear hb2); (try clear hk); (try clear hi)))
  refine bodyPost_ret (results_list (rs := [.tmp 2, .tmp 3, .tmp 4, .tmp 5, .tmp 6]) rfl (by simp) (.tmp (.tmp (.tmp (.tmp (.tmp .nil)))))) rfl ?_
  exact ⟨_, hV_, by first | exact Kd.R_nil _ _ _ _ _ | exact Kd.N_nil _ _ _ _ _ | exact Kd.V_nil _ _ _ _ _ | exact Kd.Q_nil _ _ _ _ _ | exact Kd.S_nil _ _ _ _ _, hC_⟩
 rw [if_neg c5] at H
 have c5b0 : (t0.toList == ([33] : List UInt8)) = false := beq_eq_false_iff_ne.mpr c5
 have c5b1 : (t0.toList != ([33] : List UInt8)) = true := bne_iff_ne.mpr c5
 replace H := Option.bind_eq_some_iff.mp H
 obtain ⟨⟨t9, t11⟩, A70, H⟩ := H
 try dsimp only at H
 have A7 := a_ A70
 clear A70
 by_cases c8 : t11 = true
 case pos =>
  subst c8
  rw [if_pos rfl] at H
  simp only [Option.some.injEq, Prod.mk.injEq] at H
  obtain ⟨rfl, rfl, rfl, rfl, rfl⟩ := H
  go_enter Tryd.func43, Tryd.ntmps43
  go_wp2_with (first | ((with_reducible refine gate_callee (f := 45) rfl ?_); refine goesL_ (some 24) rfl rfl Tryd.func45 (by kernel_rfl) rfl #[.string a0] rfl hL_ ?_; (with_reducible refine (term_word.calls a0 t0 t2 _ A2.out).mono ?_); rintro e w9 ⟨rfl, hb⟩; refine ⟨_, rfl, ?_⟩; replace HB := a_ (below_step hB_ hb); (try clear hb); (try clear hb2); (try clear hk); (try clear hi)) | ((with_reducible refine gate_callee (f := 46) rfl ?_); refine goesL_ (some 35) rfl rfl Tryd.func46 (by kernel_rfl) rfl #[.string t0] rfl hL_ ?_; (with_reducible refine (term_Number.calls t0 t9 true _ A7.out hG_).mono ?_); rintro e w1 ⟨rfl, hb⟩; refine ⟨_, rfl, ?_⟩; replace HB := a_ (below_step hB_ hb); (try clear hb); (try clear hb2); (try clear hk); (try clear hi)))
  refine bodyPost_ret (results_list (rs := [.tmp 2, .tmp 3, .tmp 4, .tmp 5, .tmp 6]) rfl (by simp) (.tmp (.tmp (.tmp (.tmp (.tmp .nil)))))) rfl ?_
  exact ⟨_, hV_, by first | exact Kd.R_nil _ _ _ _ _ | exact Kd.N_nil _ _ _ _ _ | exact Kd.V_nil _ _ _ _ _ | exact Kd.Q_nil _ _ _ _ _ | exact Kd.S_nil _ _ _ _ _, hC_⟩
 replace c8 := Bool.eq_false_iff.mpr c8
 subst c8
 rw [if_neg (show ¬ (false = true) by decide)] at H
 replace H := Option.bind_eq_some_iff.mp H
 obtain ⟨⟨t3, t5⟩, A110, H⟩ := H
 try dsimp only at H
 have A11 := a_ A110
 clear A110
 have HC12 := a_ H
 clear H
 go_enter Tryd.func43, Tryd.ntmps43
 go_upto_region 10 with (first | ((with_reducible refine gate_callee (f := 45) rfl ?_); refine goesL_ (some 24) rfl rfl Tryd.func45 (by kernel_rfl) rfl #[.string a0] rfl hL_ ?_; (with_reducible refine (term_word.calls a0 t0 t2 _ A2.out).mono ?_); rintro e w2 ⟨rfl, hb⟩; refine ⟨_, rfl, ?_⟩; replace HB := a_ (below_step hB_ hb); (try clear hb); (try clear hb2); (try clear hk); (try clear hi)) | ((with_reducible refine gate_callee (f := 46) rfl ?_); refine goesL_ (some 35) rfl rfl Tryd.func46 (by kernel_rfl) rfl #[.string t0] rfl hL_ ?_; (with_reducible refine (term_Number.calls t0 t9 false _ A7.out hG_).mono ?_); rintro e w3 ⟨rfl, hb⟩; refine ⟨_, rfl, ?_⟩; replace HB := a_ (below_step hB_ hb); (try clear hb); (try clear hb2); (try clear hk); (try clear hi)) | ((with_reducible refine gate_callee (f := 47) rfl ?_); refine goesL_ (some 43) rfl rfl Tryd.func47 (by kernel_rfl) rfl #[.string t0] rfl hL_ ?_; (with_reducible refine (term_Tag.calls t0 t3 t5 _ A11.out hG_).mono ?_); rintro e w5 ⟨rfl, hb⟩; refine ⟨_, rfl, ?_⟩; replace HB := a_ (below_step hB_ hb); (try clear hb); (try clear hb2); (try clear hk); (try clear hi)))
 (try simp only [Act.put, List.setIfInBounds_toArray, List.set_cons_zero, List.set_cons_succ])
 go_cut [52] (fun v1 wc => ∃ (kq : Nat) (x2 : Bool), v1 = .bool x2 ∧ Aside0 (term_cut.j0 kq t2 t3 t5 x2 = some (r1, r2, r3, r4, r5)) ∧ Aside0 (kq ≤ k) ∧ Aside0 (Below w.heap.size w wc))
 case first =>
  have H := HC12.out
  clear HC12
  by_cases c16 : t5 = true
  case neg =>
   replace c16 := Bool.eq_false_iff.mpr c16
   subst c16
   rw [if_neg (show ¬ (false = true) by decide)] at H
   have H' := a_ H
   clear H
   go_wp2
   go_meet
   case rel => exact ⟨_, (true), hW_, H', ⟨by first | omega | exact Nat.le_refl _⟩, ⟨hC_⟩⟩
  subst c16
  rw [if_pos rfl] at H
  replace H := Option.bind_eq_some_iff.mp H
  obtain ⟨t10, A170, H⟩ := H
  try dsimp only at H
  have A17 := a_ A170
  clear A170
  have H' := a_ H
  clear H
  go_wp2_with (first | (go_at_call 48; (with_reducible refine (strings_HasPrefix.calls t2 (⟨#[40]⟩ : ByteArray) t10 _ A17.out).mono ?_); rintro e w' ⟨rfl, ⟨nd, rfl⟩⟩))
  go_meet
  case rel => exact ⟨_, (!t10), hW_, H', ⟨by first | omega | exact Nat.le_refl _⟩, ⟨hC_⟩⟩
 case rest =>
  clear HC12
  try clear c1
  try clear p2
  try clear c3
  try clear c3b0
  try clear c3b1
  try clear c4
  try clear c5
  try clear c5b0
  try clear c5b1
  try clear c8
  try clear c16
  obtain ⟨kq, x2, rfl, HA, HJ11, HB⟩ := hcut
  cases kq with
  | zero => exact absurd HA.out (by simp [term_cut.j0])
  | succ kj11 =>
   have H := HA.out
   clear HA
   simp only [term_cut.j0] at H
   by_cases c18 : x2 = true
   case pos =>
    subst c18
    rw [if_pos rfl] at H
    simp only [Option.some.injEq, Prod.mk.injEq] at H
    obtain ⟨rfl, rfl, rfl, rfl, rfl⟩ := H
    go_wp2
    refine bodyPost_ret (results_list (rs := [.tmp 2, .tmp 3, .tmp 4, .tmp 5, .tmp 6]) rfl (by simp) (.tmp (.tmp (.tmp (.tmp (.tmp .nil)))))) rfl ?_
    exact ⟨_, hV_, by first | exact Kd.R_nil _ _ _ _ _ | exact Kd.N_nil _ _ _ _ _ | exact Kd.V_nil _ _ _ _ _ | exact Kd.Q_nil _ _ _ _ _ | exact Kd.S_nil _ _ _ _ _, hC_⟩
   replace c18 := Bool.eq_false_iff.mpr c18
   subst c18
   rw [if_neg (show ¬ (false = true) by decide)] at H
   have H' := a_ H
   clear H
   go_wp2
   go_loopg [8, 13] kj11 (fun kq v8 v2 w' => ∃ (x0 : ByteArray) (x1 : List ByteArray), v8 = .string x0 ∧ Aside0 (term_cut.l0 kq x0 t3 x1 = some (r1, r2, r3, r4, r5)) ∧ Aside0 (kq ≤ kj11) ∧ Aside0 (Kd.R Kd.string 9 w' w.heap.size (fun _ => True) v2 x1) ∧ Aside0 (Below w.heap.size w w'))
   case atStart => exact ⟨(t2), (([] : List ByteArray)), hW_, H', ⟨Nat.le_refl _⟩, ⟨by first | exact Kd.R_nil _ _ _ _ _ | exact Kd.N_nil _ _ _ _ _ | exact Kd.V_nil _ _ _ _ _ | exact Kd.Q_nil _ _ _ _ _ | exact Kd.S_nil _ _ _ _ _⟩, ⟨hC_⟩⟩
   case round =>
    clear H'
    try clear c1
    try clear p2
    try clear c3
    try clear c3b0
    try clear c3b1
    try clear c4
    try clear c5
    try clear c5b0
    try clear c5b1
    try clear c8
    try clear c16
    try clear c18
    try clear p2
    obtain ⟨x0, x1, rfl, HA, HK2, O0, HB⟩ := hrel
    cases gk with
    | zero => exact absurd HA.out (by simp [term_cut.l0])
    | succ k2 =>
     have H := HA.out
     clear HA
     simp only [term_cut.l0] at H
     by_cases c19 : (x1.length : Int) < 3
     case neg =>
      rw [if_neg c19] at H
      have c19b0 : decide ((x1.length : Int) < 3) = false := decide_eq_false c19
      have c19b1 : decide (x1.length < 3) = false := decide_eq_false (by omega)
      clear c19
      replace H := Option.bind_eq_some_iff.mp H
      obtain ⟨⟨t12, t13⟩, A380, H⟩ := H
      try dsimp only at H
      have A38 := a_ A380
      clear A380
      simp only [Option.some.injEq, Prod.mk.injEq] at H
      obtain ⟨rfl, rfl, rfl, rfl, rfl⟩ := H
      obtain ⟨a3, o2, e0⟩ := Kd.R_slice O0.out
      subst e0
      go_wp2_with (first | ((with_reducible refine gate_callee (f := 49) rfl ?_); refine goesL_ _ rfl rfl Tryd.func49 (by kernel_rfl) rfl #[.string x0, .string (⟨#[41]⟩ : ByteArray)] rfl hL_ ?_; (with_reducible refine (strings_CutPrefix.calls x0 (⟨#[41]⟩ : ByteArray) t12 t13 _ A38.out).mono ?_); rintro e w' ⟨rfl, ⟨nd, rfl⟩⟩; refine ⟨_, rfl, ?_⟩))
      refine bodyPost_ret (results_list (rs := [.tmp 2, .tmp 3, .tmp 4, .tmp 5, .tmp 6]) rfl (by simp) (.tmp (.tmp (.tmp (.tmp (.tmp .nil)))))) rfl ?_
      exact ⟨_, hV_, hR_ O0.out, hC_⟩

     rw [if_pos c19] at H
     have c19b0 : decide ((x1.length : Int) < 3) = true := decide_eq_true c19
     have c19b1 : decide (x1.length < 3) = true := decide_eq_true (by omega)
     clear c19
     replace H := ifI_ H; obtain ⟨c20, H⟩ := H
     have c20b0 := eq_true c20
     have c20b1 : decide (1 ≤ (x0.size : Int)) = true := decide_eq_true c20
     clear c20
     replace H := Option.bind_eq_some_iff.mp H
     obtain ⟨⟨t6, t7, t8, t1, t14⟩, A210, H⟩ := H
     try dsimp only at H
     have A21 := a_ A210
     clear A210
     by_cases c22 : t14 = true
     case neg =>
      replace c22 := Bool.eq_false_iff.mpr c22
      subst c22
      rw [if_neg (show ¬ (false = true) by decide)] at H
      simp only [Option.some.injEq, Prod.mk.injEq] at H
      obtain ⟨rfl, rfl, rfl, rfl, rfl⟩ := H
      obtain ⟨a4, o3, e1⟩ := Kd.R_slice O0.out
      subst e1
      go_wp2_with (first | ((with_reducible refine gate_callee (f := 43) rfl ?_); refine goesL_ (some 63) rfl rfl Tryd.func43 (by kernel_rfl) rfl #[.string (x0.extract 1 x0.size)] rfl hL_ ?_; (with_reducible refine (ih k2 (by have := HJ11.out; have := HK2.out; omega) (x0.extract 1 x0.size) t6 t7 t8 t1 false _ A21.out hG_).mono ?_); rintro e w7 ⟨v0, rfl, ho0, hb⟩; refine ⟨_, rfl, ?_⟩; have P0 := a_ (Kd.R_lower (Kd.R_new' ho0 (Kd.R_lt (hR_ O0.out))) hS_); replace O0 := a_ (Kd.R_elder' (hR_ O0.out) (Kd.R_base ho0) hb); replace HB := a_ (below_step hB_ hb); (try clear hb); (try clear hb2); (try clear hk); (try clear hi); (try clear ho0)))
      refine bodyPost_ret (results_list (rs := [.tmp 2, .tmp 3, .tmp 4, .tmp 5, .tmp 6]) rfl (by simp) (.tmp (.tmp (.tmp (.tmp (.tmp .nil)))))) rfl ?_
      exact ⟨_, hV_, by first | exact Kd.R_nil _ _ _ _ _ | exact Kd.N_nil _ _ _ _ _ | exact Kd.V_nil _ _ _ _ _ | exact Kd.Q_nil _ _ _ _ _ | exact Kd.S_nil _ _ _ _ _, hC_⟩
     subst c22
     rw [if_pos rfl] at H
     obtain ⟨ji23, hji23⟩ : ∃ j_ : Int, (wrap64 (((x0.extract 1 x0.size).size : Int) - (t1.size : Int))) = j_ := ⟨_, rfl⟩
     replace H : (if 0 ≤ (ji23) then (if (ji23) ≤ ((x0.extract 1 x0.size).size : Int) then (if x1.length < 8796093022208 then ((some (x1 ++ [(x0.extract 1 x0.size).extract 0 ((ji23) : Int).toNat] : List ByteArray)).bind fun y0 => ((strings_HasPrefix.f t1 (⟨#[32]⟩ : ByteArray)).bind fun t4 => (if t4 = true then (term_cut.l0 k2 t1 t3 y0) else ((strings_CutPrefix.f t1 (⟨#[41]⟩ : ByteArray)).bind fun bt126 => (some (2, t3, y0, bt126.1, bt126.2)))))) else (none)) else (none)) else (none)) = some (r1, r2, r3, r4, r5) := by first | (rw [hji23] at H; exact H) | (simp only [hji23] at H ⊢; exact H)
     (try rw [hji23] at A21)
     have hji23w : (IntKind.i64.wrap (((x0.extract 1 x0.size).size : Int) - (t1.size : Int))) = ji23 := (i64_w _).trans hji23
     (try (have hji23s := hji23; simp only [ByteArray.size_extract, Nat.min_self] at hji23s; have hji23sw := hji23w; simp only [ByteArray.size_extract, Nat.min_self] at hji23sw))
     replace H := ifI_ H; obtain ⟨c24, H⟩ := H
     have c24b0 := eq_true c24
     have c24b1 : decide (0 ≤ (ji23)) = true := decide_eq_true c24
     clear c24
     replace H := ifI_ H; obtain ⟨c25, H⟩ := H
     have c25b0 := eq_true c25
     (try (have c25b0s := c25b0; simp only [ByteArray.size_extract, Nat.min_self] at c25b0s))
     have c25b1 : decide ((ji23) ≤ ((x0.extract 1 x0.size).size : Int)) = true := decide_eq_true c25
     (try (have c25b1s := c25b1; simp only [ByteArray.size_extract, Nat.min_self] at c25b1s))
     clear c25
     replace H := ifI_ H; obtain ⟨c26, H⟩ := H
     have LMc26 := a_ c26
     clear c26
     obtain ⟨y0, i0⟩ : ∃ y_ : List ByteArray, y_ = (x1 ++ [(x0.extract 1 x0.size).extract 0 ((ji23) : Int).toNat]) := ⟨_, rfl⟩
     replace H : ((strings_HasPrefix.f t1 (⟨#[32]⟩ : ByteArray)).bind fun t4 => (if t4 = true then (term_cut.l0 k2 t1 t3 y0) else ((strings_CutPrefix.f t1 (⟨#[41]⟩ : ByteArray)).bind fun bt126 => (some (2, t3, y0, bt126.1, bt126.2))))) = some (r1, r2, r3, r4, r5) := by first | (rw [i0]; with_reducible exact H) | (have H2_ := (Option.bind_some _ _).symm.trans H; rw [i0]; with_reducible exact H2_) | (have H2_ := (Option.bind_some _ _).symm.trans H; with_reducible exact H2_) | with_reducible exact H | (rw [i0]; exact H) | exact H
     have Y0 := a_ i0
     clear i0
     replace H := Option.bind_eq_some_iff.mp H
     obtain ⟨t4, A270, H⟩ := H
     try dsimp only at H
     have A27 := a_ A270
     clear A270
     by_cases c28 : t4 = true
     case pos =>
      subst c28
      rw [if_pos rfl] at H
      have H' := a_ H
      clear H
      obtain ⟨a1, o0, e2⟩ := Kd.R_slice O0.out
      subst e2
      go_wp2_with (first | ((with_reducible refine gate_callee (f := 43) rfl ?_); refine goesL_ (some 63) rfl rfl Tryd.func43 (by kernel_rfl) rfl #[.string (x0.extract 1 x0.size)] rfl hL_ ?_; (with_reducible refine (ih k2 (by have := HJ11.out; have := HK2.out; omega) (x0.extract 1 x0.size) t6 t7 t8 t1 true _ A21.out hG_).mono ?_); rintro e w8 ⟨v0, rfl, ho0, hb⟩; refine ⟨_, rfl, ?_⟩; have P0 := a_ (Kd.R_lower (Kd.R_new' ho0 (Kd.R_lt (hR_ O0.out))) hS_); replace O0 := a_ (Kd.R_elder' (hR_ O0.out) (Kd.R_base ho0) hb); replace HB := a_ (below_step hB_ hb); (try clear hb); (try clear hb2); (try clear hk); (try clear hi); (try clear ho0)) | ((with_reducible refine gate_builtin (b := .append) (xs := #[.tmp 71, .tmp 79]) rfl ?_); at_builtin; refine Kd.R_append Kd.string (w0 := w) w.heap.size rfl (.tmp 71) (.tmp 79) 35 9 (.string ⟨#[]⟩) 16 rfl Tryd.underlying35 info9 rfl (by decide) (by omega) (.slice a1 x1.length o0) x1 ((x0.extract 1 x0.size).extract 0 ((ji23) : Int).toNat) [.string ((x0.extract 1 x0.size).extract 0 ((ji23) : Int).toNat)] (fun k_ => some k_ ≠ (v0 : Value).ownBlock) (fun _ => False) rfl rfl ?aP (fun _ hk => hk.elim) ?aF ?aO ?aB ?aS ?aL ?_; (case aP => exact rfl); (case aB => exact hB_); (case aF => exact (fun k_ hk => Kd.fresh' (Kd.R_lt (hR_ P0.out)) k_ hk)); (case aO => exact (by (with_reducible repeat (first | apply Kd.R_alloc | apply Kd.R_drewN | apply Kd.R_drew)); exact Kd.R_mono O0.out (fun _ hk => hk.2))); (case aS => exact hS_); (case aL => have := LMc26.out; omega); intro v3 w31 ho hb hg hat; rw [← Y0.out] at ho; replace P0 := a_ (Kd.R_after (ok := (fun _ => True)) (hR_ P0.out) hg hat); replace HB := a_ (hb); have P1 := a_ (ho); clear O0; clear ho hb hg hat) | ((with_reducible refine gate_callee (f := 48) rfl ?_); refine goesL_ _ rfl rfl Tryd.func48 (by kernel_rfl) rfl #[.string t1, .string (⟨#[32]⟩ : ByteArray)] rfl hL_ ?_; (with_reducible refine (strings_HasPrefix.calls t1 (⟨#[32]⟩ : ByteArray) true _ A27.out).mono ?_); rintro e w' ⟨rfl, ⟨nd, rfl⟩⟩; refine ⟨_, rfl, ?_⟩))
      go_roundg k2
      case measure => have := HJ11.out; have := HK2.out; omega
      case rel => exact ⟨(t1), (y0), hW_, H', ⟨by have := HJ11.out; have := HK2.out; omega⟩, ⟨hR_ (Kd.R_mono P1.out (fun _ hk => trivial))⟩, ⟨hC_⟩⟩
     replace c28 := Bool.eq_false_iff.mpr c28
     subst c28
     rw [if_neg (show ¬ (false = true) by decide)] at H
     replace H := Option.bind_eq_some_iff.mp H
     obtain ⟨⟨t15, t16⟩, A320, H⟩ := H
     try dsimp only at H
     have A32 := a_ A320
     clear A320
     simp only [Option.some.injEq, Prod.mk.injEq] at H
     obtain ⟨rfl, rfl, rfl, rfl, rfl⟩ := H
     obtain ⟨a2, o1, e3⟩ := Kd.R_slice O0.out
     subst e3
     go_wp2_with (first | ((with_reducible refine gate_callee (f := 43) rfl ?_); refine goesL_ (some 63) rfl rfl Tryd.func43 (by kernel_rfl) rfl #[.string (x0.extract 1 x0.size)] rfl hL_ ?_; (with_reducible refine (ih k2 (by have := HJ11.out; have := HK2.out; omega) (x0.extract 1 x0.size) t6 t7 t8 t1 true _ A21.out hG_).mono ?_); rintro e w34 ⟨v0, rfl, ho0, hb⟩; refine ⟨_, rfl, ?_⟩; have P0 := a_ (Kd.R_lower (Kd.R_new' ho0 (Kd.R_lt (hR_ O0.out))) hS_); replace O0 := a_ (Kd.R_elder' (hR_ O0.out) (Kd.R_base ho0) hb); replace HB := a_ (below_step hB_ hb); (try clear hb); (try clear hb2); (try clear hk); (try clear hi); (try clear ho0)) | ((with_reducible refine gate_builtin (b := .append) (xs := #[.tmp 71, .tmp 79]) rfl ?_); at_builtin; refine Kd.R_append Kd.string (w0 := w) w.heap.size rfl (.tmp 71) (.tmp 79) 35 9 (.string ⟨#[]⟩) 16 rfl Tryd.underlying35 info9 rfl (by decide) (by omega) (.slice a2 x1.length o1) x1 ((x0.extract 1 x0.size).extract 0 ((ji23) : Int).toNat) [.string ((x0.extract 1 x0.size).extract 0 ((ji23) : Int).toNat)] (fun k_ => some k_ ≠ (v0 : Value).ownBlock) (fun _ => False) rfl rfl ?aP (fun _ hk => hk.elim) ?aF ?aO ?aB ?aS ?aL ?_; (case aP => exact rfl); (case aB => exact hB_); (case aF => exact (fun k_ hk => Kd.fresh' (Kd.R_lt (hR_ P0.out)) k_ hk)); (case aO => exact (by (with_reducible repeat (first | apply Kd.R_alloc | apply Kd.R_drewN | apply Kd.R_drew)); exact Kd.R_mono O0.out (fun _ hk => hk.2))); (case aS => exact hS_); (case aL => have := LMc26.out; omega); intro v3 w35 ho hb hg hat; rw [← Y0.out] at ho; replace P0 := a_ (Kd.R_after (ok := (fun _ => True)) (hR_ P0.out) hg hat); replace HB := a_ (hb); have P1 := a_ (ho); clear O0; clear ho hb hg hat) | ((with_reducible refine gate_callee (f := 48) rfl ?_); refine goesL_ _ rfl rfl Tryd.func48 (by kernel_rfl) rfl #[.string t1, .string (⟨#[32]⟩ : ByteArray)] rfl hL_ ?_; (with_reducible refine (strings_HasPrefix.calls t1 (⟨#[32]⟩ : ByteArray) false _ A27.out).mono ?_); rintro e w' ⟨rfl, ⟨nd, rfl⟩⟩; refine ⟨_, rfl, ?_⟩) | ((with_reducible refine gate_callee (f := 49) rfl ?_); refine goesL_ _ rfl rfl Tryd.func49 (by kernel_rfl) rfl #[.string t1, .string (⟨#[41]⟩ : ByteArray)] rfl hL_ ?_; (with_reducible refine (strings_CutPrefix.calls t1 (⟨#[41]⟩ : ByteArray) t15 t16 _ A32.out).mono ?_); rintro e w' ⟨rfl, ⟨nd, rfl⟩⟩; refine ⟨_, rfl, ?_⟩))
     refine bodyPost_ret (results_list (rs := [.tmp 2, .tmp 3, .tmp 4, .tmp 5, .tmp 6]) rfl (by simp) (.tmp (.tmp (.tmp (.tmp (.tmp .nil)))))) rfl ?_
     exact ⟨_, by first | rfl | (simp [errW_none, errW_some] <;> rfl) | (simp only [← hji23]; first | rfl | (simp [errW_none, errW_some] <;> rfl)) | (simp [*, errW_none, errW_some] <;> rfl), hR_ (Kd.R_mono P1.out (fun _ hk => trivial)), hC_⟩
set_option maxHeartbeats 8000000
set_option maxRecDepth 100000
attribute [local go_sem] max2_int min2_int max_two min_two max_three min_three max_four min_four   -- for this text's walks alone
set_option linter.unusedVariables false
set_option linter.unusedSimpArgs false

def term_May.f (k : Nat) (a0 : ByteArray) : Option (Bool) := if (a0.size : Int) > 1024 then (some false) else ((term_cut.f k a0).bind fun bt128 => (if bt128.2.2.2.2 = true then (some (bt128.2.2.2.1.toList == ([] : List UInt8))) else (some false)))
theorem term_May.mono : ∀ a0 k, LeO (term_May.f k a0) (term_May.f (k + 1) a0) := by
 intro a0 k
 unfold term_May.f
 repeat' first
  | (with_reducible exact term_cut.mono _ _)
  | (with_reducible exact LeO.refl _)
  | (with_reducible exact LeO.none _)
  | (with_reducible refine LeO.ite ?_ ?_)
  | (with_reducible refine LeO.bind ?_ (fun _ => ?_))
  | exact term_cut.mono _ _
  | exact LeO.none _
  | refine LeO.ite ?_ ?_
  | refine LeO.bind ?_ (fun _ => ?_)
theorem term_May.calls (k : Nat) (a0 : ByteArray) (r : Bool) (w : World) (h : term_May.f k a0 = some r) (hG : GOK w) :
 Calls Tryd.prog 39 #[.string a0] w fun e w' => e = .returned (.bool r) ∧ Below w.heap.size w w' := by
 have HB := a_ (Below.refl w.heap.size w)
 have H := h; unfold term_May.f at H
 clear h
 by_cases c2 : (a0.size : Int) > 1024
 case pos =>
  rw [if_pos c2] at H
  have c2b0 : decide (1024 < (a0.size : Int)) = true := decide_eq_true c2
  have c2b1 : decide (1024 < a0.size) = true := decide_eq_true (by omega)
  clear c2
  obtain rfl := Option.some.inj H
  go_enter Tryd.func39, Tryd.ntmps39
  go_wp2
  go_ret
  exact ⟨hV_, hC_⟩
 rw [if_neg c2] at H
 have c2b0 : decide (1024 < (a0.size : Int)) = false := decide_eq_false c2
 have c2b1 : decide (1024 < a0.size) = false := decide_eq_false (by omega)
 clear c2
 replace H := Option.bind_eq_some_iff.mp H
 obtain ⟨⟨t0, t1, t2, t3, t4⟩, A30, H⟩ := H
 try dsimp only at H
 have A3 := a_ A30
 clear A30
 by_cases c4 : t4 = true
 case pos =>
  subst c4
  rw [if_pos rfl] at H
  obtain rfl := Option.some.inj H
  go_enter Tryd.func39, Tryd.ntmps39
  go_wp2_with (first | ((with_reducible refine gate_callee (f := 43) rfl ?_); refine goesL_ (some 13) rfl rfl Tryd.func43 (by kernel_rfl) rfl #[.string a0] rfl hL_ ?_; (with_reducible refine (term_cut.calls k a0 t0 t1 t2 t3 true _ A3.out hG_).mono ?_); rintro e w5 ⟨v0, rfl, ho0, hb⟩; refine ⟨_, rfl, ?_⟩; have P0 := a_ (Kd.R_lower ho0 hS_); replace HB := a_ (below_step hB_ hb); (try clear hb); (try clear hb2); (try clear hk); (try clear hi); (try clear ho0)))
  go_ret
  exact ⟨hV_, hC_⟩
 replace c4 := Bool.eq_false_iff.mpr c4
 subst c4
 rw [if_neg (show ¬ (false = true) by decide)] at H
 obtain rfl := Option.some.inj H
 go_enter Tryd.func39, Tryd.ntmps39
 go_wp2_with (first | ((with_reducible refine gate_callee (f := 43) rfl ?_); refine goesL_ (some 13) rfl rfl Tryd.func43 (by kernel_rfl) rfl #[.string a0] rfl hL_ ?_; (with_reducible refine (term_cut.calls k a0 t0 t1 t2 t3 false _ A3.out hG_).mono ?_); rintro e w6 ⟨v0, rfl, ho0, hb⟩; refine ⟨_, rfl, ?_⟩; have P0 := a_ (Kd.R_lower ho0 hS_); replace HB := a_ (below_step hB_ hb); (try clear hb); (try clear hb2); (try clear hk); (try clear hi); (try clear ho0)))
 go_ret
 exact ⟨hV_, hC_⟩

def term_All.l0 : Nat → List ByteArray → Int → Int → Option (Bool)
 | 0, _, _, _ => none
 | k + 1, x5, x6, x7 => if x7 < x6 then (if 0 ≤ x7 then (if x7 < (x5.length : Int) then ((term_May.f k (rdOf ByteArray.empty x5 x7)).bind fun t136 => (if t136 = true then (term_All.l0 k x5 x6 (wrap64 (x7 + 1))) else (some false))) else (none)) else (none)) else (some true)
def term_All.f (k : Nat) (l0 : List ByteArray) : Option (Bool) := term_All.l0 k l0 (l0.length : Int) 0
theorem term_All.mono_l : ∀ k, (∀ y0 y1 y2, LeO (term_All.l0 k y0 y1 y2) (term_All.l0 (k + 1) y0 y1 y2))
 | 0 => fun _ _ _ r h => by simp [term_All.l0] at h
 | k + 1 => by
  have ih0 := term_All.mono_l k
  · intro y0 y1 y2
    unfold term_All.l0
    repeat' first
    | (with_reducible exact ih0 _ _ _)
    | (with_reducible exact term_May.mono _ _)
    | (with_reducible exact LeO.refl _)
    | (with_reducible exact LeO.none _)
    | (with_reducible refine LeO.ite ?_ ?_)
    | (with_reducible refine LeO.bind ?_ (fun _ => ?_))
    | exact ih0 _ _ _
    | exact term_May.mono _ _
    | exact LeO.none _
    | refine LeO.ite ?_ ?_
    | refine LeO.bind ?_ (fun _ => ?_)
theorem term_All.mono : ∀ a0 k, LeO (term_All.f k a0) (term_All.f (k + 1) a0) := by
 intro a0 k
 have ih0 := term_All.mono_l k
 unfold term_All.f
 repeat' first
  | (with_reducible exact ih0 _ _ _)
  | (with_reducible exact term_May.mono _ _)
  | (with_reducible exact LeO.refl _)
  | (with_reducible exact LeO.none _)
  | (with_reducible refine LeO.ite ?_ ?_)
  | (with_reducible refine LeO.bind ?_ (fun _ => ?_))
  | exact ih0 _ _ _
  | exact term_May.mono _ _
  | exact LeO.none _
  | refine LeO.ite ?_ ?_
  | refine LeO.bind ?_ (fun _ => ?_)
theorem term_All.calls (k : Nat) (A0 : Option Addr) (c0 : Nat) (l0 : List ByteArray) (r : Bool) (w : World) (hr0 : Kd.C Kd.string w A0 l0.length l0) (hc0 : l0.length ≤ c0) (h : term_All.f k l0 = some r) (hG : GOK w) :
 Calls Tryd.prog 38 #[.slice A0 l0.length c0] w fun e w' => e = .returned (.bool r) ∧ Below w.heap.size w w' := by
 have HR0 := a_ hr0
 have HC0 := a_ hc0
 clear hr0 hc0
 have HB := a_ (Below.refl w.heap.size w)
 have H : (term_All.l0 k l0 (l0.length : Int) 0) = some r := h
 clear h
 have H' := a_ H
 clear H
 go_enter Tryd.func38, Tryd.ntmps38
 go_wp2
 go_loopg [7] k (fun kq v7 w' => ∃ (x0 : Int), v7 = .int .i64 x0 ∧ Aside0 (term_All.l0 kq l0 (l0.length : Int) x0 = some r) ∧ Aside0 (kq ≤ k) ∧ Aside0 (Below w.heap.size w w'))
 case atStart => exact ⟨(0), hW_, H', ⟨Nat.le_refl _⟩, ⟨hC_⟩⟩
 case round =>
  clear H'
  obtain ⟨x0, rfl, HA, HK1, HB⟩ := hrel
  cases gk with
  | zero => exact absurd HA.out (by simp [term_All.l0])
  | succ k1 =>
   have H := HA.out
   clear HA
   simp only [term_All.l0] at H
   by_cases c2 : x0 < (l0.length : Int)
   case neg =>
    rw [if_neg c2] at H
    have c2b0 : decide (x0 < (l0.length : Int)) = false := decide_eq_false c2
    clear c2
    obtain rfl := Option.some.inj H
    go_wp2
    go_ret
    exact ⟨hV_, hC_⟩

   rw [if_pos c2] at H
   have c2b0 : decide (x0 < (l0.length : Int)) = true := decide_eq_true c2
   clear c2
   replace H := ifI_ H; obtain ⟨c3, H⟩ := H
   have c3b0 : decide (0 ≤ x0) = true := decide_eq_true c3
   clear c3
   replace H := ifI_ H; obtain ⟨c4, H⟩ := H
   have c4b0 : decide (x0 < (l0.length : Int)) = true := decide_eq_true c4
   clear c4
   replace H := Option.bind_eq_some_iff.mp H
   obtain ⟨t0, A50, H⟩ := H
   try dsimp only at H
   have A5 := a_ A50
   clear A50
   by_cases c6 : t0 = true
   case neg =>
    replace c6 := Bool.eq_false_iff.mpr c6
    subst c6
    rw [if_neg (show ¬ (false = true) by decide)] at H
    obtain rfl := Option.some.inj H
    have p135 : 0 ≤ (x0 : Int) := of_decide_eq_true hA_
    have q135 : x0 < (l0.length : Int) := of_decide_eq_true hA_
    obtain ⟨d0, e135, h0⟩ := Kd.at_string HR0.out x0 p135 q135
    cases e135
    replace h0 := cl_ HB.out h0
    replace p135 := eq_true p135
    replace q135 := eq_true q135
    go_wp2_with (first | ((with_reducible refine gate_callee (f := 39) rfl ?_); refine goesL_ (some 12) rfl rfl Tryd.func39 (by kernel_rfl) rfl #[.string (rdOf ByteArray.empty l0 x0)] rfl hL_ ?_; (with_reducible refine (term_May.calls k1 (rdOf ByteArray.empty l0 x0) false _ A5.out hG_).mono ?_); rintro e w8 ⟨rfl, hb⟩; refine ⟨_, rfl, ?_⟩; replace HB := a_ (below_step hB_ hb); (try clear hb); (try clear hb2); (try clear hk); (try clear hi)))
    go_ret
    exact ⟨hV_, hC_⟩
   subst c6
   rw [if_pos rfl] at H
   have H' := a_ H
   clear H
   have p135 : 0 ≤ (x0 : Int) := of_decide_eq_true hA_
   have q135 : x0 < (l0.length : Int) := of_decide_eq_true hA_
   obtain ⟨d0, e135, h0⟩ := Kd.at_string HR0.out x0 p135 q135
   cases e135
   replace h0 := cl_ HB.out h0
   replace p135 := eq_true p135
   replace q135 := eq_true q135
   go_wp2_with (first | ((with_reducible refine gate_callee (f := 39) rfl ?_); refine goesL_ (some 12) rfl rfl Tryd.func39 (by kernel_rfl) rfl #[.string (rdOf ByteArray.empty l0 x0)] rfl hL_ ?_; (with_reducible refine (term_May.calls k1 (rdOf ByteArray.empty l0 x0) true _ A5.out hG_).mono ?_); rintro e w7 ⟨rfl, hb⟩; refine ⟨_, rfl, ?_⟩; replace HB := a_ (below_step hB_ hb); (try clear hb); (try clear hb2); (try clear hk); (try clear hi)))
   go_roundg k1
   case measure => have := HK1.out; omega
   case rel => exact ⟨(wrap64 (x0 + 1)), hW_, H', ⟨by have := HK1.out; omega⟩, ⟨hC_⟩⟩
set_option maxHeartbeats 8000000
set_option maxRecDepth 100000
attribute [local go_sem] max2_int min2_int max_two min_two max_three min_three max_four min_four   -- for this text's walks alone
set_option linter.unusedVariables false
set_option linter.unusedSimpArgs false

def trail_Equation.f (k : Nat) (x0 : Int) (x1 : Int) (l2 : List ByteArray) (x3 : ByteArray) : Option Bool := if 0 ≤ x0 then (if x0 < 8 then (if (l2.length : Int) ≤ 3 then ((term_All.f k l2).bind fun t => if t = true then term_May.f k x3 else some false) else some false) else some false) else some false
theorem trail_Equation.mono : ∀ a0 a1 a2 a3 k, LeO (trail_Equation.f k a0 a1 a2 a3) (trail_Equation.f (k + 1) a0 a1 a2 a3) := by
 intro a0 a1 a2 a3 k
 unfold trail_Equation.f
 repeat' first
  | (with_reducible exact term_All.mono _ _)
  | (with_reducible exact term_May.mono _ _)
  | (with_reducible exact LeO.refl _)
  | (with_reducible refine LeO.ite ?_ ?_)
  | (with_reducible refine LeO.bind ?_ (fun _ => ?_))
  | refine LeO.ite ?_ ?_
  | refine LeO.bind ?_ (fun _ => ?_)
theorem trail_Equation.calls (k : Nat) (ad : Addr) (x0 : Int) (x1 : Int) (A2 : Option Addr) (c2_ : Nat) (l2 : List ByteArray) (x3 : ByteArray) (r : Bool) (w : World)
 (h0 : w.cell? ad = some (.int .i64 x0)) (h2 : w.cell? ⟨ad.block, ad.off + 2, none⟩ = some (.slice A2 l2.length c2_)) (h3 : w.cell? ⟨ad.block, ad.off + 3, none⟩ = some (.string x3))
 (hr2 : Kd.C Kd.string w A2 l2.length l2) (hc2 : l2.length ≤ c2_) (h : trail_Equation.f k x0 x1 l2 x3 = some r) (hG : GOK w) :
 Calls Tryd.prog 25 #[.pointer (some ad)] w fun e w' => e = .returned (.bool r) ∧ Below w.heap.size w w' := by
 have HR := a_ hr2
 have HC := a_ hc2
 clear hr2 hc2
 have HB := a_ (Below.refl w.heap.size w)
 unfold trail_Equation.f at h
 by_cases c1 : 0 ≤ x0
 case neg =>
  rw [if_neg c1] at h
  have c1b := decide_eq_false c1
  clear c1
  obtain rfl := Option.some.inj h
  go_enter Tryd.func25, Tryd.ntmps25
  go_wp2
  go_ret
  exact ⟨rfl, by repeat (first | exact HB.out | apply below_alloc | apply pw_below_drewN | apply below_drew1)⟩

 rw [if_pos c1] at h
 have c1b := decide_eq_true c1
 have c1c := eq_true c1
 clear c1
 by_cases c2 : x0 < 8
 case neg =>
  rw [if_neg c2] at h
  have c2b := decide_eq_false c2
  clear c2
  obtain rfl := Option.some.inj h
  go_enter Tryd.func25, Tryd.ntmps25
  go_wp2
  go_ret
  exact ⟨rfl, by repeat (first | exact HB.out | apply below_alloc | apply pw_below_drewN | apply below_drew1)⟩
 rw [if_pos c2] at h
 have c2b := decide_eq_true c2
 have c2c := eq_true c2
 clear c2
 by_cases c3 : (l2.length : Int) ≤ 3
 case neg =>
  rw [if_neg c3] at h
  have c3b := decide_eq_false c3
  clear c3
  obtain rfl := Option.some.inj h
  go_enter Tryd.func25, Tryd.ntmps25
  go_wp2
  go_ret
  exact ⟨rfl, by repeat (first | exact HB.out | apply below_alloc | apply pw_below_drewN | apply below_drew1)⟩
 rw [if_pos c3] at h
 have c3b := decide_eq_true c3
 have c3c := eq_true c3
 clear c3
 obtain ⟨t, A1, h⟩ := Option.bind_eq_some_iff.mp h
 have A1 := a_ A1
 cases t with
 | true =>
  have A3 := a_ (show term_May.f k x3 = some r from h)
  clear h
  go_enter Tryd.func25, Tryd.ntmps25
  go_wp2_with (first | (go_at_call 38; (with_reducible refine (term_All.calls k A2 c2_ l2 true _ HR.out HC.out A1.out (by first | exact hG | exact GOK.below hG (by repeat (first | exact HB.out | apply below_alloc | apply pw_below_drewN | apply below_drew1)))).mono ?_); rintro e w6 ⟨rfl, hb⟩; have h3_ := (hb.cell (World.block_lt_of_cell? w _ h3)).trans h3; have n1_ := a_ (below_step (by repeat (first | exact HB.out | apply below_alloc | apply pw_below_drewN | apply below_drew1)) hb); clear HB hb; have HB := n1_; clear n1_) | (go_at_call 39; (with_reducible refine (term_May.calls k x3 r _ A3.out (by first | exact hG | exact GOK.below hG (by repeat (first | exact HB.out | apply below_alloc | apply pw_below_drewN | apply below_drew1)))).mono ?_); rintro e w7 ⟨rfl, hb⟩; have n1_ := a_ (below_step (by repeat (first | exact HB.out | apply below_alloc | apply pw_below_drewN | apply below_drew1)) hb); clear HB hb; have HB := n1_; clear n1_))
  go_ret
  exact ⟨rfl, by repeat (first | exact HB.out | apply below_alloc | apply pw_below_drewN | apply below_drew1)⟩
 | false =>
  obtain rfl := Option.some.inj (show some false = some r from h)
  clear h
  go_enter Tryd.func25, Tryd.ntmps25
  go_wp2_with (first | (go_at_call 38; (with_reducible refine (term_All.calls k A2 c2_ l2 false _ HR.out HC.out A1.out (by first | exact hG | exact GOK.below hG (by repeat (first | exact HB.out | apply below_alloc | apply pw_below_drewN | apply below_drew1)))).mono ?_); rintro e w6 ⟨rfl, hb⟩; have n1_ := a_ (below_step (by repeat (first | exact HB.out | apply below_alloc | apply pw_below_drewN | apply below_drew1)) hb); clear HB hb; have HB := n1_; clear n1_))
  go_ret
  exact ⟨rfl, by repeat (first | exact HB.out | apply below_alloc | apply pw_below_drewN | apply below_drew1)⟩
set_option maxHeartbeats 8000000
set_option maxRecDepth 100000
attribute [local go_sem] max2_int min2_int max_two min_two max_three min_three max_four min_four   -- for this text's walks alone
set_option linter.unusedVariables false
set_option linter.unusedSimpArgs false

def trail_Next.f (k : Nat) (x0 : Int) (x1 : Int) (l2 : List ByteArray) (x3 : ByteArray) (a1 : Int) : Option Bool := if a1 < 512 then (if (0 ≤ x1 ∧ x1 < a1) ∨ (a1 = 0 ∧ x1 = -1) then trail_Equation.f k x0 x1 l2 x3 else some false) else some false
theorem trail_Next.mono : ∀ a0 a1 a2 a3 a4 k, LeO (trail_Next.f k a0 a1 a2 a3 a4) (trail_Next.f (k + 1) a0 a1 a2 a3 a4) := by
 intro a0 a1 a2 a3 a4 k
 unfold trail_Next.f
 repeat' first
  | (with_reducible exact trail_Equation.mono _ _ _ _ _)
  | (with_reducible exact LeO.refl _)
  | (with_reducible refine LeO.ite ?_ ?_)
  | refine LeO.ite ?_ ?_
theorem trail_Next.calls (k : Nat) (ad : Addr) (x0 : Int) (x1 : Int) (A2 : Option Addr) (c2_ : Nat) (l2 : List ByteArray) (x3 : ByteArray) (a1 : Int) (r : Bool) (w : World)
 (h0 : w.cell? ad = some (.int .i64 x0)) (h1 : w.cell? ⟨ad.block, ad.off + 1, none⟩ = some (.int .i64 x1)) (h2 : w.cell? ⟨ad.block, ad.off + 2, none⟩ = some (.slice A2 l2.length c2_)) (h3 : w.cell? ⟨ad.block, ad.off + 3, none⟩ = some (.string x3))
 (hr2 : Kd.C Kd.string w A2 l2.length l2) (hc2 : l2.length ≤ c2_) (h : trail_Next.f k x0 x1 l2 x3 a1 = some r) (hG : GOK w) :
 Calls Tryd.prog 22 #[.pointer (some ad), .int .i64 a1] w fun e w' => e = .returned (.bool r) ∧ Below w.heap.size w w' := by
 have HR := a_ hr2
 have HC := a_ hc2
 have H2 := a_ h2
 have H3 := a_ h3
 clear hr2 hc2 h2 h3
 have HB := a_ (Below.refl w.heap.size w)
 unfold trail_Next.f at h
 by_cases c1 : a1 < 512
 case neg =>
  rw [if_neg c1] at h
  obtain rfl := Option.some.inj h
  clear h
  have c1b := decide_eq_false c1
  clear c1
  by_cases d1 : 0 ≤ x1
  case neg =>
   have e1 := decide_eq_false d1
   have e3 : (a1 == 0) = false := beq_eq_false_iff_ne.mpr (fun e => by subst e; simp at c1b)
   clear d1
   go_enter Tryd.func22, Tryd.ntmps22
   go_wp2
   go_ret
   exact ⟨rfl, by repeat (first | exact HB.out | apply below_alloc | apply pw_below_drewN | apply below_drew1)⟩

  by_cases d2 : x1 < a1
  case pos =>
   have e1 := decide_eq_true d1
   have e2 := decide_eq_true d2
   clear d1 d2
   go_enter Tryd.func22, Tryd.ntmps22
   go_wp2
   go_ret
   exact ⟨rfl, by repeat (first | exact HB.out | apply below_alloc | apply pw_below_drewN | apply below_drew1)⟩
  have e1 := decide_eq_true d1
  have e2 := decide_eq_false d2
  have e3 : (a1 == 0) = false := beq_eq_false_iff_ne.mpr (fun e => by subst e; simp at c1b)
  clear d1 d2
  go_enter Tryd.func22, Tryd.ntmps22
  go_wp2
  go_ret
  exact ⟨rfl, by repeat (first | exact HB.out | apply below_alloc | apply pw_below_drewN | apply below_drew1)⟩
 rw [if_pos c1] at h
 have c1b := decide_eq_true c1
 clear c1
 by_cases c2 : (0 ≤ x1 ∧ x1 < a1) ∨ (a1 = 0 ∧ x1 = -1)
 case pos =>
  rw [if_pos c2] at h
  have A1 := a_ h
  clear h
  rcases c2 with ⟨c2, c3⟩ | ⟨c2, c3⟩
  · have c2b := decide_eq_true c2
    have c3b := decide_eq_true c3
    clear c2 c3
    go_enter Tryd.func22, Tryd.ntmps22
    go_wp2_with (go_at_call 25; (with_reducible refine (trail_Equation.calls k ad x0 x1 A2 c2_ l2 x3 r _ h0 H2.out H3.out HR.out HC.out A1.out (by first | exact hG | exact GOK.below hG (by repeat (first | exact HB.out | apply below_alloc | apply pw_below_drewN | apply below_drew1)))).mono ?_); rintro e w6 ⟨rfl, hb⟩; have n1_ := a_ (below_step (by repeat (first | exact HB.out | apply below_alloc | apply pw_below_drewN | apply below_drew1)) hb); clear HB hb; have HB := n1_; clear n1_)
    go_ret
    exact ⟨rfl, by repeat (first | exact HB.out | apply below_alloc | apply pw_below_drewN | apply below_drew1)⟩
  · have c2b : (a1 == 0) = true := beq_iff_eq.mpr c2
    have c3b : (x1 == -1) = true := beq_iff_eq.mpr c3
    have c4b : decide (0 ≤ x1) = false := decide_eq_false (by omega)
    clear c2 c3
    go_enter Tryd.func22, Tryd.ntmps22
    go_wp2_with (go_at_call 25; (with_reducible refine (trail_Equation.calls k ad x0 x1 A2 c2_ l2 x3 r _ h0 H2.out H3.out HR.out HC.out A1.out (by first | exact hG | exact GOK.below hG (by repeat (first | exact HB.out | apply below_alloc | apply pw_below_drewN | apply below_drew1)))).mono ?_); rintro e w6 ⟨rfl, hb⟩; have n1_ := a_ (below_step (by repeat (first | exact HB.out | apply below_alloc | apply pw_below_drewN | apply below_drew1)) hb); clear HB hb; have HB := n1_; clear n1_)
    go_ret
    exact ⟨rfl, by repeat (first | exact HB.out | apply below_alloc | apply pw_below_drewN | apply below_drew1)⟩
 rw [if_neg c2] at h
 obtain rfl := Option.some.inj h
 clear h
 by_cases d1 : 0 ≤ x1
 case neg =>
  by_cases d3 : a1 = 0
  case neg =>
   have e1 := decide_eq_false d1
   have e3 : (a1 == 0) = false := beq_eq_false_iff_ne.mpr d3
   clear d1 d3 c2
   go_enter Tryd.func22, Tryd.ntmps22
   go_wp2
   go_ret
   exact ⟨rfl, by repeat (first | exact HB.out | apply below_alloc | apply pw_below_drewN | apply below_drew1)⟩
  have d4 : ¬ x1 = -1 := fun e => c2 (.inr ⟨d3, e⟩)
  have e1 := decide_eq_false d1
  have e3 : (a1 == 0) = true := beq_iff_eq.mpr d3
  have e4 : (x1 == -1) = false := beq_eq_false_iff_ne.mpr d4
  clear d1 d3 d4 c2
  go_enter Tryd.func22, Tryd.ntmps22
  go_wp2
  go_ret
  exact ⟨rfl, by repeat (first | exact HB.out | apply below_alloc | apply pw_below_drewN | apply below_drew1)⟩
 have d2 : ¬ x1 < a1 := fun e => c2 (.inl ⟨d1, e⟩)
 by_cases d3 : a1 = 0
 case neg =>
  have e1 := decide_eq_true d1
  have e2 := decide_eq_false d2
  have e3 : (a1 == 0) = false := beq_eq_false_iff_ne.mpr d3
  clear d1 d2 d3 c2
  go_enter Tryd.func22, Tryd.ntmps22
  go_wp2
  go_ret
  exact ⟨rfl, by repeat (first | exact HB.out | apply below_alloc | apply pw_below_drewN | apply below_drew1)⟩
 have d4 : ¬ x1 = -1 := by omega
 have e1 := decide_eq_true d1
 have e2 := decide_eq_false d2
 have e3 : (a1 == 0) = true := beq_iff_eq.mpr d3
 have e4 : (x1 == -1) = false := beq_eq_false_iff_ne.mpr d4
 clear d1 d2 d3 d4 c2
 go_enter Tryd.func22, Tryd.ntmps22
 go_wp2
 go_ret
 exact ⟨rfl, by repeat (first | exact HB.out | apply below_alloc | apply pw_below_drewN | apply below_drew1)⟩
set_option maxHeartbeats 8000000
set_option maxRecDepth 100000
attribute [local go_sem] max2_int min2_int max_two min_two max_three min_three max_four min_four   -- for this text's walks alone
set_option linter.unusedVariables false
set_option linter.unusedSimpArgs false

def trail_May.l0 : Nat → List S37 → Int → Option Bool
 | 0, _, _ => none
 | k + 1, x0, x1 => if x1 < (x0.length : Int) then (if 0 ≤ x1 then ((trail_Next.f k (rd_T37 x0 x1).f0 (rd_T37 x0 x1).f1 (rd_T37 x0 x1).f2 (rd_T37 x0 x1).f3 x1).bind fun t => if t = true then trail_May.l0 k x0 (wrap64 (x1 + 1)) else some false) else none) else some (decide ((x0.length : Int) > 0))
def trail_May.f (k : Nat) (l0 : List S37) : Option Bool := trail_May.l0 k l0 0
theorem trail_May.calls (k : Nat) (A0 : Option Addr) (c0 : Nat) (l0 : List S37) (r : Bool) (w : World) (hr0 : Kd.C k37 w A0 l0.length l0) (hc0 : l0.length ≤ c0) (h : trail_May.f k l0 = some r) (hG : GOK w) :
 Calls Tryd.prog 14 #[.slice A0 l0.length c0] w fun e w' => e = .returned (.bool r) ∧ Below w.heap.size w w' := by
 have HR0 := a_ hr0
 have HC0 := a_ hc0
 clear hr0 hc0
 have HB := a_ (Below.refl w.heap.size w)
 have H' := a_ (show trail_May.l0 k l0 0 = some r from h)
 clear h
 go_enter Tryd.func14, Tryd.ntmps14
 go_wp2
 go_loopg [6] k (fun kq v6 w' => ∃ (x1 : Int), v6 = .int .i64 x1 ∧ Aside0 (trail_May.l0 kq l0 x1 = some r) ∧ Aside0 (kq ≤ k) ∧ Aside0 (Below w.heap.size w w'))
 case atStart => exact ⟨0, rfl, H', ⟨Nat.le_refl _⟩, ⟨by repeat (first | exact HB.out | apply below_alloc | apply pw_below_drewN | apply below_drew1)⟩⟩
 case round =>
  clear H' HB
  obtain ⟨x1, rfl, HA, HK1, HB⟩ := hrel
  cases gk with
  | zero => exact absurd HA.out (by simp [trail_May.l0])
  | succ k1 =>
   have H := HA.out
   clear HA
   simp only [trail_May.l0] at H
   by_cases c2 : x1 < (l0.length : Int)
   case neg =>
    rw [if_neg c2] at H
    have c2b0 : decide (x1 < (l0.length : Int)) = false := decide_eq_false c2
    clear c2
    obtain rfl := Option.some.inj H
    go_wp2
    go_ret
    exact ⟨rfl, by repeat (first | exact HB.out | apply below_alloc | apply pw_below_drewN | apply below_drew1)⟩
   rw [if_pos c2] at H
   have c2b0 : decide (x1 < (l0.length : Int)) = true := decide_eq_true c2
   replace H := ifI_ H; obtain ⟨c3, H⟩ := H
   have c3b0 : decide (0 ≤ x1) = true := decide_eq_true c3
   obtain ⟨t, A5, H⟩ := Option.bind_eq_some_iff.mp H
   have A5 := a_ A5
   obtain ⟨ad, A2, c2_, e0, h0, h1, h2, h3, hc2_, hr2_⟩ := at_T37 HR0.out x1 c3 c2
   cases e0
   have HX := a_ (And.intro h0 (And.intro h1 (And.intro h2 (And.intro h3 (And.intro hc2_ hr2_)))))
   clear h0 h1 h2 h3 hc2_ hr2_
   replace c2 := eq_true c2
   replace c3 := eq_true c3
   cases t with
   | true =>
    have H' := a_ (show trail_May.l0 k1 l0 (wrap64 (x1 + 1)) = some r from H)
    clear H
    go_wp2_with (go_at_call 22; have hbq := a_ (show Below w.heap.size w _ from by repeat (first | exact HB.out | apply below_alloc | apply pw_below_drewN | apply below_drew1)); (with_reducible refine (trail_Next.calls k1 (ad.add (x1.toNat * 4)) _ _ A2 c2_ _ _ x1 true _ ((hbq.out.cell (World.block_lt_of_cell? w _ HX.out.1)).trans HX.out.1) ((hbq.out.cell (World.block_lt_of_cell? w _ HX.out.2.1)).trans HX.out.2.1) ((hbq.out.cell (World.block_lt_of_cell? w _ HX.out.2.2.1)).trans HX.out.2.2.1) ((hbq.out.cell (World.block_lt_of_cell? w _ HX.out.2.2.2.1)).trans HX.out.2.2.2.1) (Kd.C_below HX.out.2.2.2.2.2 hbq.out) HX.out.2.2.2.2.1 A5.out (GOK.below hG hbq.out)).mono ?_); rintro e w6 ⟨rfl, hb⟩; have n1_ := a_ (below_step hbq.out hb); clear HB hb hbq; have HB := n1_; clear n1_)
    go_roundg k1
    case measure => have := HK1.out; omega
    case rel => exact ⟨(wrap64 (x1 + 1)), hW_, H', ⟨by have := HK1.out; omega⟩, ⟨by repeat (first | exact HB.out | apply below_alloc | apply pw_below_drewN | apply below_drew1)⟩⟩
   | false =>
    obtain rfl := Option.some.inj (show some false = some r from H)
    clear H
    go_wp2_with (go_at_call 22; have hbq := a_ (show Below w.heap.size w _ from by repeat (first | exact HB.out | apply below_alloc | apply pw_below_drewN | apply below_drew1)); (with_reducible refine (trail_Next.calls k1 (ad.add (x1.toNat * 4)) _ _ A2 c2_ _ _ x1 false _ ((hbq.out.cell (World.block_lt_of_cell? w _ HX.out.1)).trans HX.out.1) ((hbq.out.cell (World.block_lt_of_cell? w _ HX.out.2.1)).trans HX.out.2.1) ((hbq.out.cell (World.block_lt_of_cell? w _ HX.out.2.2.1)).trans HX.out.2.2.1) ((hbq.out.cell (World.block_lt_of_cell? w _ HX.out.2.2.2.1)).trans HX.out.2.2.2.1) (Kd.C_below HX.out.2.2.2.2.2 hbq.out) HX.out.2.2.2.2.1 A5.out (GOK.below hG hbq.out)).mono ?_); rintro e w6 ⟨rfl, hb⟩; have n1_ := a_ (below_step hbq.out hb); clear HB hb hbq; have HB := n1_; clear n1_)
    go_ret
    exact ⟨rfl, by repeat (first | exact HB.out | apply below_alloc | apply pw_below_drewN | apply below_drew1)⟩
theorem trail_Next.true_spec {k : Nat} {x0 x1 : Int} {l2 : List ByteArray} {x3 : ByteArray} {a1 : Int} (h : trail_Next.f k x0 x1 l2 x3 a1 = some true) : a1 < 512 ∧ ((0 ≤ x1 ∧ x1 < a1) ∨ (a1 = 0 ∧ x1 = -1)) := by
 unfold trail_Next.f at h
 by_cases c1 : a1 < 512
 case neg =>
  rw [if_neg c1] at h; simp at h
 rw [if_pos c1] at h
 by_cases c2 : (0 ≤ x1 ∧ x1 < a1) ∨ (a1 = 0 ∧ x1 = -1)
 case pos =>
  exact ⟨c1, c2⟩
 rw [if_neg c2] at h; simp at h
theorem trail_May.true_l : ∀ (k : Nat) (l0 : List S37) (x : Int), 0 ≤ x → trail_May.l0 k l0 x = some true →
 0 < l0.length ∧ ∀ i : Int, x ≤ i → i < (l0.length : Int) → i < 512 ∧ ((0 ≤ (rd_T37 l0 i).f1 ∧ (rd_T37 l0 i).f1 < i) ∨ (i = 0 ∧ (rd_T37 l0 i).f1 = -1))
 | 0, _, _, _, h => by simp [trail_May.l0] at h
 | k + 1, l0, x, h0, h => by
  rw [trail_May.l0] at h
  by_cases c : x < (l0.length : Int)
  case neg =>
   rw [if_neg c] at h
   have := of_decide_eq_true (Option.some.inj h)
   exact ⟨by omega, fun i hi hl => by omega⟩
  rw [if_pos c, if_pos h0] at h
  obtain ⟨t, h1, h⟩ := Option.bind_eq_some_iff.mp h
  cases t with
  | false => simp at h
  | true =>
   have h2 := trail_Next.true_spec h1
   rw [if_pos rfl, show wrap64 (x + 1) = x + 1 from by unfold wrap64; omega] at h
   obtain ⟨h3, h4⟩ := trail_May.true_l k l0 (x + 1) (by omega) h
   refine ⟨h3, fun i hi hl => ?_⟩
   rcases Int.lt_or_eq_of_le hi with hlt | rfl
   · exact h4 i (by omega) hl
   · exact h2
theorem trail_May.true_spec {k : Nat} {l0 : List S37} (h : trail_May.f k l0 = some true) : 0 < l0.length ∧ l0.length ≤ 512 ∧ ∀ i : Int, 0 ≤ i → i < (l0.length : Int) → ((0 ≤ (rd_T37 l0 i).f1 ∧ (rd_T37 l0 i).f1 < i) ∨ (i = 0 ∧ (rd_T37 l0 i).f1 = -1)) := by
 obtain ⟨h1, h2⟩ := trail_May.true_l k l0 0 (by omega) h
 have := h2 ((l0.length : Int) - 1) (by omega) (by omega)
 exact ⟨h1, by omega, fun i h0 hl => (h2 i h0 hl).2⟩

set_option maxHeartbeats 8000000
set_option maxRecDepth 100000
attribute [local go_sem] max2_int min2_int max_two min_two max_three min_three max_four min_four   -- for this text's walks alone
set_option linter.unusedVariables false
set_option linter.unusedSimpArgs false

def record_low.l0 : Nat → Int → List Int → Int → Int → Option (ByteArray)
 | 0, _, _, _, _ => none
 | k + 1, x0, x5, x10, x11 => if x11 < x10 then (if 0 ≤ (wrap64 (8 * x11)) then (if 0 ≤ x11 then (if x11 < (x5.length : Int) then (record_low.l0 k x0 (x5.set (x11 : Int).toNat ((shr .i64 x0 (wrap64 (8 * x11))) % 256)) x10 (wrap64 (x11 + 1))) else (none)) else (none)) else (none)) else (some (strOfNums x5))
def record_low.f (k : Nat) (a0 : Int) (a1 : Int) : Option (ByteArray) := if 0 ≤ a1 then (if (a1 : Int).toNat ≤ 281474976710656 then ((some (List.replicate (a1 : Int).toNat 0 : List Int)).bind fun y137 => (record_low.l0 k a0 y137 (y137.length : Int) 0)) else (none)) else (none)
theorem record_low.mono_l : ∀ k, (∀ y0 y1 y2 y3, LeO (record_low.l0 k y0 y1 y2 y3) (record_low.l0 (k + 1) y0 y1 y2 y3))
 | 0 => fun _ _ _ _ r h => by simp [record_low.l0] at h
 | k + 1 => by
  have ih0 := record_low.mono_l k
  · intro y0 y1 y2 y3
    unfold record_low.l0
    repeat' first
    | (with_reducible exact ih0 _ _ _ _)
    | (with_reducible exact LeO.refl _)
    | (with_reducible exact LeO.none _)
    | (with_reducible refine LeO.ite ?_ ?_)
    | (with_reducible refine LeO.bind ?_ (fun _ => ?_))
    | exact ih0 _ _ _ _
    | exact LeO.none _
    | refine LeO.ite ?_ ?_
    | refine LeO.bind ?_ (fun _ => ?_)
theorem record_low.mono : ∀ a0 a1 k, LeO (record_low.f k a0 a1) (record_low.f (k + 1) a0 a1) := by
 intro a0 a1 k
 have ih0 := record_low.mono_l k
 unfold record_low.f
 repeat' first
  | (with_reducible exact ih0 _ _ _ _)
  | (with_reducible exact LeO.refl _)
  | (with_reducible exact LeO.none _)
  | (with_reducible refine LeO.ite ?_ ?_)
  | (with_reducible refine LeO.bind ?_ (fun _ => ?_))
  | exact ih0 _ _ _ _
  | exact LeO.none _
  | refine LeO.ite ?_ ?_
  | refine LeO.bind ?_ (fun _ => ?_)
theorem record_low.calls (k : Nat) (a0 : Int) (a1 : Int) (r : ByteArray) (w : World) (h : record_low.f k a0 a1 = some r) :
 Calls Tryd.prog 26 #[.int .i64 a0, .int .i64 a1] w fun e w' => e = .returned (.string r) ∧ Below w.heap.size w w' := by
 have HB := a_ (Below.refl w.heap.size w)
 have H := h; unfold record_low.f at H
 clear h
 replace H := ifI_ H; obtain ⟨c3, H⟩ := H
 have c3b0 := eq_true c3
 have c3b1 : decide (0 ≤ a1) = true := decide_eq_true c3
 clear c3
 replace H := ifI_ H; obtain ⟨c4, H⟩ := H
 have c4b0 := eq_true c4
 have c4b1 : decide ((a1 : Int).toNat ≤ 281474976710656) = true := decide_eq_true c4
 clear c4
 obtain ⟨y0, i0⟩ : ∃ y_ : List Int, y_ = (List.replicate (a1 : Int).toNat 0) := ⟨_, rfl⟩
 replace H : (record_low.l0 k a0 y0 (y0.length : Int) 0) = some r := by first | (rw [i0]; with_reducible exact H) | (have H2_ := (Option.bind_some _ _).symm.trans H; rw [i0]; with_reducible exact H2_) | (have H2_ := (Option.bind_some _ _).symm.trans H; with_reducible exact H2_) | with_reducible exact H | (rw [i0]; exact H) | exact H
 have Y0 := a_ i0
 clear i0
 have H' := a_ H
 clear H
 go_enter Tryd.func26, Tryd.ntmps26
 go_wp2_with (first | ((with_reducible refine gate_dst (N := 8) rfl ?_); refine Kd.R_make (Kd.int .u8) _ 5 rfl (N := 8) rfl 41 _ _ rfl a1 rfl rfl Tryd.underlying41 (.int .u8 0) 1 info5 rfl (by decide) (by omega) 0 (ok := fun _ => True) (okp := fun _ => True) rfl (fun _ hk => hk) trivial (of_decide_eq_true hA_) (Nat.le_trans (Nat.mul_le_mul_right _ (of_decide_eq_true hA_ : a1.toNat ≤ 281474976710656)) (by omega)) (Below.refl _ _) (Nat.le_refl _) ?_; intro v1 w5 ho6 hb hg_ hnew_; clear hg_ hnew_; (first | rw [← Y0.out] at ho6 | (simp only [Int.reduceToNat] at ho6; rw [← Y0.out] at ho6)); have P0 := a_ (Kd.R_lower ho6 hS_); replace HB := a_ (below_step hB_ hb); clear hb ho6; obtain ⟨a2, o0, e1⟩ := Kd.R_slice P0.out; subst e1))
 go_loopg [11] k (fun kq v0 w' => ∃ (x1 : List Int) (x0 : Int), v0 = .int .i64 x0 ∧ Aside0 (record_low.l0 kq a0 x1 (y0.length : Int) x0 = some r) ∧ Aside0 (kq ≤ k) ∧ Aside0 (Kd.R (Kd.int .u8) 5 w' w.heap.size (fun _ => True) (.slice a2 y0.length o0) x1) ∧ Aside0 (Below w.heap.size w w'))
 case atStart => exact ⟨(y0), (0), hW_, H', ⟨Nat.le_refl _⟩, ⟨hR_ P0.out⟩, ⟨hC_⟩⟩
 case round =>
  clear H'
  try clear c2
  try clear p2
  try clear c3
  try clear c3b0
  try clear c3b1
  try clear c4
  try clear c4b0
  try clear c4b1
  obtain ⟨x1, x0, rfl, HA, HK1, O0, HB⟩ := hrel
  have hl5_1 := (Kd.R_reads' O0.out).1
  rw [hl5_1] at O0
  (try simp only [hl5_1])
  cases gk with
  | zero => exact absurd HA.out (by simp [record_low.l0])
  | succ k1 =>
   have H := HA.out
   clear HA
   simp only [record_low.l0] at H
   by_cases c8 : x0 < (y0.length : Int)
   case neg =>
    rw [if_neg c8] at H
    have c8b0 : decide (x0 < (y0.length : Int)) = false := decide_eq_false c8
    (try (have c8b0hl5_1 := c8b0; rw [hl5_1] at c8b0hl5_1))
    clear c8
    obtain rfl := Option.some.inj H
    have hcv17 := own_string (P := Tryd.prog) Tryd.underlying41 Tryd.underlying5 Tryd.underlying9 (Kd.own_of_R O0.out)
    go_wp2
    go_ret
    exact ⟨hV_, hC_⟩
   rw [if_pos c8] at H
   have c8b0 : decide (x0 < (y0.length : Int)) = true := decide_eq_true c8
   (try (have c8b0hl5_1 := c8b0; rw [hl5_1] at c8b0hl5_1))
   clear c8
   obtain ⟨ji9, hji9⟩ : ∃ j_ : Int, (wrap64 (8 * x0)) = j_ := ⟨_, rfl⟩
   replace H : (if 0 ≤ (ji9) then (if 0 ≤ x0 then (if x0 < (x1.length : Int) then (record_low.l0 k1 a0 (x1.set (x0 : Int).toNat ((shr .i64 a0 (ji9)) % 256)) (y0.length : Int) (wrap64 (x0 + 1))) else (none)) else (none)) else (none)) = some r := by first | (rw [hji9] at H; exact H) | (simp only [hji9] at H ⊢; exact H)
   have hji9w : (IntKind.i64.wrap (8 * x0)) = ji9 := (i64_w _).trans hji9
   replace H := ifI_ H; obtain ⟨c10, H⟩ := H
   have c10b0 := eq_true c10
   have c10b1 : decide (0 ≤ (ji9)) = true := decide_eq_true c10
   clear c10
   obtain ⟨ji11, hji11⟩ : ∃ j_ : Int, (shr .i64 a0 (ji9)) = j_ := ⟨_, rfl⟩
   replace H : (if 0 ≤ x0 then (if x0 < (x1.length : Int) then (record_low.l0 k1 a0 (x1.set (x0 : Int).toNat ((ji11) % 256)) (y0.length : Int) (wrap64 (x0 + 1))) else (none)) else (none)) = some r := by first | (rw [hji11] at H; exact H) | (simp only [hji11] at H ⊢; exact H)
   have hji11_ : (a0 / 2 ^ min (ji9).toNat 64) = ji11 := hji11
   have hji11z : (ji9) ≤ 64 → (a0 / 2 ^ (ji9).toNat) = ji11 := shr_small hji11
   replace H := ifI_ H; obtain ⟨c12, H⟩ := H
   have c12b0 : decide (0 ≤ x0) = true := decide_eq_true c12
   clear c12
   replace H := ifI_ H; obtain ⟨c13, H⟩ := H
   have c13b0 : decide (x0 < (x1.length : Int)) = true := decide_eq_true c13
   (try (have c13b0hl5_1 := c13b0; rw [hl5_1] at c13b0hl5_1))
   clear c13
   obtain ⟨y1, i1⟩ : ∃ y_ : List Int, y_ = (x1.set (x0 : Int).toNat ((ji11) % 256)) := ⟨_, rfl⟩
   replace H : (record_low.l0 k1 a0 y1 (y0.length : Int) (wrap64 (x0 + 1))) = some r := by first | (rw [i1]; with_reducible exact H) | (have H2_ := (Option.bind_some _ _).symm.trans H; rw [i1]; with_reducible exact H2_) | (have H2_ := (Option.bind_some _ _).symm.trans H; with_reducible exact H2_) | with_reducible exact H | (rw [i1]; exact H) | exact H
   have Y1 := a_ i1
   clear i1
   have H' := a_ H
   clear H
   have p14 : 0 ≤ (x0 : Int) := of_decide_eq_true hA_
   have q14 : (x0 : Int) < ((x1.length : Int) : Int) := of_decide_eq_true hA_
   obtain ⟨j0, o1, e0, g0, gl14, cl14, HG14⟩ := Kd.R_form O0.out (by omega)
   (first | cases e0 | (injection e0 with ea_ en_ ec_; (first | subst ea_ | (injection ea_ with ea_; subst ea_)); subst ec_; clear en_))
   have J0 := a_ g0
   have K0 := a_ HG14
   clear g0 gl14 HG14
   obtain ⟨h0, hf14_0⟩ := Kd.R_celln 0 O0.out (x0 : Int) p14 q14
   replace p14 := eq_true p14
   replace q14 := eq_true q14
   have HP15 := Kd.R_putg O0.out (x0 : Int) ((ji11) % 256)
   go_wp2_with (first | ((with_reducible refine gate_store (t := 5) (p := 21) rfl ?_); refine store_event (t := 5) (p := 21) (v := ?vo_w16) (w1 := (wr.setCell ⟨j0, (x0 : Int).toNat, none⟩ (.int .u8 ((ji11) % 256)))) ?hg ?ho ?hn ?hr ?_; (case ho => rfl); (case hg => rfl); (case hn => rfl); (case hr => first | (go_simp; done) | (go_simp; rfl)); intro w0 hw; have hg : wr.grownBy w0 (some j0) := (by rw [hw]; exact HP15.2); have hp_ : Kd.R (Kd.int .u8) 5 w0 w.heap.size (fun _ => True) (.slice (some ⟨j0, 0, none⟩) x1.length o0) y1 := (by rw [hw, Y1.out]; exact HP15.1); clear HP15; replace O0 := a_ (hp_); replace HB := a_ ((by rw [hw]; exact below_set (HB.out) J0.out : Below w.heap.size w w0)); clear hg hw hp_))
   (try simp only [← hl5_1])
   go_roundg k1
   case measure => have := HK1.out; omega
   case rel => exact ⟨(y1), (wrap64 (x0 + 1)), hW_, H', ⟨by have := HK1.out; omega⟩, ⟨by (try simp only [hl5_1]); (with_reducible repeat (first | apply Kd.R_alloc | apply Kd.R_drewN | apply Kd.R_drew)); exact O0.out⟩, ⟨hC_⟩⟩
def record_text.f (k : Nat) (a0 : ByteArray) : Option (ByteArray) := (record_low.f k (a0.size : Int) 2).bind fun t141 => (if t141.size + a0.size ≤ 9223372036854775807 then (some (t141 ++ a0)) else (none))
theorem record_text.mono : ∀ a0 k, LeO (record_text.f k a0) (record_text.f (k + 1) a0) := by
 intro a0 k
 unfold record_text.f
 repeat' first
  | (with_reducible exact record_low.mono _ _ _)
  | (with_reducible exact LeO.refl _)
  | (with_reducible exact LeO.none _)
  | (with_reducible refine LeO.ite ?_ ?_)
  | (with_reducible refine LeO.bind ?_ (fun _ => ?_))
  | exact record_low.mono _ _ _
  | exact LeO.none _
  | refine LeO.ite ?_ ?_
  | refine LeO.bind ?_ (fun _ => ?_)
theorem record_text.calls (k : Nat) (a0 : ByteArray) (r : ByteArray) (w : World) (h : record_text.f k a0 = some r) :
 Calls Tryd.prog 27 #[.string a0] w fun e w' => e = .returned (.string r) ∧ Below w.heap.size w w' := by
 have HB := a_ (Below.refl w.heap.size w)
 have H := h; unfold record_text.f at H
 clear h
 replace H := Option.bind_eq_some_iff.mp H
 obtain ⟨t0, A20, H⟩ := H
 try dsimp only at H
 have A2 := a_ A20
 clear A20
 replace H := ifI_ H; obtain ⟨c3, H⟩ := H
 have c3b0 := eq_true c3
 have c3b1 : decide (t0.size + a0.size ≤ 9223372036854775807) = true := decide_eq_true c3
 try have c3b2 : (9223372036854775807 < t0.size + a0.size) = False := eq_false (Nat.not_lt.2 c3)
 obtain rfl := Option.some.inj H
 go_enter Tryd.func27, Tryd.ntmps27
 go_wp2_with (first | ((with_reducible refine gate_callee (f := 26) rfl ?_); refine goesL_ (some 5) rfl rfl Tryd.func26 (by kernel_rfl) rfl #[.int .i64 (a0.size : Int), .int .i64 2] rfl hL_ ?_; (with_reducible refine (record_low.calls k (a0.size : Int) 2 t0 _ A2.out).mono ?_); rintro e w4 ⟨rfl, hb⟩; refine ⟨_, rfl, ?_⟩; replace HB := a_ (below_step hB_ hb); (try clear hb); (try clear hb2); (try clear hk); (try clear hi)))
 go_ret
 exact ⟨hV_, hC_⟩
set_option maxHeartbeats 8000000
set_option maxRecDepth 100000
attribute [local go_sem] max2_int min2_int max_two min_two max_three min_three max_four min_four   -- for this text's walks alone
set_option linter.unusedVariables false
set_option linter.unusedSimpArgs false

def record_Put.l0 : Nat → ByteArray → Int → List ByteArray → ByteArray → Option (ByteArray × Int)
 | 0, _, _, _, _ => none
 | k + 1, o, x, l2, a3 => if x < (l2.length : Int) then (if 0 ≤ x then (record_text.f k (rdOf ByteArray.empty l2 x)).bind fun t => (if o.size + t.size ≤ 9223372036854775807 then record_Put.l0 k (o ++ t) (wrap64 (x + 1)) l2 a3 else none) else none) else (record_text.f k a3).bind fun t => (if o.size + t.size ≤ 9223372036854775807 then some (o ++ t, 0) else none)
def record_Put.m (k : Nat) (a0 : Int) (a1 : Int) (l2 : List ByteArray) (a3 : ByteArray) : Option (ByteArray × Int) := (record_low.f k a0 1).bind fun t0 => (record_low.f k (wrap64 (a1 + 1)) 2).bind fun t1 => (if t0.size + t1.size ≤ 9223372036854775807 then (record_low.f k (l2.length : Int) 1).bind fun t2 => (if (t0 ++ t1).size + t2.size ≤ 9223372036854775807 then record_Put.l0 k ((t0 ++ t1) ++ t2) 0 l2 a3 else none) else none)
def record_Put.f (k : Nat) (a0 : Int) (a1 : Int) (l2 : List ByteArray) (a3 : ByteArray) : Option (ByteArray × Int) := (trail_Equation.f k a0 a1 l2 a3).bind fun t => if t = true then (if a1 < -1 then some ((⟨#[]⟩ : ByteArray), 1500) else (if a1 ≥ 512 then some ((⟨#[]⟩ : ByteArray), 1500) else record_Put.m k a0 a1 l2 a3)) else some ((⟨#[]⟩ : ByteArray), 1500)
theorem record_Put.mono_l : ∀ k y0 y1 y2 y3, LeO (record_Put.l0 k y0 y1 y2 y3) (record_Put.l0 (k + 1) y0 y1 y2 y3)
 | 0 => fun _ _ _ _ r h => by simp [record_Put.l0] at h
 | k + 1 => by
  intro y0 y1 y2 y3
  unfold record_Put.l0
  repeat' first
   | (with_reducible exact record_Put.mono_l k _ _ _ _)
   | (with_reducible exact record_text.mono _ _)
   | (with_reducible exact LeO.refl _)
   | (with_reducible exact LeO.none _)
   | (with_reducible refine LeO.ite ?_ ?_)
   | (with_reducible refine LeO.bind ?_ (fun _ => ?_))
theorem record_Put.mono : ∀ a0 a1 a2 a3 k, LeO (record_Put.f k a0 a1 a2 a3) (record_Put.f (k + 1) a0 a1 a2 a3) := by
 intro a0 a1 a2 a3 k
 unfold record_Put.f record_Put.m
 repeat' first
  | (with_reducible exact record_Put.mono_l k _ _ _ _)
  | (with_reducible exact trail_Equation.mono _ _ _ _ _)
  | (with_reducible exact record_low.mono _ _ _)
  | (with_reducible exact LeO.refl _)
  | (with_reducible exact LeO.none _)
  | (with_reducible refine LeO.ite ?_ ?_)
  | (with_reducible refine LeO.bind ?_ (fun _ => ?_))
def record_Put.T3 : Bool × List (List Nat × List Nat) := (true, [([], []), ([0], [0]), ([1], [1]), ([], []), ([3], [3]), ([4], [4]), ([5, 2], [5]), ([2, 6], [2, 6]), ([], []), ([8], [8]), ([9], [9]), ([10, 6], [10]), ([7, 11], [7, 11]), ([12, 11, 0, 1, 2, 3, 4, 5, 6, 7, 8, 9, 10, 11, 12], [12])])
def record_Put.B3 : List Nat := [0, 1, 3, 0, 8, 24, 63, 127, 0, 256, 768, 1919, 4095, 8191]
theorem record_Put.tab3 : rtab .any (opsOf Tryd.f15 3) = record_Put.T3 := by kernel_rfl
theorem record_Put.bits3 : waitsOk record_Put.T3.2 record_Put.B3 = true := by kernel_rfl
theorem record_Put.calls (k : Nat) (a0 : Int) (a1 : Int) (A2 : Option Addr) (c2 : Nat) (l2 : List ByteArray) (a3 : ByteArray) (r1 : ByteArray) (r2 : Int) (w : World) (hr2 : Kd.C Kd.string w A2 l2.length l2) (hc2 : l2.length ≤ c2) (h : record_Put.f k a0 a1 l2 a3 = some (r1, r2)) (hG : GOK w) :
 Calls Tryd.prog 15 #[.agg #[.int .i64 a0, .int .i64 a1, .slice A2 l2.length c2, .string a3]] w fun e w' => e = .returned (.tuple #[.string r1, .int .i64 r2]) ∧ Below w.heap.size w w' := by
 have hu := Tryd.underlying37
 have HR2 := a_ hr2
 have HC2 := a_ hc2
 clear hr2 hc2
 have HB := a_ (Below.refl w.heap.size w)
 have HX := a_ (Below.refl w.heap.size w)
 unfold record_Put.f at h
 obtain ⟨t, B1, h⟩ := Option.bind_eq_some_iff.mp h
 have B1 := a_ B1
 cases t with
 | false =>
  rw [if_neg Bool.false_ne_true] at h
  obtain ⟨rfl, rfl⟩ := Prod.mk.inj (Option.some.inj h)
  clear h
  go_enter Tryd.func15, Tryd.ntmps15
  go_wp2_with (first
   | ((with_reducible refine gate_dst (N := 1) rfl ?_); refine boxE_ 1 #[.int .i64 a0, .int .i64 a1, .slice A2 l2.length c2, .string a3] 37 ?_; intro g0 hg wb1 hbox hb; have E0 := a_ (gE_ hg : w.heap.size ≤ g0); have B0 := a_ hbox; (try clear z0 f0 z1 f1 z2 f2 z3 f3); obtain ⟨z0, z1, z2, z3, f0, f1, f2, f3⟩ := bx4_ B0.out; have hs_ := below_step hC_ hb; replace HB := a_ hs_; clear hs_ hb hbox hg)
   | ((with_reducible refine gate_callee (f := 25) rfl ?_); refine goesL_ _ rfl rfl Tryd.func25 (by kernel_rfl) rfl #[.pointer (some ⟨g0, 0, none⟩)] rfl hL_ ?_; (with_reducible refine (trail_Equation.calls k ⟨g0, 0, none⟩ a0 a1 A2 c2 l2 a3 false _ ?s1 ?s2 ?s3 ?s4 ?s5 B1.out (GOK.below hG (below_step HX.out hC_))).mono ?_); (case s1 => exact (blk_cell (hK_ B0.out) 0).trans rfl); (case s2 => exact (blk_cell (hK_ B0.out) 2).trans rfl); (case s3 => exact (blk_cell (hK_ B0.out) 3).trans rfl); (case s4 => exact (Kd.C_below HR2.out (below_step HX.out hC_))); (case s5 => exact HC2.out); rintro e wc1 ⟨rfl, hb⟩; refine ⟨_, rfl, ?_⟩; have hs_ := below_step hC_ hb; replace B0 := a_ (blk_below (g := g0) (o := .cells #[.int .i64 a0, .int .i64 a1, .slice A2 l2.length c2, .string a3] 37 (0, 0)) (by (with_reducible repeat (first | refine blk_drewN ?_ _ | refine blk_drew ?_ | refine blk_alloc ?_ _)); exact (hK_ B0.out)) hb); replace HX := a_ (below_step HX.out hs_); replace HB := a_ (Below.refl wc1.heap.size wc1); clear hs_ hb; (try clear z0 f0 z1 f1 z2 f2 z3 f3); obtain ⟨z0, z1, z2, z3, f0, f1, f2, f3⟩ := bx4_ B0.out))
  go_ret2
  exact ⟨hV_, below_step HX.out hC_⟩
 | true =>
  rw [if_pos rfl] at h
  by_cases c1 : a1 < -1
  case pos =>
   rw [if_pos c1] at h
   obtain ⟨rfl, rfl⟩ := Prod.mk.inj (Option.some.inj h)
   have c1b := decide_eq_true c1
   clear h c1
   go_enter Tryd.func15, Tryd.ntmps15
   go_wp2_with (first
    | ((with_reducible refine gate_dst (N := 1) rfl ?_); refine boxE_ 1 #[.int .i64 a0, .int .i64 a1, .slice A2 l2.length c2, .string a3] 37 ?_; intro g0 hg wb1 hbox hb; have E0 := a_ (gE_ hg : w.heap.size ≤ g0); have B0 := a_ hbox; (try clear z0 f0 z1 f1 z2 f2 z3 f3); obtain ⟨z0, z1, z2, z3, f0, f1, f2, f3⟩ := bx4_ B0.out; have hs_ := below_step hC_ hb; replace HB := a_ hs_; clear hs_ hb hbox hg)
    | ((with_reducible refine gate_callee (f := 25) rfl ?_); refine goesL_ _ rfl rfl Tryd.func25 (by kernel_rfl) rfl #[.pointer (some ⟨g0, 0, none⟩)] rfl hL_ ?_; (with_reducible refine (trail_Equation.calls k ⟨g0, 0, none⟩ a0 a1 A2 c2 l2 a3 true _ ?s1 ?s2 ?s3 ?s4 ?s5 B1.out (GOK.below hG (below_step HX.out hC_))).mono ?_); (case s1 => exact (blk_cell (hK_ B0.out) 0).trans rfl); (case s2 => exact (blk_cell (hK_ B0.out) 2).trans rfl); (case s3 => exact (blk_cell (hK_ B0.out) 3).trans rfl); (case s4 => exact (Kd.C_below HR2.out (below_step HX.out hC_))); (case s5 => exact HC2.out); rintro e wc1 ⟨rfl, hb⟩; refine ⟨_, rfl, ?_⟩; have hs_ := below_step hC_ hb; replace B0 := a_ (blk_below (g := g0) (o := .cells #[.int .i64 a0, .int .i64 a1, .slice A2 l2.length c2, .string a3] 37 (0, 0)) (by (with_reducible repeat (first | refine blk_drewN ?_ _ | refine blk_drew ?_ | refine blk_alloc ?_ _)); exact (hK_ B0.out)) hb); replace HX := a_ (below_step HX.out hs_); replace HB := a_ (Below.refl wc1.heap.size wc1); clear hs_ hb; (try clear z0 f0 z1 f1 z2 f2 z3 f3); obtain ⟨z0, z1, z2, z3, f0, f1, f2, f3⟩ := bx4_ B0.out))
   go_ret2
   exact ⟨hV_, below_step HX.out hC_⟩
  rw [if_neg c1] at h
  have c1b := decide_eq_false c1
  clear c1
  by_cases c2_ : a1 ≥ 512
  case pos =>
   rw [if_pos c2_] at h
   obtain ⟨rfl, rfl⟩ := Prod.mk.inj (Option.some.inj h)
   have c2b : decide (512 ≤ a1) = true := decide_eq_true c2_
   clear h c2_
   go_enter Tryd.func15, Tryd.ntmps15
   go_wp2_with (first
    | ((with_reducible refine gate_dst (N := 1) rfl ?_); refine boxE_ 1 #[.int .i64 a0, .int .i64 a1, .slice A2 l2.length c2, .string a3] 37 ?_; intro g0 hg wb1 hbox hb; have E0 := a_ (gE_ hg : w.heap.size ≤ g0); have B0 := a_ hbox; (try clear z0 f0 z1 f1 z2 f2 z3 f3); obtain ⟨z0, z1, z2, z3, f0, f1, f2, f3⟩ := bx4_ B0.out; have hs_ := below_step hC_ hb; replace HB := a_ hs_; clear hs_ hb hbox hg)
    | ((with_reducible refine gate_callee (f := 25) rfl ?_); refine goesL_ _ rfl rfl Tryd.func25 (by kernel_rfl) rfl #[.pointer (some ⟨g0, 0, none⟩)] rfl hL_ ?_; (with_reducible refine (trail_Equation.calls k ⟨g0, 0, none⟩ a0 a1 A2 c2 l2 a3 true _ ?s1 ?s2 ?s3 ?s4 ?s5 B1.out (GOK.below hG (below_step HX.out hC_))).mono ?_); (case s1 => exact (blk_cell (hK_ B0.out) 0).trans rfl); (case s2 => exact (blk_cell (hK_ B0.out) 2).trans rfl); (case s3 => exact (blk_cell (hK_ B0.out) 3).trans rfl); (case s4 => exact (Kd.C_below HR2.out (below_step HX.out hC_))); (case s5 => exact HC2.out); rintro e wc1 ⟨rfl, hb⟩; refine ⟨_, rfl, ?_⟩; have hs_ := below_step hC_ hb; replace B0 := a_ (blk_below (g := g0) (o := .cells #[.int .i64 a0, .int .i64 a1, .slice A2 l2.length c2, .string a3] 37 (0, 0)) (by (with_reducible repeat (first | refine blk_drewN ?_ _ | refine blk_drew ?_ | refine blk_alloc ?_ _)); exact (hK_ B0.out)) hb); replace HX := a_ (below_step HX.out hs_); replace HB := a_ (Below.refl wc1.heap.size wc1); clear hs_ hb; (try clear z0 f0 z1 f1 z2 f2 z3 f3); obtain ⟨z0, z1, z2, z3, f0, f1, f2, f3⟩ := bx4_ B0.out))
   go_ret2
   exact ⟨hV_, below_step HX.out hC_⟩
  rw [if_neg c2_] at h
  have c2b : decide (512 ≤ a1) = false := decide_eq_false c2_
  clear c2_
  unfold record_Put.m at h
  obtain ⟨t0, B2, h⟩ := Option.bind_eq_some_iff.mp h
  have B2 := a_ B2
  obtain ⟨t1, B3, h⟩ := Option.bind_eq_some_iff.mp h
  have B3 := a_ B3
  by_cases c3 : t0.size + t1.size ≤ 9223372036854775807
  case neg => rw [if_neg c3] at h; cases h
  rw [if_pos c3] at h
  have c3b0 := eq_true c3
  have c3b1 : decide (t0.size + t1.size ≤ 9223372036854775807) = true := decide_eq_true c3
  have c3b2 : (9223372036854775807 < t0.size + t1.size) = False := eq_false (Nat.not_lt.2 c3)
  obtain ⟨t2, B4, h⟩ := Option.bind_eq_some_iff.mp h
  have B4 := a_ B4
  by_cases c4 : (t0 ++ t1).size + t2.size ≤ 9223372036854775807
  case neg => rw [if_neg c4] at h; cases h
  rw [if_pos c4] at h
  have c4b0 := eq_true c4
  have c4b1 : decide ((t0 ++ t1).size + t2.size ≤ 9223372036854775807) = true := decide_eq_true c4
  have c4b2 : (9223372036854775807 < (t0 ++ t1).size + t2.size) = False := eq_false (Nat.not_lt.2 c4)
  have c4b3 : (9223372036854775807 < t0.size + t1.size + t2.size) = False := eq_false (Nat.not_lt.2 (by have h_ := c4; simp only [ByteArray.size_append] at h_; omega))
  have H' := a_ h
  clear h c3 c4
  go_enter Tryd.func15, Tryd.ntmps15
  go_upto_region 3 with (first
   | ((with_reducible refine gate_dst (N := 1) rfl ?_); refine boxE_ 1 #[.int .i64 a0, .int .i64 a1, .slice A2 l2.length c2, .string a3] 37 ?_; intro g0 hg wb1 hbox hb; have E0 := a_ (gE_ hg : w.heap.size ≤ g0); have B0 := a_ hbox; (try clear z0 f0 z1 f1 z2 f2 z3 f3); obtain ⟨z0, z1, z2, z3, f0, f1, f2, f3⟩ := bx4_ B0.out; have hs_ := below_step hC_ hb; replace HB := a_ hs_; clear hs_ hb hbox hg)
   | ((with_reducible refine gate_callee (f := 25) rfl ?_); refine goesL_ _ rfl rfl Tryd.func25 (by kernel_rfl) rfl #[.pointer (some ⟨g0, 0, none⟩)] rfl hL_ ?_; (with_reducible refine (trail_Equation.calls k ⟨g0, 0, none⟩ a0 a1 A2 c2 l2 a3 true _ ?s1 ?s2 ?s3 ?s4 ?s5 B1.out (GOK.below hG (below_step HX.out hC_))).mono ?_); (case s1 => exact (blk_cell (hK_ B0.out) 0).trans rfl); (case s2 => exact (blk_cell (hK_ B0.out) 2).trans rfl); (case s3 => exact (blk_cell (hK_ B0.out) 3).trans rfl); (case s4 => exact (Kd.C_below HR2.out (below_step HX.out hC_))); (case s5 => exact HC2.out); rintro e wc1 ⟨rfl, hb⟩; refine ⟨_, rfl, ?_⟩; have hs_ := below_step hC_ hb; replace B0 := a_ (blk_below (g := g0) (o := .cells #[.int .i64 a0, .int .i64 a1, .slice A2 l2.length c2, .string a3] 37 (0, 0)) (by (with_reducible repeat (first | refine blk_drewN ?_ _ | refine blk_drew ?_ | refine blk_alloc ?_ _)); exact (hK_ B0.out)) hb); replace HX := a_ (below_step HX.out hs_); replace HB := a_ (Below.refl wc1.heap.size wc1); clear hs_ hb; (try clear z0 f0 z1 f1 z2 f2 z3 f3); obtain ⟨z0, z1, z2, z3, f0, f1, f2, f3⟩ := bx4_ B0.out))
  refine start_ (n := 14) (S := fun w' => w'.cell? ⟨g0, 0, none⟩ = some (.int .i64 a0) ∧ w'.cell? ⟨g0, 1, none⟩ = some (.int .i64 a1) ∧ w'.cell? ⟨g0, 2, none⟩ = some (.slice A2 l2.length c2) ∧ w'.cell? ⟨g0, 3, none⟩ = some (.string a3)) (ds := []) #[false, false, false, false, false, false, false, false, false, false, false, false, false, false] (by kernel_rfl) rfl rfl ⟨(blk_cell B0.out 0).trans rfl, (blk_cell B0.out 1).trans rfl, (blk_cell B0.out 2).trans rfl, (blk_cell B0.out 3).trans rfl⟩ (fun hHeld => ?_)
  refine with_tabW record_Put.tab3 record_Put.bits3 (fun HT_ HW_ => ?_)
  refine pB_ 0 19 HT_.out ?_
  refine pB_ 3 22 HT_.out ?_
  refine pB_ 8 27 HT_.out ?_
  refine tB_ 1 20 HT_.out HW_.out hHeld ?_
  refine tB_ 4 23 HT_.out HW_.out hHeld ?_
  refine pB_ 5 24 HT_.out ?_
  refine tB_ 9 28 HT_.out HW_.out hHeld ?_
  refine pB_ 10 29 HT_.out ?_
  refine one_ (i := 2) (N := some 21) #[true, true, true, true, true, true, false, false, true, true, true, false, false, false] rfl rfl (one_of HT_.out (by kernel_rfl)) (by decide) (fun K hK => ?_)
  refine goes_ Tryd.func26 (by kernel_rfl) rfl #[.int .i64 a0, .int .i64 1] (by rfl) rfl rfl hL_ ?_
  (with_reducible refine (record_low.calls k a0 1 t0 _ B2.out).mono ?_)
  rintro e wc2 ⟨rfl, hb⟩
  refine ⟨_, rfl, ?_⟩
  have hs_ := below_step hC_ hb
  replace B0 := a_ (blk_below B0.out hs_)
  replace HX := a_ (below_step HX.out hs_)
  replace HB := a_ (Below.refl wc2.heap.size wc2)
  clear hs_ hb
  refine hK.out _ _ ⟨(blk_cell B0.out 0).trans rfl, (blk_cell B0.out 1).trans rfl, (blk_cell B0.out 2).trans rfl, (blk_cell B0.out 3).trans rfl⟩ (fun hHeld => ?_)
  clear hK K
  refine norm_ (a' := ?_) ?_ ?_
  rotate_left
  · show Act.put _ (some 21) _ = _
    simp only [Act.put, List.setIfInBounds_toArray, List.set_cons_zero, List.set_cons_succ, i64_w, i32_w]
    rfl
  refine one_ (i := 6) (N := some 25) #[true, true, true, true, true, true, true, false, true, true, true, false, false, false] rfl rfl (one_of HT_.out (by kernel_rfl)) (by decide) (fun K hK => ?_)
  refine goes_ Tryd.func26 (by kernel_rfl) rfl #[.int .i64 (wrap64 (a1 + 1)), .int .i64 2] (by rfl) rfl rfl hL_ ?_
  (with_reducible refine (record_low.calls k (wrap64 (a1 + 1)) 2 t1 _ B3.out).mono ?_)
  rintro e wc3 ⟨rfl, hb⟩
  refine ⟨_, rfl, ?_⟩
  have hs_ := below_step hC_ hb
  replace B0 := a_ (blk_below B0.out hs_)
  replace HX := a_ (below_step HX.out hs_)
  replace HB := a_ (Below.refl wc3.heap.size wc3)
  clear hs_ hb
  refine hK.out _ _ ⟨(blk_cell B0.out 0).trans rfl, (blk_cell B0.out 1).trans rfl, (blk_cell B0.out 2).trans rfl, (blk_cell B0.out 3).trans rfl⟩ (fun hHeld => ?_)
  clear hK K
  refine norm_ (a' := ?_) ?_ ?_
  rotate_left
  · show Act.put _ (some 25) _ = _
    simp only [Act.put, List.setIfInBounds_toArray, List.set_cons_zero, List.set_cons_succ, i64_w, i32_w]
    rfl
  refine pB_ 7 26 HT_.out ?_
  refine one_ (i := 11) (N := some 30) #[true, true, true, true, true, true, true, true, true, true, true, true, false, false] rfl rfl (one_of HT_.out (by kernel_rfl)) (by decide) (fun K hK => ?_)
  refine goes_ Tryd.func26 (by kernel_rfl) rfl #[.int .i64 (l2.length : Int), .int .i64 1] (by rfl) rfl rfl hL_ ?_
  (with_reducible refine (record_low.calls k (l2.length : Int) 1 t2 _ B4.out).mono ?_)
  rintro e wc4 ⟨rfl, hb⟩
  refine ⟨_, rfl, ?_⟩
  have hs_ := below_step hC_ hb
  replace B0 := a_ (blk_below B0.out hs_)
  replace HX := a_ (below_step HX.out hs_)
  replace HB := a_ (Below.refl wc4.heap.size wc4)
  clear hs_ hb
  refine hK.out _ _ ⟨(blk_cell B0.out 0).trans rfl, (blk_cell B0.out 1).trans rfl, (blk_cell B0.out 2).trans rfl, (blk_cell B0.out 3).trans rfl⟩ (fun hHeld => ?_)
  clear hK K
  refine norm_ (a' := ?_) ?_ ?_
  rotate_left
  · show Act.put _ (some 30) _ = _
    simp only [Act.put, List.setIfInBounds_toArray, List.set_cons_zero, List.set_cons_succ, i64_w, i32_w]
    rfl
  refine pB_ 12 31 HT_.out ?_
  refine pB_ 13 4 HT_.out ?_
  refine done_ (done_of HT_.out (by kernel_rfl)) ?_
  (try clear z0 f0 z1 f1 z2 f2 z3 f3)
  obtain ⟨z0, z1, z2, z3, f0, f1, f2, f3⟩ := bx4_ B0.out
  go_wp2
  go_loopg [4, 35] k (fun kq v4 v0 w' => ∃ (o : ByteArray) (x : Int), v4 = .string o ∧ v0 = .int .i64 x ∧ Aside0 (record_Put.l0 kq o x l2 a3 = some (r1, r2)) ∧ Aside0 (kq ≤ k) ∧ Aside0 (w'.heap[g0]? = some (.cells #[.int .i64 a0, .int .i64 a1, .slice A2 l2.length c2, .string a3] 37 (0, 0))) ∧ Aside0 (Below w.heap.size w w'))
  case atStart => exact ⟨_, _, hW_, hW_, H', ⟨Nat.le_refl _⟩, ⟨(hK_ B0.out)⟩, ⟨below_step HX.out hC_⟩⟩
  case round =>
   clear H' HB HX B0
   obtain ⟨o, x, rfl, rfl, HA, HK2, B0, HB⟩ := hrel
   cases gk with
   | zero => exact absurd HA.out (by simp [record_Put.l0])
   | succ k2 =>
    have H := HA.out
    clear HA
    simp only [record_Put.l0] at H
    by_cases c22 : x < (l2.length : Int)
    case neg =>
     rw [if_neg c22] at H
     have c22b0 : decide (x < (l2.length : Int)) = false := decide_eq_false c22
     clear c22
     obtain ⟨t, A28, H⟩ := Option.bind_eq_some_iff.mp H
     have A28 := a_ A28
     replace H := ifI_ H; obtain ⟨c29, H⟩ := H
     have c29b0 := eq_true c29
     have c29b1 : decide (o.size + t.size ≤ 9223372036854775807) = true := decide_eq_true c29
     have c29b2 : (9223372036854775807 < o.size + t.size) = False := eq_false (Nat.not_lt.2 c29)
     simp only [Option.some.injEq, Prod.mk.injEq] at H
     obtain ⟨rfl, rfl⟩ := H
     obtain ⟨z4, z5, z6, z7, f4, f5, f6, f7⟩ := bx4_ B0.out
     go_wp2_with (first | ((with_reducible refine gate_callee (f := 27) rfl ?_); refine goesL_ _ rfl rfl Tryd.func27 (by kernel_rfl) rfl #[.string a3] rfl hL_ ?_; (with_reducible refine (record_text.calls k2 a3 t _ A28.out).mono ?_); rintro e w0 ⟨rfl, hb⟩; refine ⟨_, rfl, ?_⟩; replace HB := a_ (below_step hC_ hb); clear hb))
     go_ret2
     exact ⟨hV_, hC_⟩
    rw [if_pos c22] at H
    have c22b0 : decide (x < (l2.length : Int)) = true := decide_eq_true c22
    clear c22
    replace H := ifI_ H; obtain ⟨c23, H⟩ := H
    have c23b0 : decide (0 ≤ x) = true := decide_eq_true c23
    clear c23
    obtain ⟨t, A24, H⟩ := Option.bind_eq_some_iff.mp H
    have A24 := a_ A24
    replace H := ifI_ H; obtain ⟨c25, H⟩ := H
    have c25b0 := eq_true c25
    have c25b1 : decide (o.size + t.size ≤ 9223372036854775807) = true := decide_eq_true c25
    have c25b2 : (9223372036854775807 < o.size + t.size) = False := eq_false (Nat.not_lt.2 c25)
    have H' := a_ H
    clear H
    have p272 : 0 ≤ (x : Int) := of_decide_eq_true hA_
    have q272 : x < (l2.length : Int) := of_decide_eq_true hA_
    obtain ⟨d0, e272, h0⟩ := Kd.at_string HR2.out x p272 q272
    cases e272
    replace h0 := cl_ HB.out h0
    replace p272 := eq_true p272
    replace q272 := eq_true q272
    go_wp2_with (first | ((with_reducible refine gate_callee (f := 27) rfl ?_); refine goesL_ _ rfl rfl Tryd.func27 (by kernel_rfl) rfl #[.string (rdOf ByteArray.empty l2 x)] rfl hL_ ?_; (with_reducible refine (record_text.calls k2 (rdOf ByteArray.empty l2 x) t _ A24.out).mono ?_); rintro e w1 ⟨rfl, hb⟩; refine ⟨_, rfl, ?_⟩; replace B0 := a_ (bB_ B0.out hb); replace HB := a_ (below_step hC_ hb); clear hb))
    go_roundg k2
    case measure => have := HK2.out; omega
    case rel => exact ⟨(o ++ t), (wrap64 (x + 1)), hW_, hW_, H', ⟨by have := HK2.out; omega⟩, ⟨(hK_ B0.out)⟩, ⟨hC_⟩⟩

set_option maxHeartbeats 8000000
set_option maxRecDepth 100000
attribute [local go_sem] max2_int min2_int max_two min_two max_three min_three max_four min_four   -- for this text's walks alone
set_option linter.unusedVariables false
set_option linter.unusedSimpArgs false

def frame_low.l0 : Nat → Int → List Int → Int → Int → Option (List Int)
 | 0, _, _, _, _ => none
 | k + 1, x0, x5, x6, x7 => if x7 < x6 then (if x5.length < 140737488355328 then (frame_low.l0 k (x0 / 256) (x5 ++ [(x0) % 256]) x6 (wrap64 (x7 + 1))) else (none)) else (some x5)
def frame_low.f (k : Nat) (a0 : Int) (a1 : Int) : Option (List Int) := frame_low.l0 k a0 ([] : List Int) a1 0
theorem frame_low.mono_l : ∀ k, (∀ y0 y1 y2 y3, LeO (frame_low.l0 k y0 y1 y2 y3) (frame_low.l0 (k + 1) y0 y1 y2 y3))
 | 0 => fun _ _ _ _ r h => by simp [frame_low.l0] at h
 | k + 1 => by
  have ih0 := frame_low.mono_l k
  · intro y0 y1 y2 y3
    unfold frame_low.l0
    repeat' first
    | (with_reducible exact ih0 _ _ _ _)
    | (with_reducible exact LeO.refl _)
    | (with_reducible exact LeO.none _)
    | (with_reducible refine LeO.ite ?_ ?_)
    | (with_reducible refine LeO.bind ?_ (fun _ => ?_))
    | exact ih0 _ _ _ _
    | exact LeO.none _
    | refine LeO.ite ?_ ?_
    | refine LeO.bind ?_ (fun _ => ?_)
theorem frame_low.mono : ∀ a0 a1 k, LeO (frame_low.f k a0 a1) (frame_low.f (k + 1) a0 a1) := by
 intro a0 a1 k
 have ih0 := frame_low.mono_l k
 unfold frame_low.f
 repeat' first
  | (with_reducible exact ih0 _ _ _ _)
  | (with_reducible exact LeO.refl _)
  | (with_reducible exact LeO.none _)
  | (with_reducible refine LeO.ite ?_ ?_)
  | (with_reducible refine LeO.bind ?_ (fun _ => ?_))
  | exact ih0 _ _ _ _
  | exact LeO.none _
  | refine LeO.ite ?_ ?_
  | refine LeO.bind ?_ (fun _ => ?_)
theorem frame_low.calls (k : Nat) (a0 : Int) (a1 : Int) (r : List Int) (w : World) (h : frame_low.f k a0 a1 = some r) :
 Calls Tryd.prog 28 #[.int .u32 a0, .int .i64 a1] w fun e w' => ∃ v0_ : Value, e = .returned (v0_) ∧ Kd.R (Kd.int .u8) 5 w' w.heap.size (fun _ => True) v0_ r ∧ Below w.heap.size w w' := by
 have HB := a_ (Below.refl w.heap.size w)
 have H : (frame_low.l0 k a0 ([] : List Int) a1 0) = some r := h
 clear h
 have H' := a_ H
 clear H
 go_enter Tryd.func28, Tryd.ntmps28
 go_wp2
 go_loopg [0, 5, 7] k (fun kq v0 v5 v7 w' => ∃ (x0 : Int) (x2 : List Int) (x1 : Int), v0 = .int .u32 x0 ∧ v7 = .int .i64 x1 ∧ Aside0 (frame_low.l0 kq x0 x2 a1 x1 = some r) ∧ Aside0 (kq ≤ k) ∧ Aside0 (Kd.R (Kd.int .u8) 5 w' w.heap.size (fun _ => True) v5 x2) ∧ Aside0 (Below w.heap.size w w'))
 case atStart => exact ⟨(a0), (([] : List Int)), (0), hW_, hW_, H', ⟨Nat.le_refl _⟩, ⟨by first | exact Kd.R_nil _ _ _ _ _ | exact Kd.N_nil _ _ _ _ _ | exact Kd.V_nil _ _ _ _ _ | exact Kd.Q_nil _ _ _ _ _ | exact Kd.S_nil _ _ _ _ _⟩, ⟨hC_⟩⟩
 case round =>
  clear H'
  try clear c2
  try clear p2
  obtain ⟨x0, x2, x1, rfl, rfl, HA, HK1, O0, HB⟩ := hrel
  cases gk with
  | zero => exact absurd HA.out (by simp [frame_low.l0])
  | succ k1 =>
   have H := HA.out
   clear HA
   simp only [frame_low.l0] at H
   by_cases c3 : x1 < a1
   case neg =>
    rw [if_neg c3] at H
    have c3b0 : decide (x1 < a1) = false := decide_eq_false c3
    clear c3
    obtain rfl := Option.some.inj H
    go_wp2
    go_ret
    exact ⟨_, hV_, hR_ O0.out, hC_⟩

   rw [if_pos c3] at H
   have c3b0 : decide (x1 < a1) = true := decide_eq_true c3
   clear c3
   replace H := ifI_ H; obtain ⟨c4, H⟩ := H
   have LMc4 := a_ c4
   clear c4
   obtain ⟨y0, i0⟩ : ∃ y_ : List Int, y_ = (x2 ++ [(x0) % 256]) := ⟨_, rfl⟩
   replace H : (frame_low.l0 k1 (x0 / 256) y0 a1 (wrap64 (x1 + 1))) = some r := by first | (rw [i0]; with_reducible exact H) | (have H2_ := (Option.bind_some _ _).symm.trans H; rw [i0]; with_reducible exact H2_) | (have H2_ := (Option.bind_some _ _).symm.trans H; with_reducible exact H2_) | with_reducible exact H | (rw [i0]; exact H) | exact H
   have Y0 := a_ i0
   clear i0
   have H' := a_ H
   clear H
   go_wp2_with (first | ((with_reducible refine gate_builtin (b := .append) (xs := #[.tmp 9, .tmp 12]) rfl ?_); at_builtin; refine Kd.R_append (Kd.int .u8) (w0 := w) w.heap.size rfl (.tmp 9) (.tmp 12) 41 5 (.int .u8 0) 1 rfl Tryd.underlying41 info5 rfl (by decide) (by omega) u5 x2 ((x0) % 256) [.int .u8 ((x0) % 256)] (fun _ => True) (fun _ => False) rfl rfl ?aP (fun _ hk => hk.elim) ?aF ?aO ?aB ?aS ?aL ?_; (case aP => exact rfl); (case aB => exact hB_); (case aF => exact (fun _ _ => trivial)); (case aO => exact (hR_ O0.out)); (case aS => exact hS_); (case aL => have := LMc4.out; omega); intro v1 w5 ho hb hg hat; rw [← Y0.out] at ho; replace HB := a_ (hb); have P0 := a_ (ho); clear O0; clear ho hb hg hat))
   go_roundg k1
   case measure => have := HK1.out; omega
   case rel => exact ⟨(x0 / 256), (y0), (wrap64 (x1 + 1)), hW_, hW_, H', ⟨by have := HK1.out; omega⟩, ⟨hR_ P0.out⟩, ⟨hC_⟩⟩
mutual
def frame_sum.l0 : Nat → ByteArray → Int → Int → Int → Option (Int)
 | 0, _, _, _, _ => none
 | k + 1, x0, x3, x7, x8 => if x8 < x7 then (if 0 ≤ x8 then (if x8 < (x0.size : Int) then (frame_sum.l1 k x0 (Go.bits .xor .u32 x3 ((bt x0 x8) % 4294967296)) x7 x8 0) else (none)) else (none)) else (some (Go.bits .xor .u32 4294967295 x3))
def frame_sum.l1 : Nat → ByteArray → Int → Int → Int → Int → Option (Int)
 | 0, _, _, _, _, _ => none
 | k + 1, x0, x3, x7, x8, x17 => if x17 < 8 then (if (Go.bits .and .u32 x3 1) = 1 then (frame_sum.l1 k x0 (Go.bits .xor .u32 (x3 / 2) 3988292384) x7 x8 (wrap64 (x17 + 1))) else (frame_sum.l1 k x0 (x3 / 2) x7 x8 (wrap64 (x17 + 1)))) else (frame_sum.l0 k x0 x3 x7 (wrap64 (x8 + 1)))
end
def frame_sum.f (k : Nat) (a0 : ByteArray) : Option (Int) := frame_sum.l0 k a0 4294967295 (a0.size : Int) 0
theorem frame_sum.mono_l : ∀ k, (∀ y0 y1 y2 y3, LeO (frame_sum.l0 k y0 y1 y2 y3) (frame_sum.l0 (k + 1) y0 y1 y2 y3)) ∧ (∀ y0 y1 y2 y3 y4, LeO (frame_sum.l1 k y0 y1 y2 y3 y4) (frame_sum.l1 (k + 1) y0 y1 y2 y3 y4))
 | 0 => ⟨fun _ _ _ _ r h => by simp [frame_sum.l0] at h, fun _ _ _ _ _ r h => by simp [frame_sum.l1] at h⟩
 | k + 1 => by
  obtain ⟨ih0, ih1⟩ := frame_sum.mono_l k
  refine ⟨?_, ?_⟩
  · intro y0 y1 y2 y3
    unfold frame_sum.l0
    repeat' first
    | (with_reducible exact ih0 _ _ _ _)
    | (with_reducible exact ih1 _ _ _ _ _)
    | (with_reducible exact LeO.refl _)
    | (with_reducible exact LeO.none _)
    | (with_reducible refine LeO.ite ?_ ?_)
    | (with_reducible refine LeO.bind ?_ (fun _ => ?_))
    | exact ih0 _ _ _ _
    | exact ih1 _ _ _ _ _
    | exact LeO.none _
    | refine LeO.ite ?_ ?_
    | refine LeO.bind ?_ (fun _ => ?_)
  · intro y0 y1 y2 y3 y4
    unfold frame_sum.l1
    repeat' first
    | (with_reducible exact ih0 _ _ _ _)
    | (with_reducible exact ih1 _ _ _ _ _)
    | (with_reducible exact LeO.refl _)
    | (with_reducible exact LeO.none _)
    | (with_reducible refine LeO.ite ?_ ?_)
    | (with_reducible refine LeO.bind ?_ (fun _ => ?_))
    | exact ih0 _ _ _ _
    | exact ih1 _ _ _ _ _
    | exact LeO.none _
    | refine LeO.ite ?_ ?_
    | refine LeO.bind ?_ (fun _ => ?_)
theorem frame_sum.mono : ∀ a0 k, LeO (frame_sum.f k a0) (frame_sum.f (k + 1) a0) := by
 intro a0 k
 obtain ⟨ih0, ih1⟩ := frame_sum.mono_l k
 unfold frame_sum.f
 repeat' first
  | (with_reducible exact ih0 _ _ _ _)
  | (with_reducible exact ih1 _ _ _ _ _)
  | (with_reducible exact LeO.refl _)
  | (with_reducible exact LeO.none _)
  | (with_reducible refine LeO.ite ?_ ?_)
  | (with_reducible refine LeO.bind ?_ (fun _ => ?_))
  | exact ih0 _ _ _ _
  | exact ih1 _ _ _ _ _
  | exact LeO.none _
  | refine LeO.ite ?_ ?_
  | refine LeO.bind ?_ (fun _ => ?_)
theorem frame_sum.calls (k : Nat) (a0 : ByteArray) (r : Int) (w : World) (h : frame_sum.f k a0 = some r) :
 Calls Tryd.prog 29 #[.string a0] w fun e w' => e = .returned (.int .u32 r) ∧ Drawn0 w w' := by
 have H := h; unfold frame_sum.f at H
 clear h
 have H' := a_ H
 clear H
 go_enter Tryd.func29, Tryd.ntmps29
 go_wp2
 go_loopg [3, 8] k (fun kq v3 v8 w' => ∃ (x3 : Int) (x0 : Int), v3 = .int .u32 x3 ∧ v8 = .int .i64 x0 ∧ Aside0 (frame_sum.l0 kq a0 x3 (a0.size : Int) x0 = some r) ∧ Aside0 (kq ≤ k) ∧ Drawn0 w w')
 case atStart => exact ⟨(4294967295), (0), hW_, hW_, H', ⟨Nat.le_refl _⟩, by repeat (first | exact Drawn0.refl _ | apply Drawn0.step)⟩
 case round =>
  clear H'
  obtain ⟨x3, x0, rfl, rfl, HA, HK1, ⟨m1, rfl⟩⟩ := hrel
  cases gk with
  | zero => exact absurd HA.out (by simp [frame_sum.l0])
  | succ k1 =>
   have H := HA.out
   clear HA
   simp only [frame_sum.l0] at H
   by_cases c2 : x0 < (a0.size : Int)
   case neg =>
    rw [if_neg c2] at H
    have c2b0 : decide (x0 < (a0.size : Int)) = false := decide_eq_false c2
    clear c2
    obtain rfl := Option.some.inj H
    go_wp2
    go_ret
    exact ⟨by first | rfl | (simp; done) | (simp [*]; done), by repeat (first | exact Drawn0.refl _ | apply Drawn0.step)⟩

   rw [if_pos c2] at H
   have c2b0 : decide (x0 < (a0.size : Int)) = true := decide_eq_true c2
   clear c2
   replace H := ifI_ H; obtain ⟨c3, H⟩ := H
   have c3b0 : decide (0 ≤ x0) = true := decide_eq_true c3
   clear c3
   replace H := ifI_ H; obtain ⟨c4, H⟩ := H
   have c4b0 : decide (x0 < (a0.size : Int)) = true := decide_eq_true c4
   clear c4
   have H' := a_ H
   clear H
   have p5 : 0 ≤ (x0 : Int) := of_decide_eq_true hA_
   have q5 : x0 < (a0.size : Int) := of_decide_eq_true hA_
   have h0 := bt_at a0 x0
   replace p5 := eq_true p5
   replace q5 := eq_true q5
   go_wp2
   go_loopg [3, 17] k1 (fun kq v3 v0 w' => ∃ (x1 : Int) (x2 : Int), v3 = .int .u32 x1 ∧ v0 = .int .i64 x2 ∧ Aside0 (frame_sum.l1 kq a0 x1 (a0.size : Int) x0 x2 = some r) ∧ Aside0 (kq ≤ k1) ∧ Drawn0 w w')
   case atStart => exact ⟨(Go.bits .xor .u32 x3 ((bt a0 x0) % 4294967296)), (0), hW_, hW_, H', ⟨Nat.le_refl _⟩, by repeat (first | exact Drawn0.refl _ | apply Drawn0.step)⟩
   case round =>
    clear H'
    try clear c2
    try clear c2b0
    try clear p2
    try clear c3
    try clear c3b0
    try clear c4
    try clear c4b0
    try clear p5
    try clear q5
    try clear h0
    try clear p5
    try clear q5
    obtain ⟨x1, x2, rfl, rfl, HA, HK2, ⟨m2, rfl⟩⟩ := hrel
    cases gk with
    | zero => exact absurd HA.out (by simp [frame_sum.l1])
    | succ k2 =>
     have H := HA.out
     clear HA
     simp only [frame_sum.l1] at H
     by_cases c6 : x2 < 8
     case neg =>
      rw [if_neg c6] at H
      have c6b0 : decide (x2 < 8) = false := decide_eq_false c6
      clear c6
      have H' := a_ H
      clear H
      go_wp2
      go_roundg k2
      case measure => have := HK1.out; have := HK2.out; omega
      case rel => exact ⟨(x1), (wrap64 (x0 + 1)), hW_, hW_, H', ⟨by have := HK1.out; have := HK2.out; omega⟩, by repeat (first | exact Drawn0.refl _ | apply Drawn0.step)⟩
     rw [if_pos c6] at H
     have c6b0 : decide (x2 < 8) = true := decide_eq_true c6
     clear c6
     by_cases c7 : (Go.bits .and .u32 x1 1) = 1
     case neg =>
      rw [if_neg c7] at H
      have c7b0 : ((Go.bits .and .u32 x1 1) == 1) = false := beq_eq_false_iff_ne.mpr c7
      have c7b1 : ((Go.bits .and .u32 x1 1) != 1) = true := bne_iff_ne.mpr c7
      have H' := a_ H
      clear H
      go_wp2
      go_roundg k2
      case measure => have := HK1.out; have := HK2.out; omega
      case rel => exact ⟨(x1 / 2), (wrap64 (x2 + 1)), hW_, hW_, H', ⟨by have := HK1.out; have := HK2.out; omega⟩, by repeat (first | exact Drawn0.refl _ | apply Drawn0.step)⟩
     rw [if_pos c7] at H
     have c7b0 : ((Go.bits .and .u32 x1 1) == 1) = true := beq_iff_eq.mpr c7
     have c7b1 : ((Go.bits .and .u32 x1 1) != 1) = false := bne_eq_false_iff_eq.mpr c7
     clear c7
     have H' := a_ H
     clear H
     go_wp2
     go_roundg k2
     case measure => have := HK1.out; have := HK2.out; omega
     case rel => exact ⟨(Go.bits .xor .u32 (x1 / 2) 3988292384), (wrap64 (x2 + 1)), hW_, hW_, H', ⟨by have := HK1.out; have := HK2.out; omega⟩, by repeat (first | exact Drawn0.refl _ | apply Drawn0.step)⟩
set_option maxHeartbeats 8000000
set_option maxRecDepth 100000
attribute [local go_sem] max2_int min2_int max_two min_two max_three min_three max_four min_four   -- for this text's walks alone
set_option linter.unusedVariables false
set_option linter.unusedSimpArgs false

def frame_Put.f (k : Nat) (a0 : ByteArray) : Option (ByteArray × Int) := if (a0.size : Int) > 8192 then (some ((⟨#[]⟩ : ByteArray), 1600)) else ((frame_low.f k (((a0.size : Int)) % 4294967296) 2).bind fun t145 => (if t145.length + a0.size < 140737488355328 then ((some (t145 ++ bytesOf a0 : List Int)).bind fun y148 => ((frame_sum.f k (strOfNums y148)).bind fun t151 => ((frame_low.f k t151 4).bind fun t152 => (if y148.length + t152.length < 140737488355328 then (some (strOfNums (y148 ++ t152), 0)) else (none))))) else (none)))
theorem frame_Put.mono : ∀ a0 k, LeO (frame_Put.f k a0) (frame_Put.f (k + 1) a0) := by
 intro a0 k
 unfold frame_Put.f
 repeat' first
  | (with_reducible exact frame_low.mono _ _ _)
  | (with_reducible exact frame_sum.mono _ _)
  | (with_reducible exact LeO.refl _)
  | (with_reducible exact LeO.none _)
  | (with_reducible refine LeO.ite ?_ ?_)
  | (with_reducible refine LeO.bind ?_ (fun _ => ?_))
  | exact frame_low.mono _ _ _
  | exact frame_sum.mono _ _
  | exact LeO.none _
  | refine LeO.ite ?_ ?_
  | refine LeO.bind ?_ (fun _ => ?_)
theorem frame_Put.calls (k : Nat) (a0 : ByteArray) (r1 : ByteArray) (r2 : Int) (w : World) (h : frame_Put.f k a0 = some (r1, r2)) :
 Calls Tryd.prog 16 #[.string a0] w fun e w' => e = .returned (.tuple #[.string r1, .int .i64 r2]) ∧ Below w.heap.size w w' := by
 have HB := a_ (Below.refl w.heap.size w)
 have H := h; unfold frame_Put.f at H
 clear h
 by_cases c2 : (a0.size : Int) > 8192
 case pos =>
  rw [if_pos c2] at H
  have c2b0 : decide (8192 < (a0.size : Int)) = true := decide_eq_true c2
  have c2b1 : decide (8192 < a0.size) = true := decide_eq_true (by omega)
  clear c2
  simp only [Option.some.injEq, Prod.mk.injEq] at H
  obtain ⟨rfl, rfl⟩ := H
  go_enter Tryd.func16, Tryd.ntmps16
  go_wp2
  go_ret2
  exact ⟨hV_, hC_⟩
 rw [if_neg c2] at H
 have c2b0 : decide (8192 < (a0.size : Int)) = false := decide_eq_false c2
 have c2b1 : decide (8192 < a0.size) = false := decide_eq_false (by omega)
 clear c2
 replace H := Option.bind_eq_some_iff.mp H
 obtain ⟨t2, A30, H⟩ := H
 try dsimp only at H
 have A3 := a_ A30
 clear A30
 replace H := ifI_ H; obtain ⟨c4, H⟩ := H
 have LMc4 := a_ c4
 clear c4
 obtain ⟨y0, i0⟩ : ∃ y_ : List Int, y_ = (t2 ++ bytesOf a0) := ⟨_, rfl⟩
 replace H : ((frame_sum.f k (strOfNums y0)).bind fun t1 => ((frame_low.f k t1 4).bind fun t0 => (if y0.length + t0.length < 140737488355328 then (some (strOfNums (y0 ++ t0), 0)) else (none)))) = some (r1, r2) := by first | (rw [i0]; with_reducible exact H) | (have H2_ := (Option.bind_some _ _).symm.trans H; rw [i0]; with_reducible exact H2_) | (have H2_ := (Option.bind_some _ _).symm.trans H; with_reducible exact H2_) | with_reducible exact H | (rw [i0]; exact H) | exact H
 have Y0 := a_ i0
 clear i0
 replace H := Option.bind_eq_some_iff.mp H
 obtain ⟨t1, A50, H⟩ := H
 try dsimp only at H
 have A5 := a_ A50
 clear A50
 replace H := Option.bind_eq_some_iff.mp H
 obtain ⟨t0, A60, H⟩ := H
 try dsimp only at H
 have A6 := a_ A60
 clear A60
 replace H := ifI_ H; obtain ⟨c7, H⟩ := H
 have LMc7 := a_ c7
 clear c7
 obtain ⟨y1, i1⟩ : ∃ y_ : List Int, y_ = (y0 ++ t0) := ⟨_, rfl⟩
 replace H : (some (strOfNums y1, 0)) = some (r1, r2) := by first | (rw [i1]; with_reducible exact H) | (have H2_ := (Option.bind_some _ _).symm.trans H; rw [i1]; with_reducible exact H2_) | (have H2_ := (Option.bind_some _ _).symm.trans H; with_reducible exact H2_) | with_reducible exact H | (rw [i1]; exact H) | exact H
 have Y1 := a_ i1
 clear i1
 simp only [Option.some.injEq, Prod.mk.injEq] at H
 obtain ⟨rfl, rfl⟩ := H
 go_enter Tryd.func16, Tryd.ntmps16
 go_wp2_with (first | ((with_reducible refine gate_callee (f := 28) rfl ?_); refine goesL_ (some 11) rfl rfl Tryd.func28 (by kernel_rfl) rfl #[.int .u32 (((a0.size : Int)) % 4294967296), .int .i64 2] rfl hL_ ?_; (with_reducible refine (frame_low.calls k (((a0.size : Int)) % 4294967296) 2 t2 _ A3.out).mono ?_); rintro e w8 ⟨v1, rfl, ho0, hb⟩; refine ⟨_, rfl, ?_⟩; have P2 := a_ (Kd.R_lower ho0 hS_); replace HB := a_ (below_step hB_ hb); (try clear hb); (try clear hb2); (try clear hk); (try clear hi); (try clear ho0)) | (at_builtin; refine print_append_str (w0 := w) w.heap.size rfl (.tmp 11) _ 41 9 5 rfl Tryd.underlying41 Tryd.underlying9 info5 v1 t2 a0 rfl rfl ?aO ?aB ?aS ?aL ?_; (case aB => exact hB_); (case aO => exact (Kd.own_of_R (hR_ P2.out))); (case aS => exact hS_); (case aL => have := LMc4.out; omega); intro v0 w9 ho0 hb hg; have ho := Kd.R_of_own (h1 := fun _ => rfl) (ok := fun _ => True) ho0 (fun _ _ => trivial); clear ho0; have hat := True.intro; rw [← Y0.out] at ho; change Kd.R (Kd.int .u8) 5 w9 w.heap.size (fun _ => True) v0 y0 at ho; replace HB := a_ (hb); have P0 := a_ (ho); clear P2; clear ho hb hg hat; have hcv10 := own_string (P := Tryd.prog) Tryd.underlying41 Tryd.underlying5 Tryd.underlying9 (Kd.own_of_R P0.out)) | ((with_reducible refine gate_callee (f := 29) rfl ?_); refine goesL_ _ rfl rfl Tryd.func29 (by kernel_rfl) rfl #[.string (strOfNums y0)] rfl hL_ ?_; (with_reducible refine (frame_sum.calls k (strOfNums y0) t1 _ A5.out).mono ?_); rintro e w' ⟨rfl, ⟨nd, rfl⟩⟩; refine ⟨_, rfl, ?_⟩) | ((with_reducible refine gate_callee (f := 28) rfl ?_); refine goesL_ (some 18) rfl rfl Tryd.func28 (by kernel_rfl) rfl #[.int .u32 t1, .int .i64 4] rfl hL_ ?_; (with_reducible refine (frame_low.calls k t1 4 t0 _ A6.out).mono ?_); rintro e w1 ⟨v2, rfl, ho0, hb⟩; refine ⟨_, rfl, ?_⟩; have P1 := a_ (Kd.R_lower (Kd.R_new' ho0 (Kd.R_lt (hR_ P0.out))) hS_); replace P0 := a_ (Kd.R_elder' (hR_ P0.out) (Kd.R_base ho0) hb); replace HB := a_ (below_step hB_ hb); (try clear hb); (try clear hb2); (try clear hk); (try clear hi); (try clear ho0); obtain ⟨a1, o0, e0⟩ := Kd.R_slice P1.out; subst e0) | ((with_reducible refine gate_builtin (b := .append) (xs := #[.tmp 14, .tmp 18]) rfl ?_); at_builtin; refine Kd.R_append_rows (Kd.int .u8) (w0 := w) w.heap.size rfl (.tmp 14) (.tmp 18) 41 5 (.int .u8 0) 1 rfl Tryd.underlying41 info5 rfl (by decide) (by omega) v0 y0 t0 _ _ _ (fun k_ => some k_ ≠ (.slice a1 t0.length o0 : Value).ownBlock) (fun _ => False) rfl rfl ?aO ?aR (fun _ _ h => h) (fun _ h => h.elim) ?aF ?aB ?aS ?aL ?_; (case aR => exact cC_ (Kd.R_reads' P1.out).2.2); (case aB => exact hB_); (case aF => exact (fun k_ hk => Kd.fresh' (Kd.R_lt (hR_ P1.out)) k_ hk)); (case aO => exact (by (with_reducible repeat (first | apply Kd.R_alloc | apply Kd.R_drewN | apply Kd.R_drew)); exact Kd.R_mono P0.out (fun _ hk => hk.2))); (case aS => exact hS_); (case aL => have := LMc7.out; omega); intro v3 w2 ho hb hg hat; rw [← Y1.out] at ho; replace P1 := a_ (Kd.R_after (ok := (fun _ => True)) (hR_ P1.out) hg hat); replace HB := a_ (hb); have P3 := a_ (ho); clear P0; clear ho hb hg hat; have hcv14 := own_string (P := Tryd.prog) Tryd.underlying41 Tryd.underlying5 Tryd.underlying9 (Kd.own_of_R P3.out)))
 go_ret2
 exact ⟨hV_, hC_⟩
end Go.Proofs.YtnhmmbgnaogokaaDoor.G
end
