/- Parts of this proof, one behind the other: G4, G5, G6, G7, G8, G9, G10, G11, G12, G21, G22. -/
import Derived.Test.YtifhpkakdlfgnaaDoorG0
import Derived.Test.YtifhpkakdlfgnaaDoorU2
section
namespace Go.Proofs.YtifhpkakdlfgnaaDoor.G
open Go.RowKit Go.Proofs.YtifhpkakdlfgnaaDoorW.PrintWords Go.Proofs.YtifhpkakdlfgnaaDoorW.PrintLast Go.Proofs.YtifhpkakdlfgnaaDoorW.PrintMore
set_option maxHeartbeats 8000000
set_option maxRecDepth 100000
attribute [local go_sem] max2_int min2_int max_two min_two max_three min_three max_four min_four   -- for this text's walks alone
set_option linter.unusedVariables false
set_option linter.unusedSimpArgs false

/-- where the first blank or bracket stands -/
abbrev seps : ByteArray := ⟨#[32, 40, 41]⟩
theorem rune_err (w : World) :
 Calls Tryd.prog 61 #[.string seps, .int .i32 65533] w fun e w' => e = .returned (.int .i64 (-1)) ∧ Below w.heap.size w w' := by
 have hnx0 := fun ty => run_next_ascii (P := Tryd.prog) w seps 0 ty (by decide) (by decide)
 have hnx1 := fun ty => run_next_ascii (P := Tryd.prog) w seps 1 ty (by decide) (by decide)
 have hnx2 := fun ty => run_next_ascii (P := Tryd.prog) w seps 2 ty (by decide) (by decide)
 have hnx3 := fun ty => run_next_end (P := Tryd.prog) w seps 3 ty (by decide)
 go_enter Tryd.func61, Tryd.ntmps61
 go_wp2
 go_loopg [5, 6] 3 (fun g _ _ wx => ∃ i : Nat, i + g = 3 ∧ wx = w.iter seps i)
 case atStart => exact ⟨0, rfl, rfl⟩
 case round =>
  obtain ⟨i, hi, rfl⟩ := hrel
  cases gk with
  | zero =>
   obtain rfl : i = 3 := by omega
   go_wp2
   go_ret
   exact ⟨rfl, by apply below_alloc; exact Below.refl _ _⟩
  | succ g =>
   rcases (show i = 0 ∨ i = 1 ∨ i = 2 by omega) with rfl | rfl | rfl
   all_goals go_wp2
   all_goals go_roundg g
   all_goals first | omega | exact ⟨_, by omega, rfl⟩
theorem rune_two (w : World) (c : Int) (hc : 128 ≤ c) (hc2 : c < 2048) (hv : Lib.validRune c = true) (hc3 : c ≠ 65533) :
 Calls Tryd.prog 61 #[.string seps, .int .i32 c] w fun e w' => e = .returned (.int .i64 (-1)) ∧ Below w.heap.size w w' := by
 obtain ⟨p1, p2, hxy, hy⟩ : ∃ p1 p2 : UInt8, Utf8.encode c = ⟨#[p1, p2]⟩ ∧ 128 ≤ p2.toNat := by
  have hv2 : Utf8.valid c = true := by
   rw [← hv]; unfold Utf8.valid Lib.validRune
   rw [Bool.eq_iff_iff]; simp; omega
  refine ⟨UInt8.ofNat (0xC0 + c.toNat / 64), UInt8.ofNat (0x80 + c.toNat % 64), ?_, ?_⟩
  · unfold Utf8.encode
    simp only [hv2, if_true]
    rw [if_neg (by omega), if_pos (by omega)]
  · simp; omega
 have hcv : ∀ W : World, (convert 21 9 (.int .i32 c)).run Tryd.prog W = .ok (.string ⟨#[p1, p2]⟩) W := by
  intro W
  rw [← hxy]
  simp [convert, run_underlying Tryd.underlying21, run_underlying Tryd.underlying9, Conv.intToString, Result.andThen]
 have n1 : (c == 65533) = false := beq_eq_false_iff_ne.2 (by omega)
 have n2 : decide (c < 128) = false := decide_eq_false (by omega)
 clear hxy
 go_enter Tryd.func61, Tryd.ntmps61
 go_wp2_with (first
  | (go_at_call 70; refine (Tryd.utf8_ValidRune _ _).mono ?_; rintro e w1 ⟨rfl, hw⟩; rw [hw, hv])
  )
 go_step3
 go_wp2
 go_loopg [9, 10] 1 (fun g v9 v0 wx => v9 = .int .i64 1 ∧ v0 = .int .i64 0 ∧ wx = w)
 case atStart => exact ⟨rfl, rfl, rfl⟩
 case round =>
  obtain ⟨rfl, rfl, rfl⟩ := hrel
  have hne : ((40 : Int) == (p2.toNat : Int)) = false := beq_eq_false_iff_ne.2 (by omega)
  have hb : 1 < ({ data := #[p1, p2] } : ByteArray).size := by show 1 < 2; decide
  have hne2 : ((seps[1].toNat : Int) != ((({ data := #[p1, p2] } : ByteArray)[1]'hb).toNat : Int)) = true := by
   show ((40 : Int) != (p2.toNat : Int)) = true
   rw [bne, hne]; rfl
  have hix : Lib.indexByte (seps.extract 2 3).data.toList ((p2.toNat : Int)).toNat.toUInt8 = -1 := by
   rw [show ((p2.toNat : Int)).toNat.toUInt8 = p2 by simp]
   show Lib.indexByte [41] p2 = -1
   unfold Lib.indexByte
   rw [if_neg (by intro h; have := beq_iff_eq.1 h; subst this; revert hy; decide)]; rfl
  have hw2 : IntKind.i64.wrap 2 = 2 := by decide
  have hwi : IntKind.i64.wrap (1 + 1) = 2 := by decide
  go_wp2
  go_step3
  go_wp2
  go_region
  simp only [Exit.then, hne2]
  go_wp2
  go_region_with (go_at_call 69; refine (Tryd.strings_IndexByte (seps.extract 2 3) (p2.toNat : Int) _).mono ?_; rintro e w2 ⟨rfl, hw2⟩; rw [hw2, hix])
  all_goals simp only [Exit.then]
  all_goals go_wp2
  all_goals simp only [Exit.noGoto, Exit.inBlock, Exit.then]
  all_goals go_ret
  all_goals exact ⟨rfl, by repeat (first | exact Below.refl _ _ | apply Below.drew)⟩
theorem rune_three (w : World) (c : Int) (hc : 2048 ≤ c) (hc2 : c < 65536) (hv : Lib.validRune c = true) (hc3 : c ≠ 65533) :
 Calls Tryd.prog 61 #[.string seps, .int .i32 c] w fun e w' => e = .returned (.int .i64 (-1)) ∧ Below w.heap.size w w' := by
 obtain ⟨p1, p2, p3, hxy, hy⟩ : ∃ p1 p2 p3 : UInt8, Utf8.encode c = ⟨#[p1, p2, p3]⟩ ∧ 128 ≤ p3.toNat := by
  have hv2 : Utf8.valid c = true := by
   rw [← hv]; unfold Utf8.valid Lib.validRune
   rw [Bool.eq_iff_iff]; simp; omega
  refine ⟨UInt8.ofNat (0xE0 + c.toNat / 4096), UInt8.ofNat (0x80 + c.toNat / 64 % 64), UInt8.ofNat (0x80 + c.toNat % 64), ?_, ?_⟩
  · unfold Utf8.encode
    simp only [hv2, if_true]
    rw [if_neg (by omega), if_neg (by omega), if_pos (by omega)]
  · simp; omega
 have hcv : ∀ W : World, (convert 21 9 (.int .i32 c)).run Tryd.prog W = .ok (.string ⟨#[p1, p2, p3]⟩) W := by
  intro W
  rw [← hxy]
  simp [convert, run_underlying Tryd.underlying21, run_underlying Tryd.underlying9, Conv.intToString, Result.andThen]
 have n1 : (c == 65533) = false := beq_eq_false_iff_ne.2 (by omega)
 have n2 : decide (c < 128) = false := decide_eq_false (by omega)
 clear hxy
 go_enter Tryd.func61, Tryd.ntmps61
 go_wp2_with (first
  | (go_at_call 70; refine (Tryd.utf8_ValidRune _ _).mono ?_; rintro e w1 ⟨rfl, hw⟩; rw [hw, hv])
  )
 go_step3
 go_wp2
 go_loopg [9, 10] 1 (fun g v9 v0 wx => v9 = .int .i64 2 ∧ v0 = .int .i64 0 ∧ wx = w)
 case atStart => exact ⟨rfl, rfl, rfl⟩
 case round =>
  obtain ⟨rfl, rfl, rfl⟩ := hrel
  have hne : ((41 : Int) == (p3.toNat : Int)) = false := beq_eq_false_iff_ne.2 (by omega)
  have hb : 2 < ({ data := #[p1, p2, p3] } : ByteArray).size := by show 2 < 3; decide
  have hne2 : ((seps[2].toNat : Int) != ((({ data := #[p1, p2, p3] } : ByteArray)[2]'hb).toNat : Int)) = true := by
   show ((41 : Int) != (p3.toNat : Int)) = true
   rw [bne, hne]; rfl
  have hix : Lib.indexByte (seps.extract 3 3).data.toList ((p3.toNat : Int)).toNat.toUInt8 = -1 := by
   rw [show ((p3.toNat : Int)).toNat.toUInt8 = p3 by simp]
   show Lib.indexByte [] p3 = -1
   unfold Lib.indexByte
   rfl
  have hw2 : IntKind.i64.wrap 3 = 3 := by decide
  have hwi : IntKind.i64.wrap (2 + 1) = 3 := by decide
  go_wp2
  go_step3
  go_wp2
  go_region
  simp only [Exit.then, hne2]
  go_wp2
  go_region_with (go_at_call 69; refine (Tryd.strings_IndexByte (seps.extract 3 3) (p3.toNat : Int) _).mono ?_; rintro e w2 ⟨rfl, hw2⟩; rw [hw2, hix])
  all_goals simp only [Exit.then]
  all_goals go_wp2
  all_goals simp only [Exit.noGoto, Exit.inBlock, Exit.then]
  all_goals go_ret
  all_goals exact ⟨rfl, by repeat (first | exact Below.refl _ _ | apply Below.drew)⟩
theorem rune_four (w : World) (c : Int) (hc : 65536 ≤ c) (hc2 : c < 2147483648) (hv : Lib.validRune c = true) (hc3 : c ≠ 65533) :
 Calls Tryd.prog 61 #[.string seps, .int .i32 c] w fun e w' => e = .returned (.int .i64 (-1)) ∧ Below w.heap.size w w' := by
 obtain ⟨p1, p2, p3, p4, hxy, hy⟩ : ∃ p1 p2 p3 p4 : UInt8, Utf8.encode c = ⟨#[p1, p2, p3, p4]⟩ ∧ 128 ≤ p4.toNat := by
  have hv2 : Utf8.valid c = true := by
   rw [← hv]; unfold Utf8.valid Lib.validRune
   rw [Bool.eq_iff_iff]; simp; omega
  refine ⟨UInt8.ofNat (0xF0 + c.toNat / 262144), UInt8.ofNat (0x80 + c.toNat / 4096 % 64), UInt8.ofNat (0x80 + c.toNat / 64 % 64), UInt8.ofNat (0x80 + c.toNat % 64), ?_, ?_⟩
  · unfold Utf8.encode
    simp only [hv2, if_true]
    rw [if_neg (by omega), if_neg (by omega), if_neg (by omega)]
  · simp; omega
 have hcv : ∀ W : World, (convert 21 9 (.int .i32 c)).run Tryd.prog W = .ok (.string ⟨#[p1, p2, p3, p4]⟩) W := by
  intro W
  rw [← hxy]
  simp [convert, run_underlying Tryd.underlying21, run_underlying Tryd.underlying9, Conv.intToString, Result.andThen]
 have n1 : (c == 65533) = false := beq_eq_false_iff_ne.2 (by omega)
 have n2 : decide (c < 128) = false := decide_eq_false (by omega)
 clear hxy
 go_enter Tryd.func61, Tryd.ntmps61
 go_wp2_with (first
  | (go_at_call 70; refine (Tryd.utf8_ValidRune _ _).mono ?_; rintro e w1 ⟨rfl, hw⟩; rw [hw, hv])
  )
 go_step3
 go_wp2
 go_loopg [9, 10] 1 (fun g v9 v0 wx => v9 = .int .i64 3 ∧ v0 = .int .i64 0 ∧ wx = w)
 case atStart => exact ⟨rfl, rfl, rfl⟩
 case round =>
  obtain ⟨rfl, rfl, rfl⟩ := hrel
  go_wp2
  simp only [Exit.noGoto_ret, Exit.noGoto_normal]
  go_ret
  exact ⟨rfl, Below.refl _ _⟩
theorem rune_high (w : World) (c : Int) (hc : 128 ≤ c) (hm : c ≤ 2147483647) (hv : c = 65533 ∨ Lib.validRune c = true) :
 Calls Tryd.prog 61 #[.string seps, .int .i32 c] w fun e w' => e = .returned (.int .i64 (-1)) ∧ Below w.heap.size w w' := by
 by_cases h3 : c = 65533
 case pos =>
  subst h3; exact rune_err w
 have hv := hv.resolve_left h3
 by_cases h1 : c < 2048
 case pos =>
  exact rune_two w c hc h1 hv h3
 by_cases h2 : c < 65536
 case pos =>
  exact rune_three w c (by omega) h2 hv h3
 exact rune_four w c (by omega) (by omega) hv h3
theorem get_bang (s : ByteArray) (i : Nat) (h : i < s.size) : s.get! i = s[i]'h := by
 simp [ByteArray.get!, getElem!_pos, h]; rfl
theorem dec_valid (s : ByteArray) (p : Nat) (h : p < s.size) (ha : 128 ≤ (s[p]'h).toNat) :
 ((Utf8.decode s p).1 : Int) = 65533 ∨ Lib.validRune ((Utf8.decode s p).1 : Int) = true := by
 have hb : ∀ k, (s.get! (p + k)).toNat < 256 := fun k => (s.get! (p + k)).toNat_lt
 have h0 := hb 0; have h1 := hb 1; have h2 := hb 2; have h3 := hb 3
 have hn : ¬ (s.get! (p + 0)).toNat < 128 := by rw [show p + 0 = p from rfl, get_bang s p h]; omega
 simp only [Utf8.decode, hn, if_false]
 repeat' split
 all_goals simp_all [Utf8.runeError, Lib.validRune, Utf8.valid]
 all_goals omega
theorem dec_high (s : ByteArray) (p : Nat) (h : p < s.size) (ha : 128 ≤ (s[p]'h).toNat) (j : Nat) (hj : p ≤ j) (hj2 : j < p + (Utf8.decode s p).2) (hjs : j < s.size) : 128 ≤ (s[j]'hjs).toNat := by
 have hn : ¬ (s.get! (p + 0)).toNat < 128 := by rw [show p + 0 = p from rfl, get_bang s p h]; omega
 have e1 : ∀ k, p + k < s.size → (s.get! (p + k)).toNat / 64 = 2 → ∀ hk : p + k < s.size, 128 ≤ (s[p + k]'hk).toNat := by
  intro k hk h2 hk'
  rw [get_bang s (p + k) hk] at h2
  omega
 obtain ⟨k, rfl⟩ : ∃ k, j = p + k := ⟨j - p, by omega⟩
 have hk4 : k < 4 := by
  revert hj2
  simp only [Utf8.decode, hn, if_false]
  repeat' split
  all_goals simp
  all_goals omega
 have hc : k = 0 ∨ (s.get! (p + k)).toNat / 64 = 2 := by
  revert hj2
  simp only [Utf8.decode, hn, if_false]
  rcases (show k = 0 ∨ k = 1 ∨ k = 2 ∨ k = 3 by omega) with rfl | rfl | rfl | rfl
  · intro _; exact .inl rfl
  all_goals repeat' split
  all_goals simp_all
 rcases hc with rfl | hc
 · exact ha
 · exact e1 k hjs hc hjs
theorem noany_skip (s : ByteArray) (p : Nat) (h : p < s.size) (ha : 128 ≤ (s[p]'h).toNat) (hno : Lib.NoAny s.data.toList seps.data.toList p) :
 Lib.NoAny s.data.toList seps.data.toList (p + (Utf8.decode s p).2) := by
 intro j b hj hb
 by_cases hjp : j < p
 case pos =>
  exact hno j b hjp hb
 have hjs : j < s.size := by
  have := (List.getElem?_eq_some_iff.1 hb).1
  rwa [← Lib.size_eq] at this
 have h1 := dec_high s p h ha j (by omega) hj hjs
 have h2 : s.data.toList[j]? = some (s[j]'hjs) := Lib.data_getElem? s j hjs
 rw [h2] at hb
 obtain rfl := Option.some.inj hb
 show [(32 : UInt8), 40, 41].contains (s[j]'hjs) = false
 generalize s[j]'hjs = b at h1
 rw [Bool.eq_false_iff]
 intro hc
 simp at hc
 rcases hc with rfl | rfl | rfl <;> revert h1 <;> decide
theorem any_short (s : ByteArray) (w : World) (h8 : s.size ≤ 8) :
 Calls Tryd.prog 50 #[.string s, .string seps] w fun e w' => e = .returned (.int .i64 (Lib.indexAny s.data.toList seps.data.toList)) ∧ Below w.heap.size w w' := by
 have hemp : seps.toList.isEmpty = false := by rw [Lib.toList_data]; rfl
 have hn1 : ((seps.size : Int) == 1) = false := by decide
 have h8z : decide ((8 : Int) < (s.size : Int)) = false := decide_eq_false (by omega)
 go_enter Tryd.func50, Tryd.ntmps50
 go_wp2_with (go_at_call 62; refine (Tryd.strings_shouldUseASCIISet _ _).mono ?_; rintro e w' ⟨rfl, hw⟩; rw [hw, h8z])
 go_loopg [9, 10] s.size (fun g _ _ wx => ∃ i : Nat, s.size ≤ i + g ∧ Below w.heap.size w wx ∧ wx.heap[w.heap.size]? = some (.stringIter s i) ∧ Lib.NoAny s.data.toList seps.data.toList i)
 case atStart => exact ⟨0, by omega, by apply below_alloc; exact Below.refl _ _, World.iter_heap _ _ _, Lib.NoAny.zero _ _⟩
 case round =>
  obtain ⟨i, hig, hB, hit, hno⟩ := hrel
  have HB : Aside (Below w.heap.size w wr) := hB
  have HN : Aside (Lib.NoAny s.data.toList seps.data.toList i) := hno
  clear hno
  by_cases hi : i < s.size
  case neg =>
   have hnx := fun ty => Lib.run_next_end_at (P := Tryd.prog) wr w.heap.size s i ty hit hi
   go_wp2
   go_ret
   exact ⟨by rw [Lib.indexAny_none (fun j b hj hb => HN.out j b (by have := (List.getElem?_eq_some_iff.1 hb).1; rw [← Lib.size_eq] at this; omega) hb)]; rfl, HB.out⟩
  cases gk with
  | zero => exact absurd hig (by omega)
  | succ g =>
   have hws : w.heap.size < wr.heap.size := (Array.getElem?_eq_some_iff.1 hit).1
   have hnx := fun ty => Lib.run_next_any_at (P := Tryd.prog) wr w.heap.size s i ty hit hi
   have hit2 := Lib.iterAt_heap wr w.heap.size s i (i + (Utf8.decode s i).2) hit
   have hB2 : Below w.heap.size w (wr.iterAt w.heap.size s (i + (Utf8.decode s i).2)) := Lib.below_iterAt hB (Nat.le_refl _) s _
   have hsz2 : (wr.iterAt w.heap.size s (i + (Utf8.decode s i).2)).heap.size = wr.heap.size := Lib.iterAt_size _ _ _ _
   generalize hx : s[i]'hi = x at *
   by_cases h0 : x.toNat < 128
   case neg =>
    have hxh : 128 ≤ (s[i]'hi).toNat := by rw [hx]; omega
    have hd := decode_high s i hi hxh
    have hdl := decode_le s i
    have hv := dec_valid s i hi hxh
    have HN2 : Aside (Lib.NoAny s.data.toList seps.data.toList (i + (Utf8.decode s i).2)) := noany_skip s i hi hxh HN.out
    clear hx hxh
    generalize Utf8.decode s i = d at *
    obtain ⟨d1, d2⟩ := d
    dsimp only at *
    have HB2 : Aside (Below w.heap.size w (wr.iterAt w.heap.size s (i + d2))) := hB2
    have HI2 : Aside ((wr.iterAt w.heap.size s (i + d2)).heap[w.heap.size]? = some (.stringIter s (i + d2))) := hit2
    clear hB2 hit2
    generalize wr.iterAt w.heap.size s (i + d2) = wx at *
    have hneg : ¬ ((0 : Int) ≤ -1) := by omega
    have HR : Aside (Calls Tryd.prog 61 #[.string seps, .int .i32 (d1 : Int)] wx fun e w' => e = .returned (.int .i64 (-1)) ∧ Below wx.heap.size wx w') := rune_high wx d1 (by omega) (by omega) hv
    clear hv hdl
    go_wp2_with (go_at_call 61; refine (HR.out).mono ?_; rintro e w' ⟨rfl, hb⟩; have HBr : Aside (Below wx.heap.size wx w') := hb; clear hb)
    go_roundg g
    case measure => omega
    case rel =>
     refine ⟨i + d2, by omega, below_step HB2.out HBr.out, ?_, HN2.out⟩
     rw [← HI2.out]
     exact (HBr.out.block _ (by omega))
   have hd := decode_ascii s i hi (by rw [hx]; exact h0)
   rw [hd] at hnx hit2 hB2 hsz2
   rw [hx] at hnx
   have hxl : s.data.toList[i]? = some x := by rw [← hx]; exact Lib.data_getElem? s i hi
   have hcon := Lib.contains_iff_indexByte seps.data.toList x
   have hback : ((x.toNat : Int)).toNat.toUInt8 = x := by simp
   have HB2 : Aside (Below w.heap.size w (wr.iterAt w.heap.size s (i + 1))) := hB2
   have HI2 : Aside ((wr.iterAt w.heap.size s (i + 1)).heap[w.heap.size]? = some (.stringIter s (i + 1))) := hit2
   have Hx : Aside (s.data.toList[i]? = some x) := hxl
   clear hxl hx hd hB2 hit2 hsz2
   generalize wr.iterAt w.heap.size s (i + 1) = wx at *
   cases hin : seps.data.toList.contains x
   · rw [hin] at hcon
     have hlt : ¬ ((0 : Int) ≤ Lib.indexByte seps.data.toList x) := of_decide_eq_false hcon.symm
     clear hcon
     go_wp2_with (go_at_call 61; refine (Tryd.strings_IndexRune_ascii _ _ _ (by omega) (by omega)).mono ?_; rintro e w' ⟨rfl, hw⟩; rw [hw, hback])
     go_roundg g
     case measure => omega
     case rel => exact ⟨i + 1, by omega, HB2.out, HI2.out, HN.out.succ Hx.out hin⟩
   · rw [hin] at hcon
     have hge : (0 : Int) ≤ Lib.indexByte seps.data.toList x := of_decide_eq_true hcon.symm
     clear hcon
     go_wp2_with (go_at_call 61; refine (Tryd.strings_IndexRune_ascii _ _ _ (by omega) (by omega)).mono ?_; rintro e w' ⟨rfl, hw⟩; rw [hw, hback])
     go_ret
     exact ⟨by rw [Lib.indexAny_hit HN.out Hx.out hin]; rfl, HB2.out⟩
def strings_IndexAny.f (a0 : ByteArray) (a1 : ByteArray) : Option Int := if a1 = seps ∧ a0.size < 4294967281 then some (Lib.indexAny a0.data.toList seps.data.toList) else none
theorem strings_IndexAny.calls (a0 : ByteArray) (a1 : ByteArray) (r : Int) (w : World) (h : strings_IndexAny.f a0 a1 = some r) :
 Calls Tryd.prog 50 #[.string a0, .string a1] w fun e w' => e = .returned (.int .i64 r) ∧ Below w.heap.size w w' := by
 unfold strings_IndexAny.f at h
 by_cases hc : a1 = seps ∧ a0.size < 4294967281
 case neg =>
  rw [if_neg hc] at h; cases h

 rw [if_pos hc] at h
 obtain rfl := Option.some.inj h
 obtain ⟨rfl, hs⟩ := hc
 by_cases h8 : a0.size ≤ 8
 case pos =>
  exact any_short a0 w h8
 refine (Tryd.strings_IndexAny_long (zero_of_info (n := 256) (by kernel_rfl)).1 a0 seps w (by decide) (by omega) hs (by decide) ?_).mono ?_
 · intro j b hb
   have : j < 3 := (List.getElem?_eq_some_iff.1 hb).1
   rcases (show j = 0 ∨ j = 1 ∨ j = 2 by omega) with rfl | rfl | rfl <;> (obtain rfl := Option.some.inj hb; decide)
 · rintro e w' ⟨rfl, rfl⟩
   exact ⟨rfl, by apply below_alloc; apply below_alloc; exact Below.refl _ _⟩
set_option maxHeartbeats 8000000
set_option maxRecDepth 100000
attribute [local go_sem] max2_int min2_int max_two min_two max_three min_three max_four min_four   -- for this text's walks alone
set_option linter.unusedVariables false
set_option linter.unusedSimpArgs false

def term_word.f (a0 : ByteArray) : Option (ByteArray × ByteArray) := (strings_IndexAny.f a0 (⟨#[32, 40, 41]⟩ : ByteArray)).bind fun t120 => (if t120 < 0 then (if 0 ≤ (a0.size : Int) then (if (a0.size : Int) ≤ (a0.size : Int) then (some (a0.extract 0 ((a0.size : Int) : Int).toNat, a0.extract ((a0.size : Int) : Int).toNat a0.size)) else (none)) else (none)) else (if 0 ≤ t120 then (if t120 ≤ (a0.size : Int) then (some (a0.extract 0 (t120 : Int).toNat, a0.extract (t120 : Int).toNat a0.size)) else (none)) else (none)))
theorem term_word.calls (a0 : ByteArray) (r1 : ByteArray) (r2 : ByteArray) (w : World) (h : term_word.f a0 = some (r1, r2)) :
 Calls Tryd.prog 44 #[.string a0] w fun e w' => e = .returned (.tuple #[.string r1, .string r2]) ∧ Below w.heap.size w w' := by
 have HB := a_ (Below.refl w.heap.size w)
 have H := h; unfold term_word.f at H
 clear h
 replace H := Option.bind_eq_some_iff.mp H
 obtain ⟨t0, A20, H⟩ := H
 try dsimp only at H
 have A2 := a_ A20
 clear A20
 by_cases c3 : t0 < 0
 case neg =>
  rw [if_neg c3] at H
  have c3b0 : decide (t0 < 0) = false := decide_eq_false c3
  clear c3
  replace H := ifI_ H; obtain ⟨c9, H⟩ := H
  have c9b0 := eq_true c9
  have c9b1 : decide (0 ≤ t0) = true := decide_eq_true c9
  clear c9
  replace H := ifI_ H; obtain ⟨c10, H⟩ := H
  have c10b0 := eq_true c10
  have c10b1 : decide (t0 ≤ (a0.size : Int)) = true := decide_eq_true c10
  clear c10
  have c11b0 := eq_true (of_decide_eq_true hA_ : 0 ≤ t0)
  have c12b0 := eq_true (of_decide_eq_true hA_ : t0 ≤ (a0.size : Int))
  simp only [Option.some.injEq, Prod.mk.injEq] at H
  obtain ⟨rfl, rfl⟩ := H
  go_enter Tryd.func44, Tryd.ntmps44
  go_wp2_with (first | (go_at_call 50; (with_reducible refine (strings_IndexAny.calls a0 (⟨#[32, 40, 41]⟩ : ByteArray) t0 _ A2.out).mono ?_); rintro e w0 ⟨rfl, hb⟩; replace HB := a_ (below_step hB_ hb); (try clear hb); (try clear hb2); (try clear hk); (try clear hi)))
  repeat (go_quiet (first | (go_at_call 50; (with_reducible refine (strings_IndexAny.calls a0 (⟨#[32, 40, 41]⟩ : ByteArray) t0 _ A2.out).mono ?_); rintro e w0 ⟨rfl, hb⟩; replace HB := a_ (below_step hB_ hb); (try clear hb); (try clear hb2); (try clear hk); (try clear hi))); try go_wp2_with (first | (go_at_call 50; (with_reducible refine (strings_IndexAny.calls a0 (⟨#[32, 40, 41]⟩ : ByteArray) t0 _ A2.out).mono ?_); rintro e w0 ⟨rfl, hb⟩; replace HB := a_ (below_step hB_ hb); (try clear hb); (try clear hb2); (try clear hk); (try clear hi))))
  go_ret2
  exact ⟨hV_, hC_⟩
 rw [if_pos c3] at H
 have c3b0 : decide (t0 < 0) = true := decide_eq_true c3
 clear c3
 replace H := ifI_ H; obtain ⟨c4, H⟩ := H
 have c4b0 := eq_true c4
 have c4b1 : decide (0 ≤ (a0.size : Int)) = true := decide_eq_true c4
 clear c4
 replace H := ifI_ H; obtain ⟨c5, H⟩ := H
 have c5b0 := eq_true c5
 have c5b1 : decide ((a0.size : Int) ≤ (a0.size : Int)) = true := decide_eq_true c5
 clear c5
 have c6b0 := eq_true (of_decide_eq_true hA_ : 0 ≤ (a0.size : Int))
 have c7b0 := eq_true (of_decide_eq_true hA_ : (a0.size : Int) ≤ (a0.size : Int))
 simp only [Option.some.injEq, Prod.mk.injEq] at H
 obtain ⟨rfl, rfl⟩ := H
 go_enter Tryd.func44, Tryd.ntmps44
 go_wp2_with (first | (go_at_call 50; (with_reducible refine (strings_IndexAny.calls a0 (⟨#[32, 40, 41]⟩ : ByteArray) t0 _ A2.out).mono ?_); rintro e w8 ⟨rfl, hb⟩; replace HB := a_ (below_step hB_ hb); (try clear hb); (try clear hb2); (try clear hk); (try clear hi)))
 repeat (go_quiet (first | (go_at_call 50; (with_reducible refine (strings_IndexAny.calls a0 (⟨#[32, 40, 41]⟩ : ByteArray) t0 _ A2.out).mono ?_); rintro e w8 ⟨rfl, hb⟩; replace HB := a_ (below_step hB_ hb); (try clear hb); (try clear hb2); (try clear hk); (try clear hi))); try go_wp2_with (first | (go_at_call 50; (with_reducible refine (strings_IndexAny.calls a0 (⟨#[32, 40, 41]⟩ : ByteArray) t0 _ A2.out).mono ?_); rintro e w8 ⟨rfl, hb⟩; replace HB := a_ (below_step hB_ hb); (try clear hb); (try clear hb2); (try clear hk); (try clear hi))))
 go_ret2
 exact ⟨hV_, hC_⟩
set_option maxHeartbeats 8000000
set_option maxRecDepth 100000
attribute [local go_sem] max2_int min2_int max_two min_two max_three min_three max_four min_four   -- for this text's walks alone
set_option linter.unusedVariables false
set_option linter.unusedSimpArgs false

def term_Number.f (a0 : ByteArray) : Option (Int × Bool) := if a0.size ≤ 281474976710656 then some (numF a0) else none
theorem term_Number.calls (a0 : ByteArray) (r1 : Int) (r2 : Bool) (w : World) (h : term_Number.f a0 = some (r1, r2)) (hG : GOK w) :
 Calls Tryd.prog 45 #[.string a0] w fun e w' => e = .returned (.tuple #[.int .i64 r1, .bool r2]) ∧ Below w.heap.size w w' := by
 unfold term_Number.f at h
 by_cases hs : a0.size ≤ 281474976710656
 case neg =>
  rw [if_neg hs] at h
  cases h

 rw [if_pos hs] at h
 have h := Option.some.inj h
 obtain ⟨rfl, rfl⟩ : r1 = (numF a0).1 ∧ r2 = (numF a0).2 := by rw [h]; exact ⟨rfl, rfl⟩
 clear h
 have hr := atoiF_range a0
 have hC := a_ (atoi_calls a0 hs w hG)
 have hn : (numF a0).1 = (atoiF a0).1 := by unfold numF atoiF; cases Lib.atoiAll a0.data.toList <;> rfl
 rw [hn]
 have hb : (numF a0).2 = ((atoiF a0).2 && ((decide (-32768 ≤ (atoiF a0).1) && decide ((atoiF a0).1 ≤ 32767)) && itoaK (atoiF a0).1 == a0.data.toList)) := by
  unfold numF atoiF; cases Lib.atoiAll a0.data.toList <;> rfl
 rw [hb]
 clear hn hb
 generalize (atoiF a0).1 = v at hr hC ⊢
 generalize (atoiF a0).2 = ok at hC ⊢
 cases ok with
 | false =>
  go_enter Tryd.func45, Tryd.ntmps45
  go_wp2_with (go_at_call 51; refine (hC.out).mono ?_; rintro e w1 ⟨⟨N, rfl⟩, hb⟩; have HB := a_ hb; clear hb; simp only [errV, Bool.false_eq_true, if_false])
  go_ret2
  exact ⟨rfl, by repeat (first | exact HB.out | apply below_alloc | apply pw_below_drewN | apply below_drew1)⟩
 | true =>
  by_cases c1 : -32768 ≤ v
  case neg =>
   have k1 : decide (-32768 ≤ v) = false := decide_eq_false c1
   have e1 : (true && ((decide (-32768 ≤ v) && decide (v ≤ 32767)) && itoaK v == a0.data.toList)) = false := by rw [k1]; rfl
   rw [e1]
   clear e1
   go_enter Tryd.func45, Tryd.ntmps45
   go_wp2_with (first
    | (go_at_call 51; refine (hC.out).mono ?_; rintro e w1 ⟨⟨N, rfl⟩, hb⟩; have HB := a_ hb; clear hb; simp only [errV, if_true])
    | go_in)
   go_ret2
   exact ⟨rfl, by repeat (first | exact HB.out | apply below_alloc | apply pw_below_drewN | apply below_drew1)⟩
  by_cases c2 : v ≤ 32767
  case neg =>
   have k1 : decide (-32768 ≤ v) = true := decide_eq_true c1
   have k2 : decide (v ≤ 32767) = false := decide_eq_false c2
   have e1 : (true && ((decide (-32768 ≤ v) && decide (v ≤ 32767)) && itoaK v == a0.data.toList)) = false := by rw [k1, k2]; rfl
   rw [e1]
   clear e1
   go_enter Tryd.func45, Tryd.ntmps45
   go_wp2_with (first
    | (go_at_call 51; refine (hC.out).mono ?_; rintro e w1 ⟨⟨N, rfl⟩, hb⟩; have HB := a_ hb; clear hb; simp only [errV, if_true])
    | go_in)
   go_ret2
   exact ⟨rfl, by repeat (first | exact HB.out | apply below_alloc | apply pw_below_drewN | apply below_drew1)⟩
  have k1 : decide (-32768 ≤ v) = true := decide_eq_true c1
  have k2 : decide (v ≤ 32767) = true := decide_eq_true c2
  have e1 : (true && ((decide (-32768 ≤ v) && decide (v ≤ 32767)) && itoaK v == a0.data.toList)) = (itoaK v == a0.data.toList) := by rw [k1, k2]; rfl
  rw [e1]
  clear e1
  go_enter Tryd.func45, Tryd.ntmps45
  go_wp2_with (first
   | (go_at_call 51; refine (hC.out).mono ?_; rintro e w1 ⟨⟨N, rfl⟩, hb⟩; have HB := a_ hb; have HG1 := hG.below hb; clear hb; simp only [errV, if_true])
   | (go_at_call 53; refine (itoa_calls v (by omega) (by omega) _ HG1).mono ?_; rintro e w2 ⟨rfl, hb⟩; have HB2 := a_ (below_step HB.out hb); clear hb)
   | go_in)
  go_ret2
  exact ⟨by rw [Lib.toList_data]; rfl, by repeat (first | exact HB2.out | apply below_alloc | apply pw_below_drewN | apply below_drew1)⟩
end Go.Proofs.YtifhpkakdlfgnaaDoor.G
end
section
namespace Go.Proofs.YtifhpkakdlfgnaaDoor.G
open Go.RowKit Go.Proofs.YtifhpkakdlfgnaaDoorW.PrintWords Go.Proofs.YtifhpkakdlfgnaaDoorW.PrintLast Go.Proofs.YtifhpkakdlfgnaaDoorW.PrintMore
attribute [local go_sem] max2_int min2_int max_two min_two max_three min_three max_four min_four
set_option linter.unusedVariables false
set_option linter.unusedSimpArgs false
def strings_CutPrefix.f (a0 : ByteArray) (a1 : ByteArray) : Option (ByteArray × Bool) := some (⟨(Lib.trimPrefix a0.data.toList a1.data.toList).toArray⟩, Lib.hasPrefix a0.data.toList a1.data.toList)
theorem strings_CutPrefix.calls (a0 : ByteArray) (a1 : ByteArray) (r1 : ByteArray) (r2 : Bool) (w : World) (h : strings_CutPrefix.f a0 a1 = some (r1, r2)) :
 Calls Tryd.prog 48 #[.string a0, .string a1] w fun e w' => e = .returned (.tuple #[.string r1, .bool r2]) ∧ Drawn0 w w' := by
 have h := Option.some.inj h
 obtain ⟨rfl, rfl⟩ := Prod.mk.inj h
 refine (Tryd.strings_CutPrefix a0 a1 w).mono ?_
 rintro e w' ⟨rfl, rfl⟩
 exact ⟨rfl, Drawn0.refl _⟩

end Go.Proofs.YtifhpkakdlfgnaaDoor.G
end
section
namespace Go.Proofs.YtifhpkakdlfgnaaDoor.G
open Go.RowKit Go.Proofs.YtifhpkakdlfgnaaDoorW.PrintWords Go.Proofs.YtifhpkakdlfgnaaDoorW.PrintLast Go.Proofs.YtifhpkakdlfgnaaDoorW.PrintMore
set_option maxHeartbeats 8000000
set_option maxRecDepth 100000
attribute [local go_sem] max2_int min2_int max_two min_two max_three min_three max_four min_four   -- for this text's walks alone
set_option linter.unusedVariables false
set_option linter.unusedSimpArgs false

def term_Digits.f (a0 : ByteArray) (a1 : Int) : Option (Int × Bool) := if a0.size ≤ 281474976710656 then some (digF a0 a1) else none
theorem term_Digits.calls (a0 : ByteArray) (a1 : Int) (r1 : Int) (r2 : Bool) (w : World) (h : term_Digits.f a0 a1 = some (r1, r2)) (hG : GOK w) :
 Calls Tryd.prog 54 #[.string a0, .int .i64 a1] w fun e w' => e = .returned (.tuple #[.int .i64 r1, .bool r2]) ∧ Below w.heap.size w w' := by
 unfold term_Digits.f at h
 by_cases hs : a0.size ≤ 281474976710656
 case neg =>
  rw [if_neg hs] at h
  cases h

 rw [if_pos hs] at h
 have h := Option.some.inj h
 obtain ⟨rfl, rfl⟩ : r1 = (digF a0 a1).1 ∧ r2 = (digF a0 a1).2 := by rw [h]; exact ⟨rfl, rfl⟩
 clear h
 have hr := atoiF_range a0
 have hC := a_ (atoi_calls a0 hs w hG)
 have hn : (digF a0 a1).1 = (atoiF a0).1 := by unfold digF atoiF; cases Lib.atoiAll a0.data.toList <;> rfl
 rw [hn]
 have hb : (digF a0 a1).2 = ((atoiF a0).2 && ((decide (0 ≤ (atoiF a0).1) && decide ((atoiF a0).1 ≤ a1)) && itoaK (atoiF a0).1 == a0.data.toList)) := by
  unfold digF atoiF; cases Lib.atoiAll a0.data.toList <;> rfl
 rw [hb]
 clear hn hb
 generalize (atoiF a0).1 = v at hr hC ⊢
 generalize (atoiF a0).2 = ok at hC ⊢
 cases ok with
 | false =>
  go_enter Tryd.func54, Tryd.ntmps54
  go_wp2_with (go_at_call 51; refine (hC.out).mono ?_; rintro e w1 ⟨⟨N, rfl⟩, hb⟩; have HB := a_ hb; clear hb; simp only [errV, Bool.false_eq_true, if_false])
  go_ret2
  exact ⟨rfl, by repeat (first | exact HB.out | apply below_alloc | apply pw_below_drewN | apply below_drew1)⟩
 | true =>
  by_cases c1 : 0 ≤ v
  case neg =>
   have k1 : decide (0 ≤ v) = false := decide_eq_false c1
   have e1 : (true && ((decide (0 ≤ v) && decide (v ≤ a1)) && itoaK v == a0.data.toList)) = false := by rw [k1]; rfl
   rw [e1]
   clear e1
   go_enter Tryd.func54, Tryd.ntmps54
   go_wp2_with (first
    | (go_at_call 51; refine (hC.out).mono ?_; rintro e w1 ⟨⟨N, rfl⟩, hb⟩; have HB := a_ hb; clear hb; simp only [errV, if_true])
    | go_in)
   go_ret2
   exact ⟨rfl, by repeat (first | exact HB.out | apply below_alloc | apply pw_below_drewN | apply below_drew1)⟩
  by_cases c2 : v ≤ a1
  case neg =>
   have k1 : decide (0 ≤ v) = true := decide_eq_true c1
   have k2 : decide (v ≤ a1) = false := decide_eq_false c2
   have e1 : (true && ((decide (0 ≤ v) && decide (v ≤ a1)) && itoaK v == a0.data.toList)) = false := by rw [k1, k2]; rfl
   rw [e1]
   clear e1
   go_enter Tryd.func54, Tryd.ntmps54
   go_wp2_with (first
    | (go_at_call 51; refine (hC.out).mono ?_; rintro e w1 ⟨⟨N, rfl⟩, hb⟩; have HB := a_ hb; clear hb; simp only [errV, if_true])
    | go_in)
   go_ret2
   exact ⟨rfl, by repeat (first | exact HB.out | apply below_alloc | apply pw_below_drewN | apply below_drew1)⟩
  have k1 : decide (0 ≤ v) = true := decide_eq_true c1
  have k2 : decide (v ≤ a1) = true := decide_eq_true c2
  have e1 : (true && ((decide (0 ≤ v) && decide (v ≤ a1)) && itoaK v == a0.data.toList)) = (itoaK v == a0.data.toList) := by rw [k1, k2]; rfl
  rw [e1]
  clear e1
  go_enter Tryd.func54, Tryd.ntmps54
  go_wp2_with (first
   | (go_at_call 51; refine (hC.out).mono ?_; rintro e w1 ⟨⟨N, rfl⟩, hb⟩; have HB := a_ hb; have HG1 := hG.below hb; clear hb; simp only [errV, if_true])
   | (go_at_call 53; refine (itoa_calls v (by omega) (by omega) _ HG1).mono ?_; rintro e w2 ⟨rfl, hb⟩; have HB2 := a_ (below_step HB.out hb); clear hb)
   | go_in)
  go_ret2
  exact ⟨by rw [Lib.toList_data]; rfl, by repeat (first | exact HB2.out | apply below_alloc | apply pw_below_drewN | apply below_drew1)⟩
set_option maxHeartbeats 8000000
set_option maxRecDepth 100000
attribute [local go_sem] max2_int min2_int max_two min_two max_three min_three max_four min_four   -- for this text's walks alone
set_option linter.unusedVariables false
set_option linter.unusedSimpArgs false

def term_Tag.f (a0 : ByteArray) : Option (Int × Bool) := (strings_CutPrefix.f a0 (⟨#[64]⟩ : ByteArray)).bind fun bt121 => ((term_Digits.f bt121.1 99).bind fun bt123 => (if bt121.2 = true then (some (bt123.1, bt123.2)) else (some (bt123.1, false))))
theorem term_Tag.calls (a0 : ByteArray) (r1 : Int) (r2 : Bool) (w : World) (h : term_Tag.f a0 = some (r1, r2)) (hG : GOK w) :
 Calls Tryd.prog 46 #[.string a0] w fun e w' => e = .returned (.tuple #[.int .i64 r1, .bool r2]) ∧ Below w.heap.size w w' := by
 have HB := a_ (Below.refl w.heap.size w)
 have H := h; unfold term_Tag.f at H
 clear h
 replace H := Option.bind_eq_some_iff.mp H
 obtain ⟨⟨t0, t3⟩, A20, H⟩ := H
 try dsimp only at H
 have A2 := a_ A20
 clear A20
 replace H := Option.bind_eq_some_iff.mp H
 obtain ⟨⟨t1, t2⟩, A30, H⟩ := H
 try dsimp only at H
 have A3 := a_ A30
 clear A30
 by_cases c4 : t3 = true
 case pos =>
  subst c4
  rw [if_pos rfl] at H
  simp only [Option.some.injEq, Prod.mk.injEq] at H
  obtain ⟨rfl, rfl⟩ := H
  go_enter Tryd.func46, Tryd.ntmps46
  go_wp2_with (first | ((with_reducible refine gate_callee (f := 48) rfl ?_); refine goesL_ _ rfl rfl Tryd.func48 (by kernel_rfl) rfl #[.string a0, .string (⟨#[64]⟩ : ByteArray)] rfl hL_ ?_; (with_reducible refine (strings_CutPrefix.calls a0 (⟨#[64]⟩ : ByteArray) t0 true _ A2.out).mono ?_); rintro e w' ⟨rfl, ⟨nd, rfl⟩⟩; refine ⟨_, rfl, ?_⟩) | ((with_reducible refine gate_callee (f := 54) rfl ?_); refine goesL_ (some 15) rfl rfl Tryd.func54 (by kernel_rfl) rfl #[.string t0, .int .i64 99] rfl hL_ ?_; (with_reducible refine (term_Digits.calls t0 99 t1 t2 _ A3.out hG_).mono ?_); rintro e w5 ⟨rfl, hb⟩; refine ⟨_, rfl, ?_⟩; replace HB := a_ (below_step hB_ hb); (try clear hb); (try clear hb2); (try clear hk); (try clear hi)))
  go_ret2
  exact ⟨hV_, hC_⟩
 replace c4 := Bool.eq_false_iff.mpr c4
 subst c4
 rw [if_neg (show ¬ (false = true) by decide)] at H
 simp only [Option.some.injEq, Prod.mk.injEq] at H
 obtain ⟨rfl, rfl⟩ := H
 go_enter Tryd.func46, Tryd.ntmps46
 go_wp2_with (first | ((with_reducible refine gate_callee (f := 48) rfl ?_); refine goesL_ _ rfl rfl Tryd.func48 (by kernel_rfl) rfl #[.string a0, .string (⟨#[64]⟩ : ByteArray)] rfl hL_ ?_; (with_reducible refine (strings_CutPrefix.calls a0 (⟨#[64]⟩ : ByteArray) t0 false _ A2.out).mono ?_); rintro e w' ⟨rfl, ⟨nd, rfl⟩⟩; refine ⟨_, rfl, ?_⟩) | ((with_reducible refine gate_callee (f := 54) rfl ?_); refine goesL_ (some 15) rfl rfl Tryd.func54 (by kernel_rfl) rfl #[.string t0, .int .i64 99] rfl hL_ ?_; (with_reducible refine (term_Digits.calls t0 99 t1 t2 _ A3.out hG_).mono ?_); rintro e w6 ⟨rfl, hb⟩; refine ⟨_, rfl, ?_⟩; replace HB := a_ (below_step hB_ hb); (try clear hb); (try clear hb2); (try clear hk); (try clear hi)))
 go_ret2
 exact ⟨hV_, hC_⟩

end Go.Proofs.YtifhpkakdlfgnaaDoor.G
end
section
namespace Go.Proofs.YtifhpkakdlfgnaaDoor.G
open Go.RowKit Go.Proofs.YtifhpkakdlfgnaaDoorW.PrintWords Go.Proofs.YtifhpkakdlfgnaaDoorW.PrintLast Go.Proofs.YtifhpkakdlfgnaaDoorW.PrintMore
attribute [local go_sem] max2_int min2_int max_two min_two max_three min_three max_four min_four
set_option linter.unusedVariables false
set_option linter.unusedSimpArgs false
def strings_HasPrefix.f (a0 : ByteArray) (a1 : ByteArray) : Option Bool := some (Lib.hasPrefix a0.data.toList a1.data.toList)
theorem strings_HasPrefix.calls (a0 : ByteArray) (a1 : ByteArray) (r : Bool) (w : World) (h : strings_HasPrefix.f a0 a1 = some r) :
 Calls Tryd.prog 47 #[.string a0, .string a1] w fun e w' => e = .returned (.bool r) ∧ Drawn0 w w' := by
 obtain rfl := Option.some.inj h
 refine (Tryd.strings_HasPrefix a0 a1 w).mono ?_
 rintro e w' ⟨rfl, rfl⟩
 exact ⟨rfl, Drawn0.refl _⟩

end Go.Proofs.YtifhpkakdlfgnaaDoor.G
end
section
namespace Go.Proofs.YtifhpkakdlfgnaaDoor.G
open Go.RowKit Go.Proofs.YtifhpkakdlfgnaaDoorW.PrintWords Go.Proofs.YtifhpkakdlfgnaaDoorW.PrintLast Go.Proofs.YtifhpkakdlfgnaaDoorW.PrintMore
set_option maxHeartbeats 8000000
set_option maxRecDepth 100000
attribute [local go_sem] max2_int min2_int max_two min_two max_three min_three max_four min_four   -- for this text's walks alone
set_option linter.unusedVariables false
set_option linter.unusedSimpArgs false

mutual
def term_cut.j0 : Nat → ByteArray → Int → Bool → Bool → Option (Int × Int × List ByteArray × ByteArray × Bool)
 | 0, _, _, _, _ => none
 | k + 1, x8, x11, x12, x52 => if x52 = true then (some (2, x11, ([] : List ByteArray), x8, x12)) else (term_cut.l0 k x8 x11 ([] : List ByteArray))
def term_cut.l0 : Nat → ByteArray → Int → List ByteArray → Option (Int × Int × List ByteArray × ByteArray × Bool)
 | 0, _, _, _ => none
 | k + 1, x8, x11, x13 => if (x13.length : Int) < 3 then (if 1 ≤ (x8.size : Int) then ((term_cut.f k (x8.extract 1 x8.size)).bind fun bt134 => (if bt134.2.2.2.2 = true then (if 0 ≤ (wrap64 (((x8.extract 1 x8.size).size : Int) - (bt134.2.2.2.1.size : Int))) then (if (wrap64 (((x8.extract 1 x8.size).size : Int) - (bt134.2.2.2.1.size : Int))) ≤ ((x8.extract 1 x8.size).size : Int) then (if x13.length < 8796093022208 then ((some (x13 ++ [(x8.extract 1 x8.size).extract 0 ((wrap64 (((x8.extract 1 x8.size).size : Int) - (bt134.2.2.2.1.size : Int))) : Int).toNat] : List ByteArray)).bind fun y141 => ((strings_HasPrefix.f bt134.2.2.2.1 (⟨#[32]⟩ : ByteArray)).bind fun t144 => (if t144 = true then (term_cut.l0 k bt134.2.2.2.1 x11 y141) else ((strings_CutPrefix.f bt134.2.2.2.1 (⟨#[41]⟩ : ByteArray)).bind fun bt145 => (some (2, x11, y141, bt145.1, bt145.2)))))) else (none)) else (none)) else (none)) else (some (0, 0, ([] : List ByteArray), (⟨#[]⟩ : ByteArray), false)))) else (none)) else ((strings_CutPrefix.f x8 (⟨#[41]⟩ : ByteArray)).bind fun bt132 => (some (2, x11, x13, bt132.1, bt132.2)))
def term_cut.f : Nat → ByteArray → Option (Int × Int × List ByteArray × ByteArray × Bool)
 | 0, _ => none
 | k + 1, a0 => (term_word.f a0).bind fun bt125 => (if bt125.1.toList = ([95] : List UInt8) then (some (0, 0, ([] : List ByteArray), bt125.2, true)) else (if bt125.1.toList = ([33] : List UInt8) then (some (3, 0, ([] : List ByteArray), bt125.2, true)) else ((term_Number.f bt125.1).bind fun bt127 => (if bt127.2 = true then (some (1, bt127.1, ([] : List ByteArray), bt125.2, true)) else ((term_Tag.f bt125.1).bind fun bt129 => (if bt129.2 = true then ((strings_HasPrefix.f bt125.2 (⟨#[40]⟩ : ByteArray)).bind fun t131 => (term_cut.j0 k bt125.2 bt129.1 bt129.2 (!t131))) else (term_cut.j0 k bt125.2 bt129.1 bt129.2 true)))))))
end
theorem term_cut.calls (k : Nat) : ∀ (a0 : ByteArray) (r1 : Int) (r2 : Int) (r3 : List ByteArray) (r4 : ByteArray) (r5 : Bool) (w : World) (h : term_cut.f k a0 = some (r1, r2, r3, r4, r5)) (hG : GOK w),
 Calls Tryd.prog 42 #[.string a0] w fun e w' => ∃ v2_ : Value, e = .returned (.tuple #[.int .i64 r1, .int .i64 r2, v2_, .string r4, .bool r5]) ∧ Kd.R Kd.string 9 w' w.heap.size (fun _ => True) v2_ r3 ∧ Below w.heap.size w w' := by
 induction k using Nat.strongRecOn with
 | _ k ih =>
 intro a0 r1 r2 r3 r4 r5 w h hG
 cases k with
 | zero => exact absurd h (by simp [term_cut.f])
 | succ k =>
 simp only [term_cut.f] at h
 have HB := a_ (Below.refl w.heap.size w)
 have H := h; unfold term_cut.f at H
 clear h
 replace H := Option.bind_eq_some_iff.mp H
 obtain ⟨⟨t0, t2⟩, A20, H⟩ := H
 try dsimp only at H
 have A2 := a_ A20
 clear A20
 by_cases c3 : t0.toList = ([95] : List UInt8)
 case pos =>
  rw [if_pos c3] at H
  have c3b0 : (t0.toList == ([95] : List UInt8)) = true := beq_iff_eq.mpr c3
  have c3b1 : (t0.toList != ([95] : List UInt8)) = false := bne_eq_false_iff_eq.mpr c3
  clear c3
  simp only [Option.some.injEq, Prod.mk.injEq] at H
  obtain ⟨rfl, rfl, rfl, rfl, rfl⟩ := H
  go_enter Tryd.func42, Tryd.ntmps42
  go_wp2_with (first | ((with_reducible refine gate_callee (f := 44) rfl ?_); refine goesL_ (some 24) rfl rfl Tryd.func44 (by kernel_rfl) rfl #[.string a0] rfl hL_ ?_; (with_reducible refine (term_word.calls a0 t0 t2 _ A2.out).mono ?_); rintro e w4 ⟨rfl, hb⟩; refine ⟨_, rfl, ?_⟩; replace HB := a_ (below_step hB_ hb); (try clear hb); (try clear hb2); (try clear hk); (try clear hi)))
  refine bodyPost_ret (results_list (rs := [.tmp 2, .tmp 3, .tmp 4, .tmp 5, .tmp 6]) rfl (by simp) (.tmp (.tmp (.tmp (.tmp (.tmp .nil)))))) rfl ?_
  exact ⟨_, hV_, by first | exact Kd.R_nil _ _ _ _ _ | exact Kd.N_nil _ _ _ _ _ | exact Kd.V_nil _ _ _ _ _ | exact Kd.Q_nil _ _ _ _ _ | exact Kd.S_nil _ _ _ _ _, hC_⟩
 rw [if_neg c3] at H
 have c3b0 : (t0.toList == ([95] : List UInt8)) = false := beq_eq_false_iff_ne.mpr c3
 have c3b1 : (t0.toList != ([95] : List UInt8)) = true := bne_iff_ne.mpr c3
 by_cases c5 : t0.toList = ([33] : List UInt8)
 case pos =>
  rw [if_pos c5] at H
  have c5b0 : (t0.toList == ([33] : List UInt8)) = true := beq_iff_eq.mpr c5
  have c5b1 : (t0.toList != ([33] : List UInt8)) = false := bne_eq_false_iff_eq.mpr c5
  clear c5
  simp only [Option.some.injEq, Prod.mk.injEq] at H
  obtain ⟨rfl, rfl, rfl, rfl, rfl⟩ := H
  go_enter Tryd.func42, Tryd.ntmps42
  go_wp2_with (first | ((with_reducible refine gate_callee (f := 44) rfl ?_); refine goesL_ (some 24) rfl rfl Tryd.func44 (by kernel_rfl) rfl #[.string a0] rfl hL_ ?_; (with_reducible refine (term_word.calls a0 t0 t2 _ A2.out).mono ?_); rintro e w6 ⟨rfl, hb⟩; refine ⟨_, rfl, ?_⟩; replace HB := a_ (below_step hB_ hb); (try clear hb); (try clear hb2); (try clear hk); (try clear hi)))
  refine bodyPost_ret (results_list (rs := [.tmp 2, .tmp 3, .tmp 4, .tmp 5, .tmp 6]) rfl (by simp) (.tmp (.tmp (.tmp (.tmp (.tmp .nil)))))) rfl ?_
  exact ⟨_, hV_, by first | exact Kd.R_nil _ _ _ _ _ | exact Kd.N_nil _ _ _ _ _ | exact Kd.V_nil _ _ _ _ _ | exact Kd.Q_nil _ _ _ _ _ | exact Kd.S_nil _ _ _ _ _, hC_⟩
 rw [if_neg c5] at H
 have c5b0 : (t0.toList == ([33] : List UInt8)) = false := beq_eq_false_iff_ne.mpr c5
 have c5b1 : (t0.toList != ([33] : List UInt8)) = true := bne_iff_ne.mpr c5
 replace H := Option.bind_eq_some_iff.mp H
 obtain ⟨⟨t9, t11⟩, A70, H⟩ := H
 try dsimp only at H
 have A7 := a_ A70
 clear A70
 by_cases c8 : t11 = true
 case pos =>
  subst c8
  rw [if_pos rfl] at H
  simp only [Option.some.injEq, Prod.mk.injEq] at H
  obtain ⟨rfl, rfl, rfl, rfl, rfl⟩ := H
  go_enter Tryd.func42, Tryd.ntmps42
  go_wp2_with (first | ((with_reducible refine gate_callee (f := 44) rfl ?_); refine goesL_ (some 24) rfl rfl Tryd.func44 (by kernel_rfl) rfl #[.string a0] rfl hL_ ?_; (with_reducible refine (term_word.calls a0 t0 t2 _ A2.out).mono ?_); rintro e w9 ⟨rfl, hb⟩; refine ⟨_, rfl, ?_⟩; replace HB := a_ (below_step hB_ hb); (try clear hb); (try clear hb2); (try clear hk); (try clear hi)) | ((with_reducible refine gate_callee (f := 45) rfl ?_); refine goesL_ (some 35) rfl rfl Tryd.func45 (by kernel_rfl) rfl #[.string t0] rfl hL_ ?_; (with_reducible refine (term_Number.calls t0 t9 true _ A7.out hG_).mono ?_); rintro e w1 ⟨rfl, hb⟩; refine ⟨_, rfl, ?_⟩; replace HB := a_ (below_step hB_ hb); (try clear hb); (try clear hb2); (try clear hk); (try clear hi)))
  refine bodyPost_ret (results_list (rs := [.tmp 2, .tmp 3, .tmp 4, .tmp 5, .tmp 6]) rfl (by simp) (.tmp (.tmp (.tmp (.tmp (.tmp .nil)))))) rfl ?_
  exact ⟨_, hV_, by first | exact Kd.R_nil _ _ _ _ _ | exact Kd.N_nil _ _ _ _ _ | exact Kd.V_nil _ _ _ _ _ | exact Kd.Q_nil _ _ _ _ _ | exact Kd.S_nil _ _ _ _ _, hC_⟩
 replace c8 := Bool.eq_false_iff.mpr c8
 subst c8
 rw [if_neg (show ¬ (false = true) by decide)] at H
 replace H := Option.bind_eq_some_iff.mp H
 obtain ⟨⟨t3, t5⟩, A110, H⟩ := H
 try dsimp only at H
 have A11 := a_ A110
 clear A110
 have HC12 := a_ H
 clear H
 go_enter Tryd.func42, Tryd.ntmps42
 go_upto_region 10 with (first | ((with_reducible refine gate_callee (f := 44) rfl ?_); refine goesL_ (some 24) rfl rfl Tryd.func44 (by kernel_rfl) rfl #[.string a0] rfl hL_ ?_; (with_reducible refine (term_word.calls a0 t0 t2 _ A2.out).mono ?_); rintro e w2 ⟨rfl, hb⟩; refine ⟨_, rfl, ?_⟩; replace HB := a_ (below_step hB_ hb); (try clear hb); (try clear hb2); (try clear hk); (try clear hi)) | ((with_reducible refine gate_callee (f := 45) rfl ?_); refine goesL_ (some 35) rfl rfl Tryd.func45 (by kernel_rfl) rfl #[.string t0] rfl hL_ ?_; (with_reducible refine (term_Number.calls t0 t9 false _ A7.out hG_).mono ?_); rintro e w3 ⟨rfl, hb⟩; refine ⟨_, rfl, ?_⟩; replace HB := a_ (below_step hB_ hb); (try clear hb); (try clear hb2); (try clear hk); (try clear hi)) | ((with_reducible refine gate_callee (f := 46) rfl ?_); refine goesL_ (some 43) rfl rfl Tryd.func46 (by kernel_rfl) rfl #[.string t0] rfl hL_ ?_; (with_reducible refine (term_Tag.calls t0 t3 t5 _ A11.out hG_).mono ?_); rintro e w5 ⟨rfl, hb⟩; refine ⟨_, rfl, ?_⟩; replace HB := a_ (below_step hB_ hb); (try clear hb); (try clear hb2); (try clear hk); (try clear hi)))
 (try simp only [Act.put, List.setIfInBounds_toArray, List.set_cons_zero, List.set_cons_succ])
 go_cut [52] (fun v1 wc => ∃ (kq : Nat) (x2 : Bool), v1 = .bool x2 ∧ Aside0 (term_cut.j0 kq t2 t3 t5 x2 = some (r1, r2, r3, r4, r5)) ∧ Aside0 (kq ≤ k) ∧ Aside0 (Below w.heap.size w wc))
 case first =>
  have H := HC12.out
  clear HC12
  by_cases c16 : t5 = true
  case neg =>
   replace c16 := Bool.eq_false_iff.mpr c16
   subst c16
   rw [if_neg (show ¬ (false = true) by decide)] at H
   have H' := a_ H
   clear H
   go_wp2
   go_meet
   case rel => exact ⟨_, (true), hW_, H', ⟨by first | omega | exact Nat.le_refl _⟩, ⟨hC_⟩⟩
  subst c16
  rw [if_pos rfl] at H
  replace H := Option.bind_eq_some_iff.mp H
  obtain ⟨t10, A170, H⟩ := H
  try dsimp only at H
  have A17 := a_ A170
  clear A170
  have H' := a_ H
  clear H
  go_wp2_with (first | (go_at_call 47; (with_reducible refine (strings_HasPrefix.calls t2 (⟨#[40]⟩ : ByteArray) t10 _ A17.out).mono ?_); rintro e w' ⟨rfl, ⟨nd, rfl⟩⟩))
  go_meet
  case rel => exact ⟨_, (!t10), hW_, H', ⟨by first | omega | exact Nat.le_refl _⟩, ⟨hC_⟩⟩
 case rest =>
  clear HC12
  try clear c1
  try clear p2
  try clear c3
  try clear c3b0
  try clear c3b1
  try clear c4
  try clear c5
  try clear c5b0
  try clear c5b1
  try clear c8
  try clear c16
  obtain ⟨kq, x2, rfl, HA, HJ11, HB⟩ := hcut
  cases kq with
  | zero => exact absurd HA.out (by simp [term_cut.j0])
  | succ kj11 =>
   have H := HA.out
   clear HA
   simp only [term_cut.j0] at H
   by_cases c18 : x2 = true
   case pos =>
    subst c18
    rw [if_pos rfl] at H
    simp only [Option.some.injEq, Prod.mk.injEq] at H
    obtain ⟨rfl, rfl, rfl, rfl, rfl⟩ := H
    go_wp2
    refine bodyPost_ret (results_list (rs := [.tmp 2, .tmp 3, .tmp 4, .tmp 5, .tmp 6]) rfl (by simp) (.tmp (.tmp (.tmp (.tmp (.tmp .nil)))))) rfl ?_
    exact ⟨_, hV_, by first | exact Kd.R_nil _ _ _ _ _ | exact Kd.N_nil _ _ _ _ _ | exact Kd.V_nil _ _ _ _ _ | exact Kd.Q_nil _ _ _ _ _ | exact Kd.S_nil _ _ _ _ _, hC_⟩
   replace c18 := Bool.eq_false_iff.mpr c18
   subst c18
   rw [if_neg (show ¬ (false = true) by decide)] at H
   have H' := a_ H
   clear H
   go_wp2
   go_loopg [8, 13] kj11 (fun kq v8 v2 w' => ∃ (x0 : ByteArray) (x1 : List ByteArray), v8 = .string x0 ∧ Aside0 (term_cut.l0 kq x0 t3 x1 = some (r1, r2, r3, r4, r5)) ∧ Aside0 (kq ≤ kj11) ∧ Aside0 (Kd.R Kd.string 9 w' w.heap.size (fun _ => True) v2 x1) ∧ Aside0 (Below w.heap.size w w'))
   case atStart => exact ⟨(t2), (([] : List ByteArray)), hW_, H', ⟨Nat.le_refl _⟩, ⟨by first | exact Kd.R_nil _ _ _ _ _ | exact Kd.N_nil _ _ _ _ _ | exact Kd.V_nil _ _ _ _ _ | exact Kd.Q_nil _ _ _ _ _ | exact Kd.S_nil _ _ _ _ _⟩, ⟨hC_⟩⟩
   case round =>
    clear H'
    try clear c1
    try clear p2
    try clear c3
    try clear c3b0
    try clear c3b1
    try clear c4
    try clear c5
    try clear c5b0
    try clear c5b1
    try clear c8
    try clear c16
    try clear c18
    try clear p2
    obtain ⟨x0, x1, rfl, HA, HK2, O0, HB⟩ := hrel
    cases gk with
    | zero => exact absurd HA.out (by simp [term_cut.l0])
    | succ k2 =>
     have H := HA.out
     clear HA
     simp only [term_cut.l0] at H
     by_cases c19 : (x1.length : Int) < 3
     case neg =>
      rw [if_neg c19] at H
      have c19b0 : decide ((x1.length : Int) < 3) = false := decide_eq_false c19
      have c19b1 : decide (x1.length < 3) = false := decide_eq_false (by omega)
      clear c19
      replace H := Option.bind_eq_some_iff.mp H
      obtain ⟨⟨t12, t13⟩, A380, H⟩ := H
      try dsimp only at H
      have A38 := a_ A380
      clear A380
      simp only [Option.some.injEq, Prod.mk.injEq] at H
      obtain ⟨rfl, rfl, rfl, rfl, rfl⟩ := H
      obtain ⟨a3, o2, e0⟩ := Kd.R_slice O0.out
      subst e0
      go_wp2_with (first | ((with_reducible refine gate_callee (f := 48) rfl ?_); refine goesL_ _ rfl rfl Tryd.func48 (by kernel_rfl) rfl #[.string x0, .string (⟨#[41]⟩ : ByteArray)] rfl hL_ ?_; (with_reducible refine (strings_CutPrefix.calls x0 (⟨#[41]⟩ : ByteArray) t12 t13 _ A38.out).mono ?_); rintro e w' ⟨rfl, ⟨nd, rfl⟩⟩; refine ⟨_, rfl, ?_⟩))
      refine bodyPost_ret (results_list (rs := [.tmp 2, .tmp 3, .tmp 4, .tmp 5, .tmp 6]) rfl (by simp) (.tmp (.tmp (.tmp (.tmp (.tmp .nil)))))) rfl ?_
      exact ⟨_, hV_, hR_ O0.out, hC_⟩

     rw [if_pos c19] at H
     have c19b0 : decide ((x1.length : Int) < 3) = true := decide_eq_true c19
     have c19b1 : decide (x1.length < 3) = true := decide_eq_true (by omega)
     clear c19
     replace H := ifI_ H; obtain ⟨c20, H⟩ := H
     have c20b0 := eq_true c20
     have c20b1 : decide (1 ≤ (x0.size : Int)) = true := decide_eq_true c20
     clear c20
     replace H := Option.bind_eq_some_iff.mp H
     obtain ⟨⟨t6, t7, t8, t1, t14⟩, A210, H⟩ := H
     try dsimp only at H
     have A21 := a_ A210
     clear A210
     by_cases c22 : t14 = true
     case neg =>
      replace c22 := Bool.eq_false_iff.mpr c22
      subst c22
      rw [if_neg (show ¬ (false = true) by decide)] at H
      simp only [Option.some.injEq, Prod.mk.injEq] at H
      obtain ⟨rfl, rfl, rfl, rfl, rfl⟩ := H
      obtain ⟨a4, o3, e1⟩ := Kd.R_slice O0.out
      subst e1
      go_wp2_with (first | ((with_reducible refine gate_callee (f := 42) rfl ?_); refine goesL_ (some 63) rfl rfl Tryd.func42 (by kernel_rfl) rfl #[.string (x0.extract 1 x0.size)] rfl hL_ ?_; (with_reducible refine (ih k2 (by have := HJ11.out; have := HK2.out; omega) (x0.extract 1 x0.size) t6 t7 t8 t1 false _ A21.out hG_).mono ?_); rintro e w7 ⟨v0, rfl, ho0, hb⟩; refine ⟨_, rfl, ?_⟩; have P0 := a_ (Kd.R_lower (Kd.R_new' ho0 (Kd.R_lt (hR_ O0.out))) hS_); replace O0 := a_ (Kd.R_elder' (hR_ O0.out) (Kd.R_base ho0) hb); replace HB := a_ (below_step hB_ hb); (try clear hb); (try clear hb2); (try clear hk); (try clear hi); (try clear ho0)))
      refine bodyPost_ret (results_list (rs := [.tmp 2, .tmp 3, .tmp 4, .tmp 5, .tmp 6]) rfl (by simp) (.tmp (.tmp (.tmp (.tmp (.tmp .nil)))))) rfl ?_
      exact ⟨_, hV_, by first | exact Kd.R_nil _ _ _ _ _ | exact Kd.N_nil _ _ _ _ _ | exact Kd.V_nil _ _ _ _ _ | exact Kd.Q_nil _ _ _ _ _ | exact Kd.S_nil _ _ _ _ _, hC_⟩
     subst c22
     rw [if_pos rfl] at H
     obtain ⟨ji23, hji23⟩ : ∃ j_ : Int, (wrap64 (((x0.extract 1 x0.size).size : Int) - (t1.size : Int))) = j_ := ⟨_, rfl⟩
     replace H : (if 0 ≤ (ji23) then (if (ji23) ≤ ((x0.extract 1 x0.size).size : Int) then (if x1.length < 8796093022208 then ((some (x1 ++ [(x0.extract 1 x0.size).extract 0 ((ji23) : Int).toNat] : List ByteArray)).bind fun y0 => ((strings_HasPrefix.f t1 (⟨#[32]⟩ : ByteArray)).bind fun t4 => (if t4 = true then (term_cut.l0 k2 t1 t3 y0) else ((strings_CutPrefix.f t1 (⟨#[41]⟩ : ByteArray)).bind fun bt145 => (some (2, t3, y0, bt145.1, bt145.2)))))) else (none)) else (none)) else (none)) = some (r1, r2, r3, r4, r5) := by first | (rw [hji23] at H; exact H) | (simp only [hji23] at H ⊢; exact H)
     (try rw [hji23] at A21)
     have hji23w : (IntKind.i64.wrap (((x0.extract 1 x0.size).size : Int) - (t1.size : Int))) = ji23 := (i64_w _).trans hji23
     (try (have hji23s := hji23; simp only [ByteArray.size_extract, Nat.min_self] at hji23s; have hji23sw := hji23w; simp only [ByteArray.size_extract, Nat.min_self] at hji23sw))
     replace H := ifI_ H; obtain ⟨c24, H⟩ := H
     have c24b0 := eq_true c24
     have c24b1 : decide (0 ≤ (ji23)) = true := decide_eq_true c24
     clear c24
     replace H := ifI_ H; obtain ⟨c25, H⟩ := H
     have c25b0 := eq_true c25
     (try (have c25b0s := c25b0; simp only [ByteArray.size_extract, Nat.min_self] at c25b0s))
     have c25b1 : decide ((ji23) ≤ ((x0.extract 1 x0.size).size : Int)) = true := decide_eq_true c25
     (try (have c25b1s := c25b1; simp only [ByteArray.size_extract, Nat.min_self] at c25b1s))
     clear c25
     replace H := ifI_ H; obtain ⟨c26, H⟩ := H
     have LMc26 := a_ c26
     clear c26
     obtain ⟨y0, i0⟩ : ∃ y_ : List ByteArray, y_ = (x1 ++ [(x0.extract 1 x0.size).extract 0 ((ji23) : Int).toNat]) := ⟨_, rfl⟩
     replace H : ((strings_HasPrefix.f t1 (⟨#[32]⟩ : ByteArray)).bind fun t4 => (if t4 = true then (term_cut.l0 k2 t1 t3 y0) else ((strings_CutPrefix.f t1 (⟨#[41]⟩ : ByteArray)).bind fun bt145 => (some (2, t3, y0, bt145.1, bt145.2))))) = some (r1, r2, r3, r4, r5) := by first | (rw [i0]; with_reducible exact H) | (have H2_ := (Option.bind_some _ _).symm.trans H; rw [i0]; with_reducible exact H2_) | (have H2_ := (Option.bind_some _ _).symm.trans H; with_reducible exact H2_) | with_reducible exact H | (rw [i0]; exact H) | exact H
     have Y0 := a_ i0
     clear i0
     replace H := Option.bind_eq_some_iff.mp H
     obtain ⟨t4, A270, H⟩ := H
     try dsimp only at H
     have A27 := a_ A270
     clear A270
     by_cases c28 : t4 = true
     case pos =>
      subst c28
      rw [if_pos rfl] at H
      have H' := a_ H
      clear H
      obtain ⟨a1, o0, e2⟩ := Kd.R_slice O0.out
      subst e2
      go_wp2_with (first | ((with_reducible refine gate_callee (f := 42) rfl ?_); refine goesL_ (some 63) rfl rfl Tryd.func42 (by kernel_rfl) rfl #[.string (x0.extract 1 x0.size)] rfl hL_ ?_; (with_reducible refine (ih k2 (by have := HJ11.out; have := HK2.out; omega) (x0.extract 1 x0.size) t6 t7 t8 t1 true _ A21.out hG_).mono ?_); rintro e w8 ⟨v0, rfl, ho0, hb⟩; refine ⟨_, rfl, ?_⟩; have P0 := a_ (Kd.R_lower (Kd.R_new' ho0 (Kd.R_lt (hR_ O0.out))) hS_); replace O0 := a_ (Kd.R_elder' (hR_ O0.out) (Kd.R_base ho0) hb); replace HB := a_ (below_step hB_ hb); (try clear hb); (try clear hb2); (try clear hk); (try clear hi); (try clear ho0)) | ((with_reducible refine gate_builtin (b := .append) (xs := #[.tmp 71, .tmp 79]) rfl ?_); at_builtin; refine Kd.R_append Kd.string (w0 := w) w.heap.size rfl (.tmp 71) (.tmp 79) 38 9 (.string ⟨#[]⟩) 16 rfl Tryd.underlying38 info9 rfl (by decide) (by omega) (.slice a1 x1.length o0) x1 ((x0.extract 1 x0.size).extract 0 ((ji23) : Int).toNat) [.string ((x0.extract 1 x0.size).extract 0 ((ji23) : Int).toNat)] (fun k_ => some k_ ≠ (v0 : Value).ownBlock) (fun _ => False) rfl rfl ?aP (fun _ hk => hk.elim) ?aF ?aO ?aB ?aS ?aL ?_; (case aP => exact rfl); (case aB => exact hB_); (case aF => exact (fun k_ hk => Kd.fresh' (Kd.R_lt (hR_ P0.out)) k_ hk)); (case aO => exact (by (with_reducible repeat (first | apply Kd.R_alloc | apply Kd.R_drewN | apply Kd.R_drew)); exact Kd.R_mono O0.out (fun _ hk => hk.2))); (case aS => exact hS_); (case aL => have := LMc26.out; omega); intro v3 w31 ho hb hg hat; rw [← Y0.out] at ho; replace P0 := a_ (Kd.R_after (ok := (fun _ => True)) (hR_ P0.out) hg hat); replace HB := a_ (hb); have P1 := a_ (ho); clear O0; clear ho hb hg hat) | ((with_reducible refine gate_callee (f := 47) rfl ?_); refine goesL_ _ rfl rfl Tryd.func47 (by kernel_rfl) rfl #[.string t1, .string (⟨#[32]⟩ : ByteArray)] rfl hL_ ?_; (with_reducible refine (strings_HasPrefix.calls t1 (⟨#[32]⟩ : ByteArray) true _ A27.out).mono ?_); rintro e w' ⟨rfl, ⟨nd, rfl⟩⟩; refine ⟨_, rfl, ?_⟩))
      go_roundg k2
      case measure => have := HJ11.out; have := HK2.out; omega
      case rel => exact ⟨(t1), (y0), hW_, H', ⟨by have := HJ11.out; have := HK2.out; omega⟩, ⟨hR_ (Kd.R_mono P1.out (fun _ hk => trivial))⟩, ⟨hC_⟩⟩
     replace c28 := Bool.eq_false_iff.mpr c28
     subst c28
     rw [if_neg (show ¬ (false = true) by decide)] at H
     replace H := Option.bind_eq_some_iff.mp H
     obtain ⟨⟨t15, t16⟩, A320, H⟩ := H
     try dsimp only at H
     have A32 := a_ A320
     clear A320
     simp only [Option.some.injEq, Prod.mk.injEq] at H
     obtain ⟨rfl, rfl, rfl, rfl, rfl⟩ := H
     obtain ⟨a2, o1, e3⟩ := Kd.R_slice O0.out
     subst e3
     go_wp2_with (first | ((with_reducible refine gate_callee (f := 42) rfl ?_); refine goesL_ (some 63) rfl rfl Tryd.func42 (by kernel_rfl) rfl #[.string (x0.extract 1 x0.size)] rfl hL_ ?_; (with_reducible refine (ih k2 (by have := HJ11.out; have := HK2.out; omega) (x0.extract 1 x0.size) t6 t7 t8 t1 true _ A21.out hG_).mono ?_); rintro e w34 ⟨v0, rfl, ho0, hb⟩; refine ⟨_, rfl, ?_⟩; have P0 := a_ (Kd.R_lower (Kd.R_new' ho0 (Kd.R_lt (hR_ O0.out))) hS_); replace O0 := a_ (Kd.R_elder' (hR_ O0.out) (Kd.R_base ho0) hb); replace HB := a_ (below_step hB_ hb); (try clear hb); (try clear hb2); (try clear hk); (try clear hi); (try clear ho0)) | ((with_reducible refine gate_builtin (b := .append) (xs := #[.tmp 71, .tmp 79]) rfl ?_); at_builtin; refine Kd.R_append Kd.string (w0 := w) w.heap.size rfl (.tmp 71) (.tmp 79) 38 9 (.string ⟨#[]⟩) 16 rfl Tryd.underlying38 info9 rfl (by decide) (by omega) (.slice a2 x1.length o1) x1 ((x0.extract 1 x0.size).extract 0 ((ji23) : Int).toNat) [.string ((x0.extract 1 x0.size).extract 0 ((ji23) : Int).toNat)] (fun k_ => some k_ ≠ (v0 : Value).ownBlock) (fun _ => False) rfl rfl ?aP (fun _ hk => hk.elim) ?aF ?aO ?aB ?aS ?aL ?_; (case aP => exact rfl); (case aB => exact hB_); (case aF => exact (fun k_ hk => Kd.fresh' (Kd.R_lt (hR_ P0.out)) k_ hk)); (case aO => exact (by (with_reducible repeat (first | apply Kd.R_alloc | apply Kd.R_drewN | apply Kd.R_drew)); exact Kd.R_mono O0.out (fun _ hk => hk.2))); (case aS => exact hS_); (case aL => have := LMc26.out; omega); intro v3 w35 ho hb hg hat; rw [← Y0.out] at ho; replace P0 := a_ (Kd.R_after (ok := (fun _ => True)) (hR_ P0.out) hg hat); replace HB := a_ (hb); have P1 := a_ (ho); clear O0; clear ho hb hg hat) | ((with_reducible refine gate_callee (f := 47) rfl ?_); refine goesL_ _ rfl rfl Tryd.func47 (by kernel_rfl) rfl #[.string t1, .string (⟨#[32]⟩ : ByteArray)] rfl hL_ ?_; (with_reducible refine (strings_HasPrefix.calls t1 (⟨#[32]⟩ : ByteArray) false _ A27.out).mono ?_); rintro e w' ⟨rfl, ⟨nd, rfl⟩⟩; refine ⟨_, rfl, ?_⟩) | ((with_reducible refine gate_callee (f := 48) rfl ?_); refine goesL_ _ rfl rfl Tryd.func48 (by kernel_rfl) rfl #[.string t1, .string (⟨#[41]⟩ : ByteArray)] rfl hL_ ?_; (with_reducible refine (strings_CutPrefix.calls t1 (⟨#[41]⟩ : ByteArray) t15 t16 _ A32.out).mono ?_); rintro e w' ⟨rfl, ⟨nd, rfl⟩⟩; refine ⟨_, rfl, ?_⟩))
     refine bodyPost_ret (results_list (rs := [.tmp 2, .tmp 3, .tmp 4, .tmp 5, .tmp 6]) rfl (by simp) (.tmp (.tmp (.tmp (.tmp (.tmp .nil)))))) rfl ?_
     exact ⟨_, by first | rfl | (simp [errW_none, errW_some] <;> rfl) | (simp only [← hji23]; first | rfl | (simp [errW_none, errW_some] <;> rfl)) | (simp [*, errW_none, errW_some] <;> rfl), hR_ (Kd.R_mono P1.out (fun _ hk => trivial)), hC_⟩
set_option maxHeartbeats 8000000
set_option maxRecDepth 100000
attribute [local go_sem] max2_int min2_int max_two min_two max_three min_three max_four min_four   -- for this text's walks alone
set_option linter.unusedVariables false
set_option linter.unusedSimpArgs false

def term_May.f (k : Nat) (a0 : ByteArray) : Option (Bool) := if (a0.size : Int) > 1024 then (some false) else ((term_cut.f k a0).bind fun bt147 => (if bt147.2.2.2.2 = true then (some (bt147.2.2.2.1.toList == ([] : List UInt8))) else (some false)))
theorem term_May.calls (k : Nat) (a0 : ByteArray) (r : Bool) (w : World) (h : term_May.f k a0 = some r) (hG : GOK w) :
 Calls Tryd.prog 40 #[.string a0] w fun e w' => e = .returned (.bool r) ∧ Below w.heap.size w w' := by
 have HB := a_ (Below.refl w.heap.size w)
 have H := h; unfold term_May.f at H
 clear h
 by_cases c2 : (a0.size : Int) > 1024
 case pos =>
  rw [if_pos c2] at H
  have c2b0 : decide (1024 < (a0.size : Int)) = true := decide_eq_true c2
  have c2b1 : decide (1024 < a0.size) = true := decide_eq_true (by omega)
  clear c2
  obtain rfl := Option.some.inj H
  go_enter Tryd.func40, Tryd.ntmps40
  go_wp2
  go_ret
  exact ⟨hV_, hC_⟩
 rw [if_neg c2] at H
 have c2b0 : decide (1024 < (a0.size : Int)) = false := decide_eq_false c2
 have c2b1 : decide (1024 < a0.size) = false := decide_eq_false (by omega)
 clear c2
 replace H := Option.bind_eq_some_iff.mp H
 obtain ⟨⟨t0, t1, t2, t3, t4⟩, A30, H⟩ := H
 try dsimp only at H
 have A3 := a_ A30
 clear A30
 by_cases c4 : t4 = true
 case pos =>
  subst c4
  rw [if_pos rfl] at H
  obtain rfl := Option.some.inj H
  go_enter Tryd.func40, Tryd.ntmps40
  go_wp2_with (first | ((with_reducible refine gate_callee (f := 42) rfl ?_); refine goesL_ (some 13) rfl rfl Tryd.func42 (by kernel_rfl) rfl #[.string a0] rfl hL_ ?_; (with_reducible refine (term_cut.calls k a0 t0 t1 t2 t3 true _ A3.out hG_).mono ?_); rintro e w5 ⟨v0, rfl, ho0, hb⟩; refine ⟨_, rfl, ?_⟩; have P0 := a_ (Kd.R_lower ho0 hS_); replace HB := a_ (below_step hB_ hb); (try clear hb); (try clear hb2); (try clear hk); (try clear hi); (try clear ho0)))
  go_ret
  exact ⟨hV_, hC_⟩
 replace c4 := Bool.eq_false_iff.mpr c4
 subst c4
 rw [if_neg (show ¬ (false = true) by decide)] at H
 obtain rfl := Option.some.inj H
 go_enter Tryd.func40, Tryd.ntmps40
 go_wp2_with (first | ((with_reducible refine gate_callee (f := 42) rfl ?_); refine goesL_ (some 13) rfl rfl Tryd.func42 (by kernel_rfl) rfl #[.string a0] rfl hL_ ?_; (with_reducible refine (term_cut.calls k a0 t0 t1 t2 t3 false _ A3.out hG_).mono ?_); rintro e w6 ⟨v0, rfl, ho0, hb⟩; refine ⟨_, rfl, ?_⟩; have P0 := a_ (Kd.R_lower ho0 hS_); replace HB := a_ (below_step hB_ hb); (try clear hb); (try clear hb2); (try clear hk); (try clear hi); (try clear ho0)))
 go_ret
 exact ⟨hV_, hC_⟩

def term_All.l0 : Nat → List ByteArray → Int → Int → Option (Bool)
 | 0, _, _, _ => none
 | k + 1, x5, x6, x7 => if x7 < x6 then (if 0 ≤ x7 then (if x7 < (x5.length : Int) then ((term_May.f k (rdOf ByteArray.empty x5 x7)).bind fun t155 => (if t155 = true then (term_All.l0 k x5 x6 (wrap64 (x7 + 1))) else (some false))) else (none)) else (none)) else (some true)
def term_All.f (k : Nat) (l0 : List ByteArray) : Option (Bool) := term_All.l0 k l0 (l0.length : Int) 0
theorem term_All.calls (k : Nat) (A0 : Option Addr) (c0 : Nat) (l0 : List ByteArray) (r : Bool) (w : World) (hr0 : Kd.C Kd.string w A0 l0.length l0) (hc0 : l0.length ≤ c0) (h : term_All.f k l0 = some r) (hG : GOK w) :
 Calls Tryd.prog 39 #[.slice A0 l0.length c0] w fun e w' => e = .returned (.bool r) ∧ Below w.heap.size w w' := by
 have HR0 := a_ hr0
 have HC0 := a_ hc0
 clear hr0 hc0
 have HB := a_ (Below.refl w.heap.size w)
 have H : (term_All.l0 k l0 (l0.length : Int) 0) = some r := h
 clear h
 have H' := a_ H
 clear H
 go_enter Tryd.func39, Tryd.ntmps39
 go_wp2
 go_loopg [7] k (fun kq v7 w' => ∃ (x0 : Int), v7 = .int .i64 x0 ∧ Aside0 (term_All.l0 kq l0 (l0.length : Int) x0 = some r) ∧ Aside0 (kq ≤ k) ∧ Aside0 (Below w.heap.size w w'))
 case atStart => exact ⟨(0), hW_, H', ⟨Nat.le_refl _⟩, ⟨hC_⟩⟩
 case round =>
  clear H'
  obtain ⟨x0, rfl, HA, HK1, HB⟩ := hrel
  cases gk with
  | zero => exact absurd HA.out (by simp [term_All.l0])
  | succ k1 =>
   have H := HA.out
   clear HA
   simp only [term_All.l0] at H
   by_cases c2 : x0 < (l0.length : Int)
   case neg =>
    rw [if_neg c2] at H
    have c2b0 : decide (x0 < (l0.length : Int)) = false := decide_eq_false c2
    clear c2
    obtain rfl := Option.some.inj H
    go_wp2
    go_ret
    exact ⟨hV_, hC_⟩

   rw [if_pos c2] at H
   have c2b0 : decide (x0 < (l0.length : Int)) = true := decide_eq_true c2
   clear c2
   replace H := ifI_ H; obtain ⟨c3, H⟩ := H
   have c3b0 : decide (0 ≤ x0) = true := decide_eq_true c3
   clear c3
   replace H := ifI_ H; obtain ⟨c4, H⟩ := H
   have c4b0 : decide (x0 < (l0.length : Int)) = true := decide_eq_true c4
   clear c4
   replace H := Option.bind_eq_some_iff.mp H
   obtain ⟨t0, A50, H⟩ := H
   try dsimp only at H
   have A5 := a_ A50
   clear A50
   by_cases c6 : t0 = true
   case neg =>
    replace c6 := Bool.eq_false_iff.mpr c6
    subst c6
    rw [if_neg (show ¬ (false = true) by decide)] at H
    obtain rfl := Option.some.inj H
    have p154 : 0 ≤ (x0 : Int) := of_decide_eq_true hA_
    have q154 : x0 < (l0.length : Int) := of_decide_eq_true hA_
    obtain ⟨d0, e154, h0⟩ := Kd.at_string HR0.out x0 p154 q154
    cases e154
    replace h0 := cl_ HB.out h0
    replace p154 := eq_true p154
    replace q154 := eq_true q154
    go_wp2_with (first | ((with_reducible refine gate_callee (f := 40) rfl ?_); refine goesL_ (some 12) rfl rfl Tryd.func40 (by kernel_rfl) rfl #[.string (rdOf ByteArray.empty l0 x0)] rfl hL_ ?_; (with_reducible refine (term_May.calls k1 (rdOf ByteArray.empty l0 x0) false _ A5.out hG_).mono ?_); rintro e w8 ⟨rfl, hb⟩; refine ⟨_, rfl, ?_⟩; replace HB := a_ (below_step hB_ hb); (try clear hb); (try clear hb2); (try clear hk); (try clear hi)))
    go_ret
    exact ⟨hV_, hC_⟩
   subst c6
   rw [if_pos rfl] at H
   have H' := a_ H
   clear H
   have p154 : 0 ≤ (x0 : Int) := of_decide_eq_true hA_
   have q154 : x0 < (l0.length : Int) := of_decide_eq_true hA_
   obtain ⟨d0, e154, h0⟩ := Kd.at_string HR0.out x0 p154 q154
   cases e154
   replace h0 := cl_ HB.out h0
   replace p154 := eq_true p154
   replace q154 := eq_true q154
   go_wp2_with (first | ((with_reducible refine gate_callee (f := 40) rfl ?_); refine goesL_ (some 12) rfl rfl Tryd.func40 (by kernel_rfl) rfl #[.string (rdOf ByteArray.empty l0 x0)] rfl hL_ ?_; (with_reducible refine (term_May.calls k1 (rdOf ByteArray.empty l0 x0) true _ A5.out hG_).mono ?_); rintro e w7 ⟨rfl, hb⟩; refine ⟨_, rfl, ?_⟩; replace HB := a_ (below_step hB_ hb); (try clear hb); (try clear hb2); (try clear hk); (try clear hi)))
   go_roundg k1
   case measure => have := HK1.out; omega
   case rel => exact ⟨(wrap64 (x0 + 1)), hW_, H', ⟨by have := HK1.out; omega⟩, ⟨hC_⟩⟩
set_option maxHeartbeats 8000000
set_option maxRecDepth 100000
attribute [local go_sem] max2_int min2_int max_two min_two max_three min_three max_four min_four   -- for this text's walks alone
set_option linter.unusedVariables false
set_option linter.unusedSimpArgs false

def sleuthref12_upTo.f (a0 : Int) (a1 : Int) (a2 : Int) : Option (Bool) := if a0 ≥ a1 then (some (decide (a0 ≤ a2))) else (some false)
theorem sleuthref12_upTo.calls (a0 : Int) (a1 : Int) (a2 : Int) (r : Bool) (w : World) (h : sleuthref12_upTo.f a0 a1 a2 = some r) :
 Calls Tryd.prog 25 #[.int .i64 a0, .int .i64 a1, .int .i64 a2] w fun e w' => e = .returned (.bool r) ∧ Drawn0 w w' := by
 have H := h; unfold sleuthref12_upTo.f at H
 clear h
 by_cases c4 : a0 ≥ a1
 case pos =>
  rw [if_pos c4] at H
  have c4b0 : decide (a1 ≤ a0) = true := decide_eq_true c4
  clear c4
  obtain rfl := Option.some.inj H
  go_enter Tryd.func25, Tryd.ntmps25
  go_wp2
  go_ret
  exact ⟨by first | rfl | (simp; done) | (simp [*]; done), by repeat (first | exact Drawn0.refl _ | apply Drawn0.step)⟩
 rw [if_neg c4] at H
 have c4b0 : decide (a1 ≤ a0) = false := decide_eq_false c4
 clear c4
 obtain rfl := Option.some.inj H
 go_enter Tryd.func25, Tryd.ntmps25
 go_wp2
 go_ret
 exact ⟨by first | rfl | (simp; done) | (simp [*]; done), by repeat (first | exact Drawn0.refl _ | apply Drawn0.step)⟩

def sleuthref1_bad.f  : Option (Int × Int × List ByteArray × Int) := some (0, 0, ([] : List ByteArray), (-1))
theorem sleuthref1_bad.calls  (r1 : Int) (r2 : Int) (r3 : List ByteArray) (r4 : Int) (w : World) (h : sleuthref1_bad.f  = some (r1, r2, r3, r4)) :
 Calls Tryd.prog 57 #[] w fun e w' => ∃ v2_ : Value, e = .returned (.agg #[.int .i64 r1, .int .i64 r2, v2_, .int .i64 r4]) ∧ Kd.R Kd.string 9 w' w.heap.size (fun _ => True) v2_ r3 ∧ Below w.heap.size w w' := by
 have hu77 := Tryd.underlying77
 have HB := a_ (Below.refl w.heap.size w)
 have H := h; unfold sleuthref1_bad.f at H
 clear h
 simp only [Option.some.injEq, Prod.mk.injEq] at H
 obtain ⟨rfl, rfl, rfl, rfl⟩ := H
 go_enter Tryd.func57, Tryd.ntmps57
 go_wp2_with (first | ((with_reducible refine gate_dst (N := 0) rfl ?_); refine boxE_ 0 #[.int .i64 0, .int .i64 0, .slice none 0 0, .int .i64 0] 77 ?_; intro g0 hg w1 hbox hb; have B0 := a_ (hbox); have E0 := a_ ((gE_ hg : w.heap.size ≤ g0)); replace HB := a_ (below_step hB_ hb); clear hb hbox hg; obtain ⟨z0, z1, z2, z3, f0, f1, f2, f3⟩ := bx4_ B0.out))
 refine bodyPost_ret (results_cell_row rfl _ _ g0 77 #[.int .i64 0, .int .i64 0, .slice none 0 0, .int .i64 (-1)] (0, 0) _ rfl (bP_ (bP_ (bP_ (bP_ (hK_ B0.out))))) Tryd.underlying77 rfl (by kernel_rfl)) rfl ?_
 exact ⟨_, hV_, by first | exact Kd.R_nil _ _ _ _ _ | exact Kd.N_nil _ _ _ _ _ | exact Kd.V_nil _ _ _ _ _ | exact Kd.Q_nil _ _ _ _ _ | exact Kd.S_nil _ _ _ _ _, hC_⟩

def sleuthref1_digits.l0 : Nat → ByteArray → Int → Int → Option (Int × Int)
 | 0, _, _, _ => none
 | k + 1, x0, x4, x5 => if x5 < (x0.size : Int) then (if x5 < 6 then (if 0 ≤ x5 then (if (bt x0 x5) ≥ 48 then (if (bt x0 x5) ≤ 57 then (if x5 = 0 then (sleuthref1_digits.l0 k x0 (wrap64 ((wrap64 (10 * x4)) + (((bt x0 x5) - 48) % 256))) (wrap64 (x5 + 1))) else (if 0 < (x0.size : Int) then (if (bt x0 0) = 48 then (some (x4, x5)) else (sleuthref1_digits.l0 k x0 (wrap64 ((wrap64 (10 * x4)) + (((bt x0 x5) - 48) % 256))) (wrap64 (x5 + 1)))) else (none))) else (some (x4, x5))) else (some (x4, x5))) else (none)) else (some (x4, x5))) else (some (x4, x5))
def sleuthref1_digits.f (k : Nat) (a0 : ByteArray) : Option (Int × Int) := sleuthref1_digits.l0 k a0 0 0
theorem sleuthref1_digits.calls (k : Nat) (a0 : ByteArray) (r1 : Int) (r2 : Int) (w : World) (h : sleuthref1_digits.f k a0 = some (r1, r2)) :
 Calls Tryd.prog 58 #[.string a0] w fun e w' => e = .returned (.tuple #[.int .i64 r1, .int .i64 r2]) ∧ Drawn0 w w' := by
 have H : (sleuthref1_digits.l0 k a0 0 0) = some (r1, r2) := h
 clear h
 have H' := a_ H
 clear H
 go_enter Tryd.func58, Tryd.ntmps58
 go_wp2
 go_loopg [4, 5] k (fun kq v4 v5 w' => ∃ (x1 : Int) (x0 : Int), v4 = .int .i64 x1 ∧ v5 = .int .i64 x0 ∧ Aside0 (sleuthref1_digits.l0 kq a0 x1 x0 = some (r1, r2)) ∧ Aside0 (kq ≤ k) ∧ Drawn0 w w')
 case atStart => exact ⟨(0), (0), hW_, hW_, H', ⟨Nat.le_refl _⟩, by repeat (first | exact Drawn0.refl _ | apply Drawn0.step)⟩
 case round =>
  clear H'
  obtain ⟨x1, x0, rfl, rfl, HA, HK1, ⟨m1, rfl⟩⟩ := hrel
  cases gk with
  | zero => exact absurd HA.out (by simp [sleuthref1_digits.l0])
  | succ k1 =>
   have H := HA.out
   clear HA
   simp only [sleuthref1_digits.l0] at H
   by_cases c2 : x0 < (a0.size : Int)
   case neg =>
    rw [if_neg c2] at H
    have c2b0 : decide (x0 < (a0.size : Int)) = false := decide_eq_false c2
    clear c2
    simp only [Option.some.injEq, Prod.mk.injEq] at H
    obtain ⟨rfl, rfl⟩ := H
    go_wp2
    go_ret2
    exact ⟨by first | rfl | (simp; done) | (simp [*]; done), by repeat (first | exact Drawn0.refl _ | apply Drawn0.step)⟩

   rw [if_pos c2] at H
   have c2b0 : decide (x0 < (a0.size : Int)) = true := decide_eq_true c2
   clear c2
   by_cases c3 : x0 < 6
   case neg =>
    rw [if_neg c3] at H
    have c3b0 : decide (x0 < 6) = false := decide_eq_false c3
    clear c3
    simp only [Option.some.injEq, Prod.mk.injEq] at H
    obtain ⟨rfl, rfl⟩ := H
    go_wp2
    go_ret2
    exact ⟨by first | rfl | (simp; done) | (simp [*]; done), by repeat (first | exact Drawn0.refl _ | apply Drawn0.step)⟩
   rw [if_pos c3] at H
   have c3b0 : decide (x0 < 6) = true := decide_eq_true c3
   clear c3
   replace H := ifI_ H; obtain ⟨c4, H⟩ := H
   have c4b0 : decide (0 ≤ x0) = true := decide_eq_true c4
   clear c4
   by_cases c6 : (bt a0 x0) ≥ 48
   case neg =>
    rw [if_neg c6] at H
    have c6b0 : decide (48 ≤ (bt a0 x0)) = false := decide_eq_false c6
    clear c6
    simp only [Option.some.injEq, Prod.mk.injEq] at H
    obtain ⟨rfl, rfl⟩ := H
    have p5 : 0 ≤ (x0 : Int) := of_decide_eq_true hA_
    have q5 : x0 < (a0.size : Int) := of_decide_eq_true hA_
    have h0 := bt_at a0 x0
    replace p5 := eq_true p5
    replace q5 := eq_true q5
    go_wp2
    go_ret2
    exact ⟨by first | rfl | (simp; done) | (simp [*]; done), by repeat (first | exact Drawn0.refl _ | apply Drawn0.step)⟩
   rw [if_pos c6] at H
   have c6b0 : decide (48 ≤ (bt a0 x0)) = true := decide_eq_true c6
   clear c6
   by_cases c8 : (bt a0 x0) ≤ 57
   case neg =>
    rw [if_neg c8] at H
    have c8b0 : decide ((bt a0 x0) ≤ 57) = false := decide_eq_false c8
    clear c8
    simp only [Option.some.injEq, Prod.mk.injEq] at H
    obtain ⟨rfl, rfl⟩ := H
    have p5 : 0 ≤ (x0 : Int) := of_decide_eq_true hA_
    have q5 : x0 < (a0.size : Int) := of_decide_eq_true hA_
    have h0 := bt_at a0 x0
    replace p5 := eq_true p5
    replace q5 := eq_true q5
    have p7 : 0 ≤ (x0 : Int) := of_decide_eq_true hA_
    have q7 : x0 < (a0.size : Int) := of_decide_eq_true hA_
    have h1 := bt_at a0 x0
    replace p7 := eq_true p7
    replace q7 := eq_true q7
    go_wp2
    go_ret2
    exact ⟨by first | rfl | (simp; done) | (simp [*]; done), by repeat (first | exact Drawn0.refl _ | apply Drawn0.step)⟩
   rw [if_pos c8] at H
   have c8b0 : decide ((bt a0 x0) ≤ 57) = true := decide_eq_true c8
   clear c8
   by_cases c9 : x0 = 0
   case pos =>
    rw [if_pos c9] at H
    have c9b0 : (x0 == 0) = true := beq_iff_eq.mpr c9
    have c9b1 : (x0 != 0) = false := bne_eq_false_iff_eq.mpr c9
    clear c9
    have H' := a_ H
    clear H
    have p5 : 0 ≤ (x0 : Int) := of_decide_eq_true hA_
    have q5 : x0 < (a0.size : Int) := of_decide_eq_true hA_
    have h0 := bt_at a0 x0
    replace p5 := eq_true p5
    replace q5 := eq_true q5
    have p7 : 0 ≤ (x0 : Int) := of_decide_eq_true hA_
    have q7 : x0 < (a0.size : Int) := of_decide_eq_true hA_
    have h1 := bt_at a0 x0
    replace p7 := eq_true p7
    replace q7 := eq_true q7
    have p10 : 0 ≤ (x0 : Int) := of_decide_eq_true hA_
    have q10 : x0 < (a0.size : Int) := of_decide_eq_true hA_
    have h3 := bt_at a0 x0
    replace p10 := eq_true p10
    replace q10 := eq_true q10
    go_wp2
    go_roundg k1
    case measure => have := HK1.out; omega
    case rel => exact ⟨(wrap64 ((wrap64 (10 * x1)) + (((bt a0 x0) - 48) % 256))), (wrap64 (x0 + 1)), hW_, hW_, H', ⟨by have := HK1.out; omega⟩, by repeat (first | exact Drawn0.refl _ | apply Drawn0.step)⟩
   rw [if_neg c9] at H
   have c9b0 : (x0 == 0) = false := beq_eq_false_iff_ne.mpr c9
   have c9b1 : (x0 != 0) = true := bne_iff_ne.mpr c9
   replace H := ifI_ H; obtain ⟨c11, H⟩ := H
   have c11b0 : decide (0 < (a0.size : Int)) = true := decide_eq_true c11
   have c11b1 : decide (0 < a0.size) = true := decide_eq_true (by omega)
   clear c11
   by_cases c13 : (bt a0 0) = 48
   case pos =>
    rw [if_pos c13] at H
    have c13b0 : ((bt a0 0) == 48) = true := beq_iff_eq.mpr c13
    have c13b1 : ((bt a0 0) != 48) = false := bne_eq_false_iff_eq.mpr c13
    clear c13
    simp only [Option.some.injEq, Prod.mk.injEq] at H
    obtain ⟨rfl, rfl⟩ := H
    have p5 : 0 ≤ (x0 : Int) := of_decide_eq_true hA_
    have q5 : x0 < (a0.size : Int) := of_decide_eq_true hA_
    have h0 := bt_at a0 x0
    replace p5 := eq_true p5
    replace q5 := eq_true q5
    have p7 : 0 ≤ (x0 : Int) := of_decide_eq_true hA_
    have q7 : x0 < (a0.size : Int) := of_decide_eq_true hA_
    have h1 := bt_at a0 x0
    replace p7 := eq_true p7
    replace q7 := eq_true q7
    have p12 : 0 ≤ (0 : Int) := (by omega)
    have q12 : 0 < a0.size := (by have : (0 : Int) < (a0.size : Int) := of_decide_eq_true hA_; omega)
    have h2 : ∀ h : 0 < a0.size, ((a0[0]'h).toNat : Int) = bt a0 0 := bt_at a0 0
    clear p12
    have qi12 : (0 < (a0.size : Int)) = True := eq_true (of_decide_eq_true hA_)
    replace q12 := eq_true q12
    go_wp2
    go_ret2
    exact ⟨by first | rfl | (simp; done) | (simp [*]; done), by repeat (first | exact Drawn0.refl _ | apply Drawn0.step)⟩
   rw [if_neg c13] at H
   have c13b0 : ((bt a0 0) == 48) = false := beq_eq_false_iff_ne.mpr c13
   have c13b1 : ((bt a0 0) != 48) = true := bne_iff_ne.mpr c13
   have H' := a_ H
   clear H
   have p5 : 0 ≤ (x0 : Int) := of_decide_eq_true hA_
   have q5 : x0 < (a0.size : Int) := of_decide_eq_true hA_
   have h0 := bt_at a0 x0
   replace p5 := eq_true p5
   replace q5 := eq_true q5
   have p7 : 0 ≤ (x0 : Int) := of_decide_eq_true hA_
   have q7 : x0 < (a0.size : Int) := of_decide_eq_true hA_
   have h1 := bt_at a0 x0
   replace p7 := eq_true p7
   replace q7 := eq_true q7
   have p12 : 0 ≤ (0 : Int) := (by omega)
   have q12 : 0 < a0.size := (by have : (0 : Int) < (a0.size : Int) := of_decide_eq_true hA_; omega)
   have h2 : ∀ h : 0 < a0.size, ((a0[0]'h).toNat : Int) = bt a0 0 := bt_at a0 0
   clear p12
   have qi12 : (0 < (a0.size : Int)) = True := eq_true (of_decide_eq_true hA_)
   replace q12 := eq_true q12
   have p14 : 0 ≤ (x0 : Int) := of_decide_eq_true hA_
   have q14 : x0 < (a0.size : Int) := of_decide_eq_true hA_
   have h4 := bt_at a0 x0
   replace p14 := eq_true p14
   replace q14 := eq_true q14
   go_wp2
   go_roundg k1
   case measure => have := HK1.out; omega
   case rel => exact ⟨(wrap64 ((wrap64 (10 * x1)) + (((bt a0 x0) - 48) % 256))), (wrap64 (x0 + 1)), hW_, hW_, H', ⟨by have := HK1.out; omega⟩, by repeat (first | exact Drawn0.refl _ | apply Drawn0.step)⟩
-- (function 59, sleuthref1_parts: with its fellows)

def sleuthref1_upTo.f (a0 : Int) (a1 : Int) (a2 : Int) : Option (Bool) := if a0 ≥ a1 then (some (decide (a0 ≤ a2))) else (some false)
theorem sleuthref1_upTo.calls (a0 : Int) (a1 : Int) (a2 : Int) (r : Bool) (w : World) (h : sleuthref1_upTo.f a0 a1 a2 = some r) :
 Calls Tryd.prog 68 #[.int .i64 a0, .int .i64 a1, .int .i64 a2] w fun e w' => e = .returned (.bool r) ∧ Drawn0 w w' := by
 have H := h; unfold sleuthref1_upTo.f at H
 clear h
 by_cases c4 : a0 ≥ a1
 case pos =>
  rw [if_pos c4] at H
  have c4b0 : decide (a1 ≤ a0) = true := decide_eq_true c4
  clear c4
  obtain rfl := Option.some.inj H
  go_enter Tryd.func68, Tryd.ntmps68
  go_wp2
  go_ret
  exact ⟨by first | rfl | (simp; done) | (simp [*]; done), by repeat (first | exact Drawn0.refl _ | apply Drawn0.step)⟩
 rw [if_neg c4] at H
 have c4b0 : decide (a1 ≤ a0) = false := decide_eq_false c4
 clear c4
 obtain rfl := Option.some.inj H
 go_enter Tryd.func68, Tryd.ntmps68
 go_wp2
 go_ret
 exact ⟨by first | rfl | (simp; done) | (simp [*]; done), by repeat (first | exact Drawn0.refl _ | apply Drawn0.step)⟩

set_option maxHeartbeats 8000000
set_option maxRecDepth 100000
attribute [local go_sem] max2_int min2_int max_two min_two max_three min_three max_four min_four   -- for this text's walks alone
set_option linter.unusedVariables false
set_option linter.unusedSimpArgs false

def sleuthref1_NumMay.f (a0 : Int) : Option (Bool) := (sleuthref1_upTo.f a0 (-32768) 32767).bind fun t201 => (some t201)
theorem sleuthref1_NumMay.calls (a0 : Int) (r : Bool) (w : World) (h : sleuthref1_NumMay.f a0 = some r) :
 Calls Tryd.prog 60 #[.int .i64 a0] w fun e w' => e = .returned (.bool r) ∧ Drawn0 w w' := by
 have H := h; unfold sleuthref1_NumMay.f at H
 clear h
 replace H := Option.bind_eq_some_iff.mp H
 obtain ⟨t0, A20, H⟩ := H
 try dsimp only at H
 have A2 := a_ A20
 clear A20
 obtain rfl := Option.some.inj H
 go_enter Tryd.func60, Tryd.ntmps60
 go_wp2_with (first | ((with_reducible refine gate_callee (f := 68) rfl ?_); refine goesL_ _ rfl rfl Tryd.func68 (by kernel_rfl) rfl #[.int .i64 a0, .int .i64 (-32768), .int .i64 32767] rfl hL_ ?_; (with_reducible refine (sleuthref1_upTo.calls a0 (-32768) 32767 t0 _ A2.out).mono ?_); rintro e w' ⟨rfl, ⟨nd, rfl⟩⟩; refine ⟨_, rfl, ?_⟩))
 go_ret
 exact ⟨by first | rfl | (simp; done) | (simp [*]; done), by repeat (first | exact Drawn0.refl _ | apply Drawn0.step)⟩

end Go.Proofs.YtifhpkakdlfgnaaDoor.G
end
