/- Parts of this proof, one behind the other: G1, G2, G3, G4, G5, G6, G7, G8, G9, TLaw, TCut, TRef, TMay, G10, TTrail, G11, ByteLib, G14, G15. -/
import Derived.Test.YthoegphcmkejoaaDoorG0
import Derived.Test.YthoegphcmkejoaaDoorU2
section
namespace Go.Proofs.YthoegphcmkejoaaDoor.G
open Go.RowKit Go.Proofs.YthoegphcmkejoaaDoorW.PrintWords Go.Proofs.YthoegphcmkejoaaDoorW.PrintLast Go.Proofs.YthoegphcmkejoaaDoorW.PrintMore
set_option maxHeartbeats 8000000
set_option maxRecDepth 100000
attribute [local go_sem] max2_int min2_int max_two min_two max_three min_three max_four min_four   -- for this text's walks alone
set_option linter.unusedVariables false
set_option linter.unusedSimpArgs false

/-- where the first blank or bracket stands -/
abbrev seps : ByteArray := ⟨#[32, 40, 41]⟩
theorem rune_err (w : World) :
 Calls Tryd.prog 52 #[.string seps, .int .i32 65533] w fun e w' => e = .returned (.int .i64 (-1)) ∧ Below w.heap.size w w' := by
 have hnx0 := fun ty => run_next_ascii (P := Tryd.prog) w seps 0 ty (by decide) (by decide)
 have hnx1 := fun ty => run_next_ascii (P := Tryd.prog) w seps 1 ty (by decide) (by decide)
 have hnx2 := fun ty => run_next_ascii (P := Tryd.prog) w seps 2 ty (by decide) (by decide)
 have hnx3 := fun ty => run_next_end (P := Tryd.prog) w seps 3 ty (by decide)
 go_enter Tryd.func52, Tryd.ntmps52
 go_wp2
 go_loopg [5, 6] 3 (fun g _ _ wx => ∃ i : Nat, i + g = 3 ∧ wx = w.iter seps i)
 case atStart => exact ⟨0, rfl, rfl⟩
 case round =>
  obtain ⟨i, hi, rfl⟩ := hrel
  cases gk with
  | zero =>
   obtain rfl : i = 3 := by omega
   go_wp2
   go_ret
   exact ⟨rfl, by apply below_alloc; exact Below.refl _ _⟩
  | succ g =>
   rcases (show i = 0 ∨ i = 1 ∨ i = 2 by omega) with rfl | rfl | rfl
   all_goals go_wp2
   all_goals go_roundg g
   all_goals first | omega | exact ⟨_, by omega, rfl⟩
theorem rune_two (w : World) (c : Int) (hc : 128 ≤ c) (hc2 : c < 2048) (hv : Lib.validRune c = true) (hc3 : c ≠ 65533) :
 Calls Tryd.prog 52 #[.string seps, .int .i32 c] w fun e w' => e = .returned (.int .i64 (-1)) ∧ Below w.heap.size w w' := by
 obtain ⟨p1, p2, hxy, hy⟩ : ∃ p1 p2 : UInt8, Utf8.encode c = ⟨#[p1, p2]⟩ ∧ 128 ≤ p2.toNat := by
  have hv2 : Utf8.valid c = true := by
   rw [← hv]; unfold Utf8.valid Lib.validRune
   rw [Bool.eq_iff_iff]; simp; omega
  refine ⟨UInt8.ofNat (0xC0 + c.toNat / 64), UInt8.ofNat (0x80 + c.toNat % 64), ?_, ?_⟩
  · unfold Utf8.encode
    simp only [hv2, if_true]
    rw [if_neg (by omega), if_pos (by omega)]
  · simp; omega
 have hcv : ∀ W : World, (convert 21 9 (.int .i32 c)).run Tryd.prog W = .ok (.string ⟨#[p1, p2]⟩) W := by
  intro W
  rw [← hxy]
  simp [convert, run_underlying Tryd.underlying21, run_underlying Tryd.underlying9, Conv.intToString, Result.andThen]
 have n1 : (c == 65533) = false := beq_eq_false_iff_ne.2 (by omega)
 have n2 : decide (c < 128) = false := decide_eq_false (by omega)
 clear hxy
 go_enter Tryd.func52, Tryd.ntmps52
 go_wp2_with (first
  | (go_at_call 61; refine (Tryd.utf8_ValidRune _ _).mono ?_; rintro e w1 ⟨rfl, hw⟩; rw [hw, hv])
  )
 go_step3
 go_wp2
 go_loopg [9, 10] 1 (fun g v9 v0 wx => v9 = .int .i64 1 ∧ v0 = .int .i64 0 ∧ wx = w)
 case atStart => exact ⟨rfl, rfl, rfl⟩
 case round =>
  obtain ⟨rfl, rfl, rfl⟩ := hrel
  have hne : ((40 : Int) == (p2.toNat : Int)) = false := beq_eq_false_iff_ne.2 (by omega)
  have hb : 1 < ({ data := #[p1, p2] } : ByteArray).size := by show 1 < 2; decide
  have hne2 : ((seps[1].toNat : Int) != ((({ data := #[p1, p2] } : ByteArray)[1]'hb).toNat : Int)) = true := by
   show ((40 : Int) != (p2.toNat : Int)) = true
   rw [bne, hne]; rfl
  have hix : Lib.indexByte (seps.extract 2 3).data.toList ((p2.toNat : Int)).toNat.toUInt8 = -1 := by
   rw [show ((p2.toNat : Int)).toNat.toUInt8 = p2 by simp]
   show Lib.indexByte [41] p2 = -1
   unfold Lib.indexByte
   rw [if_neg (by intro h; have := beq_iff_eq.1 h; subst this; revert hy; decide)]; rfl
  have hw2 : IntKind.i64.wrap 2 = 2 := by decide
  have hwi : IntKind.i64.wrap (1 + 1) = 2 := by decide
  go_wp2
  go_step3
  go_wp2
  go_region
  simp only [Exit.then, hne2]
  go_wp2
  go_region_with (go_at_call 60; refine (Tryd.strings_IndexByte (seps.extract 2 3) (p2.toNat : Int) _).mono ?_; rintro e w2 ⟨rfl, hw2⟩; rw [hw2, hix])
  all_goals simp only [Exit.then]
  all_goals go_wp2
  all_goals simp only [Exit.noGoto, Exit.inBlock, Exit.then]
  all_goals go_ret
  all_goals exact ⟨rfl, by repeat (first | exact Below.refl _ _ | apply Below.drew)⟩
theorem rune_three (w : World) (c : Int) (hc : 2048 ≤ c) (hc2 : c < 65536) (hv : Lib.validRune c = true) (hc3 : c ≠ 65533) :
 Calls Tryd.prog 52 #[.string seps, .int .i32 c] w fun e w' => e = .returned (.int .i64 (-1)) ∧ Below w.heap.size w w' := by
 obtain ⟨p1, p2, p3, hxy, hy⟩ : ∃ p1 p2 p3 : UInt8, Utf8.encode c = ⟨#[p1, p2, p3]⟩ ∧ 128 ≤ p3.toNat := by
  have hv2 : Utf8.valid c = true := by
   rw [← hv]; unfold Utf8.valid Lib.validRune
   rw [Bool.eq_iff_iff]; simp; omega
  refine ⟨UInt8.ofNat (0xE0 + c.toNat / 4096), UInt8.ofNat (0x80 + c.toNat / 64 % 64), UInt8.ofNat (0x80 + c.toNat % 64), ?_, ?_⟩
  · unfold Utf8.encode
    simp only [hv2, if_true]
    rw [if_neg (by omega), if_neg (by omega), if_pos (by omega)]
  · simp; omega
 have hcv : ∀ W : World, (convert 21 9 (.int .i32 c)).run Tryd.prog W = .ok (.string ⟨#[p1, p2, p3]⟩) W := by
  intro W
  rw [← hxy]
  simp [convert, run_underlying Tryd.underlying21, run_underlying Tryd.underlying9, Conv.intToString, Result.andThen]
 have n1 : (c == 65533) = false := beq_eq_false_iff_ne.2 (by omega)
 have n2 : decide (c < 128) = false := decide_eq_false (by omega)
 clear hxy
 go_enter Tryd.func52, Tryd.ntmps52
 go_wp2_with (first
  | (go_at_call 61; refine (Tryd.utf8_ValidRune _ _).mono ?_; rintro e w1 ⟨rfl, hw⟩; rw [hw, hv])
  )
 go_step3
 go_wp2
 go_loopg [9, 10] 1 (fun g v9 v0 wx => v9 = .int .i64 2 ∧ v0 = .int .i64 0 ∧ wx = w)
 case atStart => exact ⟨rfl, rfl, rfl⟩
 case round =>
  obtain ⟨rfl, rfl, rfl⟩ := hrel
  have hne : ((41 : Int) == (p3.toNat : Int)) = false := beq_eq_false_iff_ne.2 (by omega)
  have hb : 2 < ({ data := #[p1, p2, p3] } : ByteArray).size := by show 2 < 3; decide
  have hne2 : ((seps[2].toNat : Int) != ((({ data := #[p1, p2, p3] } : ByteArray)[2]'hb).toNat : Int)) = true := by
   show ((41 : Int) != (p3.toNat : Int)) = true
   rw [bne, hne]; rfl
  have hix : Lib.indexByte (seps.extract 3 3).data.toList ((p3.toNat : Int)).toNat.toUInt8 = -1 := by
   rw [show ((p3.toNat : Int)).toNat.toUInt8 = p3 by simp]
   show Lib.indexByte [] p3 = -1
   unfold Lib.indexByte
   rfl
  have hw2 : IntKind.i64.wrap 3 = 3 := by decide
  have hwi : IntKind.i64.wrap (2 + 1) = 3 := by decide
  go_wp2
  go_step3
  go_wp2
  go_region
  simp only [Exit.then, hne2]
  go_wp2
  go_region_with (go_at_call 60; refine (Tryd.strings_IndexByte (seps.extract 3 3) (p3.toNat : Int) _).mono ?_; rintro e w2 ⟨rfl, hw2⟩; rw [hw2, hix])
  all_goals simp only [Exit.then]
  all_goals go_wp2
  all_goals simp only [Exit.noGoto, Exit.inBlock, Exit.then]
  all_goals go_ret
  all_goals exact ⟨rfl, by repeat (first | exact Below.refl _ _ | apply Below.drew)⟩
theorem rune_four (w : World) (c : Int) (hc : 65536 ≤ c) (hc2 : c < 2147483648) (hv : Lib.validRune c = true) (hc3 : c ≠ 65533) :
 Calls Tryd.prog 52 #[.string seps, .int .i32 c] w fun e w' => e = .returned (.int .i64 (-1)) ∧ Below w.heap.size w w' := by
 obtain ⟨p1, p2, p3, p4, hxy, hy⟩ : ∃ p1 p2 p3 p4 : UInt8, Utf8.encode c = ⟨#[p1, p2, p3, p4]⟩ ∧ 128 ≤ p4.toNat := by
  have hv2 : Utf8.valid c = true := by
   rw [← hv]; unfold Utf8.valid Lib.validRune
   rw [Bool.eq_iff_iff]; simp; omega
  refine ⟨UInt8.ofNat (0xF0 + c.toNat / 262144), UInt8.ofNat (0x80 + c.toNat / 4096 % 64), UInt8.ofNat (0x80 + c.toNat / 64 % 64), UInt8.ofNat (0x80 + c.toNat % 64), ?_, ?_⟩
  · unfold Utf8.encode
    simp only [hv2, if_true]
    rw [if_neg (by omega), if_neg (by omega), if_neg (by omega)]
  · simp; omega
 have hcv : ∀ W : World, (convert 21 9 (.int .i32 c)).run Tryd.prog W = .ok (.string ⟨#[p1, p2, p3, p4]⟩) W := by
  intro W
  rw [← hxy]
  simp [convert, run_underlying Tryd.underlying21, run_underlying Tryd.underlying9, Conv.intToString, Result.andThen]
 have n1 : (c == 65533) = false := beq_eq_false_iff_ne.2 (by omega)
 have n2 : decide (c < 128) = false := decide_eq_false (by omega)
 clear hxy
 go_enter Tryd.func52, Tryd.ntmps52
 go_wp2_with (first
  | (go_at_call 61; refine (Tryd.utf8_ValidRune _ _).mono ?_; rintro e w1 ⟨rfl, hw⟩; rw [hw, hv])
  )
 go_step3
 go_wp2
 go_loopg [9, 10] 1 (fun g v9 v0 wx => v9 = .int .i64 3 ∧ v0 = .int .i64 0 ∧ wx = w)
 case atStart => exact ⟨rfl, rfl, rfl⟩
 case round =>
  obtain ⟨rfl, rfl, rfl⟩ := hrel
  go_wp2
  simp only [Exit.noGoto_ret, Exit.noGoto_normal]
  go_ret
  exact ⟨rfl, Below.refl _ _⟩
theorem rune_high (w : World) (c : Int) (hc : 128 ≤ c) (hm : c ≤ 2147483647) (hv : c = 65533 ∨ Lib.validRune c = true) :
 Calls Tryd.prog 52 #[.string seps, .int .i32 c] w fun e w' => e = .returned (.int .i64 (-1)) ∧ Below w.heap.size w w' := by
 by_cases h3 : c = 65533
 case pos =>
  subst h3; exact rune_err w
 have hv := hv.resolve_left h3
 by_cases h1 : c < 2048
 case pos =>
  exact rune_two w c hc h1 hv h3
 by_cases h2 : c < 65536
 case pos =>
  exact rune_three w c (by omega) h2 hv h3
 exact rune_four w c (by omega) (by omega) hv h3
theorem get_bang (s : ByteArray) (i : Nat) (h : i < s.size) : s.get! i = s[i]'h := by
 simp [ByteArray.get!, getElem!_pos, h]; rfl
theorem dec_valid (s : ByteArray) (p : Nat) (h : p < s.size) (ha : 128 ≤ (s[p]'h).toNat) :
 ((Utf8.decode s p).1 : Int) = 65533 ∨ Lib.validRune ((Utf8.decode s p).1 : Int) = true := by
 have hb : ∀ k, (s.get! (p + k)).toNat < 256 := fun k => (s.get! (p + k)).toNat_lt
 have h0 := hb 0; have h1 := hb 1; have h2 := hb 2; have h3 := hb 3
 have hn : ¬ (s.get! (p + 0)).toNat < 128 := by rw [show p + 0 = p from rfl, get_bang s p h]; omega
 simp only [Utf8.decode, hn, if_false]
 repeat' split
 all_goals simp_all [Utf8.runeError, Lib.validRune, Utf8.valid]
 all_goals omega
theorem dec_high (s : ByteArray) (p : Nat) (h : p < s.size) (ha : 128 ≤ (s[p]'h).toNat) (j : Nat) (hj : p ≤ j) (hj2 : j < p + (Utf8.decode s p).2) (hjs : j < s.size) : 128 ≤ (s[j]'hjs).toNat := by
 have hn : ¬ (s.get! (p + 0)).toNat < 128 := by rw [show p + 0 = p from rfl, get_bang s p h]; omega
 have e1 : ∀ k, p + k < s.size → (s.get! (p + k)).toNat / 64 = 2 → ∀ hk : p + k < s.size, 128 ≤ (s[p + k]'hk).toNat := by
  intro k hk h2 hk'
  rw [get_bang s (p + k) hk] at h2
  omega
 obtain ⟨k, rfl⟩ : ∃ k, j = p + k := ⟨j - p, by omega⟩
 have hk4 : k < 4 := by
  revert hj2
  simp only [Utf8.decode, hn, if_false]
  repeat' split
  all_goals simp
  all_goals omega
 have hc : k = 0 ∨ (s.get! (p + k)).toNat / 64 = 2 := by
  revert hj2
  simp only [Utf8.decode, hn, if_false]
  rcases (show k = 0 ∨ k = 1 ∨ k = 2 ∨ k = 3 by omega) with rfl | rfl | rfl | rfl
  · intro _; exact .inl rfl
  all_goals repeat' split
  all_goals simp_all
 rcases hc with rfl | hc
 · exact ha
 · exact e1 k hjs hc hjs
theorem noany_skip (s : ByteArray) (p : Nat) (h : p < s.size) (ha : 128 ≤ (s[p]'h).toNat) (hno : Lib.NoAny s.data.toList seps.data.toList p) :
 Lib.NoAny s.data.toList seps.data.toList (p + (Utf8.decode s p).2) := by
 intro j b hj hb
 by_cases hjp : j < p
 case pos =>
  exact hno j b hjp hb
 have hjs : j < s.size := by
  have := (List.getElem?_eq_some_iff.1 hb).1
  rwa [← Lib.size_eq] at this
 have h1 := dec_high s p h ha j (by omega) hj hjs
 have h2 : s.data.toList[j]? = some (s[j]'hjs) := Lib.data_getElem? s j hjs
 rw [h2] at hb
 obtain rfl := Option.some.inj hb
 show [(32 : UInt8), 40, 41].contains (s[j]'hjs) = false
 generalize s[j]'hjs = b at h1
 rw [Bool.eq_false_iff]
 intro hc
 simp at hc
 rcases hc with rfl | rfl | rfl <;> revert h1 <;> decide
theorem any_short (s : ByteArray) (w : World) (h8 : s.size ≤ 8) :
 Calls Tryd.prog 41 #[.string s, .string seps] w fun e w' => e = .returned (.int .i64 (Lib.indexAny s.data.toList seps.data.toList)) ∧ Below w.heap.size w w' := by
 have hemp : seps.toList.isEmpty = false := by rw [Lib.toList_data]; rfl
 have hn1 : ((seps.size : Int) == 1) = false := by decide
 have h8z : decide ((8 : Int) < (s.size : Int)) = false := decide_eq_false (by omega)
 go_enter Tryd.func41, Tryd.ntmps41
 go_wp2_with (go_at_call 53; refine (Tryd.strings_shouldUseASCIISet _ _).mono ?_; rintro e w' ⟨rfl, hw⟩; rw [hw, h8z])
 go_loopg [9, 10] s.size (fun g _ _ wx => ∃ i : Nat, s.size ≤ i + g ∧ Below w.heap.size w wx ∧ wx.heap[w.heap.size]? = some (.stringIter s i) ∧ Lib.NoAny s.data.toList seps.data.toList i)
 case atStart => exact ⟨0, by omega, by apply below_alloc; exact Below.refl _ _, World.iter_heap _ _ _, Lib.NoAny.zero _ _⟩
 case round =>
  obtain ⟨i, hig, hB, hit, hno⟩ := hrel
  have HB : Aside (Below w.heap.size w wr) := hB
  have HN : Aside (Lib.NoAny s.data.toList seps.data.toList i) := hno
  clear hno
  by_cases hi : i < s.size
  case neg =>
   have hnx := fun ty => Lib.run_next_end_at (P := Tryd.prog) wr w.heap.size s i ty hit hi
   go_wp2
   go_ret
   exact ⟨by rw [Lib.indexAny_none (fun j b hj hb => HN.out j b (by have := (List.getElem?_eq_some_iff.1 hb).1; rw [← Lib.size_eq] at this; omega) hb)]; rfl, HB.out⟩
  cases gk with
  | zero => exact absurd hig (by omega)
  | succ g =>
   have hws : w.heap.size < wr.heap.size := (Array.getElem?_eq_some_iff.1 hit).1
   have hnx := fun ty => Lib.run_next_any_at (P := Tryd.prog) wr w.heap.size s i ty hit hi
   have hit2 := Lib.iterAt_heap wr w.heap.size s i (i + (Utf8.decode s i).2) hit
   have hB2 : Below w.heap.size w (wr.iterAt w.heap.size s (i + (Utf8.decode s i).2)) := Lib.below_iterAt hB (Nat.le_refl _) s _
   have hsz2 : (wr.iterAt w.heap.size s (i + (Utf8.decode s i).2)).heap.size = wr.heap.size := Lib.iterAt_size _ _ _ _
   generalize hx : s[i]'hi = x at *
   by_cases h0 : x.toNat < 128
   case neg =>
    have hxh : 128 ≤ (s[i]'hi).toNat := by rw [hx]; omega
    have hd := decode_high s i hi hxh
    have hdl := decode_le s i
    have hv := dec_valid s i hi hxh
    have HN2 : Aside (Lib.NoAny s.data.toList seps.data.toList (i + (Utf8.decode s i).2)) := noany_skip s i hi hxh HN.out
    clear hx hxh
    generalize Utf8.decode s i = d at *
    obtain ⟨d1, d2⟩ := d
    dsimp only at *
    have HB2 : Aside (Below w.heap.size w (wr.iterAt w.heap.size s (i + d2))) := hB2
    have HI2 : Aside ((wr.iterAt w.heap.size s (i + d2)).heap[w.heap.size]? = some (.stringIter s (i + d2))) := hit2
    clear hB2 hit2
    generalize wr.iterAt w.heap.size s (i + d2) = wx at *
    have hneg : ¬ ((0 : Int) ≤ -1) := by omega
    have HR : Aside (Calls Tryd.prog 52 #[.string seps, .int .i32 (d1 : Int)] wx fun e w' => e = .returned (.int .i64 (-1)) ∧ Below wx.heap.size wx w') := rune_high wx d1 (by omega) (by omega) hv
    clear hv hdl
    go_wp2_with (go_at_call 52; refine (HR.out).mono ?_; rintro e w' ⟨rfl, hb⟩; have HBr : Aside (Below wx.heap.size wx w') := hb; clear hb)
    go_roundg g
    case measure => omega
    case rel =>
     refine ⟨i + d2, by omega, below_step HB2.out HBr.out, ?_, HN2.out⟩
     rw [← HI2.out]
     exact (HBr.out.block _ (by omega))
   have hd := decode_ascii s i hi (by rw [hx]; exact h0)
   rw [hd] at hnx hit2 hB2 hsz2
   rw [hx] at hnx
   have hxl : s.data.toList[i]? = some x := by rw [← hx]; exact Lib.data_getElem? s i hi
   have hcon := Lib.contains_iff_indexByte seps.data.toList x
   have hback : ((x.toNat : Int)).toNat.toUInt8 = x := by simp
   have HB2 : Aside (Below w.heap.size w (wr.iterAt w.heap.size s (i + 1))) := hB2
   have HI2 : Aside ((wr.iterAt w.heap.size s (i + 1)).heap[w.heap.size]? = some (.stringIter s (i + 1))) := hit2
   have Hx : Aside (s.data.toList[i]? = some x) := hxl
   clear hxl hx hd hB2 hit2 hsz2
   generalize wr.iterAt w.heap.size s (i + 1) = wx at *
   cases hin : seps.data.toList.contains x
   · rw [hin] at hcon
     have hlt : ¬ ((0 : Int) ≤ Lib.indexByte seps.data.toList x) := of_decide_eq_false hcon.symm
     clear hcon
     go_wp2_with (go_at_call 52; refine (Tryd.strings_IndexRune_ascii _ _ _ (by omega) (by omega)).mono ?_; rintro e w' ⟨rfl, hw⟩; rw [hw, hback])
     go_roundg g
     case measure => omega
     case rel => exact ⟨i + 1, by omega, HB2.out, HI2.out, HN.out.succ Hx.out hin⟩
   · rw [hin] at hcon
     have hge : (0 : Int) ≤ Lib.indexByte seps.data.toList x := of_decide_eq_true hcon.symm
     clear hcon
     go_wp2_with (go_at_call 52; refine (Tryd.strings_IndexRune_ascii _ _ _ (by omega) (by omega)).mono ?_; rintro e w' ⟨rfl, hw⟩; rw [hw, hback])
     go_ret
     exact ⟨by rw [Lib.indexAny_hit HN.out Hx.out hin]; rfl, HB2.out⟩
def strings_IndexAny.f (a0 : ByteArray) (a1 : ByteArray) : Option Int := if a1 = seps ∧ a0.size < 4294967281 then some (Lib.indexAny a0.data.toList seps.data.toList) else none
theorem strings_IndexAny.calls (a0 : ByteArray) (a1 : ByteArray) (r : Int) (w : World) (h : strings_IndexAny.f a0 a1 = some r) :
 Calls Tryd.prog 41 #[.string a0, .string a1] w fun e w' => e = .returned (.int .i64 r) ∧ Below w.heap.size w w' := by
 unfold strings_IndexAny.f at h
 by_cases hc : a1 = seps ∧ a0.size < 4294967281
 case neg =>
  rw [if_neg hc] at h; cases h

 rw [if_pos hc] at h
 obtain rfl := Option.some.inj h
 obtain ⟨rfl, hs⟩ := hc
 by_cases h8 : a0.size ≤ 8
 case pos =>
  exact any_short a0 w h8
 refine (Tryd.strings_IndexAny_long (zero_of_info (n := 256) (by kernel_rfl)).1 a0 seps w (by decide) (by omega) hs (by decide) ?_).mono ?_
 · intro j b hb
   have : j < 3 := (List.getElem?_eq_some_iff.1 hb).1
   rcases (show j = 0 ∨ j = 1 ∨ j = 2 by omega) with rfl | rfl | rfl <;> (obtain rfl := Option.some.inj hb; decide)
 · rintro e w' ⟨rfl, rfl⟩
   exact ⟨rfl, by apply below_alloc; apply below_alloc; exact Below.refl _ _⟩
set_option maxHeartbeats 8000000
set_option maxRecDepth 100000
attribute [local go_sem] max2_int min2_int max_two min_two max_three min_three max_four min_four   -- for this text's walks alone
set_option linter.unusedVariables false
set_option linter.unusedSimpArgs false

def term_word.f (a0 : ByteArray) : Option (ByteArray × ByteArray) := (strings_IndexAny.f a0 (⟨#[32, 40, 41]⟩ : ByteArray)).bind fun t101 => (if t101 < 0 then (if 0 ≤ (a0.size : Int) then (if (a0.size : Int) ≤ (a0.size : Int) then (some (a0.extract 0 ((a0.size : Int) : Int).toNat, a0.extract ((a0.size : Int) : Int).toNat a0.size)) else (none)) else (none)) else (if 0 ≤ t101 then (if t101 ≤ (a0.size : Int) then (some (a0.extract 0 (t101 : Int).toNat, a0.extract (t101 : Int).toNat a0.size)) else (none)) else (none)))
theorem term_word.calls (a0 : ByteArray) (r1 : ByteArray) (r2 : ByteArray) (w : World) (h : term_word.f a0 = some (r1, r2)) :
 Calls Tryd.prog 35 #[.string a0] w fun e w' => e = .returned (.tuple #[.string r1, .string r2]) ∧ Below w.heap.size w w' := by
 have HB := a_ (Below.refl w.heap.size w)
 have H := h; unfold term_word.f at H
 clear h
 replace H := Option.bind_eq_some_iff.mp H
 obtain ⟨t0, A20, H⟩ := H
 try dsimp only at H
 have A2 := a_ A20
 clear A20
 by_cases c3 : t0 < 0
 case neg =>
  rw [if_neg c3] at H
  have c3b0 : decide (t0 < 0) = false := decide_eq_false c3
  clear c3
  replace H := ifI_ H; obtain ⟨c9, H⟩ := H
  have c9b0 := eq_true c9
  have c9b1 : decide (0 ≤ t0) = true := decide_eq_true c9
  clear c9
  replace H := ifI_ H; obtain ⟨c10, H⟩ := H
  have c10b0 := eq_true c10
  have c10b1 : decide (t0 ≤ (a0.size : Int)) = true := decide_eq_true c10
  clear c10
  have c11b0 := eq_true (of_decide_eq_true hA_ : 0 ≤ t0)
  have c12b0 := eq_true (of_decide_eq_true hA_ : t0 ≤ (a0.size : Int))
  simp only [Option.some.injEq, Prod.mk.injEq] at H
  obtain ⟨rfl, rfl⟩ := H
  go_enter Tryd.func35, Tryd.ntmps35
  go_wp2_with (first | (go_at_call 41; (with_reducible refine (strings_IndexAny.calls a0 (⟨#[32, 40, 41]⟩ : ByteArray) t0 _ A2.out).mono ?_); rintro e w0 ⟨rfl, hb⟩; replace HB := a_ (below_step hB_ hb); (try clear hb); (try clear hb2); (try clear hk); (try clear hi)))
  repeat (go_quiet (first | (go_at_call 41; (with_reducible refine (strings_IndexAny.calls a0 (⟨#[32, 40, 41]⟩ : ByteArray) t0 _ A2.out).mono ?_); rintro e w0 ⟨rfl, hb⟩; replace HB := a_ (below_step hB_ hb); (try clear hb); (try clear hb2); (try clear hk); (try clear hi))); try go_wp2_with (first | (go_at_call 41; (with_reducible refine (strings_IndexAny.calls a0 (⟨#[32, 40, 41]⟩ : ByteArray) t0 _ A2.out).mono ?_); rintro e w0 ⟨rfl, hb⟩; replace HB := a_ (below_step hB_ hb); (try clear hb); (try clear hb2); (try clear hk); (try clear hi))))
  go_ret2
  exact ⟨hV_, hC_⟩
 rw [if_pos c3] at H
 have c3b0 : decide (t0 < 0) = true := decide_eq_true c3
 clear c3
 replace H := ifI_ H; obtain ⟨c4, H⟩ := H
 have c4b0 := eq_true c4
 have c4b1 : decide (0 ≤ (a0.size : Int)) = true := decide_eq_true c4
 clear c4
 replace H := ifI_ H; obtain ⟨c5, H⟩ := H
 have c5b0 := eq_true c5
 have c5b1 : decide ((a0.size : Int) ≤ (a0.size : Int)) = true := decide_eq_true c5
 clear c5
 have c6b0 := eq_true (of_decide_eq_true hA_ : 0 ≤ (a0.size : Int))
 have c7b0 := eq_true (of_decide_eq_true hA_ : (a0.size : Int) ≤ (a0.size : Int))
 simp only [Option.some.injEq, Prod.mk.injEq] at H
 obtain ⟨rfl, rfl⟩ := H
 go_enter Tryd.func35, Tryd.ntmps35
 go_wp2_with (first | (go_at_call 41; (with_reducible refine (strings_IndexAny.calls a0 (⟨#[32, 40, 41]⟩ : ByteArray) t0 _ A2.out).mono ?_); rintro e w8 ⟨rfl, hb⟩; replace HB := a_ (below_step hB_ hb); (try clear hb); (try clear hb2); (try clear hk); (try clear hi)))
 repeat (go_quiet (first | (go_at_call 41; (with_reducible refine (strings_IndexAny.calls a0 (⟨#[32, 40, 41]⟩ : ByteArray) t0 _ A2.out).mono ?_); rintro e w8 ⟨rfl, hb⟩; replace HB := a_ (below_step hB_ hb); (try clear hb); (try clear hb2); (try clear hk); (try clear hi))); try go_wp2_with (first | (go_at_call 41; (with_reducible refine (strings_IndexAny.calls a0 (⟨#[32, 40, 41]⟩ : ByteArray) t0 _ A2.out).mono ?_); rintro e w8 ⟨rfl, hb⟩; replace HB := a_ (below_step hB_ hb); (try clear hb); (try clear hb2); (try clear hk); (try clear hi))))
 go_ret2
 exact ⟨hV_, hC_⟩
set_option maxHeartbeats 8000000
set_option maxRecDepth 100000
attribute [local go_sem] max2_int min2_int max_two min_two max_three min_three max_four min_four   -- for this text's walks alone
set_option linter.unusedVariables false
set_option linter.unusedSimpArgs false

def term_Number.f (a0 : ByteArray) : Option (Int × Bool) := if a0.size ≤ 281474976710656 then some (numF a0) else none
theorem term_Number.calls (a0 : ByteArray) (r1 : Int) (r2 : Bool) (w : World) (h : term_Number.f a0 = some (r1, r2)) (hG : GOK w) :
 Calls Tryd.prog 36 #[.string a0] w fun e w' => e = .returned (.tuple #[.int .i64 r1, .bool r2]) ∧ Below w.heap.size w w' := by
 unfold term_Number.f at h
 by_cases hs : a0.size ≤ 281474976710656
 case neg =>
  rw [if_neg hs] at h
  cases h

 rw [if_pos hs] at h
 have h := Option.some.inj h
 obtain ⟨rfl, rfl⟩ : r1 = (numF a0).1 ∧ r2 = (numF a0).2 := by rw [h]; exact ⟨rfl, rfl⟩
 clear h
 have hr := atoiF_range a0
 have hC := a_ (atoi_calls a0 hs w hG)
 have hn : (numF a0).1 = (atoiF a0).1 := by unfold numF atoiF; cases Lib.atoiAll a0.data.toList <;> rfl
 rw [hn]
 have hb : (numF a0).2 = ((atoiF a0).2 && ((decide (-32768 ≤ (atoiF a0).1) && decide ((atoiF a0).1 ≤ 32767)) && itoaK (atoiF a0).1 == a0.data.toList)) := by
  unfold numF atoiF; cases Lib.atoiAll a0.data.toList <;> rfl
 rw [hb]
 clear hn hb
 generalize (atoiF a0).1 = v at hr hC ⊢
 generalize (atoiF a0).2 = ok at hC ⊢
 cases ok with
 | false =>
  go_enter Tryd.func36, Tryd.ntmps36
  go_wp2_with (go_at_call 42; refine (hC.out).mono ?_; rintro e w1 ⟨⟨N, rfl⟩, hb⟩; have HB := a_ hb; clear hb; simp only [errV, Bool.false_eq_true, if_false])
  go_ret2
  exact ⟨rfl, by repeat (first | exact HB.out | apply below_alloc | apply pw_below_drewN | apply below_drew1)⟩
 | true =>
  by_cases c1 : -32768 ≤ v
  case neg =>
   have k1 : decide (-32768 ≤ v) = false := decide_eq_false c1
   have e1 : (true && ((decide (-32768 ≤ v) && decide (v ≤ 32767)) && itoaK v == a0.data.toList)) = false := by rw [k1]; rfl
   rw [e1]
   clear e1
   go_enter Tryd.func36, Tryd.ntmps36
   go_wp2_with (first
    | (go_at_call 42; refine (hC.out).mono ?_; rintro e w1 ⟨⟨N, rfl⟩, hb⟩; have HB := a_ hb; clear hb; simp only [errV, if_true])
    | go_in)
   go_ret2
   exact ⟨rfl, by repeat (first | exact HB.out | apply below_alloc | apply pw_below_drewN | apply below_drew1)⟩
  by_cases c2 : v ≤ 32767
  case neg =>
   have k1 : decide (-32768 ≤ v) = true := decide_eq_true c1
   have k2 : decide (v ≤ 32767) = false := decide_eq_false c2
   have e1 : (true && ((decide (-32768 ≤ v) && decide (v ≤ 32767)) && itoaK v == a0.data.toList)) = false := by rw [k1, k2]; rfl
   rw [e1]
   clear e1
   go_enter Tryd.func36, Tryd.ntmps36
   go_wp2_with (first
    | (go_at_call 42; refine (hC.out).mono ?_; rintro e w1 ⟨⟨N, rfl⟩, hb⟩; have HB := a_ hb; clear hb; simp only [errV, if_true])
    | go_in)
   go_ret2
   exact ⟨rfl, by repeat (first | exact HB.out | apply below_alloc | apply pw_below_drewN | apply below_drew1)⟩
  have k1 : decide (-32768 ≤ v) = true := decide_eq_true c1
  have k2 : decide (v ≤ 32767) = true := decide_eq_true c2
  have e1 : (true && ((decide (-32768 ≤ v) && decide (v ≤ 32767)) && itoaK v == a0.data.toList)) = (itoaK v == a0.data.toList) := by rw [k1, k2]; rfl
  rw [e1]
  clear e1
  go_enter Tryd.func36, Tryd.ntmps36
  go_wp2_with (first
   | (go_at_call 42; refine (hC.out).mono ?_; rintro e w1 ⟨⟨N, rfl⟩, hb⟩; have HB := a_ hb; have HG1 := hG.below hb; clear hb; simp only [errV, if_true])
   | (go_at_call 44; refine (itoa_calls v (by omega) (by omega) _ HG1).mono ?_; rintro e w2 ⟨rfl, hb⟩; have HB2 := a_ (below_step HB.out hb); clear hb)
   | go_in)
  go_ret2
  exact ⟨by rw [Lib.toList_data]; rfl, by repeat (first | exact HB2.out | apply below_alloc | apply pw_below_drewN | apply below_drew1)⟩
end Go.Proofs.YthoegphcmkejoaaDoor.G
end
section
namespace Go.Proofs.YthoegphcmkejoaaDoor.G
open Go.RowKit Go.Proofs.YthoegphcmkejoaaDoorW.PrintWords Go.Proofs.YthoegphcmkejoaaDoorW.PrintLast Go.Proofs.YthoegphcmkejoaaDoorW.PrintMore
attribute [local go_sem] max2_int min2_int max_two min_two max_three min_three max_four min_four
set_option linter.unusedVariables false
set_option linter.unusedSimpArgs false
def strings_CutPrefix.f (a0 : ByteArray) (a1 : ByteArray) : Option (ByteArray × Bool) := some (⟨(Lib.trimPrefix a0.data.toList a1.data.toList).toArray⟩, Lib.hasPrefix a0.data.toList a1.data.toList)
theorem strings_CutPrefix.calls (a0 : ByteArray) (a1 : ByteArray) (r1 : ByteArray) (r2 : Bool) (w : World) (h : strings_CutPrefix.f a0 a1 = some (r1, r2)) :
 Calls Tryd.prog 39 #[.string a0, .string a1] w fun e w' => e = .returned (.tuple #[.string r1, .bool r2]) ∧ Drawn0 w w' := by
 have h := Option.some.inj h
 obtain ⟨rfl, rfl⟩ := Prod.mk.inj h
 refine (Tryd.strings_CutPrefix a0 a1 w).mono ?_
 rintro e w' ⟨rfl, rfl⟩
 exact ⟨rfl, Drawn0.refl _⟩

end Go.Proofs.YthoegphcmkejoaaDoor.G
end
section
namespace Go.Proofs.YthoegphcmkejoaaDoor.G
open Go.RowKit Go.Proofs.YthoegphcmkejoaaDoorW.PrintWords Go.Proofs.YthoegphcmkejoaaDoorW.PrintLast Go.Proofs.YthoegphcmkejoaaDoorW.PrintMore
set_option maxHeartbeats 8000000
set_option maxRecDepth 100000
attribute [local go_sem] max2_int min2_int max_two min_two max_three min_three max_four min_four   -- for this text's walks alone
set_option linter.unusedVariables false
set_option linter.unusedSimpArgs false

def term_Digits.f (a0 : ByteArray) (a1 : Int) : Option (Int × Bool) := if a0.size ≤ 281474976710656 then some (digF a0 a1) else none
theorem term_Digits.calls (a0 : ByteArray) (a1 : Int) (r1 : Int) (r2 : Bool) (w : World) (h : term_Digits.f a0 a1 = some (r1, r2)) (hG : GOK w) :
 Calls Tryd.prog 45 #[.string a0, .int .i64 a1] w fun e w' => e = .returned (.tuple #[.int .i64 r1, .bool r2]) ∧ Below w.heap.size w w' := by
 unfold term_Digits.f at h
 by_cases hs : a0.size ≤ 281474976710656
 case neg =>
  rw [if_neg hs] at h
  cases h

 rw [if_pos hs] at h
 have h := Option.some.inj h
 obtain ⟨rfl, rfl⟩ : r1 = (digF a0 a1).1 ∧ r2 = (digF a0 a1).2 := by rw [h]; exact ⟨rfl, rfl⟩
 clear h
 have hr := atoiF_range a0
 have hC := a_ (atoi_calls a0 hs w hG)
 have hn : (digF a0 a1).1 = (atoiF a0).1 := by unfold digF atoiF; cases Lib.atoiAll a0.data.toList <;> rfl
 rw [hn]
 have hb : (digF a0 a1).2 = ((atoiF a0).2 && ((decide (0 ≤ (atoiF a0).1) && decide ((atoiF a0).1 ≤ a1)) && itoaK (atoiF a0).1 == a0.data.toList)) := by
  unfold digF atoiF; cases Lib.atoiAll a0.data.toList <;> rfl
 rw [hb]
 clear hn hb
 generalize (atoiF a0).1 = v at hr hC ⊢
 generalize (atoiF a0).2 = ok at hC ⊢
 cases ok with
 | false =>
  go_enter Tryd.func45, Tryd.ntmps45
  go_wp2_with (go_at_call 42; refine (hC.out).mono ?_; rintro e w1 ⟨⟨N, rfl⟩, hb⟩; have HB := a_ hb; clear hb; simp only [errV, Bool.false_eq_true, if_false])
  go_ret2
  exact ⟨rfl, by repeat (first | exact HB.out | apply below_alloc | apply pw_below_drewN | apply below_drew1)⟩
 | true =>
  by_cases c1 : 0 ≤ v
  case neg =>
   have k1 : decide (0 ≤ v) = false := decide_eq_false c1
   have e1 : (true && ((decide (0 ≤ v) && decide (v ≤ a1)) && itoaK v == a0.data.toList)) = false := by rw [k1]; rfl
   rw [e1]
   clear e1
   go_enter Tryd.func45, Tryd.ntmps45
   go_wp2_with (first
    | (go_at_call 42; refine (hC.out).mono ?_; rintro e w1 ⟨⟨N, rfl⟩, hb⟩; have HB := a_ hb; clear hb; simp only [errV, if_true])
    | go_in)
   go_ret2
   exact ⟨rfl, by repeat (first | exact HB.out | apply below_alloc | apply pw_below_drewN | apply below_drew1)⟩
  by_cases c2 : v ≤ a1
  case neg =>
   have k1 : decide (0 ≤ v) = true := decide_eq_true c1
   have k2 : decide (v ≤ a1) = false := decide_eq_false c2
   have e1 : (true && ((decide (0 ≤ v) && decide (v ≤ a1)) && itoaK v == a0.data.toList)) = false := by rw [k1, k2]; rfl
   rw [e1]
   clear e1
   go_enter Tryd.func45, Tryd.ntmps45
   go_wp2_with (first
    | (go_at_call 42; refine (hC.out).mono ?_; rintro e w1 ⟨⟨N, rfl⟩, hb⟩; have HB := a_ hb; clear hb; simp only [errV, if_true])
    | go_in)
   go_ret2
   exact ⟨rfl, by repeat (first | exact HB.out | apply below_alloc | apply pw_below_drewN | apply below_drew1)⟩
  have k1 : decide (0 ≤ v) = true := decide_eq_true c1
  have k2 : decide (v ≤ a1) = true := decide_eq_true c2
  have e1 : (true && ((decide (0 ≤ v) && decide (v ≤ a1)) && itoaK v == a0.data.toList)) = (itoaK v == a0.data.toList) := by rw [k1, k2]; rfl
  rw [e1]
  clear e1
  go_enter Tryd.func45, Tryd.ntmps45
  go_wp2_with (first
   | (go_at_call 42; refine (hC.out).mono ?_; rintro e w1 ⟨⟨N, rfl⟩, hb⟩; have HB := a_ hb; have HG1 := hG.below hb; clear hb; simp only [errV, if_true])
   | (go_at_call 44; refine (itoa_calls v (by omega) (by omega) _ HG1).mono ?_; rintro e w2 ⟨rfl, hb⟩; have HB2 := a_ (below_step HB.out hb); clear hb)
   | go_in)
  go_ret2
  exact ⟨by rw [Lib.toList_data]; rfl, by repeat (first | exact HB2.out | apply below_alloc | apply pw_below_drewN | apply below_drew1)⟩
set_option maxHeartbeats 8000000
set_option maxRecDepth 100000
attribute [local go_sem] max2_int min2_int max_two min_two max_three min_three max_four min_four   -- for this text's walks alone
set_option linter.unusedVariables false
set_option linter.unusedSimpArgs false

def term_Tag.f (a0 : ByteArray) : Option (Int × Bool) := (strings_CutPrefix.f a0 (⟨#[64]⟩ : ByteArray)).bind fun bt102 => ((term_Digits.f bt102.1 99).bind fun bt104 => (if bt102.2 = true then (some (bt104.1, bt104.2)) else (some (bt104.1, false))))
theorem term_Tag.calls (a0 : ByteArray) (r1 : Int) (r2 : Bool) (w : World) (h : term_Tag.f a0 = some (r1, r2)) (hG : GOK w) :
 Calls Tryd.prog 37 #[.string a0] w fun e w' => e = .returned (.tuple #[.int .i64 r1, .bool r2]) ∧ Below w.heap.size w w' := by
 have HB := a_ (Below.refl w.heap.size w)
 have H := h; unfold term_Tag.f at H
 clear h
 replace H := Option.bind_eq_some_iff.mp H
 obtain ⟨⟨t0, t3⟩, A20, H⟩ := H
 try dsimp only at H
 have A2 := a_ A20
 clear A20
 replace H := Option.bind_eq_some_iff.mp H
 obtain ⟨⟨t1, t2⟩, A30, H⟩ := H
 try dsimp only at H
 have A3 := a_ A30
 clear A30
 by_cases c4 : t3 = true
 case pos =>
  subst c4
  rw [if_pos rfl] at H
  simp only [Option.some.injEq, Prod.mk.injEq] at H
  obtain ⟨rfl, rfl⟩ := H
  go_enter Tryd.func37, Tryd.ntmps37
  go_wp2_with (first | ((with_reducible refine gate_callee (f := 39) rfl ?_); refine goesL_ _ rfl rfl Tryd.func39 (by kernel_rfl) rfl #[.string a0, .string (⟨#[64]⟩ : ByteArray)] rfl hL_ ?_; (with_reducible refine (strings_CutPrefix.calls a0 (⟨#[64]⟩ : ByteArray) t0 true _ A2.out).mono ?_); rintro e w' ⟨rfl, ⟨nd, rfl⟩⟩; refine ⟨_, rfl, ?_⟩) | ((with_reducible refine gate_callee (f := 45) rfl ?_); refine goesL_ (some 15) rfl rfl Tryd.func45 (by kernel_rfl) rfl #[.string t0, .int .i64 99] rfl hL_ ?_; (with_reducible refine (term_Digits.calls t0 99 t1 t2 _ A3.out hG_).mono ?_); rintro e w5 ⟨rfl, hb⟩; refine ⟨_, rfl, ?_⟩; replace HB := a_ (below_step hB_ hb); (try clear hb); (try clear hb2); (try clear hk); (try clear hi)))
  go_ret2
  exact ⟨hV_, hC_⟩
 replace c4 := Bool.eq_false_iff.mpr c4
 subst c4
 rw [if_neg (show ¬ (false = true) by decide)] at H
 simp only [Option.some.injEq, Prod.mk.injEq] at H
 obtain ⟨rfl, rfl⟩ := H
 go_enter Tryd.func37, Tryd.ntmps37
 go_wp2_with (first | ((with_reducible refine gate_callee (f := 39) rfl ?_); refine goesL_ _ rfl rfl Tryd.func39 (by kernel_rfl) rfl #[.string a0, .string (⟨#[64]⟩ : ByteArray)] rfl hL_ ?_; (with_reducible refine (strings_CutPrefix.calls a0 (⟨#[64]⟩ : ByteArray) t0 false _ A2.out).mono ?_); rintro e w' ⟨rfl, ⟨nd, rfl⟩⟩; refine ⟨_, rfl, ?_⟩) | ((with_reducible refine gate_callee (f := 45) rfl ?_); refine goesL_ (some 15) rfl rfl Tryd.func45 (by kernel_rfl) rfl #[.string t0, .int .i64 99] rfl hL_ ?_; (with_reducible refine (term_Digits.calls t0 99 t1 t2 _ A3.out hG_).mono ?_); rintro e w6 ⟨rfl, hb⟩; refine ⟨_, rfl, ?_⟩; replace HB := a_ (below_step hB_ hb); (try clear hb); (try clear hb2); (try clear hk); (try clear hi)))
 go_ret2
 exact ⟨hV_, hC_⟩

end Go.Proofs.YthoegphcmkejoaaDoor.G
end
section
namespace Go.Proofs.YthoegphcmkejoaaDoor.G
open Go.RowKit Go.Proofs.YthoegphcmkejoaaDoorW.PrintWords Go.Proofs.YthoegphcmkejoaaDoorW.PrintLast Go.Proofs.YthoegphcmkejoaaDoorW.PrintMore
attribute [local go_sem] max2_int min2_int max_two min_two max_three min_three max_four min_four
set_option linter.unusedVariables false
set_option linter.unusedSimpArgs false
def strings_HasPrefix.f (a0 : ByteArray) (a1 : ByteArray) : Option Bool := some (Lib.hasPrefix a0.data.toList a1.data.toList)
theorem strings_HasPrefix.calls (a0 : ByteArray) (a1 : ByteArray) (r : Bool) (w : World) (h : strings_HasPrefix.f a0 a1 = some r) :
 Calls Tryd.prog 38 #[.string a0, .string a1] w fun e w' => e = .returned (.bool r) ∧ Drawn0 w w' := by
 obtain rfl := Option.some.inj h
 refine (Tryd.strings_HasPrefix a0 a1 w).mono ?_
 rintro e w' ⟨rfl, rfl⟩
 exact ⟨rfl, Drawn0.refl _⟩

end Go.Proofs.YthoegphcmkejoaaDoor.G
end
section
namespace Go.Proofs.YthoegphcmkejoaaDoor.G
open Go.RowKit Go.Proofs.YthoegphcmkejoaaDoorW.PrintWords Go.Proofs.YthoegphcmkejoaaDoorW.PrintLast Go.Proofs.YthoegphcmkejoaaDoorW.PrintMore
set_option maxHeartbeats 8000000
set_option maxRecDepth 100000
attribute [local go_sem] max2_int min2_int max_two min_two max_three min_three max_four min_four   -- for this text's walks alone
set_option linter.unusedVariables false
set_option linter.unusedSimpArgs false

mutual
def term_cut.j0 : Nat → ByteArray → Int → Bool → Bool → Option (Int × Int × List ByteArray × ByteArray × Bool)
 | 0, _, _, _, _ => none
 | k + 1, x8, x11, x12, x52 => if x52 = true then (some (2, x11, ([] : List ByteArray), x8, x12)) else (term_cut.l0 k x8 x11 ([] : List ByteArray))
def term_cut.l0 : Nat → ByteArray → Int → List ByteArray → Option (Int × Int × List ByteArray × ByteArray × Bool)
 | 0, _, _, _ => none
 | k + 1, x8, x11, x13 => if (x13.length : Int) < 3 then (if 1 ≤ (x8.size : Int) then ((term_cut.f k (x8.extract 1 x8.size)).bind fun bt115 => (if bt115.2.2.2.2 = true then (if 0 ≤ (wrap64 (((x8.extract 1 x8.size).size : Int) - (bt115.2.2.2.1.size : Int))) then (if (wrap64 (((x8.extract 1 x8.size).size : Int) - (bt115.2.2.2.1.size : Int))) ≤ ((x8.extract 1 x8.size).size : Int) then (if x13.length < 8796093022208 then ((some (x13 ++ [(x8.extract 1 x8.size).extract 0 ((wrap64 (((x8.extract 1 x8.size).size : Int) - (bt115.2.2.2.1.size : Int))) : Int).toNat] : List ByteArray)).bind fun y122 => ((strings_HasPrefix.f bt115.2.2.2.1 (⟨#[32]⟩ : ByteArray)).bind fun t125 => (if t125 = true then (term_cut.l0 k bt115.2.2.2.1 x11 y122) else ((strings_CutPrefix.f bt115.2.2.2.1 (⟨#[41]⟩ : ByteArray)).bind fun bt126 => (some (2, x11, y122, bt126.1, bt126.2)))))) else (none)) else (none)) else (none)) else (some (0, 0, ([] : List ByteArray), (⟨#[]⟩ : ByteArray), false)))) else (none)) else ((strings_CutPrefix.f x8 (⟨#[41]⟩ : ByteArray)).bind fun bt113 => (some (2, x11, x13, bt113.1, bt113.2)))
def term_cut.f : Nat → ByteArray → Option (Int × Int × List ByteArray × ByteArray × Bool)
 | 0, _ => none
 | k + 1, a0 => (term_word.f a0).bind fun bt106 => (if bt106.1.toList = ([95] : List UInt8) then (some (0, 0, ([] : List ByteArray), bt106.2, true)) else (if bt106.1.toList = ([33] : List UInt8) then (some (3, 0, ([] : List ByteArray), bt106.2, true)) else ((term_Number.f bt106.1).bind fun bt108 => (if bt108.2 = true then (some (1, bt108.1, ([] : List ByteArray), bt106.2, true)) else ((term_Tag.f bt106.1).bind fun bt110 => (if bt110.2 = true then ((strings_HasPrefix.f bt106.2 (⟨#[40]⟩ : ByteArray)).bind fun t112 => (term_cut.j0 k bt106.2 bt110.1 bt110.2 (!t112))) else (term_cut.j0 k bt106.2 bt110.1 bt110.2 true)))))))
end
theorem term_cut.calls (k : Nat) : ∀ (a0 : ByteArray) (r1 : Int) (r2 : Int) (r3 : List ByteArray) (r4 : ByteArray) (r5 : Bool) (w : World) (h : term_cut.f k a0 = some (r1, r2, r3, r4, r5)) (hG : GOK w),
 Calls Tryd.prog 33 #[.string a0] w fun e w' => ∃ v2_ : Value, e = .returned (.tuple #[.int .i64 r1, .int .i64 r2, v2_, .string r4, .bool r5]) ∧ Kd.R Kd.string 9 w' w.heap.size (fun _ => True) v2_ r3 ∧ Below w.heap.size w w' := by
 induction k using Nat.strongRecOn with
 | _ k ih =>
 intro a0 r1 r2 r3 r4 r5 w h hG
 cases k with
 | zero => exact absurd h (by simp [term_cut.f])
 | succ k =>
 simp only [term_cut.f] at h
 have HB := a_ (Below.refl w.heap.size w)
 have H := h; unfold term_cut.f at H
 clear h
 replace H := Option.bind_eq_some_iff.mp H
 obtain ⟨⟨t0, t2⟩, A20, H⟩ := H
 try dsimp only at H
 have A2 := a_ A20
 clear A20
 by_cases c3 : t0.toList = ([95] : List UInt8)
 case pos =>
  rw [if_pos c3] at H
  have c3b0 : (t0.toList == ([95] : List UInt8)) = true := beq_iff_eq.mpr c3
  have c3b1 : (t0.toList != ([95] : List UInt8)) = false := bne_eq_false_iff_eq.mpr c3
  clear c3
  simp only [Option.some.injEq, Prod.mk.injEq] at H
  obtain ⟨rfl, rfl, rfl, rfl, rfl⟩ := H
  go_enter Tryd.func33, Tryd.ntmps33
  go_wp2_with (first | ((with_reducible refine gate_callee (f := 35) rfl ?_); refine goesL_ (some 24) rfl rfl Tryd.func35 (by kernel_rfl) rfl #[.string a0] rfl hL_ ?_; (with_reducible refine (term_word.calls a0 t0 t2 _ A2.out).mono ?_); rintro e w4 ⟨rfl, hb⟩; refine ⟨_, rfl, ?_⟩; replace HB := a_ (below_step hB_ hb); (try clear hb); (try clear hb2); (try clear hk); (try clear hi)))
  refine bodyPost_ret (results_list (rs := [.tmp 2, .tmp 3, .tmp 4, .tmp 5, .tmp 6]) rfl (by simp) (.tmp (.tmp (.tmp (.tmp (.tmp .nil)))))) rfl ?_
  exact ⟨_, hV_, by first | exact Kd.R_nil _ _ _ _ _ | exact Kd.N_nil _ _ _ _ _ | exact Kd.V_nil _ _ _ _ _ | exact Kd.Q_nil _ _ _ _ _ | exact Kd.S_nil _ _ _ _ _, hC_⟩
 rw [if_neg c3] at H
 have c3b0 : (t0.toList == ([95] : List UInt8)) = false := beq_eq_false_iff_ne.mpr c3
 have c3b1 : (t0.toList != ([95] : List UInt8)) = true := bne_iff_ne.mpr c3
 by_cases c5 : t0.toList = ([33] : List UInt8)
 case pos =>
  rw [if_pos c5] at H
  have c5b0 : (t0.toList == ([33] : List UInt8)) = true := beq_iff_eq.mpr c5
  have c5b1 : (t0.toList != ([33] : List UInt8)) = false := bne_eq_false_iff_eq.mpr c5
  clear c5
  simp only [Option.some.injEq, Prod.mk.injEq] at H
  obtain ⟨rfl, rfl, rfl, rfl, rfl⟩ := H
  go_enter Tryd.func33, Tryd.ntmps33
  go_wp2_with (first | ((with_reducible refine gate_callee (f := 35) rfl ?_); refine goesL_ (some 24) rfl rfl Tryd.func35 (by kernel_rfl) rfl #[.string a0] rfl hL_ ?_; (with_reducible refine (term_word.calls a0 t0 t2 _ A2.out).mono ?_); rintro e w6 ⟨rfl, hb⟩; refine ⟨_, rfl, ?_⟩; replace HB := a_ (below_step hB_ hb); (try clear hb); (try clear hb2); (try clear hk); (try clear hi)))
  refine bodyPost_ret (results_list (rs := [.tmp 2, .tmp 3, .tmp 4, .tmp 5, .tmp 6]) rfl (by simp) (.tmp (.tmp (.tmp (.tmp (.tmp .nil)))))) rfl ?_
  exact ⟨_, hV_, by first | exact Kd.R_nil _ _ _ _ _ | exact Kd.N_nil _ _ _ _ _ | exact Kd.V_nil _ _ _ _ _ | exact Kd.Q_nil _ _ _ _ _ | exact Kd.S_nil _ _ _ _ _, hC_⟩
 rw [if_neg c5] at H
 have c5b0 : (t0.toList == ([33] : List UInt8)) = false := beq_eq_false_iff_ne.mpr c5
 have c5b1 : (t0.toList != ([33] : List UInt8)) = true := bne_iff_ne.mpr c5
 replace H := Option.bind_eq_some_iff.mp H
 obtain ⟨⟨t9, t11⟩, A70, H⟩ := H
 try dsimp only at H
 have A7 := a_ A70
 clear A70
 by_cases c8 : t11 = true
 case pos =>
  subst c8
  rw [if_pos rfl] at H
  simp only [Option.some.injEq, Prod.mk.injEq] at H
  obtain ⟨rfl, rfl, rfl, rfl, rfl⟩ := H
  go_enter Tryd.func33, Tryd.ntmps33
  go_wp2_with (first | ((with_reducible refine gate_callee (f := 35) rfl ?_); refine goesL_ (some 24) rfl rfl Tryd.func35 (by kernel_rfl) rfl #[.string a0] rfl hL_ ?_; (with_reducible refine (term_word.calls a0 t0 t2 _ A2.out).mono ?_); rintro e w9 ⟨rfl, hb⟩; refine ⟨_, rfl, ?_⟩; replace HB := a_ (below_step hB_ hb); (try clear hb); (try clear hb2); (try clear hk); (try clear hi)) | ((with_reducible refine gate_callee (f := 36) rfl ?_); refine goesL_ (some 35) rfl rfl Tryd.func36 (by kernel_rfl) rfl #[.string t0] rfl hL_ ?_; (with_reducible refine (term_Number.calls t0 t9 true _ A7.out hG_).mono ?_); rintro e w1 ⟨rfl, hb⟩; refine ⟨_, rfl, ?_⟩; replace HB := a_ (below_step hB_ hb); (try clear hb); (try clear hb2); (try clear hk); (try clear hi)))
  refine bodyPost_ret (results_list (rs := [.tmp 2, .tmp 3, .tmp 4, .tmp 5, .tmp 6]) rfl (by simp) (.tmp (.tmp (.tmp (.tmp (.tmp .nil)))))) rfl ?_
  exact ⟨_, hV_, by first | exact Kd.R_nil _ _ _ _ _ | exact Kd.N_nil _ _ _ _ _ | exact Kd.V_nil _ _ _ _ _ | exact Kd.Q_nil _ _ _ _ _ | exact Kd.S_nil _ _ _ _ _, hC_⟩
 replace c8 := Bool.eq_false_iff.mpr c8
 subst c8
 rw [if_neg (show ¬ (false = true) by decide)] at H
 replace H := Option.bind_eq_some_iff.mp H
 obtain ⟨⟨t3, t5⟩, A110, H⟩ := H
 try dsimp only at H
 have A11 := a_ A110
 clear A110
 have HC12 := a_ H
 clear H
 go_enter Tryd.func33, Tryd.ntmps33
 go_upto_region 10 with (first | ((with_reducible refine gate_callee (f := 35) rfl ?_); refine goesL_ (some 24) rfl rfl Tryd.func35 (by kernel_rfl) rfl #[.string a0] rfl hL_ ?_; (with_reducible refine (term_word.calls a0 t0 t2 _ A2.out).mono ?_); rintro e w2 ⟨rfl, hb⟩; refine ⟨_, rfl, ?_⟩; replace HB := a_ (below_step hB_ hb); (try clear hb); (try clear hb2); (try clear hk); (try clear hi)) | ((with_reducible refine gate_callee (f := 36) rfl ?_); refine goesL_ (some 35) rfl rfl Tryd.func36 (by kernel_rfl) rfl #[.string t0] rfl hL_ ?_; (with_reducible refine (term_Number.calls t0 t9 false _ A7.out hG_).mono ?_); rintro e w3 ⟨rfl, hb⟩; refine ⟨_, rfl, ?_⟩; replace HB := a_ (below_step hB_ hb); (try clear hb); (try clear hb2); (try clear hk); (try clear hi)) | ((with_reducible refine gate_callee (f := 37) rfl ?_); refine goesL_ (some 43) rfl rfl Tryd.func37 (by kernel_rfl) rfl #[.string t0] rfl hL_ ?_; (with_reducible refine (term_Tag.calls t0 t3 t5 _ A11.out hG_).mono ?_); rintro e w5 ⟨rfl, hb⟩; refine ⟨_, rfl, ?_⟩; replace HB := a_ (below_step hB_ hb); (try clear hb); (try clear hb2); (try clear hk); (try clear hi)))
 (try simp only [Act.put, List.setIfInBounds_toArray, List.set_cons_zero, List.set_cons_succ])
 go_cut [52] (fun v1 wc => ∃ (kq : Nat) (x2 : Bool), v1 = .bool x2 ∧ Aside0 (term_cut.j0 kq t2 t3 t5 x2 = some (r1, r2, r3, r4, r5)) ∧ Aside0 (kq ≤ k) ∧ Aside0 (Below w.heap.size w wc))
 case first =>
  have H := HC12.out
  clear HC12
  by_cases c16 : t5 = true
  case neg =>
   replace c16 := Bool.eq_false_iff.mpr c16
   subst c16
   rw [if_neg (show ¬ (false = true) by decide)] at H
   have H' := a_ H
   clear H
   go_wp2
   go_meet
   case rel => exact ⟨_, (true), hW_, H', ⟨by first | omega | exact Nat.le_refl _⟩, ⟨hC_⟩⟩
  subst c16
  rw [if_pos rfl] at H
  replace H := Option.bind_eq_some_iff.mp H
  obtain ⟨t10, A170, H⟩ := H
  try dsimp only at H
  have A17 := a_ A170
  clear A170
  have H' := a_ H
  clear H
  go_wp2_with (first | (go_at_call 38; (with_reducible refine (strings_HasPrefix.calls t2 (⟨#[40]⟩ : ByteArray) t10 _ A17.out).mono ?_); rintro e w' ⟨rfl, ⟨nd, rfl⟩⟩))
  go_meet
  case rel => exact ⟨_, (!t10), hW_, H', ⟨by first | omega | exact Nat.le_refl _⟩, ⟨hC_⟩⟩
 case rest =>
  clear HC12
  try clear c1
  try clear p2
  try clear c3
  try clear c3b0
  try clear c3b1
  try clear c5
  try clear c5b0
  try clear c5b1
  try clear c8
  try clear c16
  obtain ⟨kq, x2, rfl, HA, HJ11, HB⟩ := hcut
  cases kq with
  | zero => exact absurd HA.out (by simp [term_cut.j0])
  | succ kj11 =>
   have H := HA.out
   clear HA
   simp only [term_cut.j0] at H
   by_cases c18 : x2 = true
   case pos =>
    subst c18
    rw [if_pos rfl] at H
    simp only [Option.some.injEq, Prod.mk.injEq] at H
    obtain ⟨rfl, rfl, rfl, rfl, rfl⟩ := H
    go_wp2
    refine bodyPost_ret (results_list (rs := [.tmp 2, .tmp 3, .tmp 4, .tmp 5, .tmp 6]) rfl (by simp) (.tmp (.tmp (.tmp (.tmp (.tmp .nil)))))) rfl ?_
    exact ⟨_, hV_, by first | exact Kd.R_nil _ _ _ _ _ | exact Kd.N_nil _ _ _ _ _ | exact Kd.V_nil _ _ _ _ _ | exact Kd.Q_nil _ _ _ _ _ | exact Kd.S_nil _ _ _ _ _, hC_⟩
   replace c18 := Bool.eq_false_iff.mpr c18
   subst c18
   rw [if_neg (show ¬ (false = true) by decide)] at H
   have H' := a_ H
   clear H
   go_wp2
   go_loopg [8, 13] kj11 (fun kq v8 v2 w' => ∃ (x0 : ByteArray) (x1 : List ByteArray), v8 = .string x0 ∧ Aside0 (term_cut.l0 kq x0 t3 x1 = some (r1, r2, r3, r4, r5)) ∧ Aside0 (kq ≤ kj11) ∧ Aside0 (Kd.R Kd.string 9 w' w.heap.size (fun _ => True) v2 x1) ∧ Aside0 (Below w.heap.size w w'))
   case atStart => exact ⟨(t2), (([] : List ByteArray)), hW_, H', ⟨Nat.le_refl _⟩, ⟨by first | exact Kd.R_nil _ _ _ _ _ | exact Kd.N_nil _ _ _ _ _ | exact Kd.V_nil _ _ _ _ _ | exact Kd.Q_nil _ _ _ _ _ | exact Kd.S_nil _ _ _ _ _⟩, ⟨hC_⟩⟩
   case round =>
    clear H'
    try clear c1
    try clear p2
    try clear c3
    try clear c3b0
    try clear c3b1
    try clear c5
    try clear c5b0
    try clear c5b1
    try clear c8
    try clear c16
    try clear c18
    try clear p2
    obtain ⟨x0, x1, rfl, HA, HK2, O0, HB⟩ := hrel
    cases gk with
    | zero => exact absurd HA.out (by simp [term_cut.l0])
    | succ k2 =>
     have H := HA.out
     clear HA
     simp only [term_cut.l0] at H
     by_cases c19 : (x1.length : Int) < 3
     case neg =>
      rw [if_neg c19] at H
      have c19b0 : decide ((x1.length : Int) < 3) = false := decide_eq_false c19
      have c19b1 : decide (x1.length < 3) = false := decide_eq_false (by omega)
      clear c19
      replace H := Option.bind_eq_some_iff.mp H
      obtain ⟨⟨t12, t13⟩, A380, H⟩ := H
      try dsimp only at H
      have A38 := a_ A380
      clear A380
      simp only [Option.some.injEq, Prod.mk.injEq] at H
      obtain ⟨rfl, rfl, rfl, rfl, rfl⟩ := H
      obtain ⟨a3, o2, e0⟩ := Kd.R_slice O0.out
      subst e0
      go_wp2_with (first | ((with_reducible refine gate_callee (f := 39) rfl ?_); refine goesL_ _ rfl rfl Tryd.func39 (by kernel_rfl) rfl #[.string x0, .string (⟨#[41]⟩ : ByteArray)] rfl hL_ ?_; (with_reducible refine (strings_CutPrefix.calls x0 (⟨#[41]⟩ : ByteArray) t12 t13 _ A38.out).mono ?_); rintro e w' ⟨rfl, ⟨nd, rfl⟩⟩; refine ⟨_, rfl, ?_⟩))
      refine bodyPost_ret (results_list (rs := [.tmp 2, .tmp 3, .tmp 4, .tmp 5, .tmp 6]) rfl (by simp) (.tmp (.tmp (.tmp (.tmp (.tmp .nil)))))) rfl ?_
      exact ⟨_, hV_, hR_ O0.out, hC_⟩

     rw [if_pos c19] at H
     have c19b0 : decide ((x1.length : Int) < 3) = true := decide_eq_true c19
     have c19b1 : decide (x1.length < 3) = true := decide_eq_true (by omega)
     clear c19
     replace H := ifI_ H; obtain ⟨c20, H⟩ := H
     have c20b0 := eq_true c20
     have c20b1 : decide (1 ≤ (x0.size : Int)) = true := decide_eq_true c20
     clear c20
     replace H := Option.bind_eq_some_iff.mp H
     obtain ⟨⟨t6, t7, t8, t1, t14⟩, A210, H⟩ := H
     try dsimp only at H
     have A21 := a_ A210
     clear A210
     by_cases c22 : t14 = true
     case neg =>
      replace c22 := Bool.eq_false_iff.mpr c22
      subst c22
      rw [if_neg (show ¬ (false = true) by decide)] at H
      simp only [Option.some.injEq, Prod.mk.injEq] at H
      obtain ⟨rfl, rfl, rfl, rfl, rfl⟩ := H
      obtain ⟨a4, o3, e1⟩ := Kd.R_slice O0.out
      subst e1
      go_wp2_with (first | ((with_reducible refine gate_callee (f := 33) rfl ?_); refine goesL_ (some 63) rfl rfl Tryd.func33 (by kernel_rfl) rfl #[.string (x0.extract 1 x0.size)] rfl hL_ ?_; (with_reducible refine (ih k2 (by have := HJ11.out; have := HK2.out; omega) (x0.extract 1 x0.size) t6 t7 t8 t1 false _ A21.out hG_).mono ?_); rintro e w7 ⟨v0, rfl, ho0, hb⟩; refine ⟨_, rfl, ?_⟩; have P0 := a_ (Kd.R_lower (Kd.R_new' ho0 (Kd.R_lt (hR_ O0.out))) hS_); replace O0 := a_ (Kd.R_elder' (hR_ O0.out) (Kd.R_base ho0) hb); replace HB := a_ (below_step hB_ hb); (try clear hb); (try clear hb2); (try clear hk); (try clear hi); (try clear ho0)))
      refine bodyPost_ret (results_list (rs := [.tmp 2, .tmp 3, .tmp 4, .tmp 5, .tmp 6]) rfl (by simp) (.tmp (.tmp (.tmp (.tmp (.tmp .nil)))))) rfl ?_
      exact ⟨_, hV_, by first | exact Kd.R_nil _ _ _ _ _ | exact Kd.N_nil _ _ _ _ _ | exact Kd.V_nil _ _ _ _ _ | exact Kd.Q_nil _ _ _ _ _ | exact Kd.S_nil _ _ _ _ _, hC_⟩
     subst c22
     rw [if_pos rfl] at H
     obtain ⟨ji23, hji23⟩ : ∃ j_ : Int, (wrap64 (((x0.extract 1 x0.size).size : Int) - (t1.size : Int))) = j_ := ⟨_, rfl⟩
     replace H : (if 0 ≤ (ji23) then (if (ji23) ≤ ((x0.extract 1 x0.size).size : Int) then (if x1.length < 8796093022208 then ((some (x1 ++ [(x0.extract 1 x0.size).extract 0 ((ji23) : Int).toNat] : List ByteArray)).bind fun y0 => ((strings_HasPrefix.f t1 (⟨#[32]⟩ : ByteArray)).bind fun t4 => (if t4 = true then (term_cut.l0 k2 t1 t3 y0) else ((strings_CutPrefix.f t1 (⟨#[41]⟩ : ByteArray)).bind fun bt126 => (some (2, t3, y0, bt126.1, bt126.2)))))) else (none)) else (none)) else (none)) = some (r1, r2, r3, r4, r5) := by first | (rw [hji23] at H; exact H) | (simp only [hji23] at H ⊢; exact H)
     (try rw [hji23] at A21)
     have hji23w : (IntKind.i64.wrap (((x0.extract 1 x0.size).size : Int) - (t1.size : Int))) = ji23 := (i64_w _).trans hji23
     (try (have hji23s := hji23; simp only [ByteArray.size_extract, Nat.min_self] at hji23s; have hji23sw := hji23w; simp only [ByteArray.size_extract, Nat.min_self] at hji23sw))
     replace H := ifI_ H; obtain ⟨c24, H⟩ := H
     have c24b0 := eq_true c24
     have c24b1 : decide (0 ≤ (ji23)) = true := decide_eq_true c24
     clear c24
     replace H := ifI_ H; obtain ⟨c25, H⟩ := H
     have c25b0 := eq_true c25
     (try (have c25b0s := c25b0; simp only [ByteArray.size_extract, Nat.min_self] at c25b0s))
     have c25b1 : decide ((ji23) ≤ ((x0.extract 1 x0.size).size : Int)) = true := decide_eq_true c25
     (try (have c25b1s := c25b1; simp only [ByteArray.size_extract, Nat.min_self] at c25b1s))
     clear c25
     replace H := ifI_ H; obtain ⟨c26, H⟩ := H
     have LMc26 := a_ c26
     clear c26
     obtain ⟨y0, i0⟩ : ∃ y_ : List ByteArray, y_ = (x1 ++ [(x0.extract 1 x0.size).extract 0 ((ji23) : Int).toNat]) := ⟨_, rfl⟩
     replace H : ((strings_HasPrefix.f t1 (⟨#[32]⟩ : ByteArray)).bind fun t4 => (if t4 = true then (term_cut.l0 k2 t1 t3 y0) else ((strings_CutPrefix.f t1 (⟨#[41]⟩ : ByteArray)).bind fun bt126 => (some (2, t3, y0, bt126.1, bt126.2))))) = some (r1, r2, r3, r4, r5) := by first | (rw [i0]; with_reducible exact H) | (have H2_ := (Option.bind_some _ _).symm.trans H; rw [i0]; with_reducible exact H2_) | (have H2_ := (Option.bind_some _ _).symm.trans H; with_reducible exact H2_) | with_reducible exact H | (rw [i0]; exact H) | exact H
     have Y0 := a_ i0
     clear i0
     replace H := Option.bind_eq_some_iff.mp H
     obtain ⟨t4, A270, H⟩ := H
     try dsimp only at H
     have A27 := a_ A270
     clear A270
     by_cases c28 : t4 = true
     case pos =>
      subst c28
      rw [if_pos rfl] at H
      have H' := a_ H
      clear H
      obtain ⟨a1, o0, e2⟩ := Kd.R_slice O0.out
      subst e2
      go_wp2_with (first | ((with_reducible refine gate_callee (f := 33) rfl ?_); refine goesL_ (some 63) rfl rfl Tryd.func33 (by kernel_rfl) rfl #[.string (x0.extract 1 x0.size)] rfl hL_ ?_; (with_reducible refine (ih k2 (by have := HJ11.out; have := HK2.out; omega) (x0.extract 1 x0.size) t6 t7 t8 t1 true _ A21.out hG_).mono ?_); rintro e w8 ⟨v0, rfl, ho0, hb⟩; refine ⟨_, rfl, ?_⟩; have P0 := a_ (Kd.R_lower (Kd.R_new' ho0 (Kd.R_lt (hR_ O0.out))) hS_); replace O0 := a_ (Kd.R_elder' (hR_ O0.out) (Kd.R_base ho0) hb); replace HB := a_ (below_step hB_ hb); (try clear hb); (try clear hb2); (try clear hk); (try clear hi); (try clear ho0)) | ((with_reducible refine gate_builtin (b := .append) (xs := #[.tmp 71, .tmp 79]) rfl ?_); at_builtin; refine Kd.R_append Kd.string (w0 := w) w.heap.size rfl (.tmp 71) (.tmp 79) 22 9 (.string ⟨#[]⟩) 16 rfl Tryd.underlying22 info9 rfl (by decide) (by omega) (.slice a1 x1.length o0) x1 ((x0.extract 1 x0.size).extract 0 ((ji23) : Int).toNat) [.string ((x0.extract 1 x0.size).extract 0 ((ji23) : Int).toNat)] (fun k_ => some k_ ≠ (v0 : Value).ownBlock) (fun _ => False) rfl rfl ?aP (fun _ hk => hk.elim) ?aF ?aO ?aB ?aS ?aL ?_; (case aP => exact rfl); (case aB => exact hB_); (case aF => exact (fun k_ hk => Kd.fresh' (Kd.R_lt (hR_ P0.out)) k_ hk)); (case aO => exact (by (with_reducible repeat (first | apply Kd.R_alloc | apply Kd.R_drewN | apply Kd.R_drew)); exact Kd.R_mono O0.out (fun _ hk => hk.2))); (case aS => exact hS_); (case aL => have := LMc26.out; omega); intro v3 w31 ho hb hg hat; rw [← Y0.out] at ho; replace P0 := a_ (Kd.R_after (ok := (fun _ => True)) (hR_ P0.out) hg hat); replace HB := a_ (hb); have P1 := a_ (ho); clear O0; clear ho hb hg hat) | ((with_reducible refine gate_callee (f := 38) rfl ?_); refine goesL_ _ rfl rfl Tryd.func38 (by kernel_rfl) rfl #[.string t1, .string (⟨#[32]⟩ : ByteArray)] rfl hL_ ?_; (with_reducible refine (strings_HasPrefix.calls t1 (⟨#[32]⟩ : ByteArray) true _ A27.out).mono ?_); rintro e w' ⟨rfl, ⟨nd, rfl⟩⟩; refine ⟨_, rfl, ?_⟩))
      go_roundg k2
      case measure => have := HJ11.out; have := HK2.out; omega
      case rel => exact ⟨(t1), (y0), hW_, H', ⟨by have := HJ11.out; have := HK2.out; omega⟩, ⟨hR_ (Kd.R_mono P1.out (fun _ hk => trivial))⟩, ⟨hC_⟩⟩
     replace c28 := Bool.eq_false_iff.mpr c28
     subst c28
     rw [if_neg (show ¬ (false = true) by decide)] at H
     replace H := Option.bind_eq_some_iff.mp H
     obtain ⟨⟨t15, t16⟩, A320, H⟩ := H
     try dsimp only at H
     have A32 := a_ A320
     clear A320
     simp only [Option.some.injEq, Prod.mk.injEq] at H
     obtain ⟨rfl, rfl, rfl, rfl, rfl⟩ := H
     obtain ⟨a2, o1, e3⟩ := Kd.R_slice O0.out
     subst e3
     go_wp2_with (first | ((with_reducible refine gate_callee (f := 33) rfl ?_); refine goesL_ (some 63) rfl rfl Tryd.func33 (by kernel_rfl) rfl #[.string (x0.extract 1 x0.size)] rfl hL_ ?_; (with_reducible refine (ih k2 (by have := HJ11.out; have := HK2.out; omega) (x0.extract 1 x0.size) t6 t7 t8 t1 true _ A21.out hG_).mono ?_); rintro e w34 ⟨v0, rfl, ho0, hb⟩; refine ⟨_, rfl, ?_⟩; have P0 := a_ (Kd.R_lower (Kd.R_new' ho0 (Kd.R_lt (hR_ O0.out))) hS_); replace O0 := a_ (Kd.R_elder' (hR_ O0.out) (Kd.R_base ho0) hb); replace HB := a_ (below_step hB_ hb); (try clear hb); (try clear hb2); (try clear hk); (try clear hi); (try clear ho0)) | ((with_reducible refine gate_builtin (b := .append) (xs := #[.tmp 71, .tmp 79]) rfl ?_); at_builtin; refine Kd.R_append Kd.string (w0 := w) w.heap.size rfl (.tmp 71) (.tmp 79) 22 9 (.string ⟨#[]⟩) 16 rfl Tryd.underlying22 info9 rfl (by decide) (by omega) (.slice a2 x1.length o1) x1 ((x0.extract 1 x0.size).extract 0 ((ji23) : Int).toNat) [.string ((x0.extract 1 x0.size).extract 0 ((ji23) : Int).toNat)] (fun k_ => some k_ ≠ (v0 : Value).ownBlock) (fun _ => False) rfl rfl ?aP (fun _ hk => hk.elim) ?aF ?aO ?aB ?aS ?aL ?_; (case aP => exact rfl); (case aB => exact hB_); (case aF => exact (fun k_ hk => Kd.fresh' (Kd.R_lt (hR_ P0.out)) k_ hk)); (case aO => exact (by (with_reducible repeat (first | apply Kd.R_alloc | apply Kd.R_drewN | apply Kd.R_drew)); exact Kd.R_mono O0.out (fun _ hk => hk.2))); (case aS => exact hS_); (case aL => have := LMc26.out; omega); intro v3 w35 ho hb hg hat; rw [← Y0.out] at ho; replace P0 := a_ (Kd.R_after (ok := (fun _ => True)) (hR_ P0.out) hg hat); replace HB := a_ (hb); have P1 := a_ (ho); clear O0; clear ho hb hg hat) | ((with_reducible refine gate_callee (f := 38) rfl ?_); refine goesL_ _ rfl rfl Tryd.func38 (by kernel_rfl) rfl #[.string t1, .string (⟨#[32]⟩ : ByteArray)] rfl hL_ ?_; (with_reducible refine (strings_HasPrefix.calls t1 (⟨#[32]⟩ : ByteArray) false _ A27.out).mono ?_); rintro e w' ⟨rfl, ⟨nd, rfl⟩⟩; refine ⟨_, rfl, ?_⟩) | ((with_reducible refine gate_callee (f := 39) rfl ?_); refine goesL_ _ rfl rfl Tryd.func39 (by kernel_rfl) rfl #[.string t1, .string (⟨#[41]⟩ : ByteArray)] rfl hL_ ?_; (with_reducible refine (strings_CutPrefix.calls t1 (⟨#[41]⟩ : ByteArray) t15 t16 _ A32.out).mono ?_); rintro e w' ⟨rfl, ⟨nd, rfl⟩⟩; refine ⟨_, rfl, ?_⟩))
     refine bodyPost_ret (results_list (rs := [.tmp 2, .tmp 3, .tmp 4, .tmp 5, .tmp 6]) rfl (by simp) (.tmp (.tmp (.tmp (.tmp (.tmp .nil)))))) rfl ?_
     exact ⟨_, by first | rfl | (simp [errW_none, errW_some] <;> rfl) | (simp only [← hji23]; first | rfl | (simp [errW_none, errW_some] <;> rfl)) | (simp [*, errW_none, errW_some] <;> rfl), hR_ (Kd.R_mono P1.out (fun _ hk => trivial)), hC_⟩
set_option maxHeartbeats 8000000
set_option maxRecDepth 100000
attribute [local go_sem] max2_int min2_int max_two min_two max_three min_three max_four min_four   -- for this text's walks alone
set_option linter.unusedVariables false
set_option linter.unusedSimpArgs false

def term_May.f (k : Nat) (a0 : ByteArray) : Option (Bool) := if (a0.size : Int) > 1024 then (some false) else ((term_cut.f k a0).bind fun bt128 => (if bt128.2.2.2.2 = true then (some (bt128.2.2.2.1.toList == ([] : List UInt8))) else (some false)))
theorem term_May.calls (k : Nat) (a0 : ByteArray) (r : Bool) (w : World) (h : term_May.f k a0 = some r) (hG : GOK w) :
 Calls Tryd.prog 30 #[.string a0] w fun e w' => e = .returned (.bool r) ∧ Below w.heap.size w w' := by
 have HB := a_ (Below.refl w.heap.size w)
 have H := h; unfold term_May.f at H
 clear h
 by_cases c2 : (a0.size : Int) > 1024
 case pos =>
  rw [if_pos c2] at H
  have c2b0 : decide (1024 < (a0.size : Int)) = true := decide_eq_true c2
  have c2b1 : decide (1024 < a0.size) = true := decide_eq_true (by omega)
  clear c2
  obtain rfl := Option.some.inj H
  go_enter Tryd.func30, Tryd.ntmps30
  go_wp2
  go_ret
  exact ⟨hV_, hC_⟩
 rw [if_neg c2] at H
 have c2b0 : decide (1024 < (a0.size : Int)) = false := decide_eq_false c2
 have c2b1 : decide (1024 < a0.size) = false := decide_eq_false (by omega)
 clear c2
 replace H := Option.bind_eq_some_iff.mp H
 obtain ⟨⟨t0, t1, t2, t3, t4⟩, A30, H⟩ := H
 try dsimp only at H
 have A3 := a_ A30
 clear A30
 by_cases c4 : t4 = true
 case pos =>
  subst c4
  rw [if_pos rfl] at H
  obtain rfl := Option.some.inj H
  go_enter Tryd.func30, Tryd.ntmps30
  go_wp2_with (first | ((with_reducible refine gate_callee (f := 33) rfl ?_); refine goesL_ (some 13) rfl rfl Tryd.func33 (by kernel_rfl) rfl #[.string a0] rfl hL_ ?_; (with_reducible refine (term_cut.calls k a0 t0 t1 t2 t3 true _ A3.out hG_).mono ?_); rintro e w5 ⟨v0, rfl, ho0, hb⟩; refine ⟨_, rfl, ?_⟩; have P0 := a_ (Kd.R_lower ho0 hS_); replace HB := a_ (below_step hB_ hb); (try clear hb); (try clear hb2); (try clear hk); (try clear hi); (try clear ho0)))
  go_ret
  exact ⟨hV_, hC_⟩
 replace c4 := Bool.eq_false_iff.mpr c4
 subst c4
 rw [if_neg (show ¬ (false = true) by decide)] at H
 obtain rfl := Option.some.inj H
 go_enter Tryd.func30, Tryd.ntmps30
 go_wp2_with (first | ((with_reducible refine gate_callee (f := 33) rfl ?_); refine goesL_ (some 13) rfl rfl Tryd.func33 (by kernel_rfl) rfl #[.string a0] rfl hL_ ?_; (with_reducible refine (term_cut.calls k a0 t0 t1 t2 t3 false _ A3.out hG_).mono ?_); rintro e w6 ⟨v0, rfl, ho0, hb⟩; refine ⟨_, rfl, ?_⟩; have P0 := a_ (Kd.R_lower ho0 hS_); replace HB := a_ (below_step hB_ hb); (try clear hb); (try clear hb2); (try clear hk); (try clear hi); (try clear ho0)))
 go_ret
 exact ⟨hV_, hC_⟩

def term_All.l0 : Nat → List ByteArray → Int → Int → Option (Bool)
 | 0, _, _, _ => none
 | k + 1, x5, x6, x7 => if x7 < x6 then (if 0 ≤ x7 then (if x7 < (x5.length : Int) then ((term_May.f k (rdOf ByteArray.empty x5 x7)).bind fun t136 => (if t136 = true then (term_All.l0 k x5 x6 (wrap64 (x7 + 1))) else (some false))) else (none)) else (none)) else (some true)
def term_All.f (k : Nat) (l0 : List ByteArray) : Option (Bool) := term_All.l0 k l0 (l0.length : Int) 0
theorem term_All.calls (k : Nat) (A0 : Option Addr) (c0 : Nat) (l0 : List ByteArray) (r : Bool) (w : World) (hr0 : Kd.C Kd.string w A0 l0.length l0) (hc0 : l0.length ≤ c0) (h : term_All.f k l0 = some r) (hG : GOK w) :
 Calls Tryd.prog 29 #[.slice A0 l0.length c0] w fun e w' => e = .returned (.bool r) ∧ Below w.heap.size w w' := by
 have HR0 := a_ hr0
 have HC0 := a_ hc0
 clear hr0 hc0
 have HB := a_ (Below.refl w.heap.size w)
 have H : (term_All.l0 k l0 (l0.length : Int) 0) = some r := h
 clear h
 have H' := a_ H
 clear H
 go_enter Tryd.func29, Tryd.ntmps29
 go_wp2
 go_loopg [7] k (fun kq v7 w' => ∃ (x0 : Int), v7 = .int .i64 x0 ∧ Aside0 (term_All.l0 kq l0 (l0.length : Int) x0 = some r) ∧ Aside0 (kq ≤ k) ∧ Aside0 (Below w.heap.size w w'))
 case atStart => exact ⟨(0), hW_, H', ⟨Nat.le_refl _⟩, ⟨hC_⟩⟩
 case round =>
  clear H'
  obtain ⟨x0, rfl, HA, HK1, HB⟩ := hrel
  cases gk with
  | zero => exact absurd HA.out (by simp [term_All.l0])
  | succ k1 =>
   have H := HA.out
   clear HA
   simp only [term_All.l0] at H
   by_cases c2 : x0 < (l0.length : Int)
   case neg =>
    rw [if_neg c2] at H
    have c2b0 : decide (x0 < (l0.length : Int)) = false := decide_eq_false c2
    clear c2
    obtain rfl := Option.some.inj H
    go_wp2
    go_ret
    exact ⟨hV_, hC_⟩

   rw [if_pos c2] at H
   have c2b0 : decide (x0 < (l0.length : Int)) = true := decide_eq_true c2
   clear c2
   replace H := ifI_ H; obtain ⟨c3, H⟩ := H
   have c3b0 : decide (0 ≤ x0) = true := decide_eq_true c3
   clear c3
   replace H := ifI_ H; obtain ⟨c4, H⟩ := H
   have c4b0 : decide (x0 < (l0.length : Int)) = true := decide_eq_true c4
   clear c4
   replace H := Option.bind_eq_some_iff.mp H
   obtain ⟨t0, A50, H⟩ := H
   try dsimp only at H
   have A5 := a_ A50
   clear A50
   by_cases c6 : t0 = true
   case neg =>
    replace c6 := Bool.eq_false_iff.mpr c6
    subst c6
    rw [if_neg (show ¬ (false = true) by decide)] at H
    obtain rfl := Option.some.inj H
    have p135 : 0 ≤ (x0 : Int) := of_decide_eq_true hA_
    have q135 : x0 < (l0.length : Int) := of_decide_eq_true hA_
    obtain ⟨d0, e135, h0⟩ := Kd.at_string HR0.out x0 p135 q135
    cases e135
    replace h0 := cl_ HB.out h0
    replace p135 := eq_true p135
    replace q135 := eq_true q135
    go_wp2_with (first | ((with_reducible refine gate_callee (f := 30) rfl ?_); refine goesL_ (some 12) rfl rfl Tryd.func30 (by kernel_rfl) rfl #[.string (rdOf ByteArray.empty l0 x0)] rfl hL_ ?_; (with_reducible refine (term_May.calls k1 (rdOf ByteArray.empty l0 x0) false _ A5.out hG_).mono ?_); rintro e w8 ⟨rfl, hb⟩; refine ⟨_, rfl, ?_⟩; replace HB := a_ (below_step hB_ hb); (try clear hb); (try clear hb2); (try clear hk); (try clear hi)))
    go_ret
    exact ⟨hV_, hC_⟩
   subst c6
   rw [if_pos rfl] at H
   have H' := a_ H
   clear H
   have p135 : 0 ≤ (x0 : Int) := of_decide_eq_true hA_
   have q135 : x0 < (l0.length : Int) := of_decide_eq_true hA_
   obtain ⟨d0, e135, h0⟩ := Kd.at_string HR0.out x0 p135 q135
   cases e135
   replace h0 := cl_ HB.out h0
   replace p135 := eq_true p135
   replace q135 := eq_true q135
   go_wp2_with (first | ((with_reducible refine gate_callee (f := 30) rfl ?_); refine goesL_ (some 12) rfl rfl Tryd.func30 (by kernel_rfl) rfl #[.string (rdOf ByteArray.empty l0 x0)] rfl hL_ ?_; (with_reducible refine (term_May.calls k1 (rdOf ByteArray.empty l0 x0) true _ A5.out hG_).mono ?_); rintro e w7 ⟨rfl, hb⟩; refine ⟨_, rfl, ?_⟩; replace HB := a_ (below_step hB_ hb); (try clear hb); (try clear hb2); (try clear hk); (try clear hi)))
   go_roundg k1
   case measure => have := HK1.out; omega
   case rel => exact ⟨(wrap64 (x0 + 1)), hW_, H', ⟨by have := HK1.out; omega⟩, ⟨hC_⟩⟩
end Go.Proofs.YthoegphcmkejoaaDoor.G
end
section
namespace Go.Proofs.YthoegphcmkejoaaDoor.G
open Go.RowKit Go.Proofs.YthoegphcmkejoaaDoorW.PrintWords Go.Proofs.YthoegphcmkejoaaDoorW.PrintLast Go.Proofs.YthoegphcmkejoaaDoorW.PrintMore
set_option linter.unusedVariables false
set_option linter.unusedSimpArgs false
theorem w64 {x : Int} (h0 : -9223372036854775808 ≤ x) (h1 : x ≤ 9223372036854775807) : wrap64 x = x := by unfold wrap64; omega

abbrev B (l : List UInt8) : ByteArray := ⟨l.toArray⟩
theorem B_data (s : ByteArray) : B s.data.toList = s := by cases s; rfl
theorem B_size (l : List UInt8) : (B l).size = l.length := by simp [ByteArray.size]
theorem B_list (l : List UInt8) : (B l).data.toList = l := rfl
theorem B_toList (l : List UInt8) : (B l).toList = l := by rw [Lib.toList_data]
theorem B_extract (l : List UInt8) (i j : Nat) : (B l).extract i j = B ((l.take j).drop i) := by
  rw [← B_data ((B l).extract i j)]
  congr 1
  simp only [ByteArray.data_extract, Array.toList_extract, List.extract_eq_drop_take']
theorem B_tail (l : List UInt8) (i : Nat) : (B l).extract i (B l).size = B (l.drop i) := by
  rw [B_extract, B_size, List.take_length]
theorem B_head (l : List UInt8) (j : Nat) : (B l).extract 0 j = B (l.take j) := by rw [B_extract]; rfl
def nsep (b : UInt8) : Bool := !(b == 32 || b == 40 || b == 41)
theorem seps_contains (b : UInt8) : seps.data.toList.contains b = !nsep b := by
  show [(32 : UInt8), 40, 41].contains b = _
  unfold nsep
  simp [Bool.or_assoc]
  rfl
theorem indexAny_seps : ∀ l : List UInt8, Lib.indexAny l seps.data.toList = if (l.takeWhile nsep).length = l.length then -1 else ((l.takeWhile nsep).length : Int)
  | [] => rfl
  | b :: l => by
    unfold Lib.indexAny
    rw [seps_contains, indexAny_seps l]
    cases hb : nsep b with
    | false => simp [List.takeWhile_cons, hb]
    | true =>
      have hle : (l.takeWhile nsep).length ≤ l.length := (List.takeWhile_prefix nsep).length_le
      simp only [List.takeWhile_cons, hb, Bool.not_true, if_true, List.length_cons, Bool.false_eq_true, if_false]
      by_cases c : (l.takeWhile nsep).length = l.length
      · rw [if_pos c, if_pos (show ((-1 : Int) == -1) = true from rfl), if_pos (by rw [c])]
      · have : ¬ ((((l.takeWhile nsep).length : Int) == -1) = true) := by rw [beq_iff_eq]; omega
        rw [if_neg c, if_neg this, if_neg (fun h => c (Nat.succ.inj h))]; rfl
theorem take_takeWhile : ∀ l : List UInt8, l.take (l.takeWhile nsep).length = l.takeWhile nsep
  | [] => rfl
  | b :: l => by
    cases hb : nsep b with
    | false => simp [List.takeWhile_cons, hb]
    | true => simp [List.takeWhile_cons, hb, take_takeWhile l]
theorem drop_takeWhile : ∀ l : List UInt8, l.drop (l.takeWhile nsep).length = l.dropWhile nsep
  | [] => rfl
  | b :: l => by
    cases hb : nsep b with
    | false => simp [List.takeWhile_cons, hb]
    | true => simp [List.takeWhile_cons, hb, drop_takeWhile l]
theorem word_eq (l : List UInt8) (hl : l.length ≤ 1024) : term_word.f (B l) = some (B (l.takeWhile nsep), B (l.dropWhile nsep)) := by
  have hle : (l.takeWhile nsep).length ≤ l.length := (List.takeWhile_prefix nsep).length_le
  unfold term_word.f strings_IndexAny.f
  rw [if_pos ⟨rfl, by rw [B_size]; omega⟩, B_list, indexAny_seps]
  simp only [Option.bind_some, B_size]
  by_cases c : (l.takeWhile nsep).length = l.length
  · rw [if_pos c, if_pos (by omega), if_pos (by omega), if_pos (by omega)]
    have e1 := take_takeWhile l
    have e2 := drop_takeWhile l
    rw [c] at e1 e2
    rw [B_head, show ((l.length : Int)).toNat = l.length by omega, show l.length = (B l).size from (B_size l).symm, B_tail, B_size, e1, e2]
  · rw [if_neg c, if_neg (by omega), if_pos (by omega), if_pos (by omega)]
    rw [B_head, show (((l.takeWhile nsep).length : Int)).toNat = (l.takeWhile nsep).length by omega, show l.length = (B l).size from (B_size l).symm, B_tail, take_takeWhile, drop_takeWhile]

def decC (d : List UInt8) : Option Nat := if (d.head? = some 48 → d.length = 1) ∧ d.length ≤ 6 then Lib.decNat d else none
def numC (w : List UInt8) : Option Int :=
  match w with
  | 45 :: d => (match decC d with | some x => if x ≠ 0 ∧ x ≤ 32768 then some (-(x : Int)) else none | none => none)
  | d => (match decC d with | some x => if x ≤ 32767 then some (x : Int) else none | none => none)
def tagC (w : List UInt8) : Option Int :=
  match w with
  | 64 :: d => (match decC d with | some x => if x ≤ 99 then some (x : Int) else none | none => none)
  | _ => none
def p10 : Nat → Nat
  | 0 => 1
  | n + 1 => 10 * p10 n
def isDig (b : UInt8) : Bool := decide (48 ≤ b.toNat) && decide (b.toNat ≤ 57)
theorem digVal_dig {b : UInt8} {d : Nat} (h : Lib.digitVal b = some d) : isDig b = true ∧ d = b.toNat - 48 := by
  unfold Lib.digitVal at h
  by_cases c : 48 ≤ b.toNat ∧ b.toNat ≤ 57
  · rw [if_pos c] at h
    exact ⟨by simp [isDig, c.1, c.2], (Option.some.inj h).symm⟩
  · rw [if_neg c] at h; cases h
theorem dig_digVal {b : UInt8} (h : isDig b = true) : Lib.digitVal b = some (b.toNat - 48) := by
  simp only [isDig, Bool.and_eq_true, decide_eq_true_eq] at h
  unfold Lib.digitVal
  rw [if_pos h]
theorem decFrom_cons {x : Nat} {b : UInt8} {p : List UInt8} {v : Nat} (h : Lib.decFrom x (b :: p) = some v) : isDig b = true ∧ Lib.decFrom (10 * x + (b.toNat - 48)) p = some v := by
  unfold Lib.decFrom at h
  cases hd : Lib.digitVal b with
  | none => rw [hd] at h; cases h
  | some d =>
    rw [hd] at h
    obtain ⟨h1, rfl⟩ := digVal_dig hd
    exact ⟨h1, by rw [Nat.mul_comm 10]; exact h⟩
theorem decFrom_mk {x : Nat} {b : UInt8} {p : List UInt8} (h : isDig b = true) : Lib.decFrom x (b :: p) = Lib.decFrom (10 * x + (b.toNat - 48)) p := by
  conv => lhs; unfold Lib.decFrom
  rw [dig_digVal h, Nat.mul_comm 10]
theorem decFrom_dig {p : List UInt8} : ∀ {x v : Nat}, Lib.decFrom x p = some v → ∀ b ∈ p, isDig b = true := by
  induction p with
  | nil => intro x v _ b hb; cases hb
  | cons a p ih =>
    intro x v h b hb
    obtain ⟨h1, h2⟩ := decFrom_cons h
    rcases List.mem_cons.1 hb with rfl | hb
    · exact h1
    · exact ih h2 b hb
theorem decFrom_append {p q : List UInt8} : ∀ {x : Nat}, Lib.decFrom x (p ++ q) = (Lib.decFrom x p).bind fun a => Lib.decFrom a q := by
  induction p with
  | nil => intro x; rfl
  | cons a p ih =>
    intro x
    show (match Lib.digitVal a with | some d => Lib.decFrom (x * 10 + d) (p ++ q) | none => none) = Option.bind (match Lib.digitVal a with | some d => Lib.decFrom (x * 10 + d) p | none => none) fun a => Lib.decFrom a q
    cases Lib.digitVal a with
    | none => rfl
    | some d => exact ih
theorem decFrom_ge {p : List UInt8} : ∀ {x v : Nat}, Lib.decFrom x p = some v → x ≤ v := by
  induction p with
  | nil => intro x v h; have := Option.some.inj h; omega
  | cons a p ih => intro x v h; have := ih (decFrom_cons h).2; omega
theorem decNat_some {l : List UInt8} {v : Nat} (h : Lib.decNat l = some v) : l ≠ [] ∧ Lib.decFrom 0 l = some v := by
  unfold Lib.decNat at h
  cases l with
  | nil => cases h
  | cons a t => exact ⟨by simp, h⟩
theorem decC_some {d : List UInt8} {v : Nat} (h : decC d = some v) : d ≠ [] ∧ Lib.decFrom 0 d = some v ∧ (d.head? = some 48 → d.length = 1) ∧ d.length ≤ 6 := by
  unfold decC at h
  by_cases c : (d.head? = some 48 → d.length = 1) ∧ d.length ≤ 6
  · rw [if_pos c] at h
    obtain ⟨h1, h2⟩ := decNat_some h
    exact ⟨h1, h2, c⟩
  · rw [if_neg c] at h; cases h
theorem digK_val : ∀ (k n : Nat), n < p10 k → Lib.decFrom 0 (digK k n) = some n := by
  intro k
  induction k with
  | zero =>
    intro n h
    rw [p10] at h
    obtain rfl : n = 0 := (by omega)
    rfl
  | succ k ih =>
    intro n h
    rw [p10] at h
    have hd : ∀ m, m < 10 → isDig (UInt8.ofNat (48 + m)) = true ∧ (UInt8.ofNat (48 + m)).toNat = 48 + m := by
      intro m hm
      have : (UInt8.ofNat (48 + m)).toNat = 48 + m := by rw [UInt8.toNat_ofNat']; omega
      exact ⟨by simp only [isDig, this, Bool.and_eq_true, decide_eq_true_eq]; omega, this⟩
    unfold digK
    by_cases c : n < 10
    · rw [if_pos c, decFrom_mk (hd n c).1, (hd n c).2]
      show some _ = some _
      congr 1; omega
    · rw [if_neg c, decFrom_append, ih (n / 10) (by omega)]
      show Lib.decFrom (n / 10) [_] = _
      rw [decFrom_mk (hd (n % 10) (by omega)).1, (hd (n % 10) (by omega)).2]
      show some _ = some _
      congr 1; omega
theorem digK_ne (k n : Nat) (hk : 0 < k) : digK k n ≠ [] := by
  cases k with
  | zero => omega
  | succ k => unfold digK; split <;> simp
theorem digK_head : ∀ (k n : Nat), n < p10 k → 0 < n → (digK k n).head? ≠ some 48 := by
  intro k
  induction k with
  | zero => intro n h h0; rw [p10] at h; omega
  | succ k ih =>
    intro n h h0
    rw [p10] at h
    unfold digK
    by_cases c : n < 10
    · rw [if_pos c]
      intro hh
      have h1 : UInt8.ofNat (48 + n) = 48 := by simpa using hh
      have h2 : (UInt8.ofNat (48 + n)).toNat = 48 := by rw [h1]; rfl
      rw [UInt8.toNat_ofNat'] at h2
      omega
    · rw [if_neg c]
      have hk : 0 < k := by
        rcases Nat.eq_zero_or_pos k with rfl | hk
        · rw [p10] at h; omega
        · exact hk
      have := ih (n / 10) (by omega) (by omega)
      have hne := digK_ne k (n / 10) hk
      cases hc : digK k (n / 10) with
      | nil => exact absurd hc hne
      | cons a t => rw [hc] at this; simpa using this
theorem digK_len : ∀ (j k n : Nat), n < p10 (j + 1) → (digK k n).length ≤ j + 1 := by
  intro j
  induction j with
  | zero =>
    intro k n h
    simp only [p10] at h
    cases k with
    | zero => simp [digK]
    | succ k => rw [digK, if_pos (by omega)]; simp
  | succ j ih =>
    intro k n h
    cases k with
    | zero => simp [digK]
    | succ k =>
      rw [p10] at h
      rw [digK]
      by_cases c : n < 10
      · rw [if_pos c]; simp
      · rw [if_neg c, List.length_append]
        have := ih k (n / 10) (by omega)
        simp only [List.length_cons, List.length_nil]
        omega
theorem p10_mono : ∀ {i j : Nat}, i ≤ j → p10 i ≤ p10 j := by
  intro i j h
  induction h with
  | refl => exact Nat.le_refl _
  | step _ ih => rw [p10]; omega
theorem decC_digK (n : Nat) (h : n < 1000000) : decC (digK 20 n) = some n := by
  have h6 : n < p10 6 := by simp only [p10]; omega
  have h20 : n < p10 20 := Nat.lt_of_lt_of_le h6 (p10_mono (by omega))
  have hl := digK_len 5 20 n h6
  unfold decC
  rw [if_pos]
  · unfold Lib.decNat
    have hne := digK_ne 20 n (by omega)
    have := digK_val 20 n h20
    cases hc : digK 20 n with
    | nil => exact absurd hc hne
    | cons a t => rw [hc] at this; exact this
  · refine ⟨?_, by omega⟩
    intro hh
    rcases Nat.eq_zero_or_pos n with rfl | h0
    · rfl
    · exact absurd hh (digK_head 20 n h20 h0)
theorem digK_canon : ∀ (j : Nat) (d : List UInt8) (k v : Nat), d.length = j + 1 → j < k → (d.head? = some 48 → d.length = 1) → Lib.decFrom 0 d = some v → digK k v = d := by
  intro j
  induction j with
  | zero =>
    intro d k v hd hk _ h
    obtain ⟨a, rfl⟩ := List.length_eq_one_iff.1 hd
    obtain ⟨h1, h2⟩ := decFrom_cons h
    obtain rfl := Option.some.inj h2
    simp only [isDig, Bool.and_eq_true, decide_eq_true_eq] at h1
    cases k with
    | zero => omega
    | succ k =>
      rw [digK, if_pos (by omega)]
      congr 1
      apply UInt8.toNat_inj.1
      rw [UInt8.toNat_ofNat']
      omega
  | succ j ih =>
    intro d k v hd hk hh h
    have hne : d ≠ [] := by intro e; rw [e] at hd; simp at hd
    obtain ⟨p, b, rfl⟩ : ∃ p b, d = p ++ [b] := ⟨d.dropLast, d.getLast hne, (List.dropLast_concat_getLast hne).symm⟩
    have hp : p.length = j + 1 := by simpa using hd
    rw [decFrom_append] at h
    cases hy : Lib.decFrom 0 p with
    | none => rw [hy] at h; cases h
    | some y =>
      rw [hy] at h
      obtain ⟨h1, h2⟩ := decFrom_cons (show Lib.decFrom y [b] = some v from h)
      have h2 : 10 * y + (b.toNat - 48) = v := Option.some.inj h2
      simp only [isDig, Bool.and_eq_true, decide_eq_true_eq] at h1
      cases p with
      | nil => simp at hp
      | cons a t =>
        have ha : a ≠ 48 := by
          rintro rfl
          have := hh (by simp)
          simp at this
        obtain ⟨g1, g2⟩ := decFrom_cons hy
        simp only [isDig, Bool.and_eq_true, decide_eq_true_eq] at g1
        have ha' : a.toNat ≠ 48 := fun e => ha (UInt8.toNat_inj.1 e)
        have gy := decFrom_ge g2
        cases k with
        | zero => omega
        | succ k =>
          rw [digK, if_neg (by omega), show v / 10 = y by omega, ih (a :: t) k y hp (by omega) (fun e => absurd (by simpa using e) ha) hy]
          congr 1
          congr 1
          apply UInt8.toNat_inj.1
          rw [UInt8.toNat_ofNat']
          omega
theorem decC_text {d : List UInt8} {v : Nat} (h : decC d = some v) : digK 20 v = d := by
  obtain ⟨h1, h2, h3, h4⟩ := decC_some h
  have hlen : d.length ≠ 0 := fun e => h1 (List.length_eq_zero_iff.1 e)
  exact digK_canon (d.length - 1) d 20 v (by omega) (by omega) h3 h2
theorem atoi_plain {w : List UInt8} {v : Nat} (h : decC w = some v) : Lib.atoi w = some (v : Int) := by
  obtain ⟨h1, h2, h3, h4⟩ := decC_some h
  cases w with
  | nil => exact absurd rfl h1
  | cons b r =>
    have hd := (decFrom_cons h2).1
    simp only [isDig, Bool.and_eq_true, decide_eq_true_eq] at hd
    have n1 : (b == 45) = false := by rw [beq_eq_false_iff_ne]; rintro rfl; simp at hd
    have n2 : (b == 43) = false := by rw [beq_eq_false_iff_ne]; rintro rfl; simp at hd
    have : Lib.decNat (b :: r) = some v := h2
    show (if (b == 45) = true then (Lib.decNat r).map fun (m : Nat) => -(m : Int) else if (b == 43) = true then (Lib.decNat r).map fun (m : Nat) => (m : Int) else (Lib.decNat (b :: r)).map fun (m : Nat) => (m : Int)) = _
    rw [n1, n2, this]; rfl
theorem atoi_minus {w : List UInt8} {v : Nat} (h : decC w = some v) : Lib.atoi (45 :: w) = some (-(v : Int)) := by
  obtain ⟨h1, h2, h3, h4⟩ := decC_some h
  have : Lib.decNat w = some v := by
    cases w with
    | nil => exact absurd rfl h1
    | cons b r => exact h2
  show (Lib.decNat w).map (fun (m : Nat) => -(m : Int)) = _
  rw [this]; rfl
theorem digK_20 (n : Nat) (h : n < 1000000) : digK 20 n ≠ [] ∧ (digK 20 n).length ≤ 6 ∧ ∀ b ∈ digK 20 n, isDig b = true := by
  have := decC_digK n h
  obtain ⟨h1, h2, h3, h4⟩ := decC_some this
  exact ⟨h1, h4, decFrom_dig h2⟩
theorem numC_plain {w : List UInt8} (h : ∀ d, w ≠ 45 :: d) : numC w = match decC w with | some x => if x ≤ 32767 then some (x : Int) else none | none => none := by
  unfold numC
  split
  · rename_i d; exact absurd rfl (h d)
  · rfl
theorem num_some {w : List UInt8} {v : Int} (h : numC w = some v) : Lib.atoiAll w = .ok v ∧ itoaK v = w ∧ -32768 ≤ v ∧ v ≤ 32767 := by
  by_cases c : ∃ d, w = 45 :: d
  · obtain ⟨d, rfl⟩ := c
    have h : (match decC d with | some x => if x ≠ 0 ∧ x ≤ 32768 then some (-(x : Int)) else none | none => none) = some v := h
    cases hd : decC d with
    | none => rw [hd] at h; cases h
    | some x =>
      rw [hd] at h
      by_cases hx : x ≠ 0 ∧ x ≤ 32768
      · have h : (if x ≠ 0 ∧ x ≤ 32768 then some (-(x : Int)) else none) = some v := h
        rw [if_pos hx] at h
        obtain rfl := Option.some.inj h
        have hl := (decC_some hd).2.2.2
        refine ⟨?_, ?_, by omega, by omega⟩
        · rw [Lib.atoiAll_short _ (by simp only [List.length_cons]; omega), atoi_minus hd]; rfl
        · unfold itoaK
          rw [if_pos (by omega), show (-(x : Int)).natAbs = x by omega, decC_text hd]
      · have h : (if x ≠ 0 ∧ x ≤ 32768 then some (-(x : Int)) else none) = some v := h
        rw [if_neg hx] at h; cases h
  · rw [numC_plain (fun d e => c ⟨d, e⟩)] at h
    cases hd : decC w with
    | none => rw [hd] at h; cases h
    | some x =>
      rw [hd] at h
      have h : (if x ≤ 32767 then some (x : Int) else none) = some v := h
      by_cases hx : x ≤ 32767
      · rw [if_pos hx] at h
        obtain rfl := Option.some.inj h
        have hl := (decC_some hd).2.2.2
        refine ⟨?_, ?_, by omega, by omega⟩
        · rw [Lib.atoiAll_short _ (by omega), atoi_plain hd]; rfl
        · unfold itoaK
          rw [if_neg (by omega), show ((x : Int)).toNat = x by omega, decC_text hd]
      · rw [if_neg hx] at h; cases h
theorem dig_ne45 {d : List UInt8} {n : Nat} (h : n < 1000000) : digK 20 n ≠ 45 :: d := by
  intro e
  have := (digK_20 n h).2.2 45 (by rw [e]; simp)
  revert this; decide
theorem num_of (v : Int) (h0 : -32768 ≤ v) (h1 : v ≤ 32767) : numC (itoaK v) = some v := by
  unfold itoaK
  by_cases c : v < 0
  · rw [if_pos c]
    show (match decC (digK 20 v.natAbs) with | some x => if x ≠ 0 ∧ x ≤ 32768 then some (-(x : Int)) else none | none => none) = some v
    rw [decC_digK _ (by omega)]
    show (if v.natAbs ≠ 0 ∧ v.natAbs ≤ 32768 then some (-(v.natAbs : Int)) else none) = some v
    rw [if_pos (by omega)]
    congr 1; omega
  · rw [if_neg c, numC_plain (fun d => dig_ne45 (by omega)), decC_digK _ (by omega)]
    show (if v.toNat ≤ 32767 then some (v.toNat : Int) else none) = some v
    rw [if_pos (by omega)]
    congr 1; omega
theorem numF_some {w : List UInt8} {v : Int} (h : numC w = some v) : numF (B w) = (v, true) := by
  obtain ⟨h1, h2, h3, h4⟩ := num_some h
  unfold numF
  rw [B_list, h1]
  show (v, (decide (-32768 ≤ v) && decide (v ≤ 32767)) && itoaK v == w) = _
  rw [h2]
  show (v, (decide (-32768 ≤ v) && decide (v ≤ 32767)) && w == w) = _
  rw [decide_eq_true h3, decide_eq_true h4]
  simp
theorem numF_none {w : List UInt8} (h : numC w = none) : (numF (B w)).2 = false := by
  unfold numF
  rw [B_list]
  cases ha : Lib.atoiAll w
  case ok v =>
    show ((decide (-32768 ≤ v) && decide (v ≤ 32767)) && itoaK v == w) = false
    cases hc : ((decide (-32768 ≤ v) && decide (v ≤ 32767)) && itoaK v == w) with
    | false => rfl
    | true =>
      simp only [Bool.and_eq_true, decide_eq_true_eq, beq_iff_eq] at hc
      have := num_of v hc.1.1 hc.1.2
      rw [hc.2, h] at this; cases this
  all_goals rfl
theorem digF_some {d : List UInt8} {x : Nat} (h : decC d = some x) (hx : x ≤ 99) : digF (B d) 99 = ((x : Int), true) := by
  have hl := (decC_some h).2.2.2
  unfold digF
  rw [B_list, Lib.atoiAll_short _ (by omega), atoi_plain h]
  show ((x : Int), (decide (0 ≤ (x : Int)) && decide ((x : Int) ≤ 99)) && itoaK x == d) = _
  have e : itoaK (x : Int) = d := by
    unfold itoaK
    rw [if_neg (by omega), show ((x : Int)).toNat = x by omega, decC_text h]
  rw [e, decide_eq_true (by omega), decide_eq_true (by omega)]
  simp
theorem digF_true {d : List UInt8} (h : (digF (B d) 99).2 = true) : ∃ x, decC d = some x ∧ x ≤ 99 := by
  unfold digF at h
  rw [B_list] at h
  cases ha : Lib.atoiAll d
  case ok v =>
    rw [ha] at h
    have hc : ((decide (0 ≤ v) && decide (v ≤ 99)) && itoaK v == d) = true := h
    simp only [Bool.and_eq_true, decide_eq_true_eq, beq_iff_eq] at hc
    refine ⟨v.toNat, ?_, by omega⟩
    rw [← hc.2]
    unfold itoaK
    rw [if_neg (by omega)]
    exact decC_digK _ (by omega)
  all_goals (rw [ha] at h; cases h)
theorem number_eq (w : List UInt8) (hw : w.length ≤ 1024) : term_Number.f (B w) = some (numF (B w)) := by
  unfold term_Number.f
  rw [if_pos (by rw [B_size]; omega)]
theorem trim_at (w : List UInt8) : Lib.trimPrefix w [64] = (match w with | 64 :: d => d | d => d) ∧ Lib.hasPrefix w [64] = (match w with | 64 :: _ => true | _ => false) := by
  cases w with
  | nil => exact ⟨rfl, rfl⟩
  | cons b d =>
    by_cases c : b = 64
    · subst c; exact ⟨rfl, rfl⟩
    · have hp : Lib.hasPrefix (b :: d) [64] = false := by
        show ((64 : UInt8) == b && List.isPrefixOf [] d) = false
        rw [beq_eq_false_iff_ne.2 (fun e => c e.symm)]; rfl
      refine ⟨?_, ?_⟩
      · unfold Lib.trimPrefix
        rw [hp]
        split
        · rename_i e; exact absurd e (by simp)
        · split
          · rename_i e; exact absurd (List.cons.inj e).1 c
          · rfl
      · rw [hp]
        split
        · rename_i e; exact absurd (List.cons.inj e).1 c
        · rfl
theorem tag_some {w : List UInt8} {x : Int} (h : tagC w = some x) : term_Tag.f (B w) = some (x, true) := by
  unfold tagC at h
  split at h
  · rename_i d
    cases hd : decC d with
    | none => rw [hd] at h; cases h
    | some y =>
      rw [hd] at h
      have h : (if y ≤ 99 then some (y : Int) else none) = some x := h
      by_cases hy : y ≤ 99
      · rw [if_pos hy] at h
        obtain rfl := Option.some.inj h
        have hl := (decC_some hd).2.2.2
        unfold term_Tag.f strings_CutPrefix.f term_Digits.f
        simp only [Option.bind_some, B_list]
        rw [(trim_at _).1, (trim_at _).2]
        show ((if (B d).size ≤ 281474976710656 then some (digF (B d) 99) else none).bind _) = _
        rw [if_pos (by rw [B_size]; omega), digF_some hd hy]
        rfl
      · rw [if_neg hy] at h; cases h
  · cases h
theorem tag_none {w : List UInt8} (hw : w.length ≤ 1024) (h : tagC w = none) : ∃ x, term_Tag.f (B w) = some (x, false) := by
  unfold term_Tag.f strings_CutPrefix.f term_Digits.f
  simp only [Option.bind_some, B_list]
  rw [(trim_at _).1, (trim_at _).2]
  cases w with
  | nil => exact ⟨_, rfl⟩
  | cons b d =>
    by_cases c : b = 64
    · subst c
      show ∃ x, ((if (B d).size ≤ 281474976710656 then some (digF (B d) 99) else none).bind _) = _
      rw [if_pos (by rw [B_size]; simp only [List.length_cons] at hw; omega)]
      refine ⟨(digF (B d) 99).1, ?_⟩
      cases h2 : (digF (B d) 99).2 with
      | false => show some ((digF (B d) 99).1, (digF (B d) 99).2) = _; rw [h2]
      | true =>
        obtain ⟨x, hx, hx2⟩ := digF_true h2
        have h : (match decC d with | some x => if x ≤ 99 then some (x : Int) else none | none => none) = none := h
        rw [hx] at h
        have h : (if x ≤ 99 then some (x : Int) else none) = none := h
        rw [if_pos hx2] at h; cases h
    · have e1 : (match b :: d with | 64 :: d => d | d => d) = b :: d := by
        split
        · rename_i e; exact absurd (List.cons.inj e).1 c
        · rfl
      have e2 : (match b :: d with | 64 :: _ => true | _ => false) = false := by
        split
        · rename_i e; exact absurd (List.cons.inj e).1 c
        · rfl
      rw [e1, e2]
      show ∃ x, ((if (B (b :: d)).size ≤ 281474976710656 then some (digF (B (b :: d)) 99) else none).bind _) = _
      rw [if_pos (by rw [B_size]; omega)]
      exact ⟨_, rfl⟩
abbrev TR := Int × Int × List ByteArray × List UInt8
def kidsL (f : List UInt8 → Option TR) (x : Int) : List ByteArray → Nat → List UInt8 → Option TR
  | _, 0, _ => none
  | ks, m + 1, l => match f l with
    | none => none
    | some r => if r.2.2.2.head? = some 32 then kidsL f x (ks ++ [B (l.take (l.length - r.2.2.2.length))]) m r.2.2.2.tail else if r.2.2.2.head? = some 41 then some (2, x, ks ++ [B (l.take (l.length - r.2.2.2.length))], r.2.2.2.tail) else none
def spT : Nat → List UInt8 → Option TR
  | 0, _ => none
  | n + 1, l => if l.takeWhile nsep = [95] then some (0, 0, [], l.dropWhile nsep) else if l.takeWhile nsep = [33] then some (3, 0, [], l.dropWhile nsep) else
    match numC (l.takeWhile nsep) with
    | some x => some (1, x, [], l.dropWhile nsep)
    | none => match tagC (l.takeWhile nsep) with
      | none => none
      | some x => if (l.dropWhile nsep).head? = some 40 then kidsL (spT n) x [] 3 (l.dropWhile nsep).tail else some (2, x, [], l.dropWhile nsep)
theorem head_tail {l : List UInt8} {b : UInt8} (h : l.head? = some b) : l = b :: l.tail := by
  cases l with
  | nil => cases h
  | cons a t => obtain rfl : a = b := by simpa using h
                rfl
theorem kidsL_suf (f : List UInt8 → Option TR) (hf : ∀ l r, f l = some r → ∃ p, l = p ++ r.2.2.2) (x : Int) : ∀ (m : Nat) (ks : List ByteArray) (l : List UInt8) (r : TR), kidsL f x ks m l = some r → ∃ p, l = p ++ r.2.2.2 := by
  intro m
  induction m with
  | zero => intro ks l r h; cases h
  | succ m ih =>
    intro ks l r h
    rw [kidsL] at h
    cases hl : f l with
    | none => rw [hl] at h; cases h
    | some q =>
      rw [hl] at h
      obtain ⟨p, hp⟩ := hf l q hl
      have h : (if q.2.2.2.head? = some 32 then kidsL f x (ks ++ [B (l.take (l.length - q.2.2.2.length))]) m q.2.2.2.tail else if q.2.2.2.head? = some 41 then some (2, x, ks ++ [B (l.take (l.length - q.2.2.2.length))], q.2.2.2.tail) else none) = some r := h
      by_cases c : q.2.2.2.head? = some 32
      · rw [if_pos c] at h
        obtain ⟨p2, hp2⟩ := ih _ _ _ h
        refine ⟨p ++ 32 :: p2, ?_⟩
        rw [List.append_assoc, List.cons_append, ← hp2, ← head_tail c]
        exact hp
      · rw [if_neg c] at h
        by_cases c2 : q.2.2.2.head? = some 41
        · rw [if_pos c2] at h
          obtain rfl := Option.some.inj h
          refine ⟨p ++ [41], ?_⟩
          rw [List.append_assoc, List.singleton_append, ← head_tail c2]
          exact hp
        · rw [if_neg c2] at h; cases h
theorem tw_dw (l : List UInt8) : l = l.takeWhile nsep ++ l.dropWhile nsep := List.takeWhile_append_dropWhile.symm
theorem spT_suf : ∀ (n : Nat) (l : List UInt8) (r : TR), spT n l = some r → ∃ p, l = p ++ r.2.2.2 := by
  intro n
  induction n with
  | zero => intro l r h; cases h
  | succ n ih =>
    intro l r h
    rw [spT] at h
    have hw := tw_dw l
    by_cases c1 : l.takeWhile nsep = [95]
    · rw [if_pos c1] at h; obtain rfl := Option.some.inj h; exact ⟨_, hw⟩
    · rw [if_neg c1] at h
      by_cases c2 : l.takeWhile nsep = [33]
      · rw [if_pos c2] at h; obtain rfl := Option.some.inj h; exact ⟨_, hw⟩
      · rw [if_neg c2] at h
        cases hn : numC (l.takeWhile nsep) with
        | some x => rw [hn] at h; obtain rfl := Option.some.inj h; exact ⟨_, hw⟩
        | none =>
          rw [hn] at h
          cases ht : tagC (l.takeWhile nsep) with
          | none => rw [ht] at h; cases h
          | some x =>
            rw [ht] at h
            have h : (if (l.dropWhile nsep).head? = some 40 then kidsL (spT n) x [] 3 (l.dropWhile nsep).tail else some (2, x, [], l.dropWhile nsep)) = some r := h
            by_cases c3 : (l.dropWhile nsep).head? = some 40
            · rw [if_pos c3] at h
              obtain ⟨p, hp⟩ := kidsL_suf (spT n) ih x _ _ _ _ h
              refine ⟨l.takeWhile nsep ++ 40 :: p, ?_⟩
              rw [List.append_assoc, List.cons_append, ← hp, ← head_tail c3]
              exact hw
            · rw [if_neg c3] at h; obtain rfl := Option.some.inj h; exact ⟨_, hw⟩

theorem hasPre (b : UInt8) (l : List UInt8) : strings_HasPrefix.f (B l) ⟨#[b]⟩ = some (decide (l.head? = some b)) := by
  unfold strings_HasPrefix.f
  rw [B_list]
  congr 1
  show List.isPrefixOf [b] l = _
  cases l with
  | nil => rfl
  | cons a t =>
    show (b == a && List.isPrefixOf [] t) = _
    by_cases c : a = b
    · subst c; simp
    · rw [beq_eq_false_iff_ne.2 (fun e => c e.symm)]
      simp [c]
theorem cutPre (b : UInt8) (l : List UInt8) : strings_CutPrefix.f (B l) ⟨#[b]⟩ = some (if l.head? = some b then (B l.tail, true) else (B l, false)) := by
  have h := hasPre b l
  unfold strings_HasPrefix.f at h
  unfold strings_CutPrefix.f
  have h := Option.some.inj h
  by_cases c : l.head? = some b
  · rw [if_pos c, h, decide_eq_true c]
    rw [decide_eq_true c] at h
    unfold Lib.trimPrefix
    rw [h, if_pos rfl, B_list, head_tail c]
    rfl
  · rw [if_neg c, h, decide_eq_false c]
    rw [decide_eq_false c] at h
    unfold Lib.trimPrefix
    rw [h]
    rfl
def CutEv (g : Nat → Option (Int × Int × List ByteArray × ByteArray × Bool)) (o : Option TR) : Prop :=
  match o with
  | some r => Ev g (r.1, r.2.1, r.2.2.1, B r.2.2.2, true)
  | none => ∃ a b c d, Ev g (a, b, c, d, false)
theorem CutEv.step {g f : Nat → Option (Int × Int × List ByteArray × ByteArray × Bool)} {o : Option TR} (h : ∀ k, g (k + 1) = f k) (k : CutEv f o) : CutEv g o := by
  cases o with
  | some r => exact Ev.step h k
  | none => obtain ⟨a, b, c, d, k⟩ := k; exact ⟨a, b, c, d, Ev.step h k⟩
theorem CutEv.bind {β : Type} {g : Nat → Option β} {f : Nat → β → Option (Int × Int × List ByteArray × ByteArray × Bool)} {o : Option TR} {a : β} (h : Ev g a) (k : CutEv (fun n => f n a) o) : CutEv (fun n => (g n).bind (f n)) o := by
  cases o with
  | some r => exact Ev.bind h k
  | none => obtain ⟨a', b, c, d, k⟩ := k; exact ⟨a', b, c, d, Ev.bind h k⟩
theorem CutEv.congr {g f : Nat → Option (Int × Int × List ByteArray × ByteArray × Bool)} {o : Option TR} (h : ∀ k, g k = f k) (k : CutEv f o) : CutEv g o := by
  cases o with
  | some r => exact Ev.congr h k
  | none => obtain ⟨a, b, c, d, k⟩ := k; exact ⟨a, b, c, d, Ev.congr h k⟩
def afterKid (k : Nat) (l : ByteArray) (x : Int) (ks : List ByteArray) (t : Int × Int × List ByteArray × ByteArray × Bool) : Option (Int × Int × List ByteArray × ByteArray × Bool) :=
  if t.2.2.2.2 = true then (if 0 ≤ (wrap64 ((l.size : Int) - (t.2.2.2.1.size : Int))) then (if (wrap64 ((l.size : Int) - (t.2.2.2.1.size : Int))) ≤ (l.size : Int) then (if ks.length < 8796093022208 then ((some (ks ++ [l.extract 0 ((wrap64 ((l.size : Int) - (t.2.2.2.1.size : Int))) : Int).toNat] : List ByteArray)).bind fun y => ((strings_HasPrefix.f t.2.2.2.1 (⟨#[32]⟩ : ByteArray)).bind fun t125 => (if t125 = true then (term_cut.l0 k t.2.2.2.1 x y) else ((strings_CutPrefix.f t.2.2.2.1 (⟨#[41]⟩ : ByteArray)).bind fun bt126 => (some (2, x, y, bt126.1, bt126.2)))))) else (none)) else (none)) else (none)) else (some (0, 0, ([] : List ByteArray), (⟨#[]⟩ : ByteArray), false))
theorem cut_kids (n : Nat) (x : Int) (ih : ∀ l : List UInt8, l.length < n → l.length ≤ 1024 → CutEv (fun j => term_cut.f j (B l)) (spT n l)) :
    ∀ (m : Nat) (ks : List ByteArray) (c : UInt8) (l : List UInt8), ks.length + m = 3 → l.length < n → l.length ≤ 1023 → c ≠ 41 → CutEv (fun j => term_cut.l0 j (B (c :: l)) x ks) (kidsL (spT n) x ks m l) := by
  intro m
  induction m with
  | zero =>
    intro ks c l h3 hn hl hc
    refine CutEv.step (f := fun _ => some (2, x, ks, B (c :: l), false)) (fun k => ?_) ⟨_, _, _, _, Ev.now _⟩
    simp only [term_cut.l0]
    rw [if_neg (by omega), cutPre, if_neg (by simpa using hc)]
    rfl
  | succ m ihm =>
    intro ks c l h3 hn hl hc
    have hcut := ih l hn (by omega)
    have hx : (B (c :: l)).extract 1 (B (c :: l)).size = B l := by rw [B_tail]; rfl
    rw [kidsL]
    cases hs : spT n l with
    | none =>
      rw [hs] at hcut
      obtain ⟨a1, a2, a3, a4, hcut⟩ := hcut
      refine CutEv.step (f := fun k => (term_cut.f k (B l)).bind (afterKid k (B l) x ks)) (fun k => ?_) (CutEv.bind hcut ?_)
      · simp only [term_cut.l0]
        rw [if_pos (by omega), if_pos (by rw [B_size]; simp only [List.length_cons]; omega), hx]
        rfl
      · exact ⟨_, _, _, _, Ev.now _⟩
    | some r =>
      rw [hs] at hcut
      obtain ⟨p, hp⟩ := spT_suf n l r hs
      have hlen : l.length = p.length + r.2.2.2.length := by rw [hp, List.length_append]
      have hcut : Ev (fun j => term_cut.f j (B l)) (r.1, r.2.1, r.2.2.1, B r.2.2.2, true) := hcut
      show CutEv _ (if r.2.2.2.head? = some 32 then kidsL (spT n) x (ks ++ [B (l.take (l.length - r.2.2.2.length))]) m r.2.2.2.tail else if r.2.2.2.head? = some 41 then some (2, x, ks ++ [B (l.take (l.length - r.2.2.2.length))], r.2.2.2.tail) else none)
      refine CutEv.step (f := fun k => (term_cut.f k (B l)).bind (afterKid k (B l) x ks)) (fun k => ?_) (CutEv.bind hcut ?_)
      · simp only [term_cut.l0]
        rw [if_pos (by omega), if_pos (by rw [B_size]; simp only [List.length_cons]; omega), hx]
        rfl
      · have hw : wrap64 (((B l).size : Int) - ((B r.2.2.2).size : Int)) = ((l.length - r.2.2.2.length : Nat) : Int) := by
          rw [B_size, B_size, w64 (by omega) (by omega)]; omega
        refine CutEv.congr (f := fun k => if r.2.2.2.head? = some 32 then term_cut.l0 k (B r.2.2.2) x (ks ++ [B (l.take (l.length - r.2.2.2.length))]) else if r.2.2.2.head? = some 41 then some (2, x, ks ++ [B (l.take (l.length - r.2.2.2.length))], B r.2.2.2.tail, true) else some (2, x, ks ++ [B (l.take (l.length - r.2.2.2.length))], B r.2.2.2, false)) (fun k => ?_) ?_
        · unfold afterKid
          simp only [hw]
          rw [if_pos True.intro, if_pos (by omega), if_pos (by rw [B_size]; omega), if_pos (by omega), Option.bind_some, hasPre, Option.bind_some, B_head, show ((l.length - r.2.2.2.length : Nat) : Int).toNat = l.length - r.2.2.2.length by omega]
          by_cases c1 : r.2.2.2.head? = some 32
          · rw [if_pos c1, if_pos (decide_eq_true c1)]
          · rw [if_neg c1, if_neg (by simpa using c1), cutPre]
            by_cases c2 : r.2.2.2.head? = some 41
            · rw [if_pos c2, if_pos c2]; rfl
            · rw [if_neg c2, if_neg c2]; rfl
        · by_cases c1 : r.2.2.2.head? = some 32
          · have hb := head_tail c1
            have hlb : r.2.2.2.length = r.2.2.2.tail.length + 1 := by
              conv => lhs; rw [hb]
              rfl
            have := ihm (ks ++ [B (l.take (l.length - r.2.2.2.length))]) 32 r.2.2.2.tail (by simp only [List.length_append, List.length_cons, List.length_nil]; omega) (by omega) (by omega) (by decide)
            rw [← hb] at this
            simp only [if_pos c1]
            exact this
          · by_cases c2 : r.2.2.2.head? = some 41
            · simp only [if_neg c1, if_pos c2]
              exact Ev.now _
            · simp only [if_neg c1, if_neg c2]
              exact ⟨_, _, _, _, Ev.now _⟩
theorem cut_ev : ∀ (n : Nat) (l : List UInt8), l.length < n → l.length ≤ 1024 → CutEv (fun j => term_cut.f j (B l)) (spT n l) := by
  intro n
  induction n with
  | zero => intro l h; omega
  | succ n ih =>
    intro l hn hl
    have hw := tw_dw l
    have hlen : l.length = (l.takeWhile nsep).length + (l.dropWhile nsep).length := by conv => lhs; rw [hw, List.length_append]
    have hwl : (l.takeWhile nsep).length ≤ 1024 := by omega
    rw [spT]
    refine CutEv.step (f := fun k => if l.takeWhile nsep = [95] then some (0, 0, ([] : List ByteArray), B (l.dropWhile nsep), true) else if l.takeWhile nsep = [33] then some (3, 0, ([] : List ByteArray), B (l.dropWhile nsep), true) else
      if (numF (B (l.takeWhile nsep))).2 = true then some (1, (numF (B (l.takeWhile nsep))).1, ([] : List ByteArray), B (l.dropWhile nsep), true) else (term_Tag.f (B (l.takeWhile nsep))).bind fun t => if t.2 = true then term_cut.j0 k (B (l.dropWhile nsep)) t.1 t.2 (!decide ((l.dropWhile nsep).head? = some 40)) else term_cut.j0 k (B (l.dropWhile nsep)) t.1 t.2 true) (fun k => ?_) ?_
    · simp only [term_cut.f]
      rw [word_eq l hl, Option.bind_some, B_toList, number_eq _ hwl, Option.bind_some]
      simp only [hasPre, Option.bind_some]
    · by_cases c1 : l.takeWhile nsep = [95]
      · simp only [if_pos c1]; exact Ev.now _
      · simp only [if_neg c1]
        by_cases c2 : l.takeWhile nsep = [33]
        · simp only [if_pos c2]; exact Ev.now _
        · simp only [if_neg c2]
          cases hnum : numC (l.takeWhile nsep) with
          | some x =>
            rw [numF_some hnum]
            exact Ev.now _
          | none =>
            have hnf : ¬ ((numF (B (l.takeWhile nsep))).2 = true) := by rw [numF_none hnum]; simp
            simp only [if_neg hnf]
            cases htag : tagC (l.takeWhile nsep) with
            | none =>
              obtain ⟨x, hx⟩ := tag_none hwl htag
              refine CutEv.step (f := fun _ => some (2, x, ([] : List ByteArray), B (l.dropWhile nsep), false)) (fun k => ?_) ⟨_, _, _, _, Ev.now _⟩
              rw [hx]
              rfl
            | some x =>
              have hx := tag_some htag
              by_cases c3 : (l.dropWhile nsep).head? = some 40
              · show CutEv _ (if (l.dropWhile nsep).head? = some 40 then kidsL (spT n) x [] 3 (l.dropWhile nsep).tail else some (2, x, [], l.dropWhile nsep))
                rw [if_pos c3]
                have hb := head_tail c3
                have hlb : (l.dropWhile nsep).length = (l.dropWhile nsep).tail.length + 1 := by
                  conv => lhs; rw [hb]
                  rfl
                have hk := cut_kids n x ih 3 [] 40 (l.dropWhile nsep).tail rfl (by omega) (by omega) (by decide)
                rw [← hb] at hk
                refine CutEv.step (fun k => ?_) hk
                rw [hx]
                show (if true = true then term_cut.j0 (k + 1) (B (l.dropWhile nsep)) x true (!decide ((l.dropWhile nsep).head? = some 40)) else term_cut.j0 (k + 1) (B (l.dropWhile nsep)) x true true) = _
                rw [if_pos rfl, decide_eq_true c3]
                rfl
              · show CutEv _ (if (l.dropWhile nsep).head? = some 40 then kidsL (spT n) x [] 3 (l.dropWhile nsep).tail else some (2, x, [], l.dropWhile nsep))
                rw [if_neg c3]
                refine CutEv.step (f := fun _ => some (2, x, ([] : List ByteArray), B (l.dropWhile nsep), true)) (fun k => ?_) (Ev.now _)
                rw [hx]
                show (if true = true then term_cut.j0 (k + 1) (B (l.dropWhile nsep)) x true (!decide ((l.dropWhile nsep).head? = some 40)) else term_cut.j0 (k + 1) (B (l.dropWhile nsep)) x true true) = _
                rw [if_pos rfl, decide_eq_false c3]
                rfl

def noCut : Int × Int × List ByteArray × Int := (0, 0, [], 200)
def cutL (l : List UInt8) : Int × Int × List ByteArray × Int :=
  if l.length > 1024 then noCut else match spT (l.length + 1) l with
    | some r => if r.2.2.2 = [] then (r.1, r.2.1, r.2.2.1, 0) else noCut
    | none => noCut
def cutS (s : ByteArray) : Int × Int × List ByteArray × Int := cutL s.data.toList
def mayS (s : ByteArray) : Bool := decide ((cutS s).2.2.2 = 0)
theorem may_ev (s : ByteArray) : Ev (fun k => term_May.f k s) (mayS s) := by
  unfold mayS cutS
  rw [← B_data s]
  generalize s.data.toList = l
  unfold cutL
  by_cases c : l.length > 1024
  · rw [if_pos c]
    have c1 : ((B l).size : Int) > 1024 := by rw [B_size]; omega
    simp only [term_May.f, if_pos c1]
    exact Ev.now _
  · rw [if_neg c]
    have c1 : ¬ (((B l).size : Int) > 1024) := by rw [B_size]; omega
    simp only [term_May.f, if_neg c1]
    have h := cut_ev (l.length + 1) l (by omega) (by omega)
    cases hs : spT (l.length + 1) l with
    | none =>
      rw [hs] at h
      obtain ⟨x, y, z, d, hev⟩ := h
      refine Ev.bind hev ?_
      simp only [if_neg (show ¬ (false = true) by decide)]
      exact Ev.now _
    | some r =>
      rw [hs] at h
      refine Ev.bind (show Ev _ (r.1, r.2.1, r.2.2.1, B r.2.2.2, true) from h) ?_
      simp only [if_pos, B_toList]
      by_cases c2 : r.2.2.2 = []
      · simp only [if_pos c2]
        rw [c2]
        exact Ev.now _
      · simp only [if_neg c2]
        have : (r.2.2.2 == ([] : List UInt8)) = false := by rw [beq_eq_false_iff_ne]; exact c2
        rw [this]
        exact Ev.now _
end Go.Proofs.YthoegphcmkejoaaDoor.G
end
section
namespace Go.Proofs.YthoegphcmkejoaaDoor.G
open Go.RowKit Go.Proofs.YthoegphcmkejoaaDoorW.PrintWords Go.Proofs.YthoegphcmkejoaaDoorW.PrintLast Go.Proofs.YthoegphcmkejoaaDoorW.PrintMore
set_option maxHeartbeats 8000000
set_option maxRecDepth 100000
attribute [local go_sem] max2_int min2_int max_two min_two max_three min_three max_four min_four   -- for this text's walks alone
set_option linter.unusedVariables false
set_option linter.unusedSimpArgs false

def trail_Equation.f (k : Nat) (x0 : Int) (x1 : Int) (l2 : List ByteArray) (x3 : ByteArray) : Option Bool := if 0 ≤ x0 then (if x0 < 8 then (if (l2.length : Int) ≤ 3 then ((term_All.f k l2).bind fun t => if t = true then term_May.f k x3 else some false) else some false) else some false) else some false
theorem trail_Equation.calls (k : Nat) (ad : Addr) (x0 : Int) (x1 : Int) (A2 : Option Addr) (c2_ : Nat) (l2 : List ByteArray) (x3 : ByteArray) (r : Bool) (w : World)
 (h0 : w.cell? ad = some (.int .i64 x0)) (h2 : w.cell? ⟨ad.block, ad.off + 2, none⟩ = some (.slice A2 l2.length c2_)) (h3 : w.cell? ⟨ad.block, ad.off + 3, none⟩ = some (.string x3))
 (hr2 : Kd.C Kd.string w A2 l2.length l2) (hc2 : l2.length ≤ c2_) (h : trail_Equation.f k x0 x1 l2 x3 = some r) (hG : GOK w) :
 Calls Tryd.prog 17 #[.pointer (some ad)] w fun e w' => e = .returned (.bool r) ∧ Below w.heap.size w w' := by
 have HR := a_ hr2
 have HC := a_ hc2
 clear hr2 hc2
 have HB := a_ (Below.refl w.heap.size w)
 unfold trail_Equation.f at h
 by_cases c1 : 0 ≤ x0
 case neg =>
  rw [if_neg c1] at h
  have c1b := decide_eq_false c1
  clear c1
  obtain rfl := Option.some.inj h
  go_enter Tryd.func17, Tryd.ntmps17
  go_wp2
  go_ret
  exact ⟨rfl, by repeat (first | exact HB.out | apply below_alloc | apply pw_below_drewN | apply below_drew1)⟩

 rw [if_pos c1] at h
 have c1b := decide_eq_true c1
 have c1c := eq_true c1
 clear c1
 by_cases c2 : x0 < 8
 case neg =>
  rw [if_neg c2] at h
  have c2b := decide_eq_false c2
  clear c2
  obtain rfl := Option.some.inj h
  go_enter Tryd.func17, Tryd.ntmps17
  go_wp2
  go_ret
  exact ⟨rfl, by repeat (first | exact HB.out | apply below_alloc | apply pw_below_drewN | apply below_drew1)⟩
 rw [if_pos c2] at h
 have c2b := decide_eq_true c2
 have c2c := eq_true c2
 clear c2
 by_cases c3 : (l2.length : Int) ≤ 3
 case neg =>
  rw [if_neg c3] at h
  have c3b := decide_eq_false c3
  clear c3
  obtain rfl := Option.some.inj h
  go_enter Tryd.func17, Tryd.ntmps17
  go_wp2
  go_ret
  exact ⟨rfl, by repeat (first | exact HB.out | apply below_alloc | apply pw_below_drewN | apply below_drew1)⟩
 rw [if_pos c3] at h
 have c3b := decide_eq_true c3
 have c3c := eq_true c3
 clear c3
 obtain ⟨t, A1, h⟩ := Option.bind_eq_some_iff.mp h
 have A1 := a_ A1
 cases t with
 | true =>
  have A3 := a_ (show term_May.f k x3 = some r from h)
  clear h
  go_enter Tryd.func17, Tryd.ntmps17
  go_wp2_with (first | (go_at_call 29; (with_reducible refine (term_All.calls k A2 c2_ l2 true _ HR.out HC.out A1.out (by first | exact hG | exact GOK.below hG (by repeat (first | exact HB.out | apply below_alloc | apply pw_below_drewN | apply below_drew1)))).mono ?_); rintro e w6 ⟨rfl, hb⟩; have h3_ := (hb.cell (World.block_lt_of_cell? w _ h3)).trans h3; have n1_ := a_ (below_step (by repeat (first | exact HB.out | apply below_alloc | apply pw_below_drewN | apply below_drew1)) hb); clear HB hb; have HB := n1_; clear n1_) | (go_at_call 30; (with_reducible refine (term_May.calls k x3 r _ A3.out (by first | exact hG | exact GOK.below hG (by repeat (first | exact HB.out | apply below_alloc | apply pw_below_drewN | apply below_drew1)))).mono ?_); rintro e w7 ⟨rfl, hb⟩; have n1_ := a_ (below_step (by repeat (first | exact HB.out | apply below_alloc | apply pw_below_drewN | apply below_drew1)) hb); clear HB hb; have HB := n1_; clear n1_))
  go_ret
  exact ⟨rfl, by repeat (first | exact HB.out | apply below_alloc | apply pw_below_drewN | apply below_drew1)⟩
 | false =>
  obtain rfl := Option.some.inj (show some false = some r from h)
  clear h
  go_enter Tryd.func17, Tryd.ntmps17
  go_wp2_with (first | (go_at_call 29; (with_reducible refine (term_All.calls k A2 c2_ l2 false _ HR.out HC.out A1.out (by first | exact hG | exact GOK.below hG (by repeat (first | exact HB.out | apply below_alloc | apply pw_below_drewN | apply below_drew1)))).mono ?_); rintro e w6 ⟨rfl, hb⟩; have n1_ := a_ (below_step (by repeat (first | exact HB.out | apply below_alloc | apply pw_below_drewN | apply below_drew1)) hb); clear HB hb; have HB := n1_; clear n1_))
  go_ret
  exact ⟨rfl, by repeat (first | exact HB.out | apply below_alloc | apply pw_below_drewN | apply below_drew1)⟩
end Go.Proofs.YthoegphcmkejoaaDoor.G
end
section
namespace Go.Proofs.YthoegphcmkejoaaDoor.G
open Go.RowKit Go.Proofs.YthoegphcmkejoaaDoorW.PrintWords Go.Proofs.YthoegphcmkejoaaDoorW.PrintLast Go.Proofs.YthoegphcmkejoaaDoorW.PrintMore
set_option linter.unusedVariables false
set_option linter.unusedSimpArgs false
abbrev Nd := S24
abbrev rn (ns : List Nd) (i : Int) : Nd := rd_T24 ns i
def okN (ns : List Nd) : Prop := ns.length ≤ 2513169434845 ∧ ∀ x ∈ ns, x.f2.length ≤ 8796093021952
theorem okN.at {ns : List Nd} (h : okN ns) (i : Int) : (rn ns i).f2.length ≤ 8796093021952 := by
  show (ns.getD i.toNat _).f2.length ≤ _
  rw [List.getD_eq_getElem?_getD]
  cases hg : ns[i.toNat]? with
  | none => exact Nat.zero_le _
  | some x => exact h.2 x (List.mem_of_getElem? hg)

def eqS (x : Nd) : Bool := decide (0 ≤ x.f0) && decide (x.f0 < 8) && decide (x.f2.length ≤ 3) && x.f2.all mayS && mayS x.f3
theorem all_l0 (l : List ByteArray) (hl : l.length ≤ 9223372036854775806) : ∀ (n i : Nat), i + n = l.length → Ev (fun k => term_All.l0 k l (l.length : Int) (i : Int)) ((l.drop i).all mayS) := by
  intro n
  induction n with
  | zero =>
    intro i hi
    refine Ev.step (f := fun _ => some true) (fun k => ?_) ?_
    · simp only [term_All.l0]; rw [if_neg (by omega)]
    · rw [List.drop_eq_nil_of_le (by omega)]; exact Ev.now _
  | succ n ih =>
    intro i hi
    have hlt : i < l.length := by omega
    have hw : wrap64 ((i : Int) + 1) = ((i + 1 : Nat) : Int) := by rw [w64 (by omega) (by omega)]; omega
    refine Ev.step (f := fun k => (term_May.f k l[i]).bind fun t => if t = true then term_All.l0 k l (l.length : Int) ((i + 1 : Nat) : Int) else some false) (fun k => ?_) ?_
    · simp only [term_All.l0]
      rw [if_pos (by omega), if_pos (by omega), if_pos (by omega), hw]
      have : rdOf ByteArray.empty l (i : Int) = l[i] := by
        show l.getD _ _ = _
        rw [Int.toNat_natCast, List.getD_eq_getElem?_getD, List.getElem?_eq_getElem hlt]; rfl
      rw [this]
    · refine Ev.bind (may_ev _) ?_
      rw [List.drop_eq_getElem_cons hlt, List.all_cons]
      cases mayS l[i] with
      | true => simp only [if_pos, Bool.true_and]; exact ih (i + 1) (by omega)
      | false => simp only [Bool.false_and]; exact Ev.now _
theorem all_ev (l : List ByteArray) (hl : l.length ≤ 9223372036854775806) : Ev (fun k => term_All.f k l) (l.all mayS) := by
  have := all_l0 l hl l.length 0 (by omega)
  rw [List.drop_zero] at this
  exact this
theorem equation_ev (x : Nd) : Ev (fun k => trail_Equation.f k x.f0 x.f1 x.f2 x.f3) (eqS x) := by
  unfold trail_Equation.f eqS
  by_cases c1 : 0 ≤ x.f0
  · by_cases c2 : x.f0 < 8
    · by_cases c3 : (x.f2.length : Int) ≤ 3
      · simp only [if_pos c1, if_pos c2, if_pos c3, decide_eq_true c1, decide_eq_true c2, decide_eq_true (show x.f2.length ≤ 3 by omega), Bool.true_and]
        refine Ev.bind (all_ev _ (by omega)) ?_
        cases x.f2.all mayS with
        | true => simp only [if_pos, Bool.true_and]; exact may_ev _
        | false => simp only [Bool.false_and]; exact Ev.now _
      · simp only [if_pos c1, if_pos c2, if_neg c3, decide_eq_false (show ¬ x.f2.length ≤ 3 by omega), Bool.and_false, Bool.false_and]; exact Ev.now _
    · simp only [if_pos c1, if_neg c2, decide_eq_false c2, Bool.and_false, Bool.false_and]; exact Ev.now _
  · simp only [if_neg c1, decide_eq_false c1, Bool.false_and]; exact Ev.now _
def pa (ns : List Nd) (i : Nat) : Int := (rn ns (i : Int)).f1
end Go.Proofs.YthoegphcmkejoaaDoor.G
end
section
namespace Go.Proofs.YthoegphcmkejoaaDoor.G
open Go.RowKit Go.Proofs.YthoegphcmkejoaaDoorW.PrintWords Go.Proofs.YthoegphcmkejoaaDoorW.PrintLast Go.Proofs.YthoegphcmkejoaaDoorW.PrintMore
set_option maxHeartbeats 8000000
set_option maxRecDepth 100000
attribute [local go_sem] max2_int min2_int max_two min_two max_three min_three max_four min_four   -- for this text's walks alone
set_option linter.unusedVariables false
set_option linter.unusedSimpArgs false

def record_low.l0 : Nat → Int → List Int → Int → Int → Option (ByteArray)
 | 0, _, _, _, _ => none
 | k + 1, x0, x5, x10, x11 => if x11 < x10 then (if 0 ≤ (wrap64 (8 * x11)) then (if 0 ≤ x11 then (if x11 < (x5.length : Int) then (record_low.l0 k x0 (x5.set (x11 : Int).toNat ((shr .i64 x0 (wrap64 (8 * x11))) % 256)) x10 (wrap64 (x11 + 1))) else (none)) else (none)) else (none)) else (some (strOfNums x5))
def record_low.f (k : Nat) (a0 : Int) (a1 : Int) : Option (ByteArray) := if 0 ≤ a1 then (if (a1 : Int).toNat ≤ 281474976710656 then ((some (List.replicate (a1 : Int).toNat 0 : List Int)).bind fun y137 => (record_low.l0 k a0 y137 (y137.length : Int) 0)) else (none)) else (none)
theorem record_low.calls (k : Nat) (a0 : Int) (a1 : Int) (r : ByteArray) (w : World) (h : record_low.f k a0 a1 = some r) :
 Calls Tryd.prog 18 #[.int .i64 a0, .int .i64 a1] w fun e w' => e = .returned (.string r) ∧ Below w.heap.size w w' := by
 have HB := a_ (Below.refl w.heap.size w)
 have H := h; unfold record_low.f at H
 clear h
 replace H := ifI_ H; obtain ⟨c3, H⟩ := H
 have c3b0 := eq_true c3
 have c3b1 : decide (0 ≤ a1) = true := decide_eq_true c3
 clear c3
 replace H := ifI_ H; obtain ⟨c4, H⟩ := H
 have c4b0 := eq_true c4
 have c4b1 : decide ((a1 : Int).toNat ≤ 281474976710656) = true := decide_eq_true c4
 clear c4
 obtain ⟨y0, i0⟩ : ∃ y_ : List Int, y_ = (List.replicate (a1 : Int).toNat 0) := ⟨_, rfl⟩
 replace H : (record_low.l0 k a0 y0 (y0.length : Int) 0) = some r := by first | (rw [i0]; with_reducible exact H) | (have H2_ := (Option.bind_some _ _).symm.trans H; rw [i0]; with_reducible exact H2_) | (have H2_ := (Option.bind_some _ _).symm.trans H; with_reducible exact H2_) | with_reducible exact H | (rw [i0]; exact H) | exact H
 have Y0 := a_ i0
 clear i0
 have H' := a_ H
 clear H
 go_enter Tryd.func18, Tryd.ntmps18
 go_wp2_with (first | ((with_reducible refine gate_dst (N := 8) rfl ?_); refine Kd.R_make (Kd.int .u8) _ 5 rfl (N := 8) rfl 61 _ _ rfl a1 rfl rfl Tryd.underlying61 (.int .u8 0) 1 info5 rfl (by decide) (by omega) 0 (ok := fun _ => True) (okp := fun _ => True) rfl (fun _ hk => hk) trivial (of_decide_eq_true hA_) (Nat.le_trans (Nat.mul_le_mul_right _ (of_decide_eq_true hA_ : a1.toNat ≤ 281474976710656)) (by omega)) (Below.refl _ _) (Nat.le_refl _) ?_; intro v1 w5 ho6 hb hg_ hnew_; clear hg_ hnew_; (first | rw [← Y0.out] at ho6 | (simp only [Int.reduceToNat] at ho6; rw [← Y0.out] at ho6)); have P0 := a_ (Kd.R_lower ho6 hS_); replace HB := a_ (below_step hB_ hb); clear hb ho6; obtain ⟨a2, o0, e1⟩ := Kd.R_slice P0.out; subst e1))
 go_loopg [11] k (fun kq v0 w' => ∃ (x1 : List Int) (x0 : Int), v0 = .int .i64 x0 ∧ Aside0 (record_low.l0 kq a0 x1 (y0.length : Int) x0 = some r) ∧ Aside0 (kq ≤ k) ∧ Aside0 (Kd.R (Kd.int .u8) 5 w' w.heap.size (fun _ => True) (.slice a2 y0.length o0) x1) ∧ Aside0 (Below w.heap.size w w'))
 case atStart => exact ⟨(y0), (0), hW_, H', ⟨Nat.le_refl _⟩, ⟨hR_ P0.out⟩, ⟨hC_⟩⟩
 case round =>
  clear H'
  try clear c1
  try clear p2
  try clear c3
  try clear c3b0
  try clear c3b1
  try clear c4
  try clear c4b0
  try clear c4b1
  obtain ⟨x1, x0, rfl, HA, HK1, O0, HB⟩ := hrel
  have hl5_1 := (Kd.R_reads' O0.out).1
  rw [hl5_1] at O0
  (try simp only [hl5_1])
  cases gk with
  | zero => exact absurd HA.out (by simp [record_low.l0])
  | succ k1 =>
   have H := HA.out
   clear HA
   simp only [record_low.l0] at H
   by_cases c8 : x0 < (y0.length : Int)
   case neg =>
    rw [if_neg c8] at H
    have c8b0 : decide (x0 < (y0.length : Int)) = false := decide_eq_false c8
    (try (have c8b0hl5_1 := c8b0; rw [hl5_1] at c8b0hl5_1))
    clear c8
    obtain rfl := Option.some.inj H
    have hcv17 := own_string (P := Tryd.prog) Tryd.underlying61 Tryd.underlying5 Tryd.underlying9 (Kd.own_of_R O0.out)
    go_wp2
    go_ret
    exact ⟨hV_, hC_⟩
   rw [if_pos c8] at H
   have c8b0 : decide (x0 < (y0.length : Int)) = true := decide_eq_true c8
   (try (have c8b0hl5_1 := c8b0; rw [hl5_1] at c8b0hl5_1))
   clear c8
   obtain ⟨ji9, hji9⟩ : ∃ j_ : Int, (wrap64 (8 * x0)) = j_ := ⟨_, rfl⟩
   replace H : (if 0 ≤ (ji9) then (if 0 ≤ x0 then (if x0 < (x1.length : Int) then (record_low.l0 k1 a0 (x1.set (x0 : Int).toNat ((shr .i64 a0 (ji9)) % 256)) (y0.length : Int) (wrap64 (x0 + 1))) else (none)) else (none)) else (none)) = some r := by first | (rw [hji9] at H; exact H) | (simp only [hji9] at H ⊢; exact H)
   have hji9w : (IntKind.i64.wrap (8 * x0)) = ji9 := (i64_w _).trans hji9
   replace H := ifI_ H; obtain ⟨c10, H⟩ := H
   have c10b0 := eq_true c10
   have c10b1 : decide (0 ≤ (ji9)) = true := decide_eq_true c10
   clear c10
   obtain ⟨ji11, hji11⟩ : ∃ j_ : Int, (shr .i64 a0 (ji9)) = j_ := ⟨_, rfl⟩
   replace H : (if 0 ≤ x0 then (if x0 < (x1.length : Int) then (record_low.l0 k1 a0 (x1.set (x0 : Int).toNat ((ji11) % 256)) (y0.length : Int) (wrap64 (x0 + 1))) else (none)) else (none)) = some r := by first | (rw [hji11] at H; exact H) | (simp only [hji11] at H ⊢; exact H)
   have hji11_ : (a0 / 2 ^ min (ji9).toNat 64) = ji11 := hji11
   have hji11z : (ji9) ≤ 64 → (a0 / 2 ^ (ji9).toNat) = ji11 := shr_small hji11
   replace H := ifI_ H; obtain ⟨c12, H⟩ := H
   have c12b0 : decide (0 ≤ x0) = true := decide_eq_true c12
   clear c12
   replace H := ifI_ H; obtain ⟨c13, H⟩ := H
   have c13b0 : decide (x0 < (x1.length : Int)) = true := decide_eq_true c13
   (try (have c13b0hl5_1 := c13b0; rw [hl5_1] at c13b0hl5_1))
   clear c13
   obtain ⟨y1, i1⟩ : ∃ y_ : List Int, y_ = (x1.set (x0 : Int).toNat ((ji11) % 256)) := ⟨_, rfl⟩
   replace H : (record_low.l0 k1 a0 y1 (y0.length : Int) (wrap64 (x0 + 1))) = some r := by first | (rw [i1]; with_reducible exact H) | (have H2_ := (Option.bind_some _ _).symm.trans H; rw [i1]; with_reducible exact H2_) | (have H2_ := (Option.bind_some _ _).symm.trans H; with_reducible exact H2_) | with_reducible exact H | (rw [i1]; exact H) | exact H
   have Y1 := a_ i1
   clear i1
   have H' := a_ H
   clear H
   have p14 : 0 ≤ (x0 : Int) := of_decide_eq_true hA_
   have q14 : (x0 : Int) < ((x1.length : Int) : Int) := of_decide_eq_true hA_
   obtain ⟨j0, o1, e0, g0, gl14, cl14, HG14⟩ := Kd.R_form O0.out (by omega)
   (first | cases e0 | (injection e0 with ea_ en_ ec_; (first | subst ea_ | (injection ea_ with ea_; subst ea_)); subst ec_; clear en_))
   have J0 := a_ g0
   have K0 := a_ HG14
   clear g0 gl14 HG14
   obtain ⟨h0, hf14_0⟩ := Kd.R_celln 0 O0.out (x0 : Int) p14 q14
   replace p14 := eq_true p14
   replace q14 := eq_true q14
   have HP15 := Kd.R_putg O0.out (x0 : Int) ((ji11) % 256)
   go_wp2_with (first | ((with_reducible refine gate_store (t := 5) (p := 21) rfl ?_); refine store_event (t := 5) (p := 21) (v := ?vo_w16) (w1 := (wr.setCell ⟨j0, (x0 : Int).toNat, none⟩ (.int .u8 ((ji11) % 256)))) ?hg ?ho ?hn ?hr ?_; (case ho => rfl); (case hg => rfl); (case hn => rfl); (case hr => first | (go_simp; done) | (go_simp; rfl)); intro w0 hw; have hg : wr.grownBy w0 (some j0) := (by rw [hw]; exact HP15.2); have hp_ : Kd.R (Kd.int .u8) 5 w0 w.heap.size (fun _ => True) (.slice (some ⟨j0, 0, none⟩) x1.length o0) y1 := (by rw [hw, Y1.out]; exact HP15.1); clear HP15; replace O0 := a_ (hp_); replace HB := a_ ((by rw [hw]; exact below_set (HB.out) J0.out : Below w.heap.size w w0)); clear hg hw hp_))
   (try simp only [← hl5_1])
   go_roundg k1
   case measure => have := HK1.out; omega
   case rel => exact ⟨(y1), (wrap64 (x0 + 1)), hW_, H', ⟨by have := HK1.out; omega⟩, ⟨by (try simp only [hl5_1]); (with_reducible repeat (first | apply Kd.R_alloc | apply Kd.R_drewN | apply Kd.R_drew)); exact O0.out⟩, ⟨hC_⟩⟩
def record_text.f (k : Nat) (a0 : ByteArray) : Option (ByteArray) := (record_low.f k (a0.size : Int) 2).bind fun t141 => (if t141.size + a0.size ≤ 9223372036854775807 then (some (t141 ++ a0)) else (none))
theorem record_text.calls (k : Nat) (a0 : ByteArray) (r : ByteArray) (w : World) (h : record_text.f k a0 = some r) :
 Calls Tryd.prog 19 #[.string a0] w fun e w' => e = .returned (.string r) ∧ Below w.heap.size w w' := by
 have HB := a_ (Below.refl w.heap.size w)
 have H := h; unfold record_text.f at H
 clear h
 replace H := Option.bind_eq_some_iff.mp H
 obtain ⟨t0, A20, H⟩ := H
 try dsimp only at H
 have A2 := a_ A20
 clear A20
 replace H := ifI_ H; obtain ⟨c3, H⟩ := H
 have c3b0 := eq_true c3
 have c3b1 : decide (t0.size + a0.size ≤ 9223372036854775807) = true := decide_eq_true c3
 try have c3b2 : (9223372036854775807 < t0.size + a0.size) = False := eq_false (Nat.not_lt.2 c3)
 obtain rfl := Option.some.inj H
 go_enter Tryd.func19, Tryd.ntmps19
 go_wp2_with (first | ((with_reducible refine gate_callee (f := 18) rfl ?_); refine goesL_ (some 5) rfl rfl Tryd.func18 (by kernel_rfl) rfl #[.int .i64 (a0.size : Int), .int .i64 2] rfl hL_ ?_; (with_reducible refine (record_low.calls k (a0.size : Int) 2 t0 _ A2.out).mono ?_); rintro e w4 ⟨rfl, hb⟩; refine ⟨_, rfl, ?_⟩; replace HB := a_ (below_step hB_ hb); (try clear hb); (try clear hb2); (try clear hk); (try clear hi)))
 go_ret
 exact ⟨hV_, hC_⟩
end Go.Proofs.YthoegphcmkejoaaDoor.G
end
section
namespace Go.Proofs.YthoegphcmkejoaaDoor.G
open Go.RowKit Go.Proofs.YthoegphcmkejoaaDoorW.PrintWords Go.Proofs.YthoegphcmkejoaaDoorW.PrintLast Go.Proofs.YthoegphcmkejoaaDoorW.PrintMore
set_option linter.unusedVariables false
set_option linter.unusedSimpArgs false
theorem bytesOf_drop (s : ByteArray) (i : Nat) (h : i < s.size) : (bytesOf s).drop i = bt s (i : Int) :: (bytesOf s).drop (i + 1) := by
  have hl : i < (bytesOf s).length := by rw [bytesOf_length]; exact h
  rw [List.drop_eq_getElem_cons hl]
  congr 1
  rw [← rd_bytesOf]
  unfold rd
  simp [List.getD_eq_getElem?_getD, List.getElem?_eq_getElem hl]
theorem bytesOf_range (s : ByteArray) : ∀ x ∈ bytesOf s, 0 ≤ x ∧ x < 256 := by
  intro x hx
  unfold bytesOf at hx
  obtain ⟨b, _, rfl⟩ := List.mem_map.1 hx
  have := b.toNat_lt
  omega
theorem bytesOf_strOfNums (xs : List Int) (h : ∀ x ∈ xs, 0 ≤ x ∧ x < 256) : bytesOf (strOfNums xs) = xs := by
  unfold bytesOf
  rw [strOfNums_data, List.map_map]
  conv => rhs; rw [← List.map_id xs]
  apply List.map_congr_left
  intro x hx
  have := h x hx
  simp only [Function.comp, id, UInt8.toNat_ofNat']
  omega
theorem bytesOf_inj {a b : ByteArray} (h : bytesOf a = bytesOf b) : a = b := by
  have e : a.data.toList = b.data.toList := by
    unfold bytesOf at h
    refine List.map_inj_right (f := fun b : UInt8 => (b.toNat : Int)) ?_ |>.1 h
    intro x y hxy
    have : x.toNat = y.toNat := by exact_mod_cast hxy
    exact UInt8.toNat_inj.1 this
  cases a; cases b
  simp only [ByteArray.mk.injEq]
  exact Array.toList_inj.1 e
theorem strOfNums_bytesOf (s : ByteArray) : strOfNums (bytesOf s) = s :=
  bytesOf_inj (bytesOf_strOfNums _ (bytesOf_range s))
theorem bytesOf_append (a b : ByteArray) : bytesOf (a ++ b) = bytesOf a ++ bytesOf b := by
  unfold bytesOf
  simp [ByteArray.data_append]
theorem bytesOf_extract (a : ByteArray) (i j : Nat) : bytesOf (a.extract i j) = ((bytesOf a).take j).drop i := by
  unfold bytesOf
  simp only [ByteArray.data_extract, Array.toList_extract, List.extract_eq_drop_take', List.map_drop, List.map_take]
theorem size_strOfNums (xs : List Int) : (strOfNums xs).size = xs.length := by
  rw [← bytesOf_length]
  unfold bytesOf
  rw [List.length_map, strOfNums_data, List.length_map]
theorem toList_eq (a : ByteArray) : a.toList = a.data.toList := by
  have key : ∀ (n i : Nat) (r : List UInt8), a.size - i = n → ByteArray.toList.loop a i r = r.reverse ++ a.data.toList.drop i := by
    intro n
    induction n with
    | zero =>
      intro i r h
      unfold ByteArray.toList.loop
      rw [if_neg (by omega), List.drop_eq_nil_of_le (by rw [Array.length_toList]; show a.size ≤ i; omega), List.append_nil]
    | succ n ih =>
      intro i r h
      unfold ByteArray.toList.loop
      rw [if_pos (by omega), ih (i + 1) _ (by omega)]
      have hl : i < a.data.toList.length := by rw [Array.length_toList]; show i < a.size; omega
      rw [List.drop_eq_getElem_cons hl]
      simp only [List.reverse_cons, List.append_assoc, List.singleton_append]
      congr 2
      unfold ByteArray.get!
      cases a with
      | mk d =>
        simp only [Array.getElem_toList]
        exact getElem!_pos d i _
  unfold ByteArray.toList
  rw [key a.size 0 [] (by omega)]
  simp
theorem toList_inj {a b : ByteArray} : a.toList = b.toList ↔ a = b := by
  rw [toList_eq, toList_eq]
  constructor
  · intro h
    cases a; cases b
    simp only [ByteArray.mk.injEq]
    exact Array.toList_inj.1 h
  · rintro rfl; rfl

/-! the sum -/
def lowL : Nat → Int → List Int
  | 0, _ => []
  | n + 1, x => x % 256 :: lowL n (x / 256)
theorem lowL_length (n : Nat) : ∀ x, (lowL n x).length = n := by
  induction n with
  | zero => intro x; rfl
  | succ n ih => intro x; simp only [lowL, List.length_cons, ih]
theorem lowL_range (n : Nat) : ∀ x, ∀ y ∈ lowL n x, 0 ≤ y ∧ y < 256 := by
  induction n with
  | zero => intro x y hy; cases hy
  | succ n ih =>
    intro x y hy
    simp only [lowL, List.mem_cons] at hy
    rcases hy with rfl | hy
    · omega
    · exact ih _ _ hy
theorem lowL_get (n : Nat) : ∀ (x : Int) (i : Nat), i < n → (lowL n x)[i]? = some (x / 256 ^ i % 256) := by
  induction n with
  | zero => intro x i h; omega
  | succ n ih =>
    intro x i h
    cases i with
    | zero => simp [lowL]
    | succ i =>
      simp only [lowL, List.getElem?_cons_succ]
      rw [ih _ _ (by omega), Int.ediv_ediv_of_nonneg (by omega), Int.pow_succ, Int.mul_comm (256 ^ i) 256]
theorem strOfNums_append (a b : List Int) : strOfNums (a ++ b) = strOfNums a ++ strOfNums b := by
  unfold strOfNums
  apply ByteArray.ext
  simp [ByteArray.data_append]
theorem bt_range (s : ByteArray) (i : Int) : 0 ≤ bt s i ∧ bt s i < 256 := by
  unfold bt
  split
  · have := (s[i.toNat]'(by assumption)).toNat_lt
    omega
  · omega
theorem size_extract (a : ByteArray) (i j : Nat) (h : j ≤ a.size) : (a.extract i j).size = j - i := by
  rw [ByteArray.size_extract]
  omega
theorem bt_get (s : ByteArray) (i : Nat) : bt s (i : Int) = (bytesOf s).getD i 0 := by
  rw [← rd_bytesOf]; rfl
end Go.Proofs.YthoegphcmkejoaaDoor.G
end
section
namespace Go.Proofs.YthoegphcmkejoaaDoor.G
open Go.RowKit Go.Proofs.YthoegphcmkejoaaDoorW.PrintWords Go.Proofs.YthoegphcmkejoaaDoorW.PrintLast Go.Proofs.YthoegphcmkejoaaDoorW.PrintMore
set_option maxHeartbeats 8000000
set_option maxRecDepth 100000
attribute [local go_sem] max2_int min2_int max_two min_two max_three min_three max_four min_four   -- for this text's walks alone
set_option linter.unusedVariables false
set_option linter.unusedSimpArgs false

/-- A state of type 52 at block g of W; what its slices lead to came in by w0. -/
def IsS52 (w0 W : World) (g : Nat) (f0 : ByteArray) : Prop := W.heap[g]? = some (.cells #[.string f0] 52 (0, 0)) ∧ w0.heap.size ≤ g
theorem IsS52.grown {w0 W : World} {g : Nat} {f0 : ByteArray} {W1 : World} {row : Option Nat} (h : IsS52 w0 W g f0) (hw : W.grownBy W1 row) (hne : some g ≠ row) : IsS52 w0 W1 g f0 := by
 obtain ⟨hb, hg⟩ := h
 exact ⟨blk_grown hb hw hne, hg⟩
theorem IsS52.kept {w0 W : World} {g : Nat} {f0 : ByteArray} {W1 : World} {S : Nat → Prop} (h : IsS52 w0 W g f0) (hk : Kept W W1 S) (hne : ¬ S g) : IsS52 w0 W1 g f0 := by
 obtain ⟨hb, hg⟩ := h
 exact ⟨blk_kept hb hk hne, hg⟩
theorem IsS52.below {w0 W : World} {g : Nat} {f0 : ByteArray} {W1 : World} (h : IsS52 w0 W g f0) (hw : Below W.heap.size W W1) : IsS52 w0 W1 g f0 := h.grown (grown_of_below hw none) (by simp)
theorem IsS52.alloc {w0 W : World} {g : Nat} {f0 : ByteArray} (h : IsS52 w0 W g f0) (o : Obj) : IsS52 w0 (W.alloc o) g f0 := h.below (below_alloc (Below.refl _ _) o)
theorem IsS52.drewN {w0 W : World} {g : Nat} {f0 : ByteArray} (h : IsS52 w0 W g f0) (m : Nat) : IsS52 w0 (W.drewN m) g f0 := h
theorem IsS52.drew {w0 W : World} {g : Nat} {f0 : ByteArray} (h : IsS52 w0 W g f0) : IsS52 w0 W.drew g f0 := h
theorem IsS52.at_ {w0 W : World} {g : Nat} {f0 : ByteArray} {w' : World} {m : Nat} (hq : W.drewN m = w') (h : IsS52 w0 W g f0) : IsS52 w0 w' g f0 := by subst hq; exact IsS52.drewN h m
theorem IsS52.apart {w0 W : World} {g : Nat} {f0 : ByteArray} {α : Type} {d : Kd α} {e : Nat} {base : Nat} {ok : Nat → Prop} {v : Value} {xs : List α} (h : IsS52 w0 W g f0) (ho : d.R e W base ok v xs) (ht : ∀ q, q ∈ e :: d.E → q ≠ 52) : d.R e W base (fun k => ok k ∧ k ≠ g) v xs := by
 obtain ⟨hb, hg⟩ := h
 exact Kd.R_types ho hb ht
theorem IsS52.own_ne {w0 W : World} {g : Nat} {f0 : ByteArray} {α : Type} {d : Kd α} {e : Nat} {base : Nat} {ok : Nat → Prop} {v : Value} {xs : List α} (h : IsS52 w0 W g f0) (ho : d.R e W base ok v xs) (ht : e ≠ 52) : some g ≠ v.ownBlock := by
 obtain ⟨hb, hg⟩ := h
 exact Kd.R_ne ho hb ht
theorem IsS52.ge {w0 W : World} {g : Nat} {f0 : ByteArray} (h : IsS52 w0 W g f0) : w0.heap.size ≤ g := by
 obtain ⟨hb, hg⟩ := h
 exact hg
theorem cellS52_0 {W : World} {g : Nat} {f0 : ByteArray} (h : W.heap[g]? = some (.cells #[.string f0] 52 (0, 0))) : W.cell? ⟨g, 0, none⟩ = some (.string f0) := (blk_cell h 0).trans rfl
theorem IsS52.set_0 {w0 W : World} {g : Nat} {f0 : ByteArray} (h : IsS52 w0 W g f0) (x : ByteArray) : IsS52 w0 (W.setCell ⟨g, 0, none⟩ (.string x)) g x := by
 obtain ⟨hb, hg⟩ := h
 exact ⟨by simpa using blk_set hb 0 (.string x), hg⟩
theorem IsS52.set_0e {w0 W : World} {g : Nat} {f0 : ByteArray} (h : IsS52 w0 W g f0) (x y_ : ByteArray) (e_ : y_ = x) : IsS52 w0 (W.setCell ⟨g, 0, none⟩ (.string x)) g y_ := by subst e_; exact IsS52.set_0 h _
def record_taker_take.f (s0_0 : ByteArray) (a1 : Int) : Option (ByteArray × ByteArray) := if 0 ≤ (mn a1 (s0_0.size : Int)) then (if (mn a1 (s0_0.size : Int)) ≤ (s0_0.size : Int) then (if 0 ≤ ((s0_0.extract 0 ((mn a1 (s0_0.size : Int)) : Int).toNat).size : Int) then (if ((s0_0.extract 0 ((mn a1 (s0_0.size : Int)) : Int).toNat).size : Int) ≤ (s0_0.size : Int) then (some (s0_0.extract 0 ((mn a1 (s0_0.size : Int)) : Int).toNat, s0_0.extract (((s0_0.extract 0 ((mn a1 (s0_0.size : Int)) : Int).toNat).size : Int) : Int).toNat s0_0.size)) else (none)) else (none)) else (none)) else (none)
theorem record_taker_take.calls (g : Nat) (s0_0 : ByteArray) (a1 : Int) (r1 : ByteArray) (r2 : ByteArray) (w0 w : World) (hI : IsS52 w0 w g s0_0) (hB : Below w0.heap.size w0 w) (h : record_taker_take.f s0_0 a1 = some (r1, r2)) :
 Calls Tryd.prog 32 #[.pointer (some ⟨g, 0, none⟩), .int .i64 a1] w fun e w' => e = .returned (.string r1) ∧ IsS52 w0 w' g r2 ∧ Below w0.heap.size w0 w' ∧ KeepBut w w' g none := by
 have HI0 := a_ hI
 have HK := a_ (KeepBut.refl w g none)
 have HL := a_ hB.size
 clear hI
 have HW0 := a_ hB.size
 have HB := a_ hB
 clear hB
 have H := h; unfold record_taker_take.f at H
 clear h
 obtain ⟨ji3, hji3⟩ : ∃ j_ : Int, (mn a1 (s0_0.size : Int)) = j_ := ⟨_, rfl⟩
 replace H : (if 0 ≤ (ji3) then (if (ji3) ≤ (s0_0.size : Int) then (if 0 ≤ ((s0_0.extract 0 ((ji3) : Int).toNat).size : Int) then (if ((s0_0.extract 0 ((ji3) : Int).toNat).size : Int) ≤ (s0_0.size : Int) then (some (s0_0.extract 0 ((ji3) : Int).toNat, s0_0.extract (((s0_0.extract 0 ((ji3) : Int).toNat).size : Int) : Int).toNat s0_0.size)) else (none)) else (none)) else (none)) else (none)) = some (r1, r2) := by first | (rw [hji3] at H; exact H) | (simp only [hji3] at H ⊢; exact H)
 have hji3_ : (if (s0_0.size : Int) < a1 then (s0_0.size : Int) else a1) = ji3 := hji3
 replace H := ifI_ H; obtain ⟨c4, H⟩ := H
 have c4b0 := eq_true c4
 have c4b1 : decide (0 ≤ (ji3)) = true := decide_eq_true c4
 clear c4
 replace H := ifI_ H; obtain ⟨c5, H⟩ := H
 have c5b0 := eq_true c5
 have c5b1 : decide ((ji3) ≤ (s0_0.size : Int)) = true := decide_eq_true c5
 clear c5
 replace H := ifI_ H; obtain ⟨c6, H⟩ := H
 have c6b0 := eq_true c6
 (try (have c6b0s := c6b0; simp only [ByteArray.size_extract, Nat.min_self] at c6b0s))
 have c6b1 : decide (0 ≤ ((s0_0.extract 0 ((ji3) : Int).toNat).size : Int)) = true := decide_eq_true c6
 (try (have c6b1s := c6b1; simp only [ByteArray.size_extract, Nat.min_self] at c6b1s))
 clear c6
 replace H := ifI_ H; obtain ⟨c7, H⟩ := H
 have c7b0 := eq_true c7
 (try (have c7b0s := c7b0; simp only [ByteArray.size_extract, Nat.min_self] at c7b0s))
 have c7b1 : decide (((s0_0.extract 0 ((ji3) : Int).toNat).size : Int) ≤ (s0_0.size : Int)) = true := decide_eq_true c7
 (try (have c7b1s := c7b1; simp only [ByteArray.size_extract, Nat.min_self] at c7b1s))
 clear c7
 simp only [Option.some.injEq, Prod.mk.injEq] at H
 obtain ⟨rfl, rfl⟩ := H
 obtain ⟨HGz8, hgz8⟩ := HI0.out
 have z0 := cellS52_0 HGz8
 have f0 := blk_frozen HGz8 0
 clear HGz8 hgz8
 go_enter Tryd.func32, Tryd.ntmps32
 go_wp2
 repeat (go_quiet (fail); try go_wp2)
 go_ret
 exact ⟨by first | rfl | (simp [errW_none, errW_some] <;> rfl) | (simp only [← hji3]; first | rfl | (simp [errW_none, errW_some] <;> rfl)) | (simp [*, errW_none, errW_some] <;> rfl), by repeat (first | (with_reducible first | exact HI0.out | apply IsS52.alloc | apply IsS52.drewN | apply IsS52.drew | apply IsS52.set_0) | (apply IsS52.set_0e; case e_ => (congr 1 <;> first | rfl | (simp only [ByteArray.size_extract, eq_iff_iff, iff_true] at *; omega))) | exact HI0.out), by repeat (first | (with_reducible first | exact HB.out | apply below_alloc | apply pw_below_drewN | apply below_drew1 | refine below_set ?_ (IsS52.ge HI0.out)) | exact HB.out), by repeat (first | (with_reducible first | exact HK.out | apply KeepBut.set_ | apply keep_drewN | apply keep_drew | apply keep_alloc) | exact HK.out)⟩
set_option maxHeartbeats 8000000
set_option maxRecDepth 100000
attribute [local go_sem] max2_int min2_int max_two min_two max_three min_three max_four min_four   -- for this text's walks alone
set_option linter.unusedVariables false
set_option linter.unusedSimpArgs false

def numLE : List Int → Int
 | [] => 0
 | b :: t => b + 256 * numLE t
def record_taker_number.f (k : Nat) (s0_0 : ByteArray) (a1 : Int) : Option (Int × ByteArray) := (record_taker_take.f s0_0 a1).bind fun b => if b.1.size ≤ 2 then some (numLE (bytesOf b.1), b.2) else none
theorem keep_bytes {w w2 : World} {g : Nat} (h : KeepBut w w2 g none) (e : TypeId) (s : ByteArray) : KeepBut w (Lib.bytesWorld w2 e s) g none :=
 ⟨by rw [Lib.bytesWorld_size]; exact Nat.le_succ_of_le h.1, fun k hk h1 h2 => (Lib.bytesWorld_at_old w2 e s k (Nat.lt_of_lt_of_le hk h.1)).trans (h.2 k hk h1 h2)⟩
theorem below_bytes {w0 w2 : World} (h : Below w0.heap.size w0 w2) (e : TypeId) (s : ByteArray) : Below w0.heap.size w0 (Lib.bytesWorld w2 e s) := below_step h (Lib.bytesWorld_below _ _ _)
theorem bt_cell {w2 : World} {e : TypeId} {s : ByteArray} (j : Nat) (hj : j < s.size) : (Lib.bytesWorld w2 e s).cell? ⟨w2.heap.size, j, none⟩ = some (.int .u8 (bt s (j : Int))) := by
 rw [Lib.bytesWorld_cell w2 e s j hj]
 unfold bt
 rw [Int.toNat_natCast, dif_pos hj]
 have hl : j < s.data.toList.length := by rw [Array.length_toList]; exact hj
 rw [List.getD_eq_getElem?_getD, List.getElem?_eq_getElem hl]
 rfl
theorem bt_rng (s : ByteArray) (i : Int) : 0 ≤ bt s i ∧ bt s i < 256 := by
 unfold bt
 split
 · have := (s[i.toNat]'(by assumption)).toNat_lt; omega
 · omega
theorem isS_bytes {w0 w2 : World} {g : Nat} {r : ByteArray} (h : IsS52 w0 w2 g r) (e : TypeId) (s : ByteArray) : IsS52 w0 (Lib.bytesWorld w2 e s) g r :=
 ⟨(Lib.bytesWorld_at_old w2 e s g (blk_lt h.1)).trans h.1, h.2⟩
theorem or_i64_nat (a b : Nat) (ha : a < 9223372036854775808) (hb : b < 9223372036854775808) : Go.bits .or .i64 (a : Int) (b : Int) = ((a ||| b : Nat) : Int) := by
 have hx : a ||| b < 2 ^ 63 := Nat.or_lt_two_pow (by omega) (by omega)
 have h1 : (BitVec.ofInt 64 (a : Int)).toNat = a := by
  rw [BitVec.ofInt_natCast, BitVec.toNat_ofNat]; exact Nat.mod_eq_of_lt (by omega)
 have h2 : (BitVec.ofInt 64 (b : Int)).toNat = b := by
  rw [BitVec.ofInt_natCast, BitVec.toNat_ofNat]; exact Nat.mod_eq_of_lt (by omega)
 show IntKind.i64.wrap ((BitVec.ofInt 64 (a : Int) ||| BitVec.ofInt 64 (b : Int)).toNat : Int) = _
 rw [BitVec.toNat_or, h1, h2, IntKind.wrap_i64]
 omega
theorem or_low (c0 c1 : Int) (h0 : 0 ≤ c0) (h1 : c0 < 256) (h2 : 0 ≤ c1) (h3 : c1 < 36028797018963968) : Go.bits .or .i64 c0 (c1 * 256) = c0 + 256 * c1 := by
 obtain ⟨a, rfl⟩ := Int.eq_ofNat_of_zero_le h0
 obtain ⟨b, rfl⟩ := Int.eq_ofNat_of_zero_le h2
 have e : ((b : Int) * 256) = ((b * 256 : Nat) : Int) := by omega
 rw [e, or_i64_nat a (b * 256) (by omega) (by omega)]
 have h := Nat.two_pow_add_eq_or_of_lt (i := 8) (b := a) (by omega) b
 rw [Nat.or_comm, Nat.mul_comm b 256]
 rw [show (2 : Nat) ^ 8 = 256 from rfl] at h
 rw [← h]
 omega
theorem or_zero' (c0 : Int) (h0 : 0 ≤ c0) (h1 : c0 < 256) : Go.bits .or .i64 0 c0 = c0 := by
 obtain ⟨a, rfl⟩ := Int.eq_ofNat_of_zero_le h0
 have := or_i64_nat 0 a (by omega) (by omega)
 rw [Nat.zero_or] at this
 exact this
theorem bytesOf_at (s : ByteArray) (j : Nat) (h : j < s.size) : (bytesOf s)[j]? = some (bt s (j : Int)) := by
 have hl : j < (bytesOf s).length := by rw [bytesOf_length]; exact h
 rw [List.getElem?_eq_getElem hl, ← rd_bytesOf]
 unfold rd
 rw [Int.toNat_natCast, List.getD_eq_getElem?_getD, List.getElem?_eq_getElem hl]; rfl
theorem numLE_0 (s : ByteArray) (h : s.size = 0) : numLE (bytesOf s) = 0 := by
 have e : (bytesOf s).length = 0 := by rw [bytesOf_length]; exact h
 rw [List.length_eq_zero_iff.1 e]; rfl
theorem numLE_1 (s : ByteArray) (h : s.size = 1) : numLE (bytesOf s) = bt s 0 := by
 have e : (bytesOf s).length = 1 := by rw [bytesOf_length]; exact h
 have h0 := bytesOf_at s 0 (by omega)
 generalize bytesOf s = l at e h0
 match l, e with
 | [a], _ => have h0 := Option.some.inj h0; rw [numLE, numLE, h0]; show bt s 0 + 256 * 0 = _; omega
theorem numLE_2 (s : ByteArray) (h : s.size = 2) : numLE (bytesOf s) = bt s 0 + 256 * bt s 1 := by
 have e : (bytesOf s).length = 2 := by rw [bytesOf_length]; exact h
 have h0 := bytesOf_at s 0 (by omega)
 have h1 := bytesOf_at s 1 (by omega)
 generalize bytesOf s = l at e h0 h1
 match l, e with
 | [a, b], _ =>
  have h0 := Option.some.inj h0
  have h1 := Option.some.inj h1
  rw [numLE, numLE, numLE, h0, h1]; show bt s 0 + 256 * (bt s 1 + 256 * 0) = _; omega
theorem record_taker_number.calls (k : Nat) (g : Nat) (s0_0 : ByteArray) (a1 : Int) (r1 : Int) (r2 : ByteArray) (w0 w : World) (hI : IsS52 w0 w g s0_0) (hB : Below w0.heap.size w0 w) (h : record_taker_number.f k s0_0 a1 = some (r1, r2)) :
 Calls Tryd.prog 24 #[.pointer (some ⟨g, 0, none⟩), .int .i64 a1] w fun e w' => e = .returned (.int .i64 r1) ∧ IsS52 w0 w' g r2 ∧ Below w0.heap.size w0 w' ∧ KeepBut w w' g none := by
 unfold record_taker_number.f at h
 obtain ⟨⟨b1, b2⟩, A1, h⟩ := Option.bind_eq_some_iff.mp h
 dsimp only at h
 by_cases c : b1.size ≤ 2
 case neg => rw [if_neg c] at h; cases h
 rw [if_pos c] at h
 obtain ⟨rfl, rfl⟩ := Prod.mk.inj (Option.some.inj h)
 clear h
 have HI := a_ hI
 have HB := a_ hB
 have A1 := a_ A1
 have HC := a_ c
 clear hI hB c
 go_enter Tryd.func24, Tryd.ntmps24
 go_wp2_with (first | ((with_reducible refine gate_callee (f := 32) rfl ?_); refine goesL_ _ rfl rfl Tryd.func32 (by kernel_rfl) rfl #[.pointer (some ⟨g, 0, none⟩), .int .i64 a1] rfl hL_ ?_; (with_reducible refine (record_taker_take.calls g s0_0 a1 b1 b2 w0 _ HI.out HB.out A1.out).mono ?_); rintro e w2 ⟨rfl, hI2, hB2, hK2⟩; refine ⟨_, rfl, ?_⟩; clear HI HB; have HI := a_ (isS_bytes hI2 5 b1); have HB := a_ (below_bytes hB2 5 b1); have HK := a_ (keep_bytes hK2 5 b1); have HCL := a_ (fun j hj => bt_cell (w2 := w2) (e := 5) (s := b1) j hj); have hconv := Lib.run_convert_string_bytes (P := Tryd.prog) w2 9 61 5 b1 Tryd.underlying9 Tryd.underlying61 Tryd.underlying5; clear hI2 hB2 hK2))
 clear hconv
 generalize Lib.bytesWorld w2 5 b1 = w3 at HI HB HK HCL ⊢
 generalize grownCap w2 b1.size 0 5 = cap
 generalize w2.heap.size = gb at HCL ⊢
 have hz := HC.out
 have HN := a_ (bytesOf_length b1)
 have hb0 := bt_rng b1 0
 have hb1 := bt_rng b1 1
 go_loopg [5, 13] (b1.size + 1) (fun kq v5 v0 w' => ∃ (x o : Int), v0 = .int .i64 x ∧ v5 = .int .i64 o ∧ Aside0 ((kq = b1.size + 1 ∧ x = 0 ∧ o = 0) ∨ (kq = b1.size ∧ 1 ≤ b1.size ∧ x = 1 ∧ o = bt b1 0) ∨ (kq + 1 = b1.size ∧ b1.size = 2 ∧ x = 2 ∧ o = bt b1 0 + 256 * bt b1 1)) ∧ w' = w3)
 case atStart => exact ⟨0, 0, rfl, rfl, ⟨.inl ⟨rfl, rfl, rfl⟩⟩, rfl⟩
 case round =>
  obtain ⟨x, o, rfl, rfl, HJ, rfl⟩ := hrel
  rcases HJ.out with ⟨h1, rfl, rfl⟩ | ⟨h1, h2, rfl, rfl⟩ | ⟨h1, h2, rfl, rfl⟩
  · by_cases c : 0 < b1.size
    case neg =>
     have cb : decide ((0 : Int) < (b1.size : Int)) = false := decide_eq_false (by omega)
     go_wp2
     go_ret
     exact ⟨by rw [numLE_0 b1 (by omega)]; rfl, HI.out, HB.out, HK.out⟩
    have cb : decide ((0 : Int) < (b1.size : Int)) = true := decide_eq_true (by omega)
    have cc : World.cell? _ ⟨gb, 0, none⟩ = some (Value.int .u8 (bt b1 0)) := HCL.out 0 c
    go_wp2
    go_roundg b1.size
    case measure => omega
    case rel => exact ⟨1, bt b1 0, rfl, by rw [or_zero' _ hb0.1 hb0.2], ⟨.inr (.inl ⟨rfl, c, rfl, rfl⟩)⟩, rfl⟩
  · by_cases c : 1 < b1.size
    case neg =>
     have cb : decide ((1 : Int) < (b1.size : Int)) = false := decide_eq_false (by omega)
     go_wp2
     go_ret
     exact ⟨by rw [numLE_1 b1 (by omega)]; rfl, HI.out, HB.out, HK.out⟩
    have cb : decide ((1 : Int) < (b1.size : Int)) = true := decide_eq_true (by omega)
    have cc : World.cell? _ ⟨gb, 1, none⟩ = some (Value.int .u8 (bt b1 1)) := HCL.out 1 c
    go_wp2
    go_roundg 1
    case measure => omega
    case rel => exact ⟨2, bt b1 0 + 256 * bt b1 1, rfl, by rw [or_low _ _ hb0.1 hb0.2 hb1.1 (by omega)], ⟨.inr (.inr ⟨by omega, by omega, rfl, rfl⟩)⟩, rfl⟩
  · have cb : decide ((2 : Int) < (b1.size : Int)) = false := decide_eq_false (by omega)
    go_wp2
    go_ret
    exact ⟨by rw [numLE_2 b1 (by omega)]; rfl, HI.out, HB.out, HK.out⟩

end Go.Proofs.YthoegphcmkejoaaDoor.G
end
