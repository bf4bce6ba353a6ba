/- Parts of this proof, one behind the other: G3, G4, G5, G6, G7, G8, G9, G10, G11, TLaw, TCut, TRef, TMay, G12, G13, G14, TTrail, G15. -/
import Derived.Test.YtgokcaccamfgfaaDoorG0
import Derived.Test.YtgokcaccamfgfaaDoorU2
section
-- Laid by the session's own driver gp.py over the kit's printer. Not trusted: Lean checks it.
namespace Go.Proofs.YtgokcaccamfgfaaDoor.G
open Go.RowKit Go.Proofs.YtgokcaccamfgfaaDoorW.PrintWords Go.Proofs.YtgokcaccamfgfaaDoorW.PrintLast Go.Proofs.YtgokcaccamfgfaaDoorW.PrintMore
set_option maxHeartbeats 8000000
set_option maxRecDepth 100000
attribute [local go_sem] max2_int min2_int max_two min_two max_three min_three max_four min_four   -- for this text's walks alone
set_option linter.unusedVariables false
set_option linter.unusedSimpArgs false

/-- where the first blank or bracket stands -/
abbrev seps : ByteArray := ⟨#[32, 40, 41]⟩
theorem rune_err (w : World) :
 Calls Tryd.prog 74 #[.string seps, .int .i32 65533] w fun e w' => e = .returned (.int .i64 (-1)) ∧ Below w.heap.size w w' := by
 have hnx0 := fun ty => run_next_ascii (P := Tryd.prog) w seps 0 ty (by decide) (by decide)
 have hnx1 := fun ty => run_next_ascii (P := Tryd.prog) w seps 1 ty (by decide) (by decide)
 have hnx2 := fun ty => run_next_ascii (P := Tryd.prog) w seps 2 ty (by decide) (by decide)
 have hnx3 := fun ty => run_next_end (P := Tryd.prog) w seps 3 ty (by decide)
 go_enter Tryd.func74, Tryd.ntmps74
 go_wp2
 go_loopg [5, 6] 3 (fun g _ _ wx => ∃ i : Nat, i + g = 3 ∧ wx = w.iter seps i)
 case atStart => exact ⟨0, rfl, rfl⟩
 case round =>
  obtain ⟨i, hi, rfl⟩ := hrel
  cases gk with
  | zero =>
   obtain rfl : i = 3 := by omega
   go_wp2
   go_ret
   exact ⟨rfl, by apply below_alloc; exact Below.refl _ _⟩
  | succ g =>
   rcases (show i = 0 ∨ i = 1 ∨ i = 2 by omega) with rfl | rfl | rfl
   all_goals go_wp2
   all_goals go_roundg g
   all_goals first | omega | exact ⟨_, by omega, rfl⟩
theorem rune_two (w : World) (c : Int) (hc : 128 ≤ c) (hc2 : c < 2048) (hv : Lib.validRune c = true) (hc3 : c ≠ 65533) :
 Calls Tryd.prog 74 #[.string seps, .int .i32 c] w fun e w' => e = .returned (.int .i64 (-1)) ∧ Below w.heap.size w w' := by
 obtain ⟨p1, p2, hxy, hy⟩ : ∃ p1 p2 : UInt8, Utf8.encode c = ⟨#[p1, p2]⟩ ∧ 128 ≤ p2.toNat := by
  have hv2 : Utf8.valid c = true := by
   rw [← hv]; unfold Utf8.valid Lib.validRune
   rw [Bool.eq_iff_iff]; simp; omega
  refine ⟨UInt8.ofNat (0xC0 + c.toNat / 64), UInt8.ofNat (0x80 + c.toNat % 64), ?_, ?_⟩
  · unfold Utf8.encode
    simp only [hv2, if_true]
    rw [if_neg (by omega), if_pos (by omega)]
  · simp; omega
 have hcv : ∀ W : World, (convert 21 9 (.int .i32 c)).run Tryd.prog W = .ok (.string ⟨#[p1, p2]⟩) W := by
  intro W
  rw [← hxy]
  simp [convert, run_underlying Tryd.underlying21, run_underlying Tryd.underlying9, Conv.intToString, Result.andThen]
 have n1 : (c == 65533) = false := beq_eq_false_iff_ne.2 (by omega)
 have n2 : decide (c < 128) = false := decide_eq_false (by omega)
 clear hxy
 go_enter Tryd.func74, Tryd.ntmps74
 go_wp2_with (first
  | (go_at_call 86; refine (Tryd.utf8_ValidRune _ _).mono ?_; rintro e w1 ⟨rfl, hw⟩; rw [hw, hv])
  )
 go_step3
 go_wp2
 go_loopg [9, 10] 1 (fun g v9 v10 wx => v9 = .int .i64 1 ∧ v10 = .int .i64 0 ∧ wx = w)
 case atStart => exact ⟨rfl, rfl, rfl⟩
 case round =>
  obtain ⟨rfl, rfl, rfl⟩ := hrel
  have hne : ((40 : Int) == (p2.toNat : Int)) = false := beq_eq_false_iff_ne.2 (by omega)
  have hb : 1 < ({ data := #[p1, p2] } : ByteArray).size := by show 1 < 2; decide
  have hne2 : ((seps[1].toNat : Int) != ((({ data := #[p1, p2] } : ByteArray)[1]'hb).toNat : Int)) = true := by
   show ((40 : Int) != (p2.toNat : Int)) = true
   rw [bne, hne]; rfl
  have hix : Lib.indexByte (seps.extract 2 3).data.toList ((p2.toNat : Int)).toNat.toUInt8 = -1 := by
   rw [show ((p2.toNat : Int)).toNat.toUInt8 = p2 by simp]
   show Lib.indexByte [41] p2 = -1
   unfold Lib.indexByte
   rw [if_neg (by intro h; have := beq_iff_eq.1 h; subst this; revert hy; decide)]; rfl
  have hw2 : IntKind.i64.wrap 2 = 2 := by decide
  have hwi : IntKind.i64.wrap (1 + 1) = 2 := by decide
  go_wp2
  go_step3
  go_wp2
  go_region
  simp only [Exit.then, hne2]
  go_wp2
  go_region_with (go_at_call 85; refine (Tryd.strings_IndexByte (seps.extract 2 3) (p2.toNat : Int) _).mono ?_; rintro e w2 ⟨rfl, hw2⟩; rw [hw2, hix])
  all_goals simp only [Exit.then]
  all_goals go_wp2
  all_goals simp only [Exit.noGoto, Exit.inBlock, Exit.then]
  all_goals go_ret
  all_goals exact ⟨rfl, by repeat (first | exact Below.refl _ _ | apply Below.drew)⟩
theorem rune_three (w : World) (c : Int) (hc : 2048 ≤ c) (hc2 : c < 65536) (hv : Lib.validRune c = true) (hc3 : c ≠ 65533) :
 Calls Tryd.prog 74 #[.string seps, .int .i32 c] w fun e w' => e = .returned (.int .i64 (-1)) ∧ Below w.heap.size w w' := by
 obtain ⟨p1, p2, p3, hxy, hy⟩ : ∃ p1 p2 p3 : UInt8, Utf8.encode c = ⟨#[p1, p2, p3]⟩ ∧ 128 ≤ p3.toNat := by
  have hv2 : Utf8.valid c = true := by
   rw [← hv]; unfold Utf8.valid Lib.validRune
   rw [Bool.eq_iff_iff]; simp; omega
  refine ⟨UInt8.ofNat (0xE0 + c.toNat / 4096), UInt8.ofNat (0x80 + c.toNat / 64 % 64), UInt8.ofNat (0x80 + c.toNat % 64), ?_, ?_⟩
  · unfold Utf8.encode
    simp only [hv2, if_true]
    rw [if_neg (by omega), if_neg (by omega), if_pos (by omega)]
  · simp; omega
 have hcv : ∀ W : World, (convert 21 9 (.int .i32 c)).run Tryd.prog W = .ok (.string ⟨#[p1, p2, p3]⟩) W := by
  intro W
  rw [← hxy]
  simp [convert, run_underlying Tryd.underlying21, run_underlying Tryd.underlying9, Conv.intToString, Result.andThen]
 have n1 : (c == 65533) = false := beq_eq_false_iff_ne.2 (by omega)
 have n2 : decide (c < 128) = false := decide_eq_false (by omega)
 clear hxy
 go_enter Tryd.func74, Tryd.ntmps74
 go_wp2_with (first
  | (go_at_call 86; refine (Tryd.utf8_ValidRune _ _).mono ?_; rintro e w1 ⟨rfl, hw⟩; rw [hw, hv])
  )
 go_step3
 go_wp2
 go_loopg [9, 10] 1 (fun g v9 v10 wx => v9 = .int .i64 2 ∧ v10 = .int .i64 0 ∧ wx = w)
 case atStart => exact ⟨rfl, rfl, rfl⟩
 case round =>
  obtain ⟨rfl, rfl, rfl⟩ := hrel
  have hne : ((41 : Int) == (p3.toNat : Int)) = false := beq_eq_false_iff_ne.2 (by omega)
  have hb : 2 < ({ data := #[p1, p2, p3] } : ByteArray).size := by show 2 < 3; decide
  have hne2 : ((seps[2].toNat : Int) != ((({ data := #[p1, p2, p3] } : ByteArray)[2]'hb).toNat : Int)) = true := by
   show ((41 : Int) != (p3.toNat : Int)) = true
   rw [bne, hne]; rfl
  have hix : Lib.indexByte (seps.extract 3 3).data.toList ((p3.toNat : Int)).toNat.toUInt8 = -1 := by
   rw [show ((p3.toNat : Int)).toNat.toUInt8 = p3 by simp]
   show Lib.indexByte [] p3 = -1
   unfold Lib.indexByte
   rfl
  have hw2 : IntKind.i64.wrap 3 = 3 := by decide
  have hwi : IntKind.i64.wrap (2 + 1) = 3 := by decide
  go_wp2
  go_step3
  go_wp2
  go_region
  simp only [Exit.then, hne2]
  go_wp2
  go_region_with (go_at_call 85; refine (Tryd.strings_IndexByte (seps.extract 3 3) (p3.toNat : Int) _).mono ?_; rintro e w2 ⟨rfl, hw2⟩; rw [hw2, hix])
  all_goals simp only [Exit.then]
  all_goals go_wp2
  all_goals simp only [Exit.noGoto, Exit.inBlock, Exit.then]
  all_goals go_ret
  all_goals exact ⟨rfl, by repeat (first | exact Below.refl _ _ | apply Below.drew)⟩
theorem rune_four (w : World) (c : Int) (hc : 65536 ≤ c) (hc2 : c < 2147483648) (hv : Lib.validRune c = true) (hc3 : c ≠ 65533) :
 Calls Tryd.prog 74 #[.string seps, .int .i32 c] w fun e w' => e = .returned (.int .i64 (-1)) ∧ Below w.heap.size w w' := by
 obtain ⟨p1, p2, p3, p4, hxy, hy⟩ : ∃ p1 p2 p3 p4 : UInt8, Utf8.encode c = ⟨#[p1, p2, p3, p4]⟩ ∧ 128 ≤ p4.toNat := by
  have hv2 : Utf8.valid c = true := by
   rw [← hv]; unfold Utf8.valid Lib.validRune
   rw [Bool.eq_iff_iff]; simp; omega
  refine ⟨UInt8.ofNat (0xF0 + c.toNat / 262144), UInt8.ofNat (0x80 + c.toNat / 4096 % 64), UInt8.ofNat (0x80 + c.toNat / 64 % 64), UInt8.ofNat (0x80 + c.toNat % 64), ?_, ?_⟩
  · unfold Utf8.encode
    simp only [hv2, if_true]
    rw [if_neg (by omega), if_neg (by omega), if_neg (by omega)]
  · simp; omega
 have hcv : ∀ W : World, (convert 21 9 (.int .i32 c)).run Tryd.prog W = .ok (.string ⟨#[p1, p2, p3, p4]⟩) W := by
  intro W
  rw [← hxy]
  simp [convert, run_underlying Tryd.underlying21, run_underlying Tryd.underlying9, Conv.intToString, Result.andThen]
 have n1 : (c == 65533) = false := beq_eq_false_iff_ne.2 (by omega)
 have n2 : decide (c < 128) = false := decide_eq_false (by omega)
 clear hxy
 go_enter Tryd.func74, Tryd.ntmps74
 go_wp2_with (first
  | (go_at_call 86; refine (Tryd.utf8_ValidRune _ _).mono ?_; rintro e w1 ⟨rfl, hw⟩; rw [hw, hv])
  )
 go_step3
 go_wp2
 go_loopg [9, 10] 1 (fun g v9 v10 wx => v9 = .int .i64 3 ∧ v10 = .int .i64 0 ∧ wx = w)
 case atStart => exact ⟨rfl, rfl, rfl⟩
 case round =>
  obtain ⟨rfl, rfl, rfl⟩ := hrel
  go_wp2
  simp only [Exit.noGoto_ret, Exit.noGoto_normal]
  go_ret
  exact ⟨rfl, Below.refl _ _⟩
theorem rune_high (w : World) (c : Int) (hc : 128 ≤ c) (hm : c ≤ 2147483647) (hv : c = 65533 ∨ Lib.validRune c = true) :
 Calls Tryd.prog 74 #[.string seps, .int .i32 c] w fun e w' => e = .returned (.int .i64 (-1)) ∧ Below w.heap.size w w' := by
 by_cases h3 : c = 65533
 case pos =>
  subst h3; exact rune_err w
 have hv := hv.resolve_left h3
 by_cases h1 : c < 2048
 case pos =>
  exact rune_two w c hc h1 hv h3
 by_cases h2 : c < 65536
 case pos =>
  exact rune_three w c (by omega) h2 hv h3
 exact rune_four w c (by omega) (by omega) hv h3
theorem get_bang (s : ByteArray) (i : Nat) (h : i < s.size) : s.get! i = s[i]'h := by
 simp [ByteArray.get!, getElem!_pos, h]; rfl
theorem dec_valid (s : ByteArray) (p : Nat) (h : p < s.size) (ha : 128 ≤ (s[p]'h).toNat) :
 ((Utf8.decode s p).1 : Int) = 65533 ∨ Lib.validRune ((Utf8.decode s p).1 : Int) = true := by
 have hb : ∀ k, (s.get! (p + k)).toNat < 256 := fun k => (s.get! (p + k)).toNat_lt
 have h0 := hb 0; have h1 := hb 1; have h2 := hb 2; have h3 := hb 3
 have hn : ¬ (s.get! (p + 0)).toNat < 128 := by rw [show p + 0 = p from rfl, get_bang s p h]; omega
 simp only [Utf8.decode, hn, if_false]
 repeat' split
 all_goals simp_all [Utf8.runeError, Lib.validRune, Utf8.valid]
 all_goals omega
theorem dec_high (s : ByteArray) (p : Nat) (h : p < s.size) (ha : 128 ≤ (s[p]'h).toNat) (j : Nat) (hj : p ≤ j) (hj2 : j < p + (Utf8.decode s p).2) (hjs : j < s.size) : 128 ≤ (s[j]'hjs).toNat := by
 have hn : ¬ (s.get! (p + 0)).toNat < 128 := by rw [show p + 0 = p from rfl, get_bang s p h]; omega
 have e1 : ∀ k, p + k < s.size → (s.get! (p + k)).toNat / 64 = 2 → ∀ hk : p + k < s.size, 128 ≤ (s[p + k]'hk).toNat := by
  intro k hk h2 hk'
  rw [get_bang s (p + k) hk] at h2
  omega
 obtain ⟨k, rfl⟩ : ∃ k, j = p + k := ⟨j - p, by omega⟩
 have hk4 : k < 4 := by
  revert hj2
  simp only [Utf8.decode, hn, if_false]
  repeat' split
  all_goals simp
  all_goals omega
 have hc : k = 0 ∨ (s.get! (p + k)).toNat / 64 = 2 := by
  revert hj2
  simp only [Utf8.decode, hn, if_false]
  rcases (show k = 0 ∨ k = 1 ∨ k = 2 ∨ k = 3 by omega) with rfl | rfl | rfl | rfl
  · intro _; exact .inl rfl
  all_goals repeat' split
  all_goals simp_all
 rcases hc with rfl | hc
 · exact ha
 · exact e1 k hjs hc hjs
theorem noany_skip (s : ByteArray) (p : Nat) (h : p < s.size) (ha : 128 ≤ (s[p]'h).toNat) (hno : Lib.NoAny s.data.toList seps.data.toList p) :
 Lib.NoAny s.data.toList seps.data.toList (p + (Utf8.decode s p).2) := by
 intro j b hj hb
 by_cases hjp : j < p
 case pos =>
  exact hno j b hjp hb
 have hjs : j < s.size := by
  have := (List.getElem?_eq_some_iff.1 hb).1
  rwa [← Lib.size_eq] at this
 have h1 := dec_high s p h ha j (by omega) hj hjs
 have h2 : s.data.toList[j]? = some (s[j]'hjs) := Lib.data_getElem? s j hjs
 rw [h2] at hb
 obtain rfl := Option.some.inj hb
 show [(32 : UInt8), 40, 41].contains (s[j]'hjs) = false
 generalize s[j]'hjs = b at h1
 rw [Bool.eq_false_iff]
 intro hc
 simp at hc
 rcases hc with rfl | rfl | rfl <;> revert h1 <;> decide
theorem any_short (s : ByteArray) (w : World) (h8 : s.size ≤ 8) :
 Calls Tryd.prog 66 #[.string s, .string seps] w fun e w' => e = .returned (.int .i64 (Lib.indexAny s.data.toList seps.data.toList)) ∧ Below w.heap.size w w' := by
 have hemp : seps.toList.isEmpty = false := by rw [Lib.toList_data]; rfl
 have hn1 : ((seps.size : Int) == 1) = false := by decide
 have h8z : decide ((8 : Int) < (s.size : Int)) = false := decide_eq_false (by omega)
 go_enter Tryd.func66, Tryd.ntmps66
 go_wp2_with (go_at_call 75; refine (Tryd.strings_shouldUseASCIISet _ _).mono ?_; rintro e w' ⟨rfl, hw⟩; rw [hw, h8z])
 go_loopg [9, 10] s.size (fun g _ _ wx => ∃ i : Nat, s.size ≤ i + g ∧ Below w.heap.size w wx ∧ wx.heap[w.heap.size]? = some (.stringIter s i) ∧ Lib.NoAny s.data.toList seps.data.toList i)
 case atStart => exact ⟨0, by omega, by apply below_alloc; exact Below.refl _ _, World.iter_heap _ _ _, Lib.NoAny.zero _ _⟩
 case round =>
  obtain ⟨i, hig, hB, hit, hno⟩ := hrel
  have HB : Aside (Below w.heap.size w wr) := hB
  have HN : Aside (Lib.NoAny s.data.toList seps.data.toList i) := hno
  clear hno
  by_cases hi : i < s.size
  case neg =>
   have hnx := fun ty => Lib.run_next_end_at (P := Tryd.prog) wr w.heap.size s i ty hit hi
   go_wp2
   go_ret
   exact ⟨by rw [Lib.indexAny_none (fun j b hj hb => HN.out j b (by have := (List.getElem?_eq_some_iff.1 hb).1; rw [← Lib.size_eq] at this; omega) hb)]; rfl, HB.out⟩
  cases gk with
  | zero => exact absurd hig (by omega)
  | succ g =>
   have hws : w.heap.size < wr.heap.size := (Array.getElem?_eq_some_iff.1 hit).1
   have hnx := fun ty => Lib.run_next_any_at (P := Tryd.prog) wr w.heap.size s i ty hit hi
   have hit2 := Lib.iterAt_heap wr w.heap.size s i (i + (Utf8.decode s i).2) hit
   have hB2 : Below w.heap.size w (wr.iterAt w.heap.size s (i + (Utf8.decode s i).2)) := Lib.below_iterAt hB (Nat.le_refl _) s _
   have hsz2 : (wr.iterAt w.heap.size s (i + (Utf8.decode s i).2)).heap.size = wr.heap.size := Lib.iterAt_size _ _ _ _
   generalize hx : s[i]'hi = x at *
   by_cases hx128 : x.toNat < 128
   case neg =>
    have hxh : 128 ≤ (s[i]'hi).toNat := by rw [hx]; omega
    have hd := decode_high s i hi hxh
    have hdl := decode_le s i
    have hv := dec_valid s i hi hxh
    have HN2 : Aside (Lib.NoAny s.data.toList seps.data.toList (i + (Utf8.decode s i).2)) := noany_skip s i hi hxh HN.out
    clear hx hxh
    generalize Utf8.decode s i = d at *
    obtain ⟨d1, d2⟩ := d
    dsimp only at *
    have HB2 : Aside (Below w.heap.size w (wr.iterAt w.heap.size s (i + d2))) := hB2
    have HI2 : Aside ((wr.iterAt w.heap.size s (i + d2)).heap[w.heap.size]? = some (.stringIter s (i + d2))) := hit2
    clear hB2 hit2
    generalize wr.iterAt w.heap.size s (i + d2) = wx at *
    have hneg : ¬ ((0 : Int) ≤ -1) := by omega
    have HR : Aside (Calls Tryd.prog 74 #[.string seps, .int .i32 (d1 : Int)] wx fun e w' => e = .returned (.int .i64 (-1)) ∧ Below wx.heap.size wx w') := rune_high wx d1 (by omega) (by omega) hv
    clear hv hdl
    go_wp2_with (go_at_call 74; refine (HR.out).mono ?_; rintro e w' ⟨rfl, hb⟩; have HBr : Aside (Below wx.heap.size wx w') := hb; clear hb)
    go_roundg g
    case measure => omega
    case rel =>
     refine ⟨i + d2, by omega, below_step HB2.out HBr.out, ?_, HN2.out⟩
     rw [← HI2.out]
     exact (HBr.out.block _ (by omega))
   have hd := decode_ascii s i hi (by rw [hx]; exact hx128)
   rw [hd] at hnx hit2 hB2 hsz2
   rw [hx] at hnx
   have hxl : s.data.toList[i]? = some x := by rw [← hx]; exact Lib.data_getElem? s i hi
   have hcon := Lib.contains_iff_indexByte seps.data.toList x
   have hback : ((x.toNat : Int)).toNat.toUInt8 = x := by simp
   have HB2 : Aside (Below w.heap.size w (wr.iterAt w.heap.size s (i + 1))) := hB2
   have HI2 : Aside ((wr.iterAt w.heap.size s (i + 1)).heap[w.heap.size]? = some (.stringIter s (i + 1))) := hit2
   have Hx : Aside (s.data.toList[i]? = some x) := hxl
   clear hxl hx hd hB2 hit2 hsz2
   generalize wr.iterAt w.heap.size s (i + 1) = wx at *
   cases hin : seps.data.toList.contains x
   · rw [hin] at hcon
     have hlt : ¬ ((0 : Int) ≤ Lib.indexByte seps.data.toList x) := of_decide_eq_false hcon.symm
     clear hcon
     go_wp2_with (go_at_call 74; refine (Tryd.strings_IndexRune_ascii _ _ _ (by omega) (by omega)).mono ?_; rintro e w' ⟨rfl, hw⟩; rw [hw, hback])
     go_roundg g
     case measure => omega
     case rel => exact ⟨i + 1, by omega, HB2.out, HI2.out, HN.out.succ Hx.out hin⟩
   · rw [hin] at hcon
     have hge : (0 : Int) ≤ Lib.indexByte seps.data.toList x := of_decide_eq_true hcon.symm
     clear hcon
     go_wp2_with (go_at_call 74; refine (Tryd.strings_IndexRune_ascii _ _ _ (by omega) (by omega)).mono ?_; rintro e w' ⟨rfl, hw⟩; rw [hw, hback])
     go_ret
     exact ⟨by rw [Lib.indexAny_hit HN.out Hx.out hin]; rfl, HB2.out⟩
def strings_IndexAny.f (a0 : ByteArray) (a1 : ByteArray) : Option Int := if a1 = seps ∧ a0.size < 4294967281 then some (Lib.indexAny a0.data.toList seps.data.toList) else none
theorem strings_IndexAny.calls (a0 : ByteArray) (a1 : ByteArray) (r : Int) (w : World) (h : strings_IndexAny.f a0 a1 = some r) :
 Calls Tryd.prog 66 #[.string a0, .string a1] w fun e w' => e = .returned (.int .i64 r) ∧ Below w.heap.size w w' := by
 unfold strings_IndexAny.f at h
 by_cases hc : a1 = seps ∧ a0.size < 4294967281
 case neg =>
  rw [if_neg hc] at h; cases h

 rw [if_pos hc] at h
 obtain rfl := Option.some.inj h
 obtain ⟨rfl, hs⟩ := hc
 by_cases h8 : a0.size ≤ 8
 case pos =>
  exact any_short a0 w h8
 refine (Tryd.strings_IndexAny_long (zero_of_info (n := 256) (by kernel_rfl)).1 a0 seps w (by decide) (by omega) hs (by decide) ?_).mono ?_
 · intro j b hb
   have : j < 3 := (List.getElem?_eq_some_iff.1 hb).1
   rcases (show j = 0 ∨ j = 1 ∨ j = 2 by omega) with rfl | rfl | rfl <;> (obtain rfl := Option.some.inj hb; decide)
 · rintro e w' ⟨rfl, rfl⟩
   exact ⟨rfl, by apply below_alloc; apply below_alloc; exact Below.refl _ _⟩
end Go.Proofs.YtgokcaccamfgfaaDoor.G
end
section
-- Laid by the session's own driver gp.py over the kit's printer. Not trusted: Lean checks it.
namespace Go.Proofs.YtgokcaccamfgfaaDoor.G
open Go.RowKit Go.Proofs.YtgokcaccamfgfaaDoorW.PrintWords Go.Proofs.YtgokcaccamfgfaaDoorW.PrintLast Go.Proofs.YtgokcaccamfgfaaDoorW.PrintMore
set_option maxHeartbeats 8000000
set_option maxRecDepth 100000
attribute [local go_sem] max2_int min2_int max_two min_two max_three min_three max_four min_four   -- for this text's walks alone
set_option linter.unusedVariables false
set_option linter.unusedSimpArgs false

def term_word.f (a0 : ByteArray) : Option (ByteArray × ByteArray) := (strings_IndexAny.f a0 (⟨#[32, 40, 41]⟩ : ByteArray)).bind fun t113 => (if t113 < 0 then (if 0 ≤ (a0.size : Int) then (if (a0.size : Int) ≤ (a0.size : Int) then (some (a0.extract 0 ((a0.size : Int) : Int).toNat, a0.extract ((a0.size : Int) : Int).toNat a0.size)) else (none)) else (none)) else (if 0 ≤ t113 then (if t113 ≤ (a0.size : Int) then (some (a0.extract 0 (t113 : Int).toNat, a0.extract (t113 : Int).toNat a0.size)) else (none)) else (none)))
theorem term_word.calls (a0 : ByteArray) (r1 : ByteArray) (r2 : ByteArray) (w : World) (h : term_word.f a0 = some (r1, r2)) :
 Calls Tryd.prog 60 #[.string a0] w fun e w' => e = .returned (.tuple #[.string r1, .string r2]) ∧ Below w.heap.size w w' := by
 have HB := a_ (Below.refl w.heap.size w)
 have H := h; unfold term_word.f at H
 clear h
 replace H := Option.bind_eq_some_iff.mp H
 obtain ⟨t113, A20, H⟩ := H
 try dsimp only at H
 have A2 := a_ A20
 clear A20
 by_cases c3 : t113 < 0
 case neg =>
  rw [if_neg c3] at H
  have c3b0 : decide (t113 < 0) = false := decide_eq_false c3
  clear c3
  replace H := ifI_ H; obtain ⟨c9, H⟩ := H
  have c9b0 := eq_true c9
  have c9b1 : decide (0 ≤ t113) = true := decide_eq_true c9
  clear c9
  replace H := ifI_ H; obtain ⟨c10, H⟩ := H
  have c10b0 := eq_true c10
  have c10b1 : decide (t113 ≤ (a0.size : Int)) = true := decide_eq_true c10
  clear c10
  have c11b0 := eq_true (of_decide_eq_true hA_ : 0 ≤ t113)
  have c12b0 := eq_true (of_decide_eq_true hA_ : t113 ≤ (a0.size : Int))
  simp only [Option.some.injEq, Prod.mk.injEq] at H
  obtain ⟨rfl, rfl⟩ := H
  go_enter Tryd.func60, Tryd.ntmps60
  go_wp2_with (first | (go_at_call 66; (with_reducible refine (strings_IndexAny.calls a0 (⟨#[32, 40, 41]⟩ : ByteArray) t113 _ A2.out).mono ?_); rintro e w13 ⟨rfl, hb⟩; replace HB := a_ (below_step hB_ hb); (try clear hb); (try clear hb2); (try clear hk); (try clear hi)))
  repeat (go_quiet (first | (go_at_call 66; (with_reducible refine (strings_IndexAny.calls a0 (⟨#[32, 40, 41]⟩ : ByteArray) t113 _ A2.out).mono ?_); rintro e w13 ⟨rfl, hb⟩; replace HB := a_ (below_step hB_ hb); (try clear hb); (try clear hb2); (try clear hk); (try clear hi))); try go_wp2_with (first | (go_at_call 66; (with_reducible refine (strings_IndexAny.calls a0 (⟨#[32, 40, 41]⟩ : ByteArray) t113 _ A2.out).mono ?_); rintro e w13 ⟨rfl, hb⟩; replace HB := a_ (below_step hB_ hb); (try clear hb); (try clear hb2); (try clear hk); (try clear hi))))
  go_ret2
  exact ⟨hV_, hC_⟩
 rw [if_pos c3] at H
 have c3b0 : decide (t113 < 0) = true := decide_eq_true c3
 clear c3
 replace H := ifI_ H; obtain ⟨c4, H⟩ := H
 have c4b0 := eq_true c4
 have c4b1 : decide (0 ≤ (a0.size : Int)) = true := decide_eq_true c4
 clear c4
 replace H := ifI_ H; obtain ⟨c5, H⟩ := H
 have c5b0 := eq_true c5
 have c5b1 : decide ((a0.size : Int) ≤ (a0.size : Int)) = true := decide_eq_true c5
 clear c5
 have c6b0 := eq_true (of_decide_eq_true hA_ : 0 ≤ (a0.size : Int))
 have c7b0 := eq_true (of_decide_eq_true hA_ : (a0.size : Int) ≤ (a0.size : Int))
 simp only [Option.some.injEq, Prod.mk.injEq] at H
 obtain ⟨rfl, rfl⟩ := H
 go_enter Tryd.func60, Tryd.ntmps60
 go_wp2_with (first | (go_at_call 66; (with_reducible refine (strings_IndexAny.calls a0 (⟨#[32, 40, 41]⟩ : ByteArray) t113 _ A2.out).mono ?_); rintro e w8 ⟨rfl, hb⟩; replace HB := a_ (below_step hB_ hb); (try clear hb); (try clear hb2); (try clear hk); (try clear hi)))
 repeat (go_quiet (first | (go_at_call 66; (with_reducible refine (strings_IndexAny.calls a0 (⟨#[32, 40, 41]⟩ : ByteArray) t113 _ A2.out).mono ?_); rintro e w8 ⟨rfl, hb⟩; replace HB := a_ (below_step hB_ hb); (try clear hb); (try clear hb2); (try clear hk); (try clear hi))); try go_wp2_with (first | (go_at_call 66; (with_reducible refine (strings_IndexAny.calls a0 (⟨#[32, 40, 41]⟩ : ByteArray) t113 _ A2.out).mono ?_); rintro e w8 ⟨rfl, hb⟩; replace HB := a_ (below_step hB_ hb); (try clear hb); (try clear hb2); (try clear hk); (try clear hi))))
 go_ret2
 exact ⟨hV_, hC_⟩
end Go.Proofs.YtgokcaccamfgfaaDoor.G
end
section
-- Laid by the session's own driver gp.py over the kit's printer. Not trusted: Lean checks it.
namespace Go.Proofs.YtgokcaccamfgfaaDoor.G
open Go.RowKit Go.Proofs.YtgokcaccamfgfaaDoorW.PrintWords Go.Proofs.YtgokcaccamfgfaaDoorW.PrintLast Go.Proofs.YtgokcaccamfgfaaDoorW.PrintMore
set_option maxHeartbeats 8000000
set_option maxRecDepth 100000
attribute [local go_sem] max2_int min2_int max_two min_two max_three min_three max_four min_four   -- for this text's walks alone
set_option linter.unusedVariables false
set_option linter.unusedSimpArgs false

def term_Number.f (a0 : ByteArray) : Option (Int × Bool) := if a0.size ≤ 281474976710656 then some (numF a0) else none
theorem term_Number.calls (a0 : ByteArray) (r1 : Int) (r2 : Bool) (w : World) (h : term_Number.f a0 = some (r1, r2)) (hG : GOK w) :
 Calls Tryd.prog 61 #[.string a0] w fun e w' => e = .returned (.tuple #[.int .i64 r1, .bool r2]) ∧ Below w.heap.size w w' := by
 unfold term_Number.f at h
 by_cases hs : a0.size ≤ 281474976710656
 case neg =>
  rw [if_neg hs] at h
  cases h

 rw [if_pos hs] at h
 have h := Option.some.inj h
 obtain ⟨rfl, rfl⟩ : r1 = (numF a0).1 ∧ r2 = (numF a0).2 := by rw [h]; exact ⟨rfl, rfl⟩
 clear h
 have hr := atoiF_range a0
 have hC := a_ (atoi_calls a0 hs w hG)
 have hn : (numF a0).1 = (atoiF a0).1 := by unfold numF atoiF; cases Lib.atoiAll a0.data.toList <;> rfl
 rw [hn]
 have hb : (numF a0).2 = ((atoiF a0).2 && ((decide (-32768 ≤ (atoiF a0).1) && decide ((atoiF a0).1 ≤ 32767)) && itoaK (atoiF a0).1 == a0.data.toList)) := by
  unfold numF atoiF; cases Lib.atoiAll a0.data.toList <;> rfl
 rw [hb]
 clear hn hb
 generalize (atoiF a0).1 = v at hr hC ⊢
 generalize (atoiF a0).2 = ok at hC ⊢
 cases ok with
 | false =>
  go_enter Tryd.func61, Tryd.ntmps61
  go_wp2_with (go_at_call 67; refine (hC.out).mono ?_; rintro e w1 ⟨⟨N, rfl⟩, hb⟩; have HB := a_ hb; clear hb; simp only [errV, Bool.false_eq_true, if_false])
  go_ret2
  exact ⟨rfl, by repeat (first | exact HB.out | apply below_alloc | apply pw_below_drewN | apply below_drew1)⟩
 | true =>
  by_cases c1 : -32768 ≤ v
  case neg =>
   have k1 : decide (-32768 ≤ v) = false := decide_eq_false c1
   have e1 : (true && ((decide (-32768 ≤ v) && decide (v ≤ 32767)) && itoaK v == a0.data.toList)) = false := by rw [k1]; rfl
   rw [e1]
   clear e1
   go_enter Tryd.func61, Tryd.ntmps61
   go_wp2_with (first
    | (go_at_call 67; refine (hC.out).mono ?_; rintro e w1 ⟨⟨N, rfl⟩, hb⟩; have HB := a_ hb; clear hb; simp only [errV, if_true])
    | go_in)
   go_ret2
   exact ⟨rfl, by repeat (first | exact HB.out | apply below_alloc | apply pw_below_drewN | apply below_drew1)⟩
  by_cases c2 : v ≤ 32767
  case neg =>
   have k1 : decide (-32768 ≤ v) = true := decide_eq_true c1
   have k2 : decide (v ≤ 32767) = false := decide_eq_false c2
   have e1 : (true && ((decide (-32768 ≤ v) && decide (v ≤ 32767)) && itoaK v == a0.data.toList)) = false := by rw [k1, k2]; rfl
   rw [e1]
   clear e1
   go_enter Tryd.func61, Tryd.ntmps61
   go_wp2_with (first
    | (go_at_call 67; refine (hC.out).mono ?_; rintro e w1 ⟨⟨N, rfl⟩, hb⟩; have HB := a_ hb; clear hb; simp only [errV, if_true])
    | go_in)
   go_ret2
   exact ⟨rfl, by repeat (first | exact HB.out | apply below_alloc | apply pw_below_drewN | apply below_drew1)⟩
  have k1 : decide (-32768 ≤ v) = true := decide_eq_true c1
  have k2 : decide (v ≤ 32767) = true := decide_eq_true c2
  have e1 : (true && ((decide (-32768 ≤ v) && decide (v ≤ 32767)) && itoaK v == a0.data.toList)) = (itoaK v == a0.data.toList) := by rw [k1, k2]; rfl
  rw [e1]
  clear e1
  go_enter Tryd.func61, Tryd.ntmps61
  go_wp2_with (first
   | (go_at_call 67; refine (hC.out).mono ?_; rintro e w1 ⟨⟨N, rfl⟩, hb⟩; have HB := a_ hb; have HG1 := hG.below hb; clear hb; simp only [errV, if_true])
   | (go_at_call 69; refine (itoa_calls v (by omega) (by omega) _ HG1).mono ?_; rintro e w2 ⟨rfl, hb⟩; have HB2 := a_ (below_step HB.out hb); clear hb)
   | go_in)
  go_ret2
  exact ⟨by rw [Lib.toList_data]; rfl, by repeat (first | exact HB2.out | apply below_alloc | apply pw_below_drewN | apply below_drew1)⟩
end Go.Proofs.YtgokcaccamfgfaaDoor.G
end
section
-- Laid by the session's own driver gp.py over the kit's printer. Not trusted: Lean checks it.
namespace Go.Proofs.YtgokcaccamfgfaaDoor.G
open Go.RowKit Go.Proofs.YtgokcaccamfgfaaDoorW.PrintWords Go.Proofs.YtgokcaccamfgfaaDoorW.PrintLast Go.Proofs.YtgokcaccamfgfaaDoorW.PrintMore
attribute [local go_sem] max2_int min2_int max_two min_two max_three min_three max_four min_four   -- for this text's walks alone
set_option linter.unusedVariables false
set_option linter.unusedSimpArgs false

def strings_CutPrefix.f (a0 : ByteArray) (a1 : ByteArray) : Option (ByteArray × Bool) := some (⟨(Lib.trimPrefix a0.data.toList a1.data.toList).toArray⟩, Lib.hasPrefix a0.data.toList a1.data.toList)
theorem strings_CutPrefix.calls (a0 : ByteArray) (a1 : ByteArray) (r1 : ByteArray) (r2 : Bool) (w : World) (h : strings_CutPrefix.f a0 a1 = some (r1, r2)) :
 Calls Tryd.prog 64 #[.string a0, .string a1] w fun e w' => e = .returned (.tuple #[.string r1, .bool r2]) ∧ Drawn0 w w' := by
 have h := Option.some.inj h
 obtain ⟨rfl, rfl⟩ := Prod.mk.inj h
 refine (Tryd.strings_CutPrefix a0 a1 w).mono ?_
 rintro e w' ⟨rfl, rfl⟩
 exact ⟨rfl, Drawn0.refl _⟩

end Go.Proofs.YtgokcaccamfgfaaDoor.G
end
section
-- Laid by the session's own driver gp.py over the kit's printer. Not trusted: Lean checks it.
namespace Go.Proofs.YtgokcaccamfgfaaDoor.G
open Go.RowKit Go.Proofs.YtgokcaccamfgfaaDoorW.PrintWords Go.Proofs.YtgokcaccamfgfaaDoorW.PrintLast Go.Proofs.YtgokcaccamfgfaaDoorW.PrintMore
set_option maxHeartbeats 8000000
set_option maxRecDepth 100000
attribute [local go_sem] max2_int min2_int max_two min_two max_three min_three max_four min_four   -- for this text's walks alone
set_option linter.unusedVariables false
set_option linter.unusedSimpArgs false

def term_Digits.f (a0 : ByteArray) (a1 : Int) : Option (Int × Bool) := if a0.size ≤ 281474976710656 then some (digF a0 a1) else none
theorem term_Digits.calls (a0 : ByteArray) (a1 : Int) (r1 : Int) (r2 : Bool) (w : World) (h : term_Digits.f a0 a1 = some (r1, r2)) (hG : GOK w) :
 Calls Tryd.prog 70 #[.string a0, .int .i64 a1] w fun e w' => e = .returned (.tuple #[.int .i64 r1, .bool r2]) ∧ Below w.heap.size w w' := by
 unfold term_Digits.f at h
 by_cases hs : a0.size ≤ 281474976710656
 case neg =>
  rw [if_neg hs] at h
  cases h

 rw [if_pos hs] at h
 have h := Option.some.inj h
 obtain ⟨rfl, rfl⟩ : r1 = (digF a0 a1).1 ∧ r2 = (digF a0 a1).2 := by rw [h]; exact ⟨rfl, rfl⟩
 clear h
 have hr := atoiF_range a0
 have hC := a_ (atoi_calls a0 hs w hG)
 have hn : (digF a0 a1).1 = (atoiF a0).1 := by unfold digF atoiF; cases Lib.atoiAll a0.data.toList <;> rfl
 rw [hn]
 have hb : (digF a0 a1).2 = ((atoiF a0).2 && ((decide (0 ≤ (atoiF a0).1) && decide ((atoiF a0).1 ≤ a1)) && itoaK (atoiF a0).1 == a0.data.toList)) := by
  unfold digF atoiF; cases Lib.atoiAll a0.data.toList <;> rfl
 rw [hb]
 clear hn hb
 generalize (atoiF a0).1 = v at hr hC ⊢
 generalize (atoiF a0).2 = ok at hC ⊢
 cases ok with
 | false =>
  go_enter Tryd.func70, Tryd.ntmps70
  go_wp2_with (go_at_call 67; refine (hC.out).mono ?_; rintro e w1 ⟨⟨N, rfl⟩, hb⟩; have HB := a_ hb; clear hb; simp only [errV, Bool.false_eq_true, if_false])
  go_ret2
  exact ⟨rfl, by repeat (first | exact HB.out | apply below_alloc | apply pw_below_drewN | apply below_drew1)⟩
 | true =>
  by_cases c1 : 0 ≤ v
  case neg =>
   have k1 : decide (0 ≤ v) = false := decide_eq_false c1
   have e1 : (true && ((decide (0 ≤ v) && decide (v ≤ a1)) && itoaK v == a0.data.toList)) = false := by rw [k1]; rfl
   rw [e1]
   clear e1
   go_enter Tryd.func70, Tryd.ntmps70
   go_wp2_with (first
    | (go_at_call 67; refine (hC.out).mono ?_; rintro e w1 ⟨⟨N, rfl⟩, hb⟩; have HB := a_ hb; clear hb; simp only [errV, if_true])
    | go_in)
   go_ret2
   exact ⟨rfl, by repeat (first | exact HB.out | apply below_alloc | apply pw_below_drewN | apply below_drew1)⟩
  by_cases c2 : v ≤ a1
  case neg =>
   have k1 : decide (0 ≤ v) = true := decide_eq_true c1
   have k2 : decide (v ≤ a1) = false := decide_eq_false c2
   have e1 : (true && ((decide (0 ≤ v) && decide (v ≤ a1)) && itoaK v == a0.data.toList)) = false := by rw [k1, k2]; rfl
   rw [e1]
   clear e1
   go_enter Tryd.func70, Tryd.ntmps70
   go_wp2_with (first
    | (go_at_call 67; refine (hC.out).mono ?_; rintro e w1 ⟨⟨N, rfl⟩, hb⟩; have HB := a_ hb; clear hb; simp only [errV, if_true])
    | go_in)
   go_ret2
   exact ⟨rfl, by repeat (first | exact HB.out | apply below_alloc | apply pw_below_drewN | apply below_drew1)⟩
  have k1 : decide (0 ≤ v) = true := decide_eq_true c1
  have k2 : decide (v ≤ a1) = true := decide_eq_true c2
  have e1 : (true && ((decide (0 ≤ v) && decide (v ≤ a1)) && itoaK v == a0.data.toList)) = (itoaK v == a0.data.toList) := by rw [k1, k2]; rfl
  rw [e1]
  clear e1
  go_enter Tryd.func70, Tryd.ntmps70
  go_wp2_with (first
   | (go_at_call 67; refine (hC.out).mono ?_; rintro e w1 ⟨⟨N, rfl⟩, hb⟩; have HB := a_ hb; have HG1 := hG.below hb; clear hb; simp only [errV, if_true])
   | (go_at_call 69; refine (itoa_calls v (by omega) (by omega) _ HG1).mono ?_; rintro e w2 ⟨rfl, hb⟩; have HB2 := a_ (below_step HB.out hb); clear hb)
   | go_in)
  go_ret2
  exact ⟨by rw [Lib.toList_data]; rfl, by repeat (first | exact HB2.out | apply below_alloc | apply pw_below_drewN | apply below_drew1)⟩
end Go.Proofs.YtgokcaccamfgfaaDoor.G
end
section
-- Laid by the session's own driver gp.py over the kit's printer. Not trusted: Lean checks it.
namespace Go.Proofs.YtgokcaccamfgfaaDoor.G
open Go.RowKit Go.Proofs.YtgokcaccamfgfaaDoorW.PrintWords Go.Proofs.YtgokcaccamfgfaaDoorW.PrintLast Go.Proofs.YtgokcaccamfgfaaDoorW.PrintMore
set_option maxHeartbeats 8000000
set_option maxRecDepth 100000
attribute [local go_sem] max2_int min2_int max_two min_two max_three min_three max_four min_four   -- for this text's walks alone
set_option linter.unusedVariables false
set_option linter.unusedSimpArgs false

def term_Tag.f (a0 : ByteArray) : Option (Int × Bool) := (strings_CutPrefix.f a0 (⟨#[64]⟩ : ByteArray)).bind fun bt114 => ((term_Digits.f bt114.1 99).bind fun bt116 => (if bt114.2 = true then (some (bt116.1, bt116.2)) else (some (bt116.1, false))))
theorem term_Tag.calls (a0 : ByteArray) (r1 : Int) (r2 : Bool) (w : World) (h : term_Tag.f a0 = some (r1, r2)) (hG : GOK w) :
 Calls Tryd.prog 62 #[.string a0] w fun e w' => e = .returned (.tuple #[.int .i64 r1, .bool r2]) ∧ Below w.heap.size w w' := by
 have HB := a_ (Below.refl w.heap.size w)
 have H := h; unfold term_Tag.f at H
 clear h
 replace H := Option.bind_eq_some_iff.mp H
 obtain ⟨⟨t114, t115⟩, A20, H⟩ := H
 try dsimp only at H
 have A2 := a_ A20
 clear A20
 replace H := Option.bind_eq_some_iff.mp H
 obtain ⟨⟨t116, t117⟩, A30, H⟩ := H
 try dsimp only at H
 have A3 := a_ A30
 clear A30
 by_cases c4 : t115 = true
 case pos =>
  subst c4
  rw [if_pos rfl] at H
  simp only [Option.some.injEq, Prod.mk.injEq] at H
  obtain ⟨rfl, rfl⟩ := H
  go_enter Tryd.func62, Tryd.ntmps62
  go_wp2_with (first | ((with_reducible refine gate_callee (f := 64) rfl ?_); refine goesL_ (some 10) rfl rfl Tryd.func64 (by kernel_rfl) rfl #[.string a0, .string (⟨#[64]⟩ : ByteArray)] rfl hL_ ?_; (with_reducible refine (strings_CutPrefix.calls a0 (⟨#[64]⟩ : ByteArray) t114 true _ A2.out).mono ?_); rintro e w' ⟨rfl, ⟨nd, rfl⟩⟩; refine ⟨_, rfl, ?_⟩) | ((with_reducible refine gate_callee (f := 70) rfl ?_); refine goesL_ (some 15) rfl rfl Tryd.func70 (by kernel_rfl) rfl #[.string t114, .int .i64 99] rfl hL_ ?_; (with_reducible refine (term_Digits.calls t114 99 t116 t117 _ A3.out hG_).mono ?_); rintro e w5 ⟨rfl, hb⟩; refine ⟨_, rfl, ?_⟩; replace HB := a_ (below_step hB_ hb); (try clear hb); (try clear hb2); (try clear hk); (try clear hi)))
  go_ret2
  exact ⟨hV_, hC_⟩
 replace c4 := Bool.eq_false_iff.mpr c4
 subst c4
 rw [if_neg (show ¬ (false = true) by decide)] at H
 simp only [Option.some.injEq, Prod.mk.injEq] at H
 obtain ⟨rfl, rfl⟩ := H
 go_enter Tryd.func62, Tryd.ntmps62
 go_wp2_with (first | ((with_reducible refine gate_callee (f := 64) rfl ?_); refine goesL_ (some 10) rfl rfl Tryd.func64 (by kernel_rfl) rfl #[.string a0, .string (⟨#[64]⟩ : ByteArray)] rfl hL_ ?_; (with_reducible refine (strings_CutPrefix.calls a0 (⟨#[64]⟩ : ByteArray) t114 false _ A2.out).mono ?_); rintro e w' ⟨rfl, ⟨nd, rfl⟩⟩; refine ⟨_, rfl, ?_⟩) | ((with_reducible refine gate_callee (f := 70) rfl ?_); refine goesL_ (some 15) rfl rfl Tryd.func70 (by kernel_rfl) rfl #[.string t114, .int .i64 99] rfl hL_ ?_; (with_reducible refine (term_Digits.calls t114 99 t116 t117 _ A3.out hG_).mono ?_); rintro e w6 ⟨rfl, hb⟩; refine ⟨_, rfl, ?_⟩; replace HB := a_ (below_step hB_ hb); (try clear hb); (try clear hb2); (try clear hk); (try clear hi)))
 go_ret2
 exact ⟨hV_, hC_⟩

end Go.Proofs.YtgokcaccamfgfaaDoor.G
end
section
-- Laid by the session's own driver gp.py over the kit's printer. Not trusted: Lean checks it.
namespace Go.Proofs.YtgokcaccamfgfaaDoor.G
open Go.RowKit Go.Proofs.YtgokcaccamfgfaaDoorW.PrintWords Go.Proofs.YtgokcaccamfgfaaDoorW.PrintLast Go.Proofs.YtgokcaccamfgfaaDoorW.PrintMore
attribute [local go_sem] max2_int min2_int max_two min_two max_three min_three max_four min_four   -- for this text's walks alone
set_option linter.unusedVariables false
set_option linter.unusedSimpArgs false

def strings_HasPrefix.f (a0 : ByteArray) (a1 : ByteArray) : Option Bool := some (Lib.hasPrefix a0.data.toList a1.data.toList)
theorem strings_HasPrefix.calls (a0 : ByteArray) (a1 : ByteArray) (r : Bool) (w : World) (h : strings_HasPrefix.f a0 a1 = some r) :
 Calls Tryd.prog 63 #[.string a0, .string a1] w fun e w' => e = .returned (.bool r) ∧ Drawn0 w w' := by
 obtain rfl := Option.some.inj h
 refine (Tryd.strings_HasPrefix a0 a1 w).mono ?_
 rintro e w' ⟨rfl, rfl⟩
 exact ⟨rfl, Drawn0.refl _⟩

end Go.Proofs.YtgokcaccamfgfaaDoor.G
end
section
-- Laid by the session's own driver gp.py over the kit's printer. Not trusted: Lean checks it.
namespace Go.Proofs.YtgokcaccamfgfaaDoor.G
open Go.RowKit Go.Proofs.YtgokcaccamfgfaaDoorW.PrintWords Go.Proofs.YtgokcaccamfgfaaDoorW.PrintLast Go.Proofs.YtgokcaccamfgfaaDoorW.PrintMore
set_option maxHeartbeats 8000000
set_option maxRecDepth 100000
attribute [local go_sem] max2_int min2_int max_two min_two max_three min_three max_four min_four   -- for this text's walks alone
set_option linter.unusedVariables false
set_option linter.unusedSimpArgs false

mutual
def term_cut.j0 : Nat → ByteArray → Int → Bool → Bool → Option (Int × Int × List ByteArray × ByteArray × Bool)
 | 0, _, _, _, _ => none
 | k + 1, x8, x11, x12, x52 => if x52 = true then (some (2, x11, ([] : List ByteArray), x8, x12)) else (term_cut.l0 k x8 x11 ([] : List ByteArray))
def term_cut.l0 : Nat → ByteArray → Int → List ByteArray → Option (Int × Int × List ByteArray × ByteArray × Bool)
 | 0, _, _, _ => none
 | k + 1, x8, x11, x13 => if (x13.length : Int) < 3 then (if 1 ≤ (x8.size : Int) then ((term_cut.f k (x8.extract 1 x8.size)).bind fun bt127 => (if bt127.2.2.2.2 = true then (if 0 ≤ (wrap64 (((x8.extract 1 x8.size).size : Int) - (bt127.2.2.2.1.size : Int))) then (if (wrap64 (((x8.extract 1 x8.size).size : Int) - (bt127.2.2.2.1.size : Int))) ≤ ((x8.extract 1 x8.size).size : Int) then (if x13.length < 8796093022208 then ((some (x13 ++ [(x8.extract 1 x8.size).extract 0 ((wrap64 (((x8.extract 1 x8.size).size : Int) - (bt127.2.2.2.1.size : Int))) : Int).toNat] : List ByteArray)).bind fun y134 => ((strings_HasPrefix.f bt127.2.2.2.1 (⟨#[32]⟩ : ByteArray)).bind fun t137 => (if t137 = true then (term_cut.l0 k bt127.2.2.2.1 x11 y134) else ((strings_CutPrefix.f bt127.2.2.2.1 (⟨#[41]⟩ : ByteArray)).bind fun bt138 => (some (2, x11, y134, bt138.1, bt138.2)))))) else (none)) else (none)) else (none)) else (some (0, 0, ([] : List ByteArray), (⟨#[]⟩ : ByteArray), false)))) else (none)) else ((strings_CutPrefix.f x8 (⟨#[41]⟩ : ByteArray)).bind fun bt125 => (some (2, x11, x13, bt125.1, bt125.2)))
def term_cut.f : Nat → ByteArray → Option (Int × Int × List ByteArray × ByteArray × Bool)
 | 0, _ => none
 | k + 1, a0 => (term_word.f a0).bind fun bt118 => (if bt118.1.toList = ([95] : List UInt8) then (some (0, 0, ([] : List ByteArray), bt118.2, true)) else (if bt118.1.toList = ([33] : List UInt8) then (some (3, 0, ([] : List ByteArray), bt118.2, true)) else ((term_Number.f bt118.1).bind fun bt120 => (if bt120.2 = true then (some (1, bt120.1, ([] : List ByteArray), bt118.2, true)) else ((term_Tag.f bt118.1).bind fun bt122 => (if bt122.2 = true then ((strings_HasPrefix.f bt118.2 (⟨#[40]⟩ : ByteArray)).bind fun t124 => (term_cut.j0 k bt118.2 bt122.1 bt122.2 (!t124))) else (term_cut.j0 k bt118.2 bt122.1 bt122.2 true)))))))
end
theorem term_cut.mono_l : ∀ k, (∀ y0, LeO (term_cut.f k y0) (term_cut.f (k + 1) y0)) ∧ (∀ y0 y1 y2 y3, LeO (term_cut.j0 k y0 y1 y2 y3) (term_cut.j0 (k + 1) y0 y1 y2 y3)) ∧ (∀ y0 y1 y2, LeO (term_cut.l0 k y0 y1 y2) (term_cut.l0 (k + 1) y0 y1 y2))
 | 0 => ⟨fun _ r h => by simp [term_cut.f] at h, fun _ _ _ _ r h => by simp [term_cut.j0] at h, fun _ _ _ r h => by simp [term_cut.l0] at h⟩
 | k + 1 => by
  obtain ⟨ih0, ih1, ih2⟩ := term_cut.mono_l k
  refine ⟨?_, ?_, ?_⟩
  · intro y0
    unfold term_cut.f
    repeat' first
    | (with_reducible exact ih0 _)
    | (with_reducible exact ih1 _ _ _ _)
    | (with_reducible exact ih2 _ _ _)
    | (with_reducible exact LeO.refl _)
    | (with_reducible exact LeO.none _)
    | (with_reducible refine LeO.ite ?_ ?_)
    | (with_reducible refine LeO.bind ?_ (fun _ => ?_))
    | exact ih0 _
    | exact ih1 _ _ _ _
    | exact ih2 _ _ _
    | exact LeO.none _
    | refine LeO.ite ?_ ?_
    | refine LeO.bind ?_ (fun _ => ?_)
  · intro y0 y1 y2 y3
    unfold term_cut.j0
    repeat' first
    | (with_reducible exact ih0 _)
    | (with_reducible exact ih1 _ _ _ _)
    | (with_reducible exact ih2 _ _ _)
    | (with_reducible exact LeO.refl _)
    | (with_reducible exact LeO.none _)
    | (with_reducible refine LeO.ite ?_ ?_)
    | (with_reducible refine LeO.bind ?_ (fun _ => ?_))
    | exact ih0 _
    | exact ih1 _ _ _ _
    | exact ih2 _ _ _
    | exact LeO.none _
    | refine LeO.ite ?_ ?_
    | refine LeO.bind ?_ (fun _ => ?_)
  · intro y0 y1 y2
    unfold term_cut.l0
    repeat' first
    | (with_reducible exact ih0 _)
    | (with_reducible exact ih1 _ _ _ _)
    | (with_reducible exact ih2 _ _ _)
    | (with_reducible exact LeO.refl _)
    | (with_reducible exact LeO.none _)
    | (with_reducible refine LeO.ite ?_ ?_)
    | (with_reducible refine LeO.bind ?_ (fun _ => ?_))
    | exact ih0 _
    | exact ih1 _ _ _ _
    | exact ih2 _ _ _
    | exact LeO.none _
    | refine LeO.ite ?_ ?_
    | refine LeO.bind ?_ (fun _ => ?_)
theorem term_cut.mono : ∀ a0 k, LeO (term_cut.f k a0) (term_cut.f (k + 1) a0) := by
 intro a0 k
 obtain ⟨ih0, ih1, ih2⟩ := term_cut.mono_l k
 exact ih0 a0
theorem term_cut.calls (k : Nat) : ∀ (a0 : ByteArray) (r1 : Int) (r2 : Int) (r3 : List ByteArray) (r4 : ByteArray) (r5 : Bool) (w : World) (h : term_cut.f k a0 = some (r1, r2, r3, r4, r5)) (hG : GOK w),
 Calls Tryd.prog 57 #[.string a0] w fun e w' => ∃ v2_ : Value, e = .returned (.tuple #[.int .i64 r1, .int .i64 r2, v2_, .string r4, .bool r5]) ∧ Kd.R Kd.string 9 w' w.heap.size (fun _ => True) v2_ r3 ∧ Below w.heap.size w w' := by
 induction k using Nat.strongRecOn with
 | _ k ih =>
 intro a0 r1 r2 r3 r4 r5 w h hG
 cases k with
 | zero => exact absurd h (by simp [term_cut.f])
 | succ k =>
 simp only [term_cut.f] at h
 have HB := a_ (Below.refl w.heap.size w)
 have H := h; unfold term_cut.f at H
 clear h
 replace H := Option.bind_eq_some_iff.mp H
 obtain ⟨⟨t118, t119⟩, A20, H⟩ := H
 try dsimp only at H
 have A2 := a_ A20
 clear A20
 by_cases c3 : t118.toList = ([95] : List UInt8)
 case pos =>
  rw [if_pos c3] at H
  have c3b0 : (t118.toList == ([95] : List UInt8)) = true := beq_iff_eq.mpr c3
  have c3b1 : (t118.toList != ([95] : List UInt8)) = false := bne_eq_false_iff_eq.mpr c3
  clear c3
  simp only [Option.some.injEq, Prod.mk.injEq] at H
  obtain ⟨rfl, rfl, rfl, rfl, rfl⟩ := H
  go_enter Tryd.func57, Tryd.ntmps57
  go_wp2_with (first | ((with_reducible refine gate_callee (f := 60) rfl ?_); refine goesL_ (some 24) rfl rfl Tryd.func60 (by kernel_rfl) rfl #[.string a0] rfl hL_ ?_; (with_reducible refine (term_word.calls a0 t118 t119 _ A2.out).mono ?_); rintro e w4 ⟨rfl, hb⟩; refine ⟨_, rfl, ?_⟩; replace HB := a_ (below_step hB_ hb); (try clear hb); (try clear hb2); (try clear hk); (try clear hi)))
  refine bodyPost_ret (results_list (rs := [.tmp 2, .tmp 3, .tmp 4, .tmp 5, .tmp 6]) rfl (by simp) (.tmp (.tmp (.tmp (.tmp (.tmp .nil)))))) rfl ?_
  exact ⟨_, hV_, by first | exact Kd.R_nil _ _ _ _ _ | exact Kd.N_nil _ _ _ _ _ | exact Kd.V_nil _ _ _ _ _ | exact Kd.Q_nil _ _ _ _ _ | exact Kd.S_nil _ _ _ _ _, hC_⟩
 rw [if_neg c3] at H
 have c3b0 : (t118.toList == ([95] : List UInt8)) = false := beq_eq_false_iff_ne.mpr c3
 have c3b1 : (t118.toList != ([95] : List UInt8)) = true := bne_iff_ne.mpr c3
 by_cases c5 : t118.toList = ([33] : List UInt8)
 case pos =>
  rw [if_pos c5] at H
  have c5b0 : (t118.toList == ([33] : List UInt8)) = true := beq_iff_eq.mpr c5
  have c5b1 : (t118.toList != ([33] : List UInt8)) = false := bne_eq_false_iff_eq.mpr c5
  clear c5
  simp only [Option.some.injEq, Prod.mk.injEq] at H
  obtain ⟨rfl, rfl, rfl, rfl, rfl⟩ := H
  go_enter Tryd.func57, Tryd.ntmps57
  go_wp2_with (first | ((with_reducible refine gate_callee (f := 60) rfl ?_); refine goesL_ (some 24) rfl rfl Tryd.func60 (by kernel_rfl) rfl #[.string a0] rfl hL_ ?_; (with_reducible refine (term_word.calls a0 t118 t119 _ A2.out).mono ?_); rintro e w6 ⟨rfl, hb⟩; refine ⟨_, rfl, ?_⟩; replace HB := a_ (below_step hB_ hb); (try clear hb); (try clear hb2); (try clear hk); (try clear hi)))
  refine bodyPost_ret (results_list (rs := [.tmp 2, .tmp 3, .tmp 4, .tmp 5, .tmp 6]) rfl (by simp) (.tmp (.tmp (.tmp (.tmp (.tmp .nil)))))) rfl ?_
  exact ⟨_, hV_, by first | exact Kd.R_nil _ _ _ _ _ | exact Kd.N_nil _ _ _ _ _ | exact Kd.V_nil _ _ _ _ _ | exact Kd.Q_nil _ _ _ _ _ | exact Kd.S_nil _ _ _ _ _, hC_⟩
 rw [if_neg c5] at H
 have c5b0 : (t118.toList == ([33] : List UInt8)) = false := beq_eq_false_iff_ne.mpr c5
 have c5b1 : (t118.toList != ([33] : List UInt8)) = true := bne_iff_ne.mpr c5
 replace H := Option.bind_eq_some_iff.mp H
 obtain ⟨⟨t120, t121⟩, A70, H⟩ := H
 try dsimp only at H
 have A7 := a_ A70
 clear A70
 by_cases c8 : t121 = true
 case pos =>
  subst c8
  rw [if_pos rfl] at H
  simp only [Option.some.injEq, Prod.mk.injEq] at H
  obtain ⟨rfl, rfl, rfl, rfl, rfl⟩ := H
  go_enter Tryd.func57, Tryd.ntmps57
  go_wp2_with (first | ((with_reducible refine gate_callee (f := 60) rfl ?_); refine goesL_ (some 24) rfl rfl Tryd.func60 (by kernel_rfl) rfl #[.string a0] rfl hL_ ?_; (with_reducible refine (term_word.calls a0 t118 t119 _ A2.out).mono ?_); rintro e w9 ⟨rfl, hb⟩; refine ⟨_, rfl, ?_⟩; replace HB := a_ (below_step hB_ hb); (try clear hb); (try clear hb2); (try clear hk); (try clear hi)) | ((with_reducible refine gate_callee (f := 61) rfl ?_); refine goesL_ (some 35) rfl rfl Tryd.func61 (by kernel_rfl) rfl #[.string t118] rfl hL_ ?_; (with_reducible refine (term_Number.calls t118 t120 true _ A7.out hG_).mono ?_); rintro e w10 ⟨rfl, hb⟩; refine ⟨_, rfl, ?_⟩; replace HB := a_ (below_step hB_ hb); (try clear hb); (try clear hb2); (try clear hk); (try clear hi)))
  refine bodyPost_ret (results_list (rs := [.tmp 2, .tmp 3, .tmp 4, .tmp 5, .tmp 6]) rfl (by simp) (.tmp (.tmp (.tmp (.tmp (.tmp .nil)))))) rfl ?_
  exact ⟨_, hV_, by first | exact Kd.R_nil _ _ _ _ _ | exact Kd.N_nil _ _ _ _ _ | exact Kd.V_nil _ _ _ _ _ | exact Kd.Q_nil _ _ _ _ _ | exact Kd.S_nil _ _ _ _ _, hC_⟩
 replace c8 := Bool.eq_false_iff.mpr c8
 subst c8
 rw [if_neg (show ¬ (false = true) by decide)] at H
 replace H := Option.bind_eq_some_iff.mp H
 obtain ⟨⟨t122, t123⟩, A110, H⟩ := H
 try dsimp only at H
 have A11 := a_ A110
 clear A110
 have HC12 := a_ H
 clear H
 go_enter Tryd.func57, Tryd.ntmps57
 go_upto_region 10 with (first | ((with_reducible refine gate_callee (f := 60) rfl ?_); refine goesL_ (some 24) rfl rfl Tryd.func60 (by kernel_rfl) rfl #[.string a0] rfl hL_ ?_; (with_reducible refine (term_word.calls a0 t118 t119 _ A2.out).mono ?_); rintro e w13 ⟨rfl, hb⟩; refine ⟨_, rfl, ?_⟩; replace HB := a_ (below_step hB_ hb); (try clear hb); (try clear hb2); (try clear hk); (try clear hi)) | ((with_reducible refine gate_callee (f := 61) rfl ?_); refine goesL_ (some 35) rfl rfl Tryd.func61 (by kernel_rfl) rfl #[.string t118] rfl hL_ ?_; (with_reducible refine (term_Number.calls t118 t120 false _ A7.out hG_).mono ?_); rintro e w14 ⟨rfl, hb⟩; refine ⟨_, rfl, ?_⟩; replace HB := a_ (below_step hB_ hb); (try clear hb); (try clear hb2); (try clear hk); (try clear hi)) | ((with_reducible refine gate_callee (f := 62) rfl ?_); refine goesL_ (some 43) rfl rfl Tryd.func62 (by kernel_rfl) rfl #[.string t118] rfl hL_ ?_; (with_reducible refine (term_Tag.calls t118 t122 t123 _ A11.out hG_).mono ?_); rintro e w15 ⟨rfl, hb⟩; refine ⟨_, rfl, ?_⟩; replace HB := a_ (below_step hB_ hb); (try clear hb); (try clear hb2); (try clear hk); (try clear hi)))
 (try simp only [Act.put, List.setIfInBounds_toArray, List.set_cons_zero, List.set_cons_succ])
 go_cut [52] (fun v52 wc => ∃ (kq : Nat) (x52_11 : Bool), v52 = .bool x52_11 ∧ Aside0 (term_cut.j0 kq t119 t122 t123 x52_11 = some (r1, r2, r3, r4, r5)) ∧ Aside0 (kq ≤ k) ∧ Aside0 (Below w.heap.size w wc))
 case first =>
  have H := HC12.out
  clear HC12
  by_cases c16 : t123 = true
  case neg =>
   replace c16 := Bool.eq_false_iff.mpr c16
   subst c16
   rw [if_neg (show ¬ (false = true) by decide)] at H
   have H' := a_ H
   clear H
   go_wp2
   go_meet
   case rel => exact ⟨_, (true), hW_, H', ⟨by first | omega | exact Nat.le_refl _⟩, ⟨hC_⟩⟩
  subst c16
  rw [if_pos rfl] at H
  replace H := Option.bind_eq_some_iff.mp H
  obtain ⟨t124, A170, H⟩ := H
  try dsimp only at H
  have A17 := a_ A170
  clear A170
  have H' := a_ H
  clear H
  go_wp2_with (first | (go_at_call 63; (with_reducible refine (strings_HasPrefix.calls t119 (⟨#[40]⟩ : ByteArray) t124 _ A17.out).mono ?_); rintro e w' ⟨rfl, ⟨nd, rfl⟩⟩))
  go_meet
  case rel => exact ⟨_, (!t124), hW_, H', ⟨by first | omega | exact Nat.le_refl _⟩, ⟨hC_⟩⟩
 case rest =>
  clear HC12
  try clear c1
  try clear p2
  try clear c3
  try clear c3b0
  try clear c3b1
  try clear c5
  try clear c5b0
  try clear c5b1
  try clear c6
  try clear c8
  try clear c16
  obtain ⟨kq, x52_11, rfl, HA, HJ11, HB⟩ := hcut
  cases kq with
  | zero => exact absurd HA.out (by simp [term_cut.j0])
  | succ kj11 =>
   have H := HA.out
   clear HA
   simp only [term_cut.j0] at H
   by_cases c18 : x52_11 = true
   case pos =>
    subst c18
    rw [if_pos rfl] at H
    simp only [Option.some.injEq, Prod.mk.injEq] at H
    obtain ⟨rfl, rfl, rfl, rfl, rfl⟩ := H
    go_wp2
    refine bodyPost_ret (results_list (rs := [.tmp 2, .tmp 3, .tmp 4, .tmp 5, .tmp 6]) rfl (by simp) (.tmp (.tmp (.tmp (.tmp (.tmp .nil)))))) rfl ?_
    exact ⟨_, hV_, by first | exact Kd.R_nil _ _ _ _ _ | exact Kd.N_nil _ _ _ _ _ | exact Kd.V_nil _ _ _ _ _ | exact Kd.Q_nil _ _ _ _ _ | exact Kd.S_nil _ _ _ _ _, hC_⟩
   replace c18 := Bool.eq_false_iff.mpr c18
   subst c18
   rw [if_neg (show ¬ (false = true) by decide)] at H
   have H' := a_ H
   clear H
   go_wp2
   go_loopg [8, 13] kj11 (fun kq v8 v13 w' => ∃ (x8_2 : ByteArray) (x13_2 : List ByteArray), v8 = .string x8_2 ∧ Aside0 (term_cut.l0 kq x8_2 t122 x13_2 = some (r1, r2, r3, r4, r5)) ∧ Aside0 (kq ≤ kj11) ∧ Aside0 (Kd.R Kd.string 9 w' w.heap.size (fun _ => True) v13 x13_2) ∧ Aside0 (Below w.heap.size w w'))
   case atStart => exact ⟨(t119), (([] : List ByteArray)), hW_, H', ⟨Nat.le_refl _⟩, ⟨by first | exact Kd.R_nil _ _ _ _ _ | exact Kd.N_nil _ _ _ _ _ | exact Kd.V_nil _ _ _ _ _ | exact Kd.Q_nil _ _ _ _ _ | exact Kd.S_nil _ _ _ _ _⟩, ⟨hC_⟩⟩
   case round =>
    clear H'
    try clear c1
    try clear p2
    try clear c3
    try clear c3b0
    try clear c3b1
    try clear c5
    try clear c5b0
    try clear c5b1
    try clear c6
    try clear c8
    try clear c16
    try clear c18
    try clear p2
    obtain ⟨x8_2, x13_2, rfl, HA, HK2, HO_13, HB⟩ := hrel
    cases gk with
    | zero => exact absurd HA.out (by simp [term_cut.l0])
    | succ k2 =>
     have H := HA.out
     clear HA
     simp only [term_cut.l0] at H
     by_cases c19 : (x13_2.length : Int) < 3
     case neg =>
      rw [if_neg c19] at H
      have c19b0 : decide ((x13_2.length : Int) < 3) = false := decide_eq_false c19
      have c19b1 : decide (x13_2.length < 3) = false := decide_eq_false (by omega)
      clear c19
      replace H := Option.bind_eq_some_iff.mp H
      obtain ⟨⟨t125, t126⟩, A380, H⟩ := H
      try dsimp only at H
      have A38 := a_ A380
      clear A380
      simp only [Option.some.injEq, Prod.mk.injEq] at H
      obtain ⟨rfl, rfl, rfl, rfl, rfl⟩ := H
      obtain ⟨Ao39, co39, eo39⟩ := Kd.R_slice HO_13.out
      subst eo39
      go_wp2_with (first | ((with_reducible refine gate_callee (f := 64) rfl ?_); refine goesL_ (some 87) rfl rfl Tryd.func64 (by kernel_rfl) rfl #[.string x8_2, .string (⟨#[41]⟩ : ByteArray)] rfl hL_ ?_; (with_reducible refine (strings_CutPrefix.calls x8_2 (⟨#[41]⟩ : ByteArray) t125 t126 _ A38.out).mono ?_); rintro e w' ⟨rfl, ⟨nd, rfl⟩⟩; refine ⟨_, rfl, ?_⟩))
      refine bodyPost_ret (results_list (rs := [.tmp 2, .tmp 3, .tmp 4, .tmp 5, .tmp 6]) rfl (by simp) (.tmp (.tmp (.tmp (.tmp (.tmp .nil)))))) rfl ?_
      exact ⟨_, hV_, hR_ HO_13.out, hC_⟩

     rw [if_pos c19] at H
     have c19b0 : decide ((x13_2.length : Int) < 3) = true := decide_eq_true c19
     have c19b1 : decide (x13_2.length < 3) = true := decide_eq_true (by omega)
     clear c19
     replace H := ifI_ H; obtain ⟨c20, H⟩ := H
     have c20b0 := eq_true c20
     have c20b1 : decide (1 ≤ (x8_2.size : Int)) = true := decide_eq_true c20
     clear c20
     replace H := Option.bind_eq_some_iff.mp H
     obtain ⟨⟨t127, t128, t129, t130, t131⟩, A210, H⟩ := H
     try dsimp only at H
     have A21 := a_ A210
     clear A210
     by_cases c22 : t131 = true
     case neg =>
      replace c22 := Bool.eq_false_iff.mpr c22
      subst c22
      rw [if_neg (show ¬ (false = true) by decide)] at H
      simp only [Option.some.injEq, Prod.mk.injEq] at H
      obtain ⟨rfl, rfl, rfl, rfl, rfl⟩ := H
      obtain ⟨Ao36, co36, eo36⟩ := Kd.R_slice HO_13.out
      subst eo36
      go_wp2_with (first | ((with_reducible refine gate_callee (f := 57) rfl ?_); refine goesL_ (some 63) rfl rfl Tryd.func57 (by kernel_rfl) rfl #[.string (x8_2.extract 1 x8_2.size)] rfl hL_ ?_; (with_reducible refine (ih k2 (by have := HJ11.out; have := HK2.out; omega) (x8_2.extract 1 x8_2.size) t127 t128 t129 t130 false _ A21.out hG_).mono ?_); rintro e w37 ⟨v132, rfl, ho0, hb⟩; refine ⟨_, rfl, ?_⟩; have HO133 := a_ (Kd.R_lower (Kd.R_new' ho0 (Kd.R_lt (hR_ HO_13.out))) hS_); replace HO_13 := a_ (Kd.R_elder' (hR_ HO_13.out) (Kd.R_base ho0) hb); replace HB := a_ (below_step hB_ hb); (try clear hb); (try clear hb2); (try clear hk); (try clear hi); (try clear ho0)))
      refine bodyPost_ret (results_list (rs := [.tmp 2, .tmp 3, .tmp 4, .tmp 5, .tmp 6]) rfl (by simp) (.tmp (.tmp (.tmp (.tmp (.tmp .nil)))))) rfl ?_
      exact ⟨_, hV_, by first | exact Kd.R_nil _ _ _ _ _ | exact Kd.N_nil _ _ _ _ _ | exact Kd.V_nil _ _ _ _ _ | exact Kd.Q_nil _ _ _ _ _ | exact Kd.S_nil _ _ _ _ _, hC_⟩
     subst c22
     rw [if_pos rfl] at H
     obtain ⟨ji23, hji23⟩ : ∃ j_ : Int, (wrap64 (((x8_2.extract 1 x8_2.size).size : Int) - (t130.size : Int))) = j_ := ⟨_, rfl⟩
     replace H : (if 0 ≤ (ji23) then (if (ji23) ≤ ((x8_2.extract 1 x8_2.size).size : Int) then (if x13_2.length < 8796093022208 then ((some (x13_2 ++ [(x8_2.extract 1 x8_2.size).extract 0 ((ji23) : Int).toNat] : List ByteArray)).bind fun y134 => ((strings_HasPrefix.f t130 (⟨#[32]⟩ : ByteArray)).bind fun t137 => (if t137 = true then (term_cut.l0 k2 t130 t122 y134) else ((strings_CutPrefix.f t130 (⟨#[41]⟩ : ByteArray)).bind fun bt138 => (some (2, t122, y134, bt138.1, bt138.2)))))) else (none)) else (none)) else (none)) = some (r1, r2, r3, r4, r5) := by first | (rw [hji23] at H; exact H) | (simp only [hji23] at H ⊢; exact H)
     (try rw [hji23] at A21)
     have hji23w : (IntKind.i64.wrap (((x8_2.extract 1 x8_2.size).size : Int) - (t130.size : Int))) = ji23 := (i64_w _).trans hji23
     (try (have hji23s := hji23; simp only [ByteArray.size_extract, Nat.min_self] at hji23s; have hji23sw := hji23w; simp only [ByteArray.size_extract, Nat.min_self] at hji23sw))
     replace H := ifI_ H; obtain ⟨c24, H⟩ := H
     have c24b0 := eq_true c24
     have c24b1 : decide (0 ≤ (ji23)) = true := decide_eq_true c24
     clear c24
     replace H := ifI_ H; obtain ⟨c25, H⟩ := H
     have c25b0 := eq_true c25
     (try (have c25b0s := c25b0; simp only [ByteArray.size_extract, Nat.min_self] at c25b0s))
     have c25b1 : decide ((ji23) ≤ ((x8_2.extract 1 x8_2.size).size : Int)) = true := decide_eq_true c25
     (try (have c25b1s := c25b1; simp only [ByteArray.size_extract, Nat.min_self] at c25b1s))
     clear c25
     replace H := ifI_ H; obtain ⟨c26, H⟩ := H
     have LMc26 := a_ c26
     clear c26
     obtain ⟨y134, hy134⟩ : ∃ y_ : List ByteArray, y_ = (x13_2 ++ [(x8_2.extract 1 x8_2.size).extract 0 ((ji23) : Int).toNat]) := ⟨_, rfl⟩
     replace H : ((strings_HasPrefix.f t130 (⟨#[32]⟩ : ByteArray)).bind fun t137 => (if t137 = true then (term_cut.l0 k2 t130 t122 y134) else ((strings_CutPrefix.f t130 (⟨#[41]⟩ : ByteArray)).bind fun bt138 => (some (2, t122, y134, bt138.1, bt138.2))))) = some (r1, r2, r3, r4, r5) := by first | (rw [hy134]; with_reducible exact H) | (have H2_ := (Option.bind_some _ _).symm.trans H; rw [hy134]; with_reducible exact H2_) | (have H2_ := (Option.bind_some _ _).symm.trans H; with_reducible exact H2_) | with_reducible exact H | (rw [hy134]; exact H) | exact H
     have Ny134 := a_ hy134
     clear hy134
     replace H := Option.bind_eq_some_iff.mp H
     obtain ⟨t137, A270, H⟩ := H
     try dsimp only at H
     have A27 := a_ A270
     clear A270
     by_cases c28 : t137 = true
     case pos =>
      subst c28
      rw [if_pos rfl] at H
      have H' := a_ H
      clear H
      obtain ⟨Ao29, co29, eo29⟩ := Kd.R_slice HO_13.out
      subst eo29
      go_wp2_with (first | ((with_reducible refine gate_callee (f := 57) rfl ?_); refine goesL_ (some 63) rfl rfl Tryd.func57 (by kernel_rfl) rfl #[.string (x8_2.extract 1 x8_2.size)] rfl hL_ ?_; (with_reducible refine (ih k2 (by have := HJ11.out; have := HK2.out; omega) (x8_2.extract 1 x8_2.size) t127 t128 t129 t130 true _ A21.out hG_).mono ?_); rintro e w30 ⟨v132, rfl, ho0, hb⟩; refine ⟨_, rfl, ?_⟩; have HO133 := a_ (Kd.R_lower (Kd.R_new' ho0 (Kd.R_lt (hR_ HO_13.out))) hS_); replace HO_13 := a_ (Kd.R_elder' (hR_ HO_13.out) (Kd.R_base ho0) hb); replace HB := a_ (below_step hB_ hb); (try clear hb); (try clear hb2); (try clear hk); (try clear hi); (try clear ho0)) | ((with_reducible refine gate_builtin (b := .append) (xs := #[.tmp 71, .tmp 79]) rfl ?_); at_builtin; refine Kd.R_append Kd.string (w0 := w) w.heap.size rfl (.tmp 71) (.tmp 79) 31 9 (.string ⟨#[]⟩) 16 rfl Tryd.underlying31 info9 rfl (by decide) (by omega) (.slice Ao29 x13_2.length co29) x13_2 ((x8_2.extract 1 x8_2.size).extract 0 ((ji23) : Int).toNat) [.string ((x8_2.extract 1 x8_2.size).extract 0 ((ji23) : Int).toNat)] (fun k_ => some k_ ≠ (v132 : Value).ownBlock) (fun _ => False) rfl rfl ?aP (fun _ hk => hk.elim) ?aF ?aO ?aB ?aS ?aL ?_; (case aP => exact rfl); (case aB => exact hB_); (case aF => exact (fun k_ hk => Kd.fresh' (Kd.R_lt (hR_ HO133.out)) k_ hk)); (case aO => exact (by (with_reducible repeat (first | apply Kd.R_alloc | apply Kd.R_drewN | apply Kd.R_drew)); exact Kd.R_mono HO_13.out (fun _ hk => hk.2))); (case aS => exact hS_); (case aL => have := LMc26.out; omega); intro v135 w31 ho hb hg hat; rw [← Ny134.out] at ho; replace HO133 := a_ (Kd.R_after (ok := (fun _ => True)) (hR_ HO133.out) hg hat); replace HB := a_ (hb); have HO136 := a_ (ho); clear HO_13; clear ho hb hg hat) | ((with_reducible refine gate_callee (f := 63) rfl ?_); refine goesL_ (some 83) rfl rfl Tryd.func63 (by kernel_rfl) rfl #[.string t130, .string (⟨#[32]⟩ : ByteArray)] rfl hL_ ?_; (with_reducible refine (strings_HasPrefix.calls t130 (⟨#[32]⟩ : ByteArray) true _ A27.out).mono ?_); rintro e w' ⟨rfl, ⟨nd, rfl⟩⟩; refine ⟨_, rfl, ?_⟩))
      go_roundg k2
      case measure => have := HJ11.out; have := HK2.out; omega
      case rel => exact ⟨(t130), (y134), hW_, H', ⟨by have := HJ11.out; have := HK2.out; omega⟩, ⟨hR_ (Kd.R_mono HO136.out (fun _ hk => trivial))⟩, ⟨hC_⟩⟩
     replace c28 := Bool.eq_false_iff.mpr c28
     subst c28
     rw [if_neg (show ¬ (false = true) by decide)] at H
     replace H := Option.bind_eq_some_iff.mp H
     obtain ⟨⟨t138, t139⟩, A320, H⟩ := H
     try dsimp only at H
     have A32 := a_ A320
     clear A320
     simp only [Option.some.injEq, Prod.mk.injEq] at H
     obtain ⟨rfl, rfl, rfl, rfl, rfl⟩ := H
     obtain ⟨Ao33, co33, eo33⟩ := Kd.R_slice HO_13.out
     subst eo33
     go_wp2_with (first | ((with_reducible refine gate_callee (f := 57) rfl ?_); refine goesL_ (some 63) rfl rfl Tryd.func57 (by kernel_rfl) rfl #[.string (x8_2.extract 1 x8_2.size)] rfl hL_ ?_; (with_reducible refine (ih k2 (by have := HJ11.out; have := HK2.out; omega) (x8_2.extract 1 x8_2.size) t127 t128 t129 t130 true _ A21.out hG_).mono ?_); rintro e w34 ⟨v132, rfl, ho0, hb⟩; refine ⟨_, rfl, ?_⟩; have HO133 := a_ (Kd.R_lower (Kd.R_new' ho0 (Kd.R_lt (hR_ HO_13.out))) hS_); replace HO_13 := a_ (Kd.R_elder' (hR_ HO_13.out) (Kd.R_base ho0) hb); replace HB := a_ (below_step hB_ hb); (try clear hb); (try clear hb2); (try clear hk); (try clear hi); (try clear ho0)) | ((with_reducible refine gate_builtin (b := .append) (xs := #[.tmp 71, .tmp 79]) rfl ?_); at_builtin; refine Kd.R_append Kd.string (w0 := w) w.heap.size rfl (.tmp 71) (.tmp 79) 31 9 (.string ⟨#[]⟩) 16 rfl Tryd.underlying31 info9 rfl (by decide) (by omega) (.slice Ao33 x13_2.length co33) x13_2 ((x8_2.extract 1 x8_2.size).extract 0 ((ji23) : Int).toNat) [.string ((x8_2.extract 1 x8_2.size).extract 0 ((ji23) : Int).toNat)] (fun k_ => some k_ ≠ (v132 : Value).ownBlock) (fun _ => False) rfl rfl ?aP (fun _ hk => hk.elim) ?aF ?aO ?aB ?aS ?aL ?_; (case aP => exact rfl); (case aB => exact hB_); (case aF => exact (fun k_ hk => Kd.fresh' (Kd.R_lt (hR_ HO133.out)) k_ hk)); (case aO => exact (by (with_reducible repeat (first | apply Kd.R_alloc | apply Kd.R_drewN | apply Kd.R_drew)); exact Kd.R_mono HO_13.out (fun _ hk => hk.2))); (case aS => exact hS_); (case aL => have := LMc26.out; omega); intro v135 w35 ho hb hg hat; rw [← Ny134.out] at ho; replace HO133 := a_ (Kd.R_after (ok := (fun _ => True)) (hR_ HO133.out) hg hat); replace HB := a_ (hb); have HO136 := a_ (ho); clear HO_13; clear ho hb hg hat) | ((with_reducible refine gate_callee (f := 63) rfl ?_); refine goesL_ (some 83) rfl rfl Tryd.func63 (by kernel_rfl) rfl #[.string t130, .string (⟨#[32]⟩ : ByteArray)] rfl hL_ ?_; (with_reducible refine (strings_HasPrefix.calls t130 (⟨#[32]⟩ : ByteArray) false _ A27.out).mono ?_); rintro e w' ⟨rfl, ⟨nd, rfl⟩⟩; refine ⟨_, rfl, ?_⟩) | ((with_reducible refine gate_callee (f := 64) rfl ?_); refine goesL_ (some 87) rfl rfl Tryd.func64 (by kernel_rfl) rfl #[.string t130, .string (⟨#[41]⟩ : ByteArray)] rfl hL_ ?_; (with_reducible refine (strings_CutPrefix.calls t130 (⟨#[41]⟩ : ByteArray) t138 t139 _ A32.out).mono ?_); rintro e w' ⟨rfl, ⟨nd, rfl⟩⟩; refine ⟨_, rfl, ?_⟩))
     refine bodyPost_ret (results_list (rs := [.tmp 2, .tmp 3, .tmp 4, .tmp 5, .tmp 6]) rfl (by simp) (.tmp (.tmp (.tmp (.tmp (.tmp .nil)))))) rfl ?_
     exact ⟨_, by first | rfl | (simp [errW_none, errW_some] <;> rfl) | (simp only [← hji23]; first | rfl | (simp [errW_none, errW_some] <;> rfl)) | (simp [*, errW_none, errW_some] <;> rfl), hR_ (Kd.R_mono HO136.out (fun _ hk => trivial)), hC_⟩
end Go.Proofs.YtgokcaccamfgfaaDoor.G
end
section
-- Laid by the session's own driver gp.py over the kit's printer. Not trusted: Lean checks it.
namespace Go.Proofs.YtgokcaccamfgfaaDoor.G
open Go.RowKit Go.Proofs.YtgokcaccamfgfaaDoorW.PrintWords Go.Proofs.YtgokcaccamfgfaaDoorW.PrintLast Go.Proofs.YtgokcaccamfgfaaDoorW.PrintMore
set_option maxHeartbeats 8000000
set_option maxRecDepth 100000
attribute [local go_sem] max2_int min2_int max_two min_two max_three min_three max_four min_four   -- for this text's walks alone
set_option linter.unusedVariables false
set_option linter.unusedSimpArgs false

def term_May.f (k : Nat) (a0 : ByteArray) : Option (Bool) := if (a0.size : Int) > 1024 then (some false) else ((term_cut.f k a0).bind fun bt140 => (if bt140.2.2.2.2 = true then (some (bt140.2.2.2.1.toList == ([] : List UInt8))) else (some false)))
theorem term_May.mono : ∀ a0 k, LeO (term_May.f k a0) (term_May.f (k + 1) a0) := by
 intro a0 k
 unfold term_May.f
 repeat' first
  | (with_reducible exact term_cut.mono _ _)
  | (with_reducible exact LeO.refl _)
  | (with_reducible exact LeO.none _)
  | (with_reducible refine LeO.ite ?_ ?_)
  | (with_reducible refine LeO.bind ?_ (fun _ => ?_))
  | exact term_cut.mono _ _
  | exact LeO.none _
  | refine LeO.ite ?_ ?_
  | refine LeO.bind ?_ (fun _ => ?_)
theorem term_May.calls (k : Nat) (a0 : ByteArray) (r : Bool) (w : World) (h : term_May.f k a0 = some r) (hG : GOK w) :
 Calls Tryd.prog 53 #[.string a0] w fun e w' => e = .returned (.bool r) ∧ Below w.heap.size w w' := by
 have HB := a_ (Below.refl w.heap.size w)
 have H := h; unfold term_May.f at H
 clear h
 by_cases c2 : (a0.size : Int) > 1024
 case pos =>
  rw [if_pos c2] at H
  have c2b0 : decide (1024 < (a0.size : Int)) = true := decide_eq_true c2
  have c2b1 : decide (1024 < a0.size) = true := decide_eq_true (by omega)
  clear c2
  obtain rfl := Option.some.inj H
  go_enter Tryd.func53, Tryd.ntmps53
  go_wp2
  go_ret
  exact ⟨hV_, hC_⟩
 rw [if_neg c2] at H
 have c2b0 : decide (1024 < (a0.size : Int)) = false := decide_eq_false c2
 have c2b1 : decide (1024 < a0.size) = false := decide_eq_false (by omega)
 clear c2
 replace H := Option.bind_eq_some_iff.mp H
 obtain ⟨⟨t140, t141, t142, t143, t144⟩, A30, H⟩ := H
 try dsimp only at H
 have A3 := a_ A30
 clear A30
 by_cases c4 : t144 = true
 case pos =>
  subst c4
  rw [if_pos rfl] at H
  obtain rfl := Option.some.inj H
  go_enter Tryd.func53, Tryd.ntmps53
  go_wp2_with (first | ((with_reducible refine gate_callee (f := 57) rfl ?_); refine goesL_ (some 13) rfl rfl Tryd.func57 (by kernel_rfl) rfl #[.string a0] rfl hL_ ?_; (with_reducible refine (term_cut.calls k a0 t140 t141 t142 t143 true _ A3.out hG_).mono ?_); rintro e w5 ⟨v145, rfl, ho0, hb⟩; refine ⟨_, rfl, ?_⟩; have HO146 := a_ (Kd.R_lower ho0 hS_); replace HB := a_ (below_step hB_ hb); (try clear hb); (try clear hb2); (try clear hk); (try clear hi); (try clear ho0)))
  go_ret
  exact ⟨hV_, hC_⟩
 replace c4 := Bool.eq_false_iff.mpr c4
 subst c4
 rw [if_neg (show ¬ (false = true) by decide)] at H
 obtain rfl := Option.some.inj H
 go_enter Tryd.func53, Tryd.ntmps53
 go_wp2_with (first | ((with_reducible refine gate_callee (f := 57) rfl ?_); refine goesL_ (some 13) rfl rfl Tryd.func57 (by kernel_rfl) rfl #[.string a0] rfl hL_ ?_; (with_reducible refine (term_cut.calls k a0 t140 t141 t142 t143 false _ A3.out hG_).mono ?_); rintro e w6 ⟨v145, rfl, ho0, hb⟩; refine ⟨_, rfl, ?_⟩; have HO146 := a_ (Kd.R_lower ho0 hS_); replace HB := a_ (below_step hB_ hb); (try clear hb); (try clear hb2); (try clear hk); (try clear hi); (try clear ho0)))
 go_ret
 exact ⟨hV_, hC_⟩

def term_All.l0 : Nat → List ByteArray → Int → Int → Option (Bool)
 | 0, _, _, _ => none
 | k + 1, x5, x6, x7 => if x7 < x6 then (if 0 ≤ x7 then (if x7 < (x5.length : Int) then ((term_May.f k (rdOf ByteArray.empty x5 x7)).bind fun t148 => (if t148 = true then (term_All.l0 k x5 x6 (wrap64 (x7 + 1))) else (some false))) else (none)) else (none)) else (some true)
def term_All.f (k : Nat) (l0 : List ByteArray) : Option (Bool) := term_All.l0 k l0 (l0.length : Int) 0
theorem term_All.mono_l : ∀ k, (∀ y0 y1 y2, LeO (term_All.l0 k y0 y1 y2) (term_All.l0 (k + 1) y0 y1 y2))
 | 0 => fun _ _ _ r h => by simp [term_All.l0] at h
 | k + 1 => by
  have ih0 := term_All.mono_l k
  · intro y0 y1 y2
    unfold term_All.l0
    repeat' first
    | (with_reducible exact ih0 _ _ _)
    | (with_reducible exact term_May.mono _ _)
    | (with_reducible exact LeO.refl _)
    | (with_reducible exact LeO.none _)
    | (with_reducible refine LeO.ite ?_ ?_)
    | (with_reducible refine LeO.bind ?_ (fun _ => ?_))
    | exact ih0 _ _ _
    | exact term_May.mono _ _
    | exact LeO.none _
    | refine LeO.ite ?_ ?_
    | refine LeO.bind ?_ (fun _ => ?_)
theorem term_All.mono : ∀ a0 k, LeO (term_All.f k a0) (term_All.f (k + 1) a0) := by
 intro a0 k
 have ih0 := term_All.mono_l k
 unfold term_All.f
 repeat' first
  | (with_reducible exact ih0 _ _ _)
  | (with_reducible exact term_May.mono _ _)
  | (with_reducible exact LeO.refl _)
  | (with_reducible exact LeO.none _)
  | (with_reducible refine LeO.ite ?_ ?_)
  | (with_reducible refine LeO.bind ?_ (fun _ => ?_))
  | exact ih0 _ _ _
  | exact term_May.mono _ _
  | exact LeO.none _
  | refine LeO.ite ?_ ?_
  | refine LeO.bind ?_ (fun _ => ?_)
theorem term_All.calls (k : Nat) (A0 : Option Addr) (c0 : Nat) (l0 : List ByteArray) (r : Bool) (w : World) (hr0 : Kd.C Kd.string w A0 l0.length l0) (hc0 : l0.length ≤ c0) (h : term_All.f k l0 = some r) (hG : GOK w) :
 Calls Tryd.prog 52 #[.slice A0 l0.length c0] w fun e w' => e = .returned (.bool r) ∧ Below w.heap.size w w' := by
 have HR0 := a_ hr0
 have HC0 := a_ hc0
 clear hr0 hc0
 have HB := a_ (Below.refl w.heap.size w)
 have H : (term_All.l0 k l0 (l0.length : Int) 0) = some r := h
 clear h
 have H' := a_ H
 clear H
 go_enter Tryd.func52, Tryd.ntmps52
 go_wp2
 go_loopg [7] k (fun kq v7 w' => ∃ (x7_1 : Int), v7 = .int .i64 x7_1 ∧ Aside0 (term_All.l0 kq l0 (l0.length : Int) x7_1 = some r) ∧ Aside0 (kq ≤ k) ∧ Aside0 (Below w.heap.size w w'))
 case atStart => exact ⟨(0), hW_, H', ⟨Nat.le_refl _⟩, ⟨hC_⟩⟩
 case round =>
  clear H'
  obtain ⟨x7_1, rfl, HA, HK1, HB⟩ := hrel
  cases gk with
  | zero => exact absurd HA.out (by simp [term_All.l0])
  | succ k1 =>
   have H := HA.out
   clear HA
   simp only [term_All.l0] at H
   by_cases c2 : x7_1 < (l0.length : Int)
   case neg =>
    rw [if_neg c2] at H
    have c2b0 : decide (x7_1 < (l0.length : Int)) = false := decide_eq_false c2
    clear c2
    obtain rfl := Option.some.inj H
    go_wp2
    go_ret
    exact ⟨hV_, hC_⟩

   rw [if_pos c2] at H
   have c2b0 : decide (x7_1 < (l0.length : Int)) = true := decide_eq_true c2
   clear c2
   replace H := ifI_ H; obtain ⟨c3, H⟩ := H
   have c3b0 : decide (0 ≤ x7_1) = true := decide_eq_true c3
   clear c3
   replace H := ifI_ H; obtain ⟨c4, H⟩ := H
   have c4b0 : decide (x7_1 < (l0.length : Int)) = true := decide_eq_true c4
   clear c4
   replace H := Option.bind_eq_some_iff.mp H
   obtain ⟨t148, A50, H⟩ := H
   try dsimp only at H
   have A5 := a_ A50
   clear A50
   by_cases c6 : t148 = true
   case neg =>
    replace c6 := Bool.eq_false_iff.mpr c6
    subst c6
    rw [if_neg (show ¬ (false = true) by decide)] at H
    obtain rfl := Option.some.inj H
    have p147 : 0 ≤ (x7_1 : Int) := of_decide_eq_true hA_
    have q147 : x7_1 < (l0.length : Int) := of_decide_eq_true hA_
    obtain ⟨ad147, e147, hx147_0⟩ := Kd.at_string HR0.out x7_1 p147 q147
    cases e147
    replace hx147_0 := cl_ HB.out hx147_0
    replace p147 := eq_true p147
    replace q147 := eq_true q147
    go_wp2_with (first | ((with_reducible refine gate_callee (f := 53) rfl ?_); refine goesL_ (some 12) rfl rfl Tryd.func53 (by kernel_rfl) rfl #[.string (rdOf ByteArray.empty l0 x7_1)] rfl hL_ ?_; (with_reducible refine (term_May.calls k1 (rdOf ByteArray.empty l0 x7_1) false _ A5.out hG_).mono ?_); rintro e w8 ⟨rfl, hb⟩; refine ⟨_, rfl, ?_⟩; replace HB := a_ (below_step hB_ hb); (try clear hb); (try clear hb2); (try clear hk); (try clear hi)))
    go_ret
    exact ⟨hV_, hC_⟩
   subst c6
   rw [if_pos rfl] at H
   have H' := a_ H
   clear H
   have p147 : 0 ≤ (x7_1 : Int) := of_decide_eq_true hA_
   have q147 : x7_1 < (l0.length : Int) := of_decide_eq_true hA_
   obtain ⟨ad147, e147, hx147_0⟩ := Kd.at_string HR0.out x7_1 p147 q147
   cases e147
   replace hx147_0 := cl_ HB.out hx147_0
   replace p147 := eq_true p147
   replace q147 := eq_true q147
   go_wp2_with (first | ((with_reducible refine gate_callee (f := 53) rfl ?_); refine goesL_ (some 12) rfl rfl Tryd.func53 (by kernel_rfl) rfl #[.string (rdOf ByteArray.empty l0 x7_1)] rfl hL_ ?_; (with_reducible refine (term_May.calls k1 (rdOf ByteArray.empty l0 x7_1) true _ A5.out hG_).mono ?_); rintro e w7 ⟨rfl, hb⟩; refine ⟨_, rfl, ?_⟩; replace HB := a_ (below_step hB_ hb); (try clear hb); (try clear hb2); (try clear hk); (try clear hi)))
   go_roundg k1
   case measure => have := HK1.out; omega
   case rel => exact ⟨(wrap64 (x7_1 + 1)), hW_, H', ⟨by have := HK1.out; omega⟩, ⟨hC_⟩⟩
end Go.Proofs.YtgokcaccamfgfaaDoor.G
end
section
namespace Go.Proofs.YtgokcaccamfgfaaDoor.G
open Go.RowKit Go.Proofs.YtgokcaccamfgfaaDoorW.PrintWords Go.Proofs.YtgokcaccamfgfaaDoorW.PrintLast Go.Proofs.YtgokcaccamfgfaaDoorW.PrintMore
set_option linter.unusedVariables false
set_option linter.unusedSimpArgs false

theorem w64 {x : Int} (h0 : -9223372036854775808 ≤ x) (h1 : x ≤ 9223372036854775807) : wrap64 x = x := by unfold wrap64; omega

abbrev B (l : List UInt8) : ByteArray := ⟨l.toArray⟩
theorem B_data (s : ByteArray) : B s.data.toList = s := by cases s; rfl
theorem B_size (l : List UInt8) : (B l).size = l.length := by simp [ByteArray.size]
theorem B_list (l : List UInt8) : (B l).data.toList = l := rfl
theorem B_toList (l : List UInt8) : (B l).toList = l := by rw [Lib.toList_data]
theorem B_extract (l : List UInt8) (i j : Nat) : (B l).extract i j = B ((l.take j).drop i) := by
  rw [← B_data ((B l).extract i j)]
  congr 1
  simp only [ByteArray.data_extract, Array.toList_extract, List.extract_eq_drop_take']
theorem B_tail (l : List UInt8) (i : Nat) : (B l).extract i (B l).size = B (l.drop i) := by
  rw [B_extract, B_size, List.take_length]
theorem B_head (l : List UInt8) (j : Nat) : (B l).extract 0 j = B (l.take j) := by rw [B_extract]; rfl
def nsep (b : UInt8) : Bool := !(b == 32 || b == 40 || b == 41)
theorem seps_contains (b : UInt8) : seps.data.toList.contains b = !nsep b := by
  show [(32 : UInt8), 40, 41].contains b = _
  unfold nsep
  simp [Bool.or_assoc]
  rfl
theorem indexAny_seps : ∀ l : List UInt8, Lib.indexAny l seps.data.toList = if (l.takeWhile nsep).length = l.length then -1 else ((l.takeWhile nsep).length : Int)
  | [] => rfl
  | b :: l => by
    unfold Lib.indexAny
    rw [seps_contains, indexAny_seps l]
    cases hb : nsep b with
    | false => simp [List.takeWhile_cons, hb]
    | true =>
      have hle : (l.takeWhile nsep).length ≤ l.length := (List.takeWhile_prefix nsep).length_le
      simp only [List.takeWhile_cons, hb, Bool.not_true, if_true, List.length_cons, Bool.false_eq_true, if_false]
      by_cases c : (l.takeWhile nsep).length = l.length
      · rw [if_pos c, if_pos (show ((-1 : Int) == -1) = true from rfl), if_pos (by rw [c])]
      · have : ¬ ((((l.takeWhile nsep).length : Int) == -1) = true) := by rw [beq_iff_eq]; omega
        rw [if_neg c, if_neg this, if_neg (fun h => c (Nat.succ.inj h))]; rfl
theorem take_takeWhile : ∀ l : List UInt8, l.take (l.takeWhile nsep).length = l.takeWhile nsep
  | [] => rfl
  | b :: l => by
    cases hb : nsep b with
    | false => simp [List.takeWhile_cons, hb]
    | true => simp [List.takeWhile_cons, hb, take_takeWhile l]
theorem drop_takeWhile : ∀ l : List UInt8, l.drop (l.takeWhile nsep).length = l.dropWhile nsep
  | [] => rfl
  | b :: l => by
    cases hb : nsep b with
    | false => simp [List.takeWhile_cons, hb]
    | true => simp [List.takeWhile_cons, hb, drop_takeWhile l]
theorem word_eq (l : List UInt8) (hl : l.length ≤ 1024) : term_word.f (B l) = some (B (l.takeWhile nsep), B (l.dropWhile nsep)) := by
  have hle : (l.takeWhile nsep).length ≤ l.length := (List.takeWhile_prefix nsep).length_le
  unfold term_word.f strings_IndexAny.f
  rw [if_pos ⟨rfl, by rw [B_size]; omega⟩, B_list, indexAny_seps]
  simp only [Option.bind_some, B_size]
  by_cases c : (l.takeWhile nsep).length = l.length
  · rw [if_pos c, if_pos (by omega), if_pos (by omega), if_pos (by omega)]
    have e1 := take_takeWhile l
    have e2 := drop_takeWhile l
    rw [c] at e1 e2
    rw [B_head, show ((l.length : Int)).toNat = l.length by omega, show l.length = (B l).size from (B_size l).symm, B_tail, B_size, e1, e2]
  · rw [if_neg c, if_neg (by omega), if_pos (by omega), if_pos (by omega)]
    rw [B_head, show (((l.takeWhile nsep).length : Int)).toNat = (l.takeWhile nsep).length by omega, show l.length = (B l).size from (B_size l).symm, B_tail, take_takeWhile, drop_takeWhile]

def decC (d : List UInt8) : Option Nat := if (d.head? = some 48 → d.length = 1) ∧ d.length ≤ 6 then Lib.decNat d else none
def numC (w : List UInt8) : Option Int :=
  match w with
  | 45 :: d => (match decC d with | some x => if x ≠ 0 ∧ x ≤ 32768 then some (-(x : Int)) else none | none => none)
  | d => (match decC d with | some x => if x ≤ 32767 then some (x : Int) else none | none => none)
def tagC (w : List UInt8) : Option Int :=
  match w with
  | 64 :: d => (match decC d with | some x => if x ≤ 99 then some (x : Int) else none | none => none)
  | _ => none
def p10 : Nat → Nat
  | 0 => 1
  | n + 1 => 10 * p10 n
def isDig (b : UInt8) : Bool := decide (48 ≤ b.toNat) && decide (b.toNat ≤ 57)
theorem digVal_dig {b : UInt8} {d : Nat} (h : Lib.digitVal b = some d) : isDig b = true ∧ d = b.toNat - 48 := by
  unfold Lib.digitVal at h
  by_cases c : 48 ≤ b.toNat ∧ b.toNat ≤ 57
  · rw [if_pos c] at h
    exact ⟨by simp [isDig, c.1, c.2], (Option.some.inj h).symm⟩
  · rw [if_neg c] at h; cases h
theorem dig_digVal {b : UInt8} (h : isDig b = true) : Lib.digitVal b = some (b.toNat - 48) := by
  simp only [isDig, Bool.and_eq_true, decide_eq_true_eq] at h
  unfold Lib.digitVal
  rw [if_pos h]
theorem decFrom_cons {x : Nat} {b : UInt8} {p : List UInt8} {v : Nat} (h : Lib.decFrom x (b :: p) = some v) : isDig b = true ∧ Lib.decFrom (10 * x + (b.toNat - 48)) p = some v := by
  unfold Lib.decFrom at h
  cases hd : Lib.digitVal b with
  | none => rw [hd] at h; cases h
  | some d =>
    rw [hd] at h
    obtain ⟨h1, rfl⟩ := digVal_dig hd
    exact ⟨h1, by rw [Nat.mul_comm 10]; exact h⟩
theorem decFrom_mk {x : Nat} {b : UInt8} {p : List UInt8} (h : isDig b = true) : Lib.decFrom x (b :: p) = Lib.decFrom (10 * x + (b.toNat - 48)) p := by
  conv => lhs; unfold Lib.decFrom
  rw [dig_digVal h, Nat.mul_comm 10]
theorem decFrom_dig {p : List UInt8} : ∀ {x v : Nat}, Lib.decFrom x p = some v → ∀ b ∈ p, isDig b = true := by
  induction p with
  | nil => intro x v _ b hb; cases hb
  | cons a p ih =>
    intro x v h b hb
    obtain ⟨h1, h2⟩ := decFrom_cons h
    rcases List.mem_cons.1 hb with rfl | hb
    · exact h1
    · exact ih h2 b hb
theorem decFrom_append {p q : List UInt8} : ∀ {x : Nat}, Lib.decFrom x (p ++ q) = (Lib.decFrom x p).bind fun a => Lib.decFrom a q := by
  induction p with
  | nil => intro x; rfl
  | cons a p ih =>
    intro x
    show (match Lib.digitVal a with | some d => Lib.decFrom (x * 10 + d) (p ++ q) | none => none) = Option.bind (match Lib.digitVal a with | some d => Lib.decFrom (x * 10 + d) p | none => none) fun a => Lib.decFrom a q
    cases Lib.digitVal a with
    | none => rfl
    | some d => exact ih
theorem decFrom_ge {p : List UInt8} : ∀ {x v : Nat}, Lib.decFrom x p = some v → x ≤ v := by
  induction p with
  | nil => intro x v h; have := Option.some.inj h; omega
  | cons a p ih => intro x v h; have := ih (decFrom_cons h).2; omega
theorem decNat_some {l : List UInt8} {v : Nat} (h : Lib.decNat l = some v) : l ≠ [] ∧ Lib.decFrom 0 l = some v := by
  unfold Lib.decNat at h
  cases l with
  | nil => cases h
  | cons a t => exact ⟨by simp, h⟩
theorem decC_some {d : List UInt8} {v : Nat} (h : decC d = some v) : d ≠ [] ∧ Lib.decFrom 0 d = some v ∧ (d.head? = some 48 → d.length = 1) ∧ d.length ≤ 6 := by
  unfold decC at h
  by_cases c : (d.head? = some 48 → d.length = 1) ∧ d.length ≤ 6
  · rw [if_pos c] at h
    obtain ⟨h1, h2⟩ := decNat_some h
    exact ⟨h1, h2, c⟩
  · rw [if_neg c] at h; cases h
theorem digK_val : ∀ (k n : Nat), n < p10 k → Lib.decFrom 0 (digK k n) = some n := by
  intro k
  induction k with
  | zero =>
    intro n h
    rw [p10] at h
    obtain rfl : n = 0 := (by omega)
    rfl
  | succ k ih =>
    intro n h
    rw [p10] at h
    have hd : ∀ m, m < 10 → isDig (UInt8.ofNat (48 + m)) = true ∧ (UInt8.ofNat (48 + m)).toNat = 48 + m := by
      intro m hm
      have : (UInt8.ofNat (48 + m)).toNat = 48 + m := by rw [UInt8.toNat_ofNat']; omega
      exact ⟨by simp only [isDig, this, Bool.and_eq_true, decide_eq_true_eq]; omega, this⟩
    unfold digK
    by_cases c : n < 10
    · rw [if_pos c, decFrom_mk (hd n c).1, (hd n c).2]
      show some _ = some _
      congr 1; omega
    · rw [if_neg c, decFrom_append, ih (n / 10) (by omega)]
      show Lib.decFrom (n / 10) [_] = _
      rw [decFrom_mk (hd (n % 10) (by omega)).1, (hd (n % 10) (by omega)).2]
      show some _ = some _
      congr 1; omega
theorem digK_ne (k n : Nat) (hk : 0 < k) : digK k n ≠ [] := by
  cases k with
  | zero => omega
  | succ k => unfold digK; split <;> simp
theorem digK_head : ∀ (k n : Nat), n < p10 k → 0 < n → (digK k n).head? ≠ some 48 := by
  intro k
  induction k with
  | zero => intro n h h0; rw [p10] at h; omega
  | succ k ih =>
    intro n h h0
    rw [p10] at h
    unfold digK
    by_cases c : n < 10
    · rw [if_pos c]
      intro hh
      have h1 : UInt8.ofNat (48 + n) = 48 := by simpa using hh
      have h2 : (UInt8.ofNat (48 + n)).toNat = 48 := by rw [h1]; rfl
      rw [UInt8.toNat_ofNat'] at h2
      omega
    · rw [if_neg c]
      have hk : 0 < k := by
        rcases Nat.eq_zero_or_pos k with rfl | hk
        · rw [p10] at h; omega
        · exact hk
      have := ih (n / 10) (by omega) (by omega)
      have hne := digK_ne k (n / 10) hk
      cases hc : digK k (n / 10) with
      | nil => exact absurd hc hne
      | cons a t => rw [hc] at this; simpa using this
theorem digK_len : ∀ (j k n : Nat), n < p10 (j + 1) → (digK k n).length ≤ j + 1 := by
  intro j
  induction j with
  | zero =>
    intro k n h
    simp only [p10] at h
    cases k with
    | zero => simp [digK]
    | succ k => rw [digK, if_pos (by omega)]; simp
  | succ j ih =>
    intro k n h
    cases k with
    | zero => simp [digK]
    | succ k =>
      rw [p10] at h
      rw [digK]
      by_cases c : n < 10
      · rw [if_pos c]; simp
      · rw [if_neg c, List.length_append]
        have := ih k (n / 10) (by omega)
        simp only [List.length_cons, List.length_nil]
        omega
theorem p10_mono : ∀ {i j : Nat}, i ≤ j → p10 i ≤ p10 j := by
  intro i j h
  induction h with
  | refl => exact Nat.le_refl _
  | step _ ih => rw [p10]; omega
theorem decC_digK (n : Nat) (h : n < 1000000) : decC (digK 20 n) = some n := by
  have h6 : n < p10 6 := by simp only [p10]; omega
  have h20 : n < p10 20 := Nat.lt_of_lt_of_le h6 (p10_mono (by omega))
  have hl := digK_len 5 20 n h6
  unfold decC
  rw [if_pos]
  · unfold Lib.decNat
    have hne := digK_ne 20 n (by omega)
    have := digK_val 20 n h20
    cases hc : digK 20 n with
    | nil => exact absurd hc hne
    | cons a t => rw [hc] at this; exact this
  · refine ⟨?_, by omega⟩
    intro hh
    rcases Nat.eq_zero_or_pos n with rfl | h0
    · rfl
    · exact absurd hh (digK_head 20 n h20 h0)
theorem digK_canon : ∀ (j : Nat) (d : List UInt8) (k v : Nat), d.length = j + 1 → j < k → (d.head? = some 48 → d.length = 1) → Lib.decFrom 0 d = some v → digK k v = d := by
  intro j
  induction j with
  | zero =>
    intro d k v hd hk _ h
    obtain ⟨a, rfl⟩ := List.length_eq_one_iff.1 hd
    obtain ⟨h1, h2⟩ := decFrom_cons h
    obtain rfl := Option.some.inj h2
    simp only [isDig, Bool.and_eq_true, decide_eq_true_eq] at h1
    cases k with
    | zero => omega
    | succ k =>
      rw [digK, if_pos (by omega)]
      congr 1
      apply UInt8.toNat_inj.1
      rw [UInt8.toNat_ofNat']
      omega
  | succ j ih =>
    intro d k v hd hk hh h
    have hne : d ≠ [] := by intro e; rw [e] at hd; simp at hd
    obtain ⟨p, b, rfl⟩ : ∃ p b, d = p ++ [b] := ⟨d.dropLast, d.getLast hne, (List.dropLast_concat_getLast hne).symm⟩
    have hp : p.length = j + 1 := by simpa using hd
    rw [decFrom_append] at h
    cases hy : Lib.decFrom 0 p with
    | none => rw [hy] at h; cases h
    | some y =>
      rw [hy] at h
      obtain ⟨h1, h2⟩ := decFrom_cons (show Lib.decFrom y [b] = some v from h)
      have h2 : 10 * y + (b.toNat - 48) = v := Option.some.inj h2
      simp only [isDig, Bool.and_eq_true, decide_eq_true_eq] at h1
      cases p with
      | nil => simp at hp
      | cons a t =>
        have ha : a ≠ 48 := by
          rintro rfl
          have := hh (by simp)
          simp at this
        obtain ⟨g1, g2⟩ := decFrom_cons hy
        simp only [isDig, Bool.and_eq_true, decide_eq_true_eq] at g1
        have ha' : a.toNat ≠ 48 := fun e => ha (UInt8.toNat_inj.1 e)
        have gy := decFrom_ge g2
        cases k with
        | zero => omega
        | succ k =>
          rw [digK, if_neg (by omega), show v / 10 = y by omega, ih (a :: t) k y hp (by omega) (fun e => absurd (by simpa using e) ha) hy]
          congr 1
          congr 1
          apply UInt8.toNat_inj.1
          rw [UInt8.toNat_ofNat']
          omega
theorem decC_text {d : List UInt8} {v : Nat} (h : decC d = some v) : digK 20 v = d := by
  obtain ⟨h1, h2, h3, h4⟩ := decC_some h
  have hlen : d.length ≠ 0 := fun e => h1 (List.length_eq_zero_iff.1 e)
  exact digK_canon (d.length - 1) d 20 v (by omega) (by omega) h3 h2
theorem atoi_plain {w : List UInt8} {v : Nat} (h : decC w = some v) : Lib.atoi w = some (v : Int) := by
  obtain ⟨h1, h2, h3, h4⟩ := decC_some h
  cases w with
  | nil => exact absurd rfl h1
  | cons b r =>
    have hd := (decFrom_cons h2).1
    simp only [isDig, Bool.and_eq_true, decide_eq_true_eq] at hd
    have n1 : (b == 45) = false := by rw [beq_eq_false_iff_ne]; rintro rfl; simp at hd
    have n2 : (b == 43) = false := by rw [beq_eq_false_iff_ne]; rintro rfl; simp at hd
    have : Lib.decNat (b :: r) = some v := h2
    show (if (b == 45) = true then (Lib.decNat r).map fun (m : Nat) => -(m : Int) else if (b == 43) = true then (Lib.decNat r).map fun (m : Nat) => (m : Int) else (Lib.decNat (b :: r)).map fun (m : Nat) => (m : Int)) = _
    rw [n1, n2, this]; rfl
theorem atoi_minus {w : List UInt8} {v : Nat} (h : decC w = some v) : Lib.atoi (45 :: w) = some (-(v : Int)) := by
  obtain ⟨h1, h2, h3, h4⟩ := decC_some h
  have : Lib.decNat w = some v := by
    cases w with
    | nil => exact absurd rfl h1
    | cons b r => exact h2
  show (Lib.decNat w).map (fun (m : Nat) => -(m : Int)) = _
  rw [this]; rfl
theorem digK_20 (n : Nat) (h : n < 1000000) : digK 20 n ≠ [] ∧ (digK 20 n).length ≤ 6 ∧ ∀ b ∈ digK 20 n, isDig b = true := by
  have := decC_digK n h
  obtain ⟨h1, h2, h3, h4⟩ := decC_some this
  exact ⟨h1, h4, decFrom_dig h2⟩
theorem numC_plain {w : List UInt8} (h : ∀ d, w ≠ 45 :: d) : numC w = match decC w with | some x => if x ≤ 32767 then some (x : Int) else none | none => none := by
  unfold numC
  split
  · rename_i d; exact absurd rfl (h d)
  · rfl
theorem num_some {w : List UInt8} {v : Int} (h : numC w = some v) : Lib.atoiAll w = .ok v ∧ itoaK v = w ∧ -32768 ≤ v ∧ v ≤ 32767 := by
  by_cases c : ∃ d, w = 45 :: d
  · obtain ⟨d, rfl⟩ := c
    have h : (match decC d with | some x => if x ≠ 0 ∧ x ≤ 32768 then some (-(x : Int)) else none | none => none) = some v := h
    cases hd : decC d with
    | none => rw [hd] at h; cases h
    | some x =>
      rw [hd] at h
      by_cases hx : x ≠ 0 ∧ x ≤ 32768
      · have h : (if x ≠ 0 ∧ x ≤ 32768 then some (-(x : Int)) else none) = some v := h
        rw [if_pos hx] at h
        obtain rfl := Option.some.inj h
        have hl := (decC_some hd).2.2.2
        refine ⟨?_, ?_, by omega, by omega⟩
        · rw [Lib.atoiAll_short _ (by simp only [List.length_cons]; omega), atoi_minus hd]; rfl
        · unfold itoaK
          rw [if_pos (by omega), show (-(x : Int)).natAbs = x by omega, decC_text hd]
      · have h : (if x ≠ 0 ∧ x ≤ 32768 then some (-(x : Int)) else none) = some v := h
        rw [if_neg hx] at h; cases h
  · rw [numC_plain (fun d e => c ⟨d, e⟩)] at h
    cases hd : decC w with
    | none => rw [hd] at h; cases h
    | some x =>
      rw [hd] at h
      have h : (if x ≤ 32767 then some (x : Int) else none) = some v := h
      by_cases hx : x ≤ 32767
      · rw [if_pos hx] at h
        obtain rfl := Option.some.inj h
        have hl := (decC_some hd).2.2.2
        refine ⟨?_, ?_, by omega, by omega⟩
        · rw [Lib.atoiAll_short _ (by omega), atoi_plain hd]; rfl
        · unfold itoaK
          rw [if_neg (by omega), show ((x : Int)).toNat = x by omega, decC_text hd]
      · rw [if_neg hx] at h; cases h
theorem dig_ne45 {d : List UInt8} {n : Nat} (h : n < 1000000) : digK 20 n ≠ 45 :: d := by
  intro e
  have := (digK_20 n h).2.2 45 (by rw [e]; simp)
  revert this; decide
theorem num_of (v : Int) (h0 : -32768 ≤ v) (h1 : v ≤ 32767) : numC (itoaK v) = some v := by
  unfold itoaK
  by_cases c : v < 0
  · rw [if_pos c]
    show (match decC (digK 20 v.natAbs) with | some x => if x ≠ 0 ∧ x ≤ 32768 then some (-(x : Int)) else none | none => none) = some v
    rw [decC_digK _ (by omega)]
    show (if v.natAbs ≠ 0 ∧ v.natAbs ≤ 32768 then some (-(v.natAbs : Int)) else none) = some v
    rw [if_pos (by omega)]
    congr 1; omega
  · rw [if_neg c, numC_plain (fun d => dig_ne45 (by omega)), decC_digK _ (by omega)]
    show (if v.toNat ≤ 32767 then some (v.toNat : Int) else none) = some v
    rw [if_pos (by omega)]
    congr 1; omega
theorem numF_some {w : List UInt8} {v : Int} (h : numC w = some v) : numF (B w) = (v, true) := by
  obtain ⟨h1, h2, h3, h4⟩ := num_some h
  unfold numF
  rw [B_list, h1]
  show (v, (decide (-32768 ≤ v) && decide (v ≤ 32767)) && itoaK v == w) = _
  rw [h2]
  show (v, (decide (-32768 ≤ v) && decide (v ≤ 32767)) && w == w) = _
  rw [decide_eq_true h3, decide_eq_true h4]
  simp
theorem numF_none {w : List UInt8} (h : numC w = none) : (numF (B w)).2 = false := by
  unfold numF
  rw [B_list]
  cases ha : Lib.atoiAll w
  case ok v =>
    show ((decide (-32768 ≤ v) && decide (v ≤ 32767)) && itoaK v == w) = false
    cases hc : ((decide (-32768 ≤ v) && decide (v ≤ 32767)) && itoaK v == w) with
    | false => rfl
    | true =>
      simp only [Bool.and_eq_true, decide_eq_true_eq, beq_iff_eq] at hc
      have := num_of v hc.1.1 hc.1.2
      rw [hc.2, h] at this; cases this
  all_goals rfl
theorem digF_some {d : List UInt8} {x : Nat} (h : decC d = some x) (hx : x ≤ 99) : digF (B d) 99 = ((x : Int), true) := by
  have hl := (decC_some h).2.2.2
  unfold digF
  rw [B_list, Lib.atoiAll_short _ (by omega), atoi_plain h]
  show ((x : Int), (decide (0 ≤ (x : Int)) && decide ((x : Int) ≤ 99)) && itoaK x == d) = _
  have e : itoaK (x : Int) = d := by
    unfold itoaK
    rw [if_neg (by omega), show ((x : Int)).toNat = x by omega, decC_text h]
  rw [e, decide_eq_true (by omega), decide_eq_true (by omega)]
  simp
theorem digF_true {d : List UInt8} (h : (digF (B d) 99).2 = true) : ∃ x, decC d = some x ∧ x ≤ 99 := by
  unfold digF at h
  rw [B_list] at h
  cases ha : Lib.atoiAll d
  case ok v =>
    rw [ha] at h
    have hc : ((decide (0 ≤ v) && decide (v ≤ 99)) && itoaK v == d) = true := h
    simp only [Bool.and_eq_true, decide_eq_true_eq, beq_iff_eq] at hc
    refine ⟨v.toNat, ?_, by omega⟩
    rw [← hc.2]
    unfold itoaK
    rw [if_neg (by omega)]
    exact decC_digK _ (by omega)
  all_goals (rw [ha] at h; cases h)
theorem number_eq (w : List UInt8) (hw : w.length ≤ 1024) : term_Number.f (B w) = some (numF (B w)) := by
  unfold term_Number.f
  rw [if_pos (by rw [B_size]; omega)]
theorem trim_at (w : List UInt8) : Lib.trimPrefix w [64] = (match w with | 64 :: d => d | d => d) ∧ Lib.hasPrefix w [64] = (match w with | 64 :: _ => true | _ => false) := by
  cases w with
  | nil => exact ⟨rfl, rfl⟩
  | cons b d =>
    by_cases c : b = 64
    · subst c; exact ⟨rfl, rfl⟩
    · have hp : Lib.hasPrefix (b :: d) [64] = false := by
        show ((64 : UInt8) == b && List.isPrefixOf [] d) = false
        rw [beq_eq_false_iff_ne.2 (fun e => c e.symm)]; rfl
      refine ⟨?_, ?_⟩
      · unfold Lib.trimPrefix
        rw [hp]
        split
        · rename_i e; exact absurd e (by simp)
        · split
          · rename_i e; exact absurd (List.cons.inj e).1 c
          · rfl
      · rw [hp]
        split
        · rename_i e; exact absurd (List.cons.inj e).1 c
        · rfl
theorem tag_some {w : List UInt8} {x : Int} (h : tagC w = some x) : term_Tag.f (B w) = some (x, true) := by
  unfold tagC at h
  split at h
  · rename_i d
    cases hd : decC d with
    | none => rw [hd] at h; cases h
    | some y =>
      rw [hd] at h
      have h : (if y ≤ 99 then some (y : Int) else none) = some x := h
      by_cases hy : y ≤ 99
      · rw [if_pos hy] at h
        obtain rfl := Option.some.inj h
        have hl := (decC_some hd).2.2.2
        unfold term_Tag.f strings_CutPrefix.f term_Digits.f
        simp only [Option.bind_some, B_list]
        rw [(trim_at _).1, (trim_at _).2]
        show ((if (B d).size ≤ 281474976710656 then some (digF (B d) 99) else none).bind _) = _
        rw [if_pos (by rw [B_size]; omega), digF_some hd hy]
        rfl
      · rw [if_neg hy] at h; cases h
  · cases h
theorem tag_none {w : List UInt8} (hw : w.length ≤ 1024) (h : tagC w = none) : ∃ x, term_Tag.f (B w) = some (x, false) := by
  unfold term_Tag.f strings_CutPrefix.f term_Digits.f
  simp only [Option.bind_some, B_list]
  rw [(trim_at _).1, (trim_at _).2]
  cases w with
  | nil => exact ⟨_, rfl⟩
  | cons b d =>
    by_cases c : b = 64
    · subst c
      show ∃ x, ((if (B d).size ≤ 281474976710656 then some (digF (B d) 99) else none).bind _) = _
      rw [if_pos (by rw [B_size]; simp only [List.length_cons] at hw; omega)]
      refine ⟨(digF (B d) 99).1, ?_⟩
      cases h2 : (digF (B d) 99).2 with
      | false => show some ((digF (B d) 99).1, (digF (B d) 99).2) = _; rw [h2]
      | true =>
        obtain ⟨x, hx, hx2⟩ := digF_true h2
        have h : (match decC d with | some x => if x ≤ 99 then some (x : Int) else none | none => none) = none := h
        rw [hx] at h
        have h : (if x ≤ 99 then some (x : Int) else none) = none := h
        rw [if_pos hx2] at h; cases h
    · have e1 : (match b :: d with | 64 :: d => d | d => d) = b :: d := by
        split
        · rename_i e; exact absurd (List.cons.inj e).1 c
        · rfl
      have e2 : (match b :: d with | 64 :: _ => true | _ => false) = false := by
        split
        · rename_i e; exact absurd (List.cons.inj e).1 c
        · rfl
      rw [e1, e2]
      show ∃ x, ((if (B (b :: d)).size ≤ 281474976710656 then some (digF (B (b :: d)) 99) else none).bind _) = _
      rw [if_pos (by rw [B_size]; omega)]
      exact ⟨_, rfl⟩
end Go.Proofs.YtgokcaccamfgfaaDoor.G
end
section
namespace Go.Proofs.YtgokcaccamfgfaaDoor.G
open Go.RowKit Go.Proofs.YtgokcaccamfgfaaDoorW.PrintWords Go.Proofs.YtgokcaccamfgfaaDoorW.PrintLast Go.Proofs.YtgokcaccamfgfaaDoorW.PrintMore
set_option linter.unusedVariables false
set_option linter.unusedSimpArgs false

abbrev TR := Int × Int × List ByteArray × List UInt8
def kidsL (f : List UInt8 → Option TR) (x : Int) : List ByteArray → Nat → List UInt8 → Option TR
  | _, 0, _ => none
  | ks, m + 1, l => match f l with
    | none => none
    | some r => if r.2.2.2.head? = some 32 then kidsL f x (ks ++ [B (l.take (l.length - r.2.2.2.length))]) m r.2.2.2.tail else if r.2.2.2.head? = some 41 then some (2, x, ks ++ [B (l.take (l.length - r.2.2.2.length))], r.2.2.2.tail) else none
def spT : Nat → List UInt8 → Option TR
  | 0, _ => none
  | n + 1, l => if l.takeWhile nsep = [95] then some (0, 0, [], l.dropWhile nsep) else if l.takeWhile nsep = [33] then some (3, 0, [], l.dropWhile nsep) else
    match numC (l.takeWhile nsep) with
    | some x => some (1, x, [], l.dropWhile nsep)
    | none => match tagC (l.takeWhile nsep) with
      | none => none
      | some x => if (l.dropWhile nsep).head? = some 40 then kidsL (spT n) x [] 3 (l.dropWhile nsep).tail else some (2, x, [], l.dropWhile nsep)
theorem head_tail {l : List UInt8} {b : UInt8} (h : l.head? = some b) : l = b :: l.tail := by
  cases l with
  | nil => cases h
  | cons a t => obtain rfl : a = b := by simpa using h
                rfl
theorem kidsL_suf (f : List UInt8 → Option TR) (hf : ∀ l r, f l = some r → ∃ p, l = p ++ r.2.2.2) (x : Int) : ∀ (m : Nat) (ks : List ByteArray) (l : List UInt8) (r : TR), kidsL f x ks m l = some r → ∃ p, l = p ++ r.2.2.2 := by
  intro m
  induction m with
  | zero => intro ks l r h; cases h
  | succ m ih =>
    intro ks l r h
    rw [kidsL] at h
    cases hl : f l with
    | none => rw [hl] at h; cases h
    | some q =>
      rw [hl] at h
      obtain ⟨p, hp⟩ := hf l q hl
      have h : (if q.2.2.2.head? = some 32 then kidsL f x (ks ++ [B (l.take (l.length - q.2.2.2.length))]) m q.2.2.2.tail else if q.2.2.2.head? = some 41 then some (2, x, ks ++ [B (l.take (l.length - q.2.2.2.length))], q.2.2.2.tail) else none) = some r := h
      by_cases c : q.2.2.2.head? = some 32
      · rw [if_pos c] at h
        obtain ⟨p2, hp2⟩ := ih _ _ _ h
        refine ⟨p ++ 32 :: p2, ?_⟩
        rw [List.append_assoc, List.cons_append, ← hp2, ← head_tail c]
        exact hp
      · rw [if_neg c] at h
        by_cases c2 : q.2.2.2.head? = some 41
        · rw [if_pos c2] at h
          obtain rfl := Option.some.inj h
          refine ⟨p ++ [41], ?_⟩
          rw [List.append_assoc, List.singleton_append, ← head_tail c2]
          exact hp
        · rw [if_neg c2] at h; cases h
theorem tw_dw (l : List UInt8) : l = l.takeWhile nsep ++ l.dropWhile nsep := List.takeWhile_append_dropWhile.symm
theorem spT_suf : ∀ (n : Nat) (l : List UInt8) (r : TR), spT n l = some r → ∃ p, l = p ++ r.2.2.2 := by
  intro n
  induction n with
  | zero => intro l r h; cases h
  | succ n ih =>
    intro l r h
    rw [spT] at h
    have hw := tw_dw l
    by_cases c1 : l.takeWhile nsep = [95]
    · rw [if_pos c1] at h; obtain rfl := Option.some.inj h; exact ⟨_, hw⟩
    · rw [if_neg c1] at h
      by_cases c2 : l.takeWhile nsep = [33]
      · rw [if_pos c2] at h; obtain rfl := Option.some.inj h; exact ⟨_, hw⟩
      · rw [if_neg c2] at h
        cases hn : numC (l.takeWhile nsep) with
        | some x => rw [hn] at h; obtain rfl := Option.some.inj h; exact ⟨_, hw⟩
        | none =>
          rw [hn] at h
          cases ht : tagC (l.takeWhile nsep) with
          | none => rw [ht] at h; cases h
          | some x =>
            rw [ht] at h
            have h : (if (l.dropWhile nsep).head? = some 40 then kidsL (spT n) x [] 3 (l.dropWhile nsep).tail else some (2, x, [], l.dropWhile nsep)) = some r := h
            by_cases c3 : (l.dropWhile nsep).head? = some 40
            · rw [if_pos c3] at h
              obtain ⟨p, hp⟩ := kidsL_suf (spT n) ih x _ _ _ _ h
              refine ⟨l.takeWhile nsep ++ 40 :: p, ?_⟩
              rw [List.append_assoc, List.cons_append, ← hp, ← head_tail c3]
              exact hw
            · rw [if_neg c3] at h; obtain rfl := Option.some.inj h; exact ⟨_, hw⟩

theorem hasPre (b : UInt8) (l : List UInt8) : strings_HasPrefix.f (B l) ⟨#[b]⟩ = some (decide (l.head? = some b)) := by
  unfold strings_HasPrefix.f
  rw [B_list]
  congr 1
  show List.isPrefixOf [b] l = _
  cases l with
  | nil => rfl
  | cons a t =>
    show (b == a && List.isPrefixOf [] t) = _
    by_cases c : a = b
    · subst c; simp
    · rw [beq_eq_false_iff_ne.2 (fun e => c e.symm)]
      simp [c]
theorem cutPre (b : UInt8) (l : List UInt8) : strings_CutPrefix.f (B l) ⟨#[b]⟩ = some (if l.head? = some b then (B l.tail, true) else (B l, false)) := by
  have h := hasPre b l
  unfold strings_HasPrefix.f at h
  unfold strings_CutPrefix.f
  have h := Option.some.inj h
  by_cases c : l.head? = some b
  · rw [if_pos c, h, decide_eq_true c]
    rw [decide_eq_true c] at h
    unfold Lib.trimPrefix
    rw [h, if_pos rfl, B_list, head_tail c]
    rfl
  · rw [if_neg c, h, decide_eq_false c]
    rw [decide_eq_false c] at h
    unfold Lib.trimPrefix
    rw [h]
    rfl
def CutEv (g : Nat → Option (Int × Int × List ByteArray × ByteArray × Bool)) (o : Option TR) : Prop :=
  match o with
  | some r => Ev g (r.1, r.2.1, r.2.2.1, B r.2.2.2, true)
  | none => ∃ a b c d, Ev g (a, b, c, d, false)
theorem CutEv.step {g f : Nat → Option (Int × Int × List ByteArray × ByteArray × Bool)} {o : Option TR} (h : ∀ k, g (k + 1) = f k) (k : CutEv f o) : CutEv g o := by
  cases o with
  | some r => exact Ev.step h k
  | none => obtain ⟨a, b, c, d, k⟩ := k; exact ⟨a, b, c, d, Ev.step h k⟩
theorem CutEv.bind {β : Type} {g : Nat → Option β} {f : Nat → β → Option (Int × Int × List ByteArray × ByteArray × Bool)} {o : Option TR} {a : β} (h : Ev g a) (k : CutEv (fun n => f n a) o) : CutEv (fun n => (g n).bind (f n)) o := by
  cases o with
  | some r => exact Ev.bind h k
  | none => obtain ⟨a', b, c, d, k⟩ := k; exact ⟨a', b, c, d, Ev.bind h k⟩
theorem CutEv.congr {g f : Nat → Option (Int × Int × List ByteArray × ByteArray × Bool)} {o : Option TR} (h : ∀ k, g k = f k) (k : CutEv f o) : CutEv g o := by
  cases o with
  | some r => exact Ev.congr h k
  | none => obtain ⟨a, b, c, d, k⟩ := k; exact ⟨a, b, c, d, Ev.congr h k⟩
def afterKid (k : Nat) (l : ByteArray) (x : Int) (ks : List ByteArray) (t : Int × Int × List ByteArray × ByteArray × Bool) : Option (Int × Int × List ByteArray × ByteArray × Bool) :=
  if t.2.2.2.2 = true then (if 0 ≤ (wrap64 ((l.size : Int) - (t.2.2.2.1.size : Int))) then (if (wrap64 ((l.size : Int) - (t.2.2.2.1.size : Int))) ≤ (l.size : Int) then (if ks.length < 8796093022208 then ((some (ks ++ [l.extract 0 ((wrap64 ((l.size : Int) - (t.2.2.2.1.size : Int))) : Int).toNat] : List ByteArray)).bind fun y => ((strings_HasPrefix.f t.2.2.2.1 (⟨#[32]⟩ : ByteArray)).bind fun t125 => (if t125 = true then (term_cut.l0 k t.2.2.2.1 x y) else ((strings_CutPrefix.f t.2.2.2.1 (⟨#[41]⟩ : ByteArray)).bind fun bt126 => (some (2, x, y, bt126.1, bt126.2)))))) else (none)) else (none)) else (none)) else (some (0, 0, ([] : List ByteArray), (⟨#[]⟩ : ByteArray), false))
theorem cut_kids (n : Nat) (x : Int) (ih : ∀ l : List UInt8, l.length < n → l.length ≤ 1024 → CutEv (fun j => term_cut.f j (B l)) (spT n l)) :
    ∀ (m : Nat) (ks : List ByteArray) (c : UInt8) (l : List UInt8), ks.length + m = 3 → l.length < n → l.length ≤ 1023 → c ≠ 41 → CutEv (fun j => term_cut.l0 j (B (c :: l)) x ks) (kidsL (spT n) x ks m l) := by
  intro m
  induction m with
  | zero =>
    intro ks c l h3 hn hl hc
    refine CutEv.step (f := fun _ => some (2, x, ks, B (c :: l), false)) (fun k => ?_) ⟨_, _, _, _, Ev.now _⟩
    simp only [term_cut.l0]
    rw [if_neg (by omega), cutPre, if_neg (by simpa using hc)]
    rfl
  | succ m ihm =>
    intro ks c l h3 hn hl hc
    have hcut := ih l hn (by omega)
    have hx : (B (c :: l)).extract 1 (B (c :: l)).size = B l := by rw [B_tail]; rfl
    rw [kidsL]
    cases hs : spT n l with
    | none =>
      rw [hs] at hcut
      obtain ⟨a1, a2, a3, a4, hcut⟩ := hcut
      refine CutEv.step (f := fun k => (term_cut.f k (B l)).bind (afterKid k (B l) x ks)) (fun k => ?_) (CutEv.bind hcut ?_)
      · simp only [term_cut.l0]
        rw [if_pos (by omega), if_pos (by rw [B_size]; simp only [List.length_cons]; omega), hx]
        rfl
      · exact ⟨_, _, _, _, Ev.now _⟩
    | some r =>
      rw [hs] at hcut
      obtain ⟨p, hp⟩ := spT_suf n l r hs
      have hlen : l.length = p.length + r.2.2.2.length := by rw [hp, List.length_append]
      have hcut : Ev (fun j => term_cut.f j (B l)) (r.1, r.2.1, r.2.2.1, B r.2.2.2, true) := hcut
      show CutEv _ (if r.2.2.2.head? = some 32 then kidsL (spT n) x (ks ++ [B (l.take (l.length - r.2.2.2.length))]) m r.2.2.2.tail else if r.2.2.2.head? = some 41 then some (2, x, ks ++ [B (l.take (l.length - r.2.2.2.length))], r.2.2.2.tail) else none)
      refine CutEv.step (f := fun k => (term_cut.f k (B l)).bind (afterKid k (B l) x ks)) (fun k => ?_) (CutEv.bind hcut ?_)
      · simp only [term_cut.l0]
        rw [if_pos (by omega), if_pos (by rw [B_size]; simp only [List.length_cons]; omega), hx]
        rfl
      · have hw : wrap64 (((B l).size : Int) - ((B r.2.2.2).size : Int)) = ((l.length - r.2.2.2.length : Nat) : Int) := by
          rw [B_size, B_size, w64 (by omega) (by omega)]; omega
        refine CutEv.congr (f := fun k => if r.2.2.2.head? = some 32 then term_cut.l0 k (B r.2.2.2) x (ks ++ [B (l.take (l.length - r.2.2.2.length))]) else if r.2.2.2.head? = some 41 then some (2, x, ks ++ [B (l.take (l.length - r.2.2.2.length))], B r.2.2.2.tail, true) else some (2, x, ks ++ [B (l.take (l.length - r.2.2.2.length))], B r.2.2.2, false)) (fun k => ?_) ?_
        · unfold afterKid
          simp only [hw]
          rw [if_pos True.intro, if_pos (by omega), if_pos (by rw [B_size]; omega), if_pos (by omega), Option.bind_some, hasPre, Option.bind_some, B_head, show ((l.length - r.2.2.2.length : Nat) : Int).toNat = l.length - r.2.2.2.length by omega]
          by_cases c1 : r.2.2.2.head? = some 32
          · rw [if_pos c1, if_pos (decide_eq_true c1)]
          · rw [if_neg c1, if_neg (by simpa using c1), cutPre]
            by_cases c2 : r.2.2.2.head? = some 41
            · rw [if_pos c2, if_pos c2]; rfl
            · rw [if_neg c2, if_neg c2]; rfl
        · by_cases c1 : r.2.2.2.head? = some 32
          · have hb := head_tail c1
            have hlb : r.2.2.2.length = r.2.2.2.tail.length + 1 := by
              conv => lhs; rw [hb]
              rfl
            have := ihm (ks ++ [B (l.take (l.length - r.2.2.2.length))]) 32 r.2.2.2.tail (by simp only [List.length_append, List.length_cons, List.length_nil]; omega) (by omega) (by omega) (by decide)
            rw [← hb] at this
            simp only [if_pos c1]
            exact this
          · by_cases c2 : r.2.2.2.head? = some 41
            · simp only [if_neg c1, if_pos c2]
              exact Ev.now _
            · simp only [if_neg c1, if_neg c2]
              exact ⟨_, _, _, _, Ev.now _⟩
theorem cut_ev : ∀ (n : Nat) (l : List UInt8), l.length < n → l.length ≤ 1024 → CutEv (fun j => term_cut.f j (B l)) (spT n l) := by
  intro n
  induction n with
  | zero => intro l h; omega
  | succ n ih =>
    intro l hn hl
    have hw := tw_dw l
    have hlen : l.length = (l.takeWhile nsep).length + (l.dropWhile nsep).length := by conv => lhs; rw [hw, List.length_append]
    have hwl : (l.takeWhile nsep).length ≤ 1024 := by omega
    rw [spT]
    refine CutEv.step (f := fun k => if l.takeWhile nsep = [95] then some (0, 0, ([] : List ByteArray), B (l.dropWhile nsep), true) else if l.takeWhile nsep = [33] then some (3, 0, ([] : List ByteArray), B (l.dropWhile nsep), true) else
      if (numF (B (l.takeWhile nsep))).2 = true then some (1, (numF (B (l.takeWhile nsep))).1, ([] : List ByteArray), B (l.dropWhile nsep), true) else (term_Tag.f (B (l.takeWhile nsep))).bind fun t => if t.2 = true then term_cut.j0 k (B (l.dropWhile nsep)) t.1 t.2 (!decide ((l.dropWhile nsep).head? = some 40)) else term_cut.j0 k (B (l.dropWhile nsep)) t.1 t.2 true) (fun k => ?_) ?_
    · simp only [term_cut.f]
      rw [word_eq l hl, Option.bind_some, B_toList, number_eq _ hwl, Option.bind_some]
      simp only [hasPre, Option.bind_some]
    · by_cases c1 : l.takeWhile nsep = [95]
      · simp only [if_pos c1]; exact Ev.now _
      · simp only [if_neg c1]
        by_cases c2 : l.takeWhile nsep = [33]
        · simp only [if_pos c2]; exact Ev.now _
        · simp only [if_neg c2]
          cases hnum : numC (l.takeWhile nsep) with
          | some x =>
            rw [numF_some hnum]
            exact Ev.now _
          | none =>
            have hnf : ¬ ((numF (B (l.takeWhile nsep))).2 = true) := by rw [numF_none hnum]; simp
            simp only [if_neg hnf]
            cases htag : tagC (l.takeWhile nsep) with
            | none =>
              obtain ⟨x, hx⟩ := tag_none hwl htag
              refine CutEv.step (f := fun _ => some (2, x, ([] : List ByteArray), B (l.dropWhile nsep), false)) (fun k => ?_) ⟨_, _, _, _, Ev.now _⟩
              rw [hx]
              rfl
            | some x =>
              have hx := tag_some htag
              by_cases c3 : (l.dropWhile nsep).head? = some 40
              · show CutEv _ (if (l.dropWhile nsep).head? = some 40 then kidsL (spT n) x [] 3 (l.dropWhile nsep).tail else some (2, x, [], l.dropWhile nsep))
                rw [if_pos c3]
                have hb := head_tail c3
                have hlb : (l.dropWhile nsep).length = (l.dropWhile nsep).tail.length + 1 := by
                  conv => lhs; rw [hb]
                  rfl
                have hk := cut_kids n x ih 3 [] 40 (l.dropWhile nsep).tail rfl (by omega) (by omega) (by decide)
                rw [← hb] at hk
                refine CutEv.step (fun k => ?_) hk
                rw [hx]
                show (if true = true then term_cut.j0 (k + 1) (B (l.dropWhile nsep)) x true (!decide ((l.dropWhile nsep).head? = some 40)) else term_cut.j0 (k + 1) (B (l.dropWhile nsep)) x true true) = _
                rw [if_pos rfl, decide_eq_true c3]
                rfl
              · show CutEv _ (if (l.dropWhile nsep).head? = some 40 then kidsL (spT n) x [] 3 (l.dropWhile nsep).tail else some (2, x, [], l.dropWhile nsep))
                rw [if_neg c3]
                refine CutEv.step (f := fun _ => some (2, x, ([] : List ByteArray), B (l.dropWhile nsep), true)) (fun k => ?_) (Ev.now _)
                rw [hx]
                show (if true = true then term_cut.j0 (k + 1) (B (l.dropWhile nsep)) x true (!decide ((l.dropWhile nsep).head? = some 40)) else term_cut.j0 (k + 1) (B (l.dropWhile nsep)) x true true) = _
                rw [if_pos rfl, decide_eq_false c3]
                rfl
end Go.Proofs.YtgokcaccamfgfaaDoor.G
end
section
namespace Go.Proofs.YtgokcaccamfgfaaDoor.G
open Go.RowKit Go.Proofs.YtgokcaccamfgfaaDoorW.PrintWords Go.Proofs.YtgokcaccamfgfaaDoorW.PrintLast Go.Proofs.YtgokcaccamfgfaaDoorW.PrintMore
set_option linter.unusedVariables false
set_option linter.unusedSimpArgs false

end Go.Proofs.YtgokcaccamfgfaaDoor.G
end
section
namespace Go.Proofs.YtgokcaccamfgfaaDoor.G
open Go.RowKit Go.Proofs.YtgokcaccamfgfaaDoorW.PrintWords Go.Proofs.YtgokcaccamfgfaaDoorW.PrintLast Go.Proofs.YtgokcaccamfgfaaDoorW.PrintMore
set_option linter.unusedVariables false
set_option linter.unusedSimpArgs false

def noCut : Int × Int × List ByteArray × Int := (0, 0, [], 200)
def cutL (l : List UInt8) : Int × Int × List ByteArray × Int :=
  if l.length > 1024 then noCut else match spT (l.length + 1) l with
    | some r => if r.2.2.2 = [] then (r.1, r.2.1, r.2.2.1, 0) else noCut
    | none => noCut
def cutS (s : ByteArray) : Int × Int × List ByteArray × Int := cutL s.data.toList
def mayS (s : ByteArray) : Bool := decide ((cutS s).2.2.2 = 0)
theorem may_ev (s : ByteArray) : Ev (fun k => term_May.f k s) (mayS s) := by
  unfold mayS cutS
  rw [← B_data s]
  generalize s.data.toList = l
  unfold cutL
  by_cases c : l.length > 1024
  · rw [if_pos c]
    have c1 : ((B l).size : Int) > 1024 := by rw [B_size]; omega
    simp only [term_May.f, if_pos c1]
    exact Ev.now _
  · rw [if_neg c]
    have c1 : ¬ (((B l).size : Int) > 1024) := by rw [B_size]; omega
    simp only [term_May.f, if_neg c1]
    have h := cut_ev (l.length + 1) l (by omega) (by omega)
    cases hs : spT (l.length + 1) l with
    | none =>
      rw [hs] at h
      obtain ⟨x, y, z, d, hev⟩ := h
      refine Ev.bind hev ?_
      simp only [if_neg (show ¬ (false = true) by decide)]
      exact Ev.now _
    | some r =>
      rw [hs] at h
      refine Ev.bind (show Ev _ (r.1, r.2.1, r.2.2.1, B r.2.2.2, true) from h) ?_
      simp only [if_pos, B_toList]
      by_cases c2 : r.2.2.2 = []
      · simp only [if_pos c2]
        rw [c2]
        exact Ev.now _
      · simp only [if_neg c2]
        have : (r.2.2.2 == ([] : List UInt8)) = false := by rw [beq_eq_false_iff_ne]; exact c2
        rw [this]
        exact Ev.now _
end Go.Proofs.YtgokcaccamfgfaaDoor.G
end
section
-- Laid by the session's own driver gp.py over the kit's printer. Not trusted: Lean checks it.
namespace Go.Proofs.YtgokcaccamfgfaaDoor.G
open Go.RowKit Go.Proofs.YtgokcaccamfgfaaDoorW.PrintWords Go.Proofs.YtgokcaccamfgfaaDoorW.PrintLast Go.Proofs.YtgokcaccamfgfaaDoorW.PrintMore
set_option maxHeartbeats 8000000
set_option maxRecDepth 100000
attribute [local go_sem] max2_int min2_int max_two min_two max_three min_three max_four min_four   -- for this text's walks alone
set_option linter.unusedVariables false
set_option linter.unusedSimpArgs false

def trail_Equation.f (k : Nat) (x0 : Int) (x1 : Int) (l2 : List ByteArray) (x3 : ByteArray) : Option Bool := if 0 ≤ x0 then (if x0 < 8 then (if (l2.length : Int) ≤ 3 then ((term_All.f k l2).bind fun t => if t = true then term_May.f k x3 else some false) else some false) else some false) else some false
theorem trail_Equation.mono : ∀ a0 a1 a2 a3 k, LeO (trail_Equation.f k a0 a1 a2 a3) (trail_Equation.f (k + 1) a0 a1 a2 a3) := by
 intro a0 a1 a2 a3 k
 unfold trail_Equation.f
 repeat' first
  | (with_reducible exact term_All.mono _ _)
  | (with_reducible exact term_May.mono _ _)
  | (with_reducible exact LeO.refl _)
  | (with_reducible refine LeO.ite ?_ ?_)
  | (with_reducible refine LeO.bind ?_ (fun _ => ?_))
  | refine LeO.ite ?_ ?_
  | refine LeO.bind ?_ (fun _ => ?_)
theorem trail_Equation.calls (k : Nat) (ad : Addr) (x0 : Int) (x1 : Int) (A2 : Option Addr) (c2_ : Nat) (l2 : List ByteArray) (x3 : ByteArray) (r : Bool) (w : World)
 (h0 : w.cell? ad = some (.int .i64 x0)) (h2 : w.cell? ⟨ad.block, ad.off + 2, none⟩ = some (.slice A2 l2.length c2_)) (h3 : w.cell? ⟨ad.block, ad.off + 3, none⟩ = some (.string x3))
 (hr2 : Kd.C Kd.string w A2 l2.length l2) (hc2 : l2.length ≤ c2_) (h : trail_Equation.f k x0 x1 l2 x3 = some r) (hG : GOK w) :
 Calls Tryd.prog 41 #[.pointer (some ad)] w fun e w' => e = .returned (.bool r) ∧ Below w.heap.size w w' := by
 have HR := a_ hr2
 have HC := a_ hc2
 clear hr2 hc2
 have HB := a_ (Below.refl w.heap.size w)
 unfold trail_Equation.f at h
 by_cases c1 : 0 ≤ x0
 case neg =>
  rw [if_neg c1] at h
  have c1b := decide_eq_false c1
  clear c1
  obtain rfl := Option.some.inj h
  go_enter Tryd.func41, Tryd.ntmps41
  go_wp2
  go_ret
  exact ⟨rfl, by repeat (first | exact HB.out | apply below_alloc | apply pw_below_drewN | apply below_drew1)⟩

 rw [if_pos c1] at h
 have c1b := decide_eq_true c1
 have c1c := eq_true c1
 clear c1
 by_cases c2 : x0 < 8
 case neg =>
  rw [if_neg c2] at h
  have c2b := decide_eq_false c2
  clear c2
  obtain rfl := Option.some.inj h
  go_enter Tryd.func41, Tryd.ntmps41
  go_wp2
  go_ret
  exact ⟨rfl, by repeat (first | exact HB.out | apply below_alloc | apply pw_below_drewN | apply below_drew1)⟩
 rw [if_pos c2] at h
 have c2b := decide_eq_true c2
 have c2c := eq_true c2
 clear c2
 by_cases c3 : (l2.length : Int) ≤ 3
 case neg =>
  rw [if_neg c3] at h
  have c3b := decide_eq_false c3
  clear c3
  obtain rfl := Option.some.inj h
  go_enter Tryd.func41, Tryd.ntmps41
  go_wp2
  go_ret
  exact ⟨rfl, by repeat (first | exact HB.out | apply below_alloc | apply pw_below_drewN | apply below_drew1)⟩
 rw [if_pos c3] at h
 have c3b := decide_eq_true c3
 have c3c := eq_true c3
 clear c3
 obtain ⟨t, A1, h⟩ := Option.bind_eq_some_iff.mp h
 have A1 := a_ A1
 cases t with
 | true =>
  have A3 := a_ (show term_May.f k x3 = some r from h)
  clear h
  go_enter Tryd.func41, Tryd.ntmps41
  go_wp2_with (first | (go_at_call 52; (with_reducible refine (term_All.calls k A2 c2_ l2 true _ HR.out HC.out A1.out (by first | exact hG | exact GOK.below hG (by repeat (first | exact HB.out | apply below_alloc | apply pw_below_drewN | apply below_drew1)))).mono ?_); rintro e w6 ⟨rfl, hb⟩; have h3_ := (hb.cell (World.block_lt_of_cell? w _ h3)).trans h3; have n1_ := a_ (below_step (by repeat (first | exact HB.out | apply below_alloc | apply pw_below_drewN | apply below_drew1)) hb); clear HB hb; have HB := n1_; clear n1_) | (go_at_call 53; (with_reducible refine (term_May.calls k x3 r _ A3.out (by first | exact hG | exact GOK.below hG (by repeat (first | exact HB.out | apply below_alloc | apply pw_below_drewN | apply below_drew1)))).mono ?_); rintro e w7 ⟨rfl, hb⟩; have n1_ := a_ (below_step (by repeat (first | exact HB.out | apply below_alloc | apply pw_below_drewN | apply below_drew1)) hb); clear HB hb; have HB := n1_; clear n1_))
  go_ret
  exact ⟨rfl, by repeat (first | exact HB.out | apply below_alloc | apply pw_below_drewN | apply below_drew1)⟩
 | false =>
  obtain rfl := Option.some.inj (show some false = some r from h)
  clear h
  go_enter Tryd.func41, Tryd.ntmps41
  go_wp2_with (first | (go_at_call 52; (with_reducible refine (term_All.calls k A2 c2_ l2 false _ HR.out HC.out A1.out (by first | exact hG | exact GOK.below hG (by repeat (first | exact HB.out | apply below_alloc | apply pw_below_drewN | apply below_drew1)))).mono ?_); rintro e w6 ⟨rfl, hb⟩; have n1_ := a_ (below_step (by repeat (first | exact HB.out | apply below_alloc | apply pw_below_drewN | apply below_drew1)) hb); clear HB hb; have HB := n1_; clear n1_))
  go_ret
  exact ⟨rfl, by repeat (first | exact HB.out | apply below_alloc | apply pw_below_drewN | apply below_drew1)⟩
end Go.Proofs.YtgokcaccamfgfaaDoor.G
end
section
-- Laid by the session's own driver gp.py over the kit's printer. Not trusted: Lean checks it.
namespace Go.Proofs.YtgokcaccamfgfaaDoor.G
open Go.RowKit Go.Proofs.YtgokcaccamfgfaaDoorW.PrintWords Go.Proofs.YtgokcaccamfgfaaDoorW.PrintLast Go.Proofs.YtgokcaccamfgfaaDoorW.PrintMore
set_option maxHeartbeats 8000000
set_option maxRecDepth 100000
attribute [local go_sem] max2_int min2_int max_two min_two max_three min_three max_four min_four   -- for this text's walks alone
set_option linter.unusedVariables false
set_option linter.unusedSimpArgs false

def trail_Next.f (k : Nat) (x0 : Int) (x1 : Int) (l2 : List ByteArray) (x3 : ByteArray) (a1 : Int) : Option Bool := if a1 < 512 then (if (0 ≤ x1 ∧ x1 < a1) ∨ (a1 = 0 ∧ x1 = -1) then trail_Equation.f k x0 x1 l2 x3 else some false) else some false
theorem trail_Next.mono : ∀ a0 a1 a2 a3 a4 k, LeO (trail_Next.f k a0 a1 a2 a3 a4) (trail_Next.f (k + 1) a0 a1 a2 a3 a4) := by
 intro a0 a1 a2 a3 a4 k
 unfold trail_Next.f
 repeat' first
  | (with_reducible exact trail_Equation.mono _ _ _ _ _)
  | (with_reducible exact LeO.refl _)
  | (with_reducible refine LeO.ite ?_ ?_)
  | refine LeO.ite ?_ ?_
theorem trail_Next.calls (k : Nat) (ad : Addr) (x0 : Int) (x1 : Int) (A2 : Option Addr) (c2_ : Nat) (l2 : List ByteArray) (x3 : ByteArray) (a1 : Int) (r : Bool) (w : World)
 (h0 : w.cell? ad = some (.int .i64 x0)) (h1 : w.cell? ⟨ad.block, ad.off + 1, none⟩ = some (.int .i64 x1)) (h2 : w.cell? ⟨ad.block, ad.off + 2, none⟩ = some (.slice A2 l2.length c2_)) (h3 : w.cell? ⟨ad.block, ad.off + 3, none⟩ = some (.string x3))
 (hr2 : Kd.C Kd.string w A2 l2.length l2) (hc2 : l2.length ≤ c2_) (h : trail_Next.f k x0 x1 l2 x3 a1 = some r) (hG : GOK w) :
 Calls Tryd.prog 27 #[.pointer (some ad), .int .i64 a1] w fun e w' => e = .returned (.bool r) ∧ Below w.heap.size w w' := by
 have HR := a_ hr2
 have HC := a_ hc2
 have H2 := a_ h2
 have H3 := a_ h3
 clear hr2 hc2 h2 h3
 have HB := a_ (Below.refl w.heap.size w)
 unfold trail_Next.f at h
 by_cases c1 : a1 < 512
 case neg =>
  rw [if_neg c1] at h
  obtain rfl := Option.some.inj h
  clear h
  have c1b := decide_eq_false c1
  clear c1
  by_cases d1 : 0 ≤ x1
  case neg =>
   have e1 := decide_eq_false d1
   have e3 : (a1 == 0) = false := beq_eq_false_iff_ne.mpr (fun e => by subst e; simp at c1b)
   clear d1
   go_enter Tryd.func27, Tryd.ntmps27
   go_wp2
   go_ret
   exact ⟨rfl, by repeat (first | exact HB.out | apply below_alloc | apply pw_below_drewN | apply below_drew1)⟩

  by_cases d2 : x1 < a1
  case pos =>
   have e1 := decide_eq_true d1
   have e2 := decide_eq_true d2
   clear d1 d2
   go_enter Tryd.func27, Tryd.ntmps27
   go_wp2
   go_ret
   exact ⟨rfl, by repeat (first | exact HB.out | apply below_alloc | apply pw_below_drewN | apply below_drew1)⟩
  have e1 := decide_eq_true d1
  have e2 := decide_eq_false d2
  have e3 : (a1 == 0) = false := beq_eq_false_iff_ne.mpr (fun e => by subst e; simp at c1b)
  clear d1 d2
  go_enter Tryd.func27, Tryd.ntmps27
  go_wp2
  go_ret
  exact ⟨rfl, by repeat (first | exact HB.out | apply below_alloc | apply pw_below_drewN | apply below_drew1)⟩
 rw [if_pos c1] at h
 have c1b := decide_eq_true c1
 clear c1
 by_cases c2 : (0 ≤ x1 ∧ x1 < a1) ∨ (a1 = 0 ∧ x1 = -1)
 case pos =>
  rw [if_pos c2] at h
  have A1 := a_ h
  clear h
  rcases c2 with ⟨c2, c3⟩ | ⟨c2, c3⟩
  · have c2b := decide_eq_true c2
    have c3b := decide_eq_true c3
    clear c2 c3
    go_enter Tryd.func27, Tryd.ntmps27
    go_wp2_with (go_at_call 41; (with_reducible refine (trail_Equation.calls k ad x0 x1 A2 c2_ l2 x3 r _ h0 H2.out H3.out HR.out HC.out A1.out (by first | exact hG | exact GOK.below hG (by repeat (first | exact HB.out | apply below_alloc | apply pw_below_drewN | apply below_drew1)))).mono ?_); rintro e w6 ⟨rfl, hb⟩; have n1_ := a_ (below_step (by repeat (first | exact HB.out | apply below_alloc | apply pw_below_drewN | apply below_drew1)) hb); clear HB hb; have HB := n1_; clear n1_)
    go_ret
    exact ⟨rfl, by repeat (first | exact HB.out | apply below_alloc | apply pw_below_drewN | apply below_drew1)⟩
  · have c2b : (a1 == 0) = true := beq_iff_eq.mpr c2
    have c3b : (x1 == -1) = true := beq_iff_eq.mpr c3
    have c4b : decide (0 ≤ x1) = false := decide_eq_false (by omega)
    clear c2 c3
    go_enter Tryd.func27, Tryd.ntmps27
    go_wp2_with (go_at_call 41; (with_reducible refine (trail_Equation.calls k ad x0 x1 A2 c2_ l2 x3 r _ h0 H2.out H3.out HR.out HC.out A1.out (by first | exact hG | exact GOK.below hG (by repeat (first | exact HB.out | apply below_alloc | apply pw_below_drewN | apply below_drew1)))).mono ?_); rintro e w6 ⟨rfl, hb⟩; have n1_ := a_ (below_step (by repeat (first | exact HB.out | apply below_alloc | apply pw_below_drewN | apply below_drew1)) hb); clear HB hb; have HB := n1_; clear n1_)
    go_ret
    exact ⟨rfl, by repeat (first | exact HB.out | apply below_alloc | apply pw_below_drewN | apply below_drew1)⟩
 rw [if_neg c2] at h
 obtain rfl := Option.some.inj h
 clear h
 by_cases d1 : 0 ≤ x1
 case neg =>
  by_cases d3 : a1 = 0
  case neg =>
   have e1 := decide_eq_false d1
   have e3 : (a1 == 0) = false := beq_eq_false_iff_ne.mpr d3
   clear d1 d3 c2
   go_enter Tryd.func27, Tryd.ntmps27
   go_wp2
   go_ret
   exact ⟨rfl, by repeat (first | exact HB.out | apply below_alloc | apply pw_below_drewN | apply below_drew1)⟩
  have d4 : ¬ x1 = -1 := fun e => c2 (.inr ⟨d3, e⟩)
  have e1 := decide_eq_false d1
  have e3 : (a1 == 0) = true := beq_iff_eq.mpr d3
  have e4 : (x1 == -1) = false := beq_eq_false_iff_ne.mpr d4
  clear d1 d3 d4 c2
  go_enter Tryd.func27, Tryd.ntmps27
  go_wp2
  go_ret
  exact ⟨rfl, by repeat (first | exact HB.out | apply below_alloc | apply pw_below_drewN | apply below_drew1)⟩
 have d2 : ¬ x1 < a1 := fun e => c2 (.inl ⟨d1, e⟩)
 by_cases d3 : a1 = 0
 case neg =>
  have e1 := decide_eq_true d1
  have e2 := decide_eq_false d2
  have e3 : (a1 == 0) = false := beq_eq_false_iff_ne.mpr d3
  clear d1 d2 d3 c2
  go_enter Tryd.func27, Tryd.ntmps27
  go_wp2
  go_ret
  exact ⟨rfl, by repeat (first | exact HB.out | apply below_alloc | apply pw_below_drewN | apply below_drew1)⟩
 have d4 : ¬ x1 = -1 := by omega
 have e1 := decide_eq_true d1
 have e2 := decide_eq_false d2
 have e3 : (a1 == 0) = true := beq_iff_eq.mpr d3
 have e4 : (x1 == -1) = false := beq_eq_false_iff_ne.mpr d4
 clear d1 d2 d3 d4 c2
 go_enter Tryd.func27, Tryd.ntmps27
 go_wp2
 go_ret
 exact ⟨rfl, by repeat (first | exact HB.out | apply below_alloc | apply pw_below_drewN | apply below_drew1)⟩
end Go.Proofs.YtgokcaccamfgfaaDoor.G
end
section
-- Laid by the session's own driver gp.py over the kit's printer. Not trusted: Lean checks it.
namespace Go.Proofs.YtgokcaccamfgfaaDoor.G
open Go.RowKit Go.Proofs.YtgokcaccamfgfaaDoorW.PrintWords Go.Proofs.YtgokcaccamfgfaaDoorW.PrintLast Go.Proofs.YtgokcaccamfgfaaDoorW.PrintMore
set_option maxHeartbeats 8000000
set_option maxRecDepth 100000
attribute [local go_sem] max2_int min2_int max_two min_two max_three min_three max_four min_four   -- for this text's walks alone
set_option linter.unusedVariables false
set_option linter.unusedSimpArgs false

def trail_May.l0 : Nat → List S33 → Int → Option Bool
 | 0, _, _ => none
 | k + 1, x0, x1 => if x1 < (x0.length : Int) then (if 0 ≤ x1 then ((trail_Next.f k (rd_T33 x0 x1).f0 (rd_T33 x0 x1).f1 (rd_T33 x0 x1).f2 (rd_T33 x0 x1).f3 x1).bind fun t => if t = true then trail_May.l0 k x0 (wrap64 (x1 + 1)) else some false) else none) else some (decide ((x0.length : Int) > 0))
def trail_May.f (k : Nat) (l0 : List S33) : Option Bool := trail_May.l0 k l0 0
theorem trail_May.mono_l : ∀ k, (∀ y0 y1, LeO (trail_May.l0 k y0 y1) (trail_May.l0 (k + 1) y0 y1))
 | 0 => fun _ _ r h => by simp [trail_May.l0] at h
 | k + 1 => by
  have ih0 := trail_May.mono_l k
  · intro y0 y1
    unfold trail_May.l0
    repeat' first
    | (with_reducible exact ih0 _ _)
    | (with_reducible exact trail_Next.mono _ _ _ _ _ _)
    | (with_reducible exact LeO.refl _)
    | (with_reducible exact LeO.none _)
    | (with_reducible refine LeO.ite ?_ ?_)
    | (with_reducible refine LeO.bind ?_ (fun _ => ?_))
    | exact ih0 _ _
    | exact LeO.none _
    | refine LeO.ite ?_ ?_
    | refine LeO.bind ?_ (fun _ => ?_)
theorem trail_May.mono : ∀ a0 k, LeO (trail_May.f k a0) (trail_May.f (k + 1) a0) := fun a0 k => trail_May.mono_l k a0 0
theorem trail_May.calls (k : Nat) (A0 : Option Addr) (c0 : Nat) (l0 : List S33) (r : Bool) (w : World) (hr0 : Kd.C k33 w A0 l0.length l0) (hc0 : l0.length ≤ c0) (h : trail_May.f k l0 = some r) (hG : GOK w) :
 Calls Tryd.prog 18 #[.slice A0 l0.length c0] w fun e w' => e = .returned (.bool r) ∧ Below w.heap.size w w' := by
 have HR0 := a_ hr0
 have HC0 := a_ hc0
 clear hr0 hc0
 have HB := a_ (Below.refl w.heap.size w)
 have H' := a_ (show trail_May.l0 k l0 0 = some r from h)
 clear h
 go_enter Tryd.func18, Tryd.ntmps18
 go_wp2
 go_loopg [6] k (fun kq v6 w' => ∃ (x1 : Int), v6 = .int .i64 x1 ∧ Aside0 (trail_May.l0 kq l0 x1 = some r) ∧ Aside0 (kq ≤ k) ∧ Aside0 (Below w.heap.size w w'))
 case atStart => exact ⟨0, rfl, H', ⟨Nat.le_refl _⟩, ⟨by repeat (first | exact HB.out | apply below_alloc | apply pw_below_drewN | apply below_drew1)⟩⟩
 case round =>
  clear H' HB
  obtain ⟨x1, rfl, HA, HK1, HB⟩ := hrel
  cases gk with
  | zero => exact absurd HA.out (by simp [trail_May.l0])
  | succ k1 =>
   have H := HA.out
   clear HA
   simp only [trail_May.l0] at H
   by_cases c2 : x1 < (l0.length : Int)
   case neg =>
    rw [if_neg c2] at H
    have c2b0 : decide (x1 < (l0.length : Int)) = false := decide_eq_false c2
    clear c2
    obtain rfl := Option.some.inj H
    go_wp2
    go_ret
    exact ⟨rfl, by repeat (first | exact HB.out | apply below_alloc | apply pw_below_drewN | apply below_drew1)⟩
   rw [if_pos c2] at H
   have c2b0 : decide (x1 < (l0.length : Int)) = true := decide_eq_true c2
   replace H := ifI_ H; obtain ⟨c3, H⟩ := H
   have c3b0 : decide (0 ≤ x1) = true := decide_eq_true c3
   obtain ⟨t, A5, H⟩ := Option.bind_eq_some_iff.mp H
   have A5 := a_ A5
   obtain ⟨ad, A2, c2_, e0, h0, h1, h2, h3, hc2_, hr2_⟩ := at_T33 HR0.out x1 c3 c2
   cases e0
   have HX := a_ (And.intro h0 (And.intro h1 (And.intro h2 (And.intro h3 (And.intro hc2_ hr2_)))))
   clear h0 h1 h2 h3 hc2_ hr2_
   replace c2 := eq_true c2
   replace c3 := eq_true c3
   cases t with
   | true =>
    have H' := a_ (show trail_May.l0 k1 l0 (wrap64 (x1 + 1)) = some r from H)
    clear H
    go_wp2_with (go_at_call 27; have hbq := a_ (show Below w.heap.size w _ from by repeat (first | exact HB.out | apply below_alloc | apply pw_below_drewN | apply below_drew1)); (with_reducible refine (trail_Next.calls k1 (ad.add (x1.toNat * 4)) _ _ A2 c2_ _ _ x1 true _ ((hbq.out.cell (World.block_lt_of_cell? w _ HX.out.1)).trans HX.out.1) ((hbq.out.cell (World.block_lt_of_cell? w _ HX.out.2.1)).trans HX.out.2.1) ((hbq.out.cell (World.block_lt_of_cell? w _ HX.out.2.2.1)).trans HX.out.2.2.1) ((hbq.out.cell (World.block_lt_of_cell? w _ HX.out.2.2.2.1)).trans HX.out.2.2.2.1) (Kd.C_below HX.out.2.2.2.2.2 hbq.out) HX.out.2.2.2.2.1 A5.out (GOK.below hG hbq.out)).mono ?_); rintro e w6 ⟨rfl, hb⟩; have n1_ := a_ (below_step hbq.out hb); clear HB hb hbq; have HB := n1_; clear n1_)
    go_roundg k1
    case measure => have := HK1.out; omega
    case rel => exact ⟨(wrap64 (x1 + 1)), hW_, H', ⟨by have := HK1.out; omega⟩, ⟨by repeat (first | exact HB.out | apply below_alloc | apply pw_below_drewN | apply below_drew1)⟩⟩
   | false =>
    obtain rfl := Option.some.inj (show some false = some r from H)
    clear H
    go_wp2_with (go_at_call 27; have hbq := a_ (show Below w.heap.size w _ from by repeat (first | exact HB.out | apply below_alloc | apply pw_below_drewN | apply below_drew1)); (with_reducible refine (trail_Next.calls k1 (ad.add (x1.toNat * 4)) _ _ A2 c2_ _ _ x1 false _ ((hbq.out.cell (World.block_lt_of_cell? w _ HX.out.1)).trans HX.out.1) ((hbq.out.cell (World.block_lt_of_cell? w _ HX.out.2.1)).trans HX.out.2.1) ((hbq.out.cell (World.block_lt_of_cell? w _ HX.out.2.2.1)).trans HX.out.2.2.1) ((hbq.out.cell (World.block_lt_of_cell? w _ HX.out.2.2.2.1)).trans HX.out.2.2.2.1) (Kd.C_below HX.out.2.2.2.2.2 hbq.out) HX.out.2.2.2.2.1 A5.out (GOK.below hG hbq.out)).mono ?_); rintro e w6 ⟨rfl, hb⟩; have n1_ := a_ (below_step hbq.out hb); clear HB hb hbq; have HB := n1_; clear n1_)
    go_ret
    exact ⟨rfl, by repeat (first | exact HB.out | apply below_alloc | apply pw_below_drewN | apply below_drew1)⟩
theorem trail_Next.true_spec {k : Nat} {x0 x1 : Int} {l2 : List ByteArray} {x3 : ByteArray} {a1 : Int} (h : trail_Next.f k x0 x1 l2 x3 a1 = some true) : a1 < 512 ∧ ((0 ≤ x1 ∧ x1 < a1) ∨ (a1 = 0 ∧ x1 = -1)) := by
 unfold trail_Next.f at h
 by_cases c1 : a1 < 512
 case neg =>
  rw [if_neg c1] at h; simp at h
 rw [if_pos c1] at h
 by_cases c2 : (0 ≤ x1 ∧ x1 < a1) ∨ (a1 = 0 ∧ x1 = -1)
 case pos =>
  exact ⟨c1, c2⟩
 rw [if_neg c2] at h; simp at h
theorem trail_May.true_l : ∀ (k : Nat) (l0 : List S33) (x : Int), 0 ≤ x → trail_May.l0 k l0 x = some true →
 0 < l0.length ∧ ∀ i : Int, x ≤ i → i < (l0.length : Int) → i < 512 ∧ ((0 ≤ (rd_T33 l0 i).f1 ∧ (rd_T33 l0 i).f1 < i) ∨ (i = 0 ∧ (rd_T33 l0 i).f1 = -1))
 | 0, _, _, _, h => by simp [trail_May.l0] at h
 | k + 1, l0, x, h0, h => by
  rw [trail_May.l0] at h
  by_cases c : x < (l0.length : Int)
  case neg =>
   rw [if_neg c] at h
   have := of_decide_eq_true (Option.some.inj h)
   exact ⟨by omega, fun i hi hl => by omega⟩
  rw [if_pos c, if_pos h0] at h
  obtain ⟨t, h1, h⟩ := Option.bind_eq_some_iff.mp h
  cases t with
  | false => simp at h
  | true =>
   have h2 := trail_Next.true_spec h1
   rw [if_pos rfl, show wrap64 (x + 1) = x + 1 from by unfold wrap64; omega] at h
   obtain ⟨h3, h4⟩ := trail_May.true_l k l0 (x + 1) (by omega) h
   refine ⟨h3, fun i hi hl => ?_⟩
   rcases Int.lt_or_eq_of_le hi with hlt | rfl
   · exact h4 i (by omega) hl
   · exact h2
theorem trail_May.true_spec {k : Nat} {l0 : List S33} (h : trail_May.f k l0 = some true) : 0 < l0.length ∧ l0.length ≤ 512 ∧ ∀ i : Int, 0 ≤ i → i < (l0.length : Int) → ((0 ≤ (rd_T33 l0 i).f1 ∧ (rd_T33 l0 i).f1 < i) ∨ (i = 0 ∧ (rd_T33 l0 i).f1 = -1)) := by
 obtain ⟨h1, h2⟩ := trail_May.true_l k l0 0 (by omega) h
 have := h2 ((l0.length : Int) - 1) (by omega) (by omega)
 exact ⟨h1, by omega, fun i h0 hl => (h2 i h0 hl).2⟩

end Go.Proofs.YtgokcaccamfgfaaDoor.G
end
section
namespace Go.Proofs.YtgokcaccamfgfaaDoor.G
open Go.RowKit Go.Proofs.YtgokcaccamfgfaaDoorW.PrintWords Go.Proofs.YtgokcaccamfgfaaDoorW.PrintLast Go.Proofs.YtgokcaccamfgfaaDoorW.PrintMore
set_option linter.unusedVariables false
set_option linter.unusedSimpArgs false
abbrev Nd := S33
abbrev rn (ns : List Nd) (i : Int) : Nd := rd_T33 ns i
def okN (ns : List Nd) : Prop := ns.length ≤ 2513169434845 ∧ ∀ x ∈ ns, x.f2.length ≤ 8796093021952
theorem okN.at {ns : List Nd} (h : okN ns) (i : Int) : (rn ns i).f2.length ≤ 8796093021952 := by
  show (ns.getD i.toNat _).f2.length ≤ _
  rw [List.getD_eq_getElem?_getD]
  cases hg : ns[i.toNat]? with
  | none => exact Nat.zero_le _
  | some x => exact h.2 x (List.mem_of_getElem? hg)

def eqS (x : Nd) : Bool := decide (0 ≤ x.f0) && decide (x.f0 < 8) && decide (x.f2.length ≤ 3) && x.f2.all mayS && mayS x.f3
def nextS (x : Nd) (i : Int) : Bool := decide (i < 512) && (decide (0 ≤ x.f1 ∧ x.f1 < i) || decide (i = 0 ∧ x.f1 = -1)) && eqS x
def mayT (ns : List Nd) : Bool := decide (0 < ns.length) && (List.range ns.length).all fun i => nextS (rn ns (i : Int)) (i : Int)
theorem all_l0 (l : List ByteArray) (hl : l.length ≤ 9223372036854775806) : ∀ (n i : Nat), i + n = l.length → Ev (fun k => term_All.l0 k l (l.length : Int) (i : Int)) ((l.drop i).all mayS) := by
  intro n
  induction n with
  | zero =>
    intro i hi
    refine Ev.step (f := fun _ => some true) (fun k => ?_) ?_
    · simp only [term_All.l0]; rw [if_neg (by omega)]
    · rw [List.drop_eq_nil_of_le (by omega)]; exact Ev.now _
  | succ n ih =>
    intro i hi
    have hlt : i < l.length := by omega
    have hw : wrap64 ((i : Int) + 1) = ((i + 1 : Nat) : Int) := by rw [w64 (by omega) (by omega)]; omega
    refine Ev.step (f := fun k => (term_May.f k l[i]).bind fun t => if t = true then term_All.l0 k l (l.length : Int) ((i + 1 : Nat) : Int) else some false) (fun k => ?_) ?_
    · simp only [term_All.l0]
      rw [if_pos (by omega), if_pos (by omega), if_pos (by omega), hw]
      have : rdOf ByteArray.empty l (i : Int) = l[i] := by
        show l.getD _ _ = _
        rw [Int.toNat_natCast, List.getD_eq_getElem?_getD, List.getElem?_eq_getElem hlt]; rfl
      rw [this]
    · refine Ev.bind (may_ev _) ?_
      rw [List.drop_eq_getElem_cons hlt, List.all_cons]
      cases mayS l[i] with
      | true => simp only [if_pos, Bool.true_and]; exact ih (i + 1) (by omega)
      | false => simp only [Bool.false_and]; exact Ev.now _
theorem all_ev (l : List ByteArray) (hl : l.length ≤ 9223372036854775806) : Ev (fun k => term_All.f k l) (l.all mayS) := by
  have := all_l0 l hl l.length 0 (by omega)
  rw [List.drop_zero] at this
  exact this
theorem equation_ev (x : Nd) : Ev (fun k => trail_Equation.f k x.f0 x.f1 x.f2 x.f3) (eqS x) := by
  unfold trail_Equation.f eqS
  by_cases c1 : 0 ≤ x.f0
  · by_cases c2 : x.f0 < 8
    · by_cases c3 : (x.f2.length : Int) ≤ 3
      · simp only [if_pos c1, if_pos c2, if_pos c3, decide_eq_true c1, decide_eq_true c2, decide_eq_true (show x.f2.length ≤ 3 by omega), Bool.true_and]
        refine Ev.bind (all_ev _ (by omega)) ?_
        cases x.f2.all mayS with
        | true => simp only [if_pos, Bool.true_and]; exact may_ev _
        | false => simp only [Bool.false_and]; exact Ev.now _
      · simp only [if_pos c1, if_pos c2, if_neg c3, decide_eq_false (show ¬ x.f2.length ≤ 3 by omega), Bool.and_false, Bool.false_and]; exact Ev.now _
    · simp only [if_pos c1, if_neg c2, decide_eq_false c2, Bool.and_false, Bool.false_and]; exact Ev.now _
  · simp only [if_neg c1, decide_eq_false c1, Bool.false_and]; exact Ev.now _
theorem next_ev (x : Nd) (i : Int) : Ev (fun k => trail_Next.f k x.f0 x.f1 x.f2 x.f3 i) (nextS x i) := by
  unfold trail_Next.f nextS
  by_cases c1 : i < 512
  · by_cases c2 : (0 ≤ x.f1 ∧ x.f1 < i) ∨ (i = 0 ∧ x.f1 = -1)
    · simp only [if_pos c1, if_pos c2, decide_eq_true c1, Bool.true_and]
      have : (decide (0 ≤ x.f1 ∧ x.f1 < i) || decide (i = 0 ∧ x.f1 = -1)) = true := by
        rw [Bool.or_eq_true, decide_eq_true_iff, decide_eq_true_iff]; exact c2
      rw [this, Bool.true_and]
      exact equation_ev x
    · simp only [if_pos c1, if_neg c2, decide_eq_true c1, Bool.true_and]
      have : (decide (0 ≤ x.f1 ∧ x.f1 < i) || decide (i = 0 ∧ x.f1 = -1)) = false := by
        rw [← Bool.not_eq_true, Bool.or_eq_true, decide_eq_true_iff, decide_eq_true_iff]; exact c2
      rw [this, Bool.false_and]
      exact Ev.now _
  · simp only [if_neg c1, decide_eq_false c1, Bool.false_and]; exact Ev.now _
theorem nextS_512 {x : Nd} {i : Int} (h : nextS x i = true) : i < 512 := by
  unfold nextS at h
  rw [Bool.and_eq_true, Bool.and_eq_true, decide_eq_true_iff] at h
  exact h.1.1
theorem trailMay_l0 (ns : List Nd) : ∀ (n i : Nat), i + n = ns.length → Ev (fun k => trail_May.l0 k ns (i : Int)) (decide (0 < ns.length) && (List.range' i n).all fun j => nextS (rn ns (j : Int)) (j : Int)) := by
  intro n
  induction n with
  | zero =>
    intro i hi
    refine Ev.step (f := fun _ => some (decide (0 < ns.length))) (fun k => ?_) ?_
    · simp only [trail_May.l0]
      rw [if_neg (by omega)]
      congr 1
      exact decide_eq_decide.2 (by omega)
    · simp only [List.range'_zero, List.all_nil, Bool.and_true]; exact Ev.now _
  | succ n ih =>
    intro i hi
    refine Ev.step (f := fun k => (trail_Next.f k (rn ns (i : Int)).f0 (rn ns (i : Int)).f1 (rn ns (i : Int)).f2 (rn ns (i : Int)).f3 (i : Int)).bind fun t => if t = true then trail_May.l0 k ns (wrap64 ((i : Int) + 1)) else some false) (fun k => ?_) ?_
    · simp only [trail_May.l0]
      rw [if_pos (by omega), if_pos (by omega)]
    · refine Ev.bind (next_ev (rn ns (i : Int)) (i : Int)) ?_
      rw [List.range'_succ, List.all_cons]
      cases hn : nextS (rn ns (i : Int)) (i : Int) with
      | true =>
        have := nextS_512 hn
        simp only [if_pos, Bool.true_and]
        rw [show wrap64 ((i : Int) + 1) = ((i + 1 : Nat) : Int) from by rw [w64 (by omega) (by omega)]; omega]
        exact ih (i + 1) (by omega)
      | false => simp only [Bool.false_and, Bool.and_false]; exact Ev.now _
theorem trailMay_ev (ns : List Nd) : Ev (fun k => trail_May.f k ns) (mayT ns) := by
  have := trailMay_l0 ns ns.length 0 (by omega)
  unfold mayT
  rw [List.range_eq_range']
  exact this
theorem mayT_at {ns : List Nd} (h : mayT ns = true) : 0 < ns.length ∧ ∀ i : Nat, i < ns.length → nextS (rn ns (i : Int)) (i : Int) = true := by
  unfold mayT at h
  rw [Bool.and_eq_true, decide_eq_true_iff] at h
  exact ⟨h.1, fun i hi => List.all_eq_true.1 h.2 i (List.mem_range.2 hi)⟩
theorem mayT_len {ns : List Nd} (h : mayT ns = true) : 0 < ns.length ∧ ns.length ≤ 512 := by
  obtain ⟨h1, h2⟩ := mayT_at h
  have := nextS_512 (h2 (ns.length - 1) (by omega))
  exact ⟨h1, by omega⟩
def pa (ns : List Nd) (i : Nat) : Int := (rn ns (i : Int)).f1
theorem mayT_pa {ns : List Nd} (h : mayT ns = true) (i : Nat) (hi : i < ns.length) : (i = 0 ∧ pa ns i = -1) ∨ (0 < i ∧ 0 ≤ pa ns i ∧ pa ns i < (i : Int)) := by
  have := (mayT_at h).2 i hi
  unfold nextS at this
  rw [Bool.and_eq_true, Bool.and_eq_true, Bool.or_eq_true, decide_eq_true_iff, decide_eq_true_iff, decide_eq_true_iff] at this
  unfold pa
  rcases this.1.2 with h1 | h1 <;> omega
end Go.Proofs.YtgokcaccamfgfaaDoor.G
end
section
-- Laid by the session's own driver gp.py over the kit's printer. Not trusted: Lean checks it.
namespace Go.Proofs.YtgokcaccamfgfaaDoor.G
open Go.RowKit Go.Proofs.YtgokcaccamfgfaaDoorW.PrintWords Go.Proofs.YtgokcaccamfgfaaDoorW.PrintLast Go.Proofs.YtgokcaccamfgfaaDoorW.PrintMore
set_option maxHeartbeats 8000000
set_option maxRecDepth 100000
attribute [local go_sem] max2_int min2_int max_two min_two max_three min_three max_four min_four   -- for this text's walks alone
set_option linter.unusedVariables false
set_option linter.unusedSimpArgs false

def next_Mark.f (a0 : Int) : Option (Bool) := if a0 ≥ 1 then (some (decide (a0 ≤ 3))) else (some false)
theorem next_Mark.calls (a0 : Int) (r : Bool) (w : World) (h : next_Mark.f a0 = some r) :
 Calls Tryd.prog 19 #[.int .i64 a0] w fun e w' => e = .returned (.bool r) ∧ Drawn0 w w' := by
 have H := h; unfold next_Mark.f at H
 clear h
 by_cases c2 : a0 ≥ 1
 case pos =>
  rw [if_pos c2] at H
  have c2b0 : decide (1 ≤ a0) = true := decide_eq_true c2
  clear c2
  obtain rfl := Option.some.inj H
  go_enter Tryd.func19, Tryd.ntmps19
  go_wp2
  go_ret
  exact ⟨by first | rfl | (simp; done) | (simp [*]; done), by repeat (first | exact Drawn0.refl _ | apply Drawn0.step)⟩
 rw [if_neg c2] at H
 have c2b0 : decide (1 ≤ a0) = false := decide_eq_false c2
 clear c2
 obtain rfl := Option.some.inj H
 go_enter Tryd.func19, Tryd.ntmps19
 go_wp2
 go_ret
 exact ⟨by first | rfl | (simp; done) | (simp [*]; done), by repeat (first | exact Drawn0.refl _ | apply Drawn0.step)⟩

end Go.Proofs.YtgokcaccamfgfaaDoor.G
end
