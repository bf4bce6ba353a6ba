-- Laid by the session's own driver gp.py over the kit's printer. Not trusted: Lean checks it.
import Derived.Test.YtljlmkbcichlpaaDoorTHead
import Derived.Test.YtljlmkbcichlpaaDoorG0
namespace Go.Proofs.YtljlmkbcichlpaaDoor.G
open Go.RowKit Go.Proofs.YtljlmkbcichlpaaDoorW.PrintWords Go.Proofs.YtljlmkbcichlpaaDoorW.PrintLast Go.Proofs.YtljlmkbcichlpaaDoorW.PrintMore
set_option maxHeartbeats 8000000
set_option maxRecDepth 100000
attribute [local go_sem] max2_int min2_int max_two min_two max_three min_three max_four min_four   -- for this text's walks alone
set_option linter.unusedVariables false
set_option linter.unusedSimpArgs false

/-- may a byte stand in a source? -/
def okL (b : UInt8) : Bool := b == 10 || (decide (32 ≤ b.toNat) && decide (b.toNat ≤ 126))
def oddR (c : Int) : Bool := (c != 10) && (decide (c < 32) || decide (126 < c))
def lex_may.f (s : ByteArray) : Option Bool := some (decide (s.size ≤ 2048) && s.data.toList.all okL)
theorem oddR_byte (b : UInt8) (h : b.toNat < 128) : oddR (b.toNat : Int) = !okL b := by
 unfold oddR okL
 by_cases h1 : b = 10
 case pos =>
  subst h1; rfl
 have n1 : b.toNat ≠ 10 := fun e => h1 (by rw [← UInt8.toNat_inj]; exact e)
 have e1 : ((b.toNat : Int) != 10) = true := bne_iff_ne.2 (by omega)
 have e2 : (b == 10) = false := beq_eq_false_iff_ne.2 h1
 rw [e1, e2, Bool.true_and, Bool.false_or, Bool.not_and]
 congr 1
 · by_cases c : b.toNat < 32
   case pos =>
    rw [decide_eq_true (by omega), decide_eq_false (by omega)]; rfl
   rw [decide_eq_false (by omega), decide_eq_true (by omega)]; rfl
 · by_cases c : 126 < b.toNat
   case pos =>
    rw [decide_eq_true (by omega), decide_eq_false (by omega)]; rfl
   rw [decide_eq_false (by omega), decide_eq_true (by omega)]; rfl
theorem oddR_high (c : Int) (h : 128 ≤ c) : oddR c = true := by
 unfold oddR
 rw [bne_iff_ne.2 (show c ≠ 10 by omega), decide_eq_false (show ¬ c < 32 by omega), decide_eq_true (show 126 < c by omega)]; rfl
theorem okL_high (b : UInt8) (h : 128 ≤ b.toNat) : okL b = false := by
 unfold okL
 rw [beq_eq_false_iff_ne.2 (fun e => by subst e; revert h; decide), decide_eq_false (show ¬ b.toNat ≤ 126 by omega), Bool.and_false]; rfl
theorem odd_calls (c : Int) (r : Bool) (hr : oddR c = r) (w : World) : Calls Tryd.prog 19 #[.int .i32 c] w fun e w' => e = .returned (.bool r) ∧ w' = w := by
 unfold oddR at hr
 by_cases h1 : c = 10
 case pos =>
  subst h1
  obtain rfl : false = r := by rw [← hr]; rfl
  go_enter Tryd.func19, Tryd.ntmps19
  go_wp2
  go_ret
  exact ⟨rfl, rfl⟩
 have e1 : (c != 10) = true := bne_iff_ne.2 h1
 rw [e1, Bool.true_and] at hr
 by_cases h2 : c < 32
 case pos =>
  have e2 : decide (c < 32) = true := decide_eq_true h2
  rw [e2, Bool.true_or] at hr
  subst hr
  go_enter Tryd.func19, Tryd.ntmps19
  go_wp2
  go_ret
  exact ⟨rfl, rfl⟩
 have e2 : decide (c < 32) = false := decide_eq_false h2
 rw [e2, Bool.false_or] at hr
 subst hr
 go_enter Tryd.func19, Tryd.ntmps19
 go_wp2
 go_ret
 exact ⟨rfl, rfl⟩
theorem all_take_succ (l : List UInt8) (p : UInt8 → Bool) (i : Nat) (h : i < l.length) : (l.take (i + 1)).all p = ((l.take i).all p && p l[i]) := by
 rw [List.take_succ_eq_append_getElem h, List.all_append, List.all_cons, List.all_nil, Bool.and_true]
theorem all_false_of (l : List UInt8) (p : UInt8 → Bool) (i : Nat) (h : i < l.length) (hp : p l[i] = false) : l.all p = false := by
 rw [← Bool.not_eq_true, List.all_eq_true]
 exact fun hh => by have := hh _ (List.getElem_mem h); rw [hp] at this; cases this
theorem idx_calls (s : ByteArray) (hs : s.size ≤ 2048) (w : World) :
 Calls Tryd.prog 38 #[.string s, .func (.func 19) #[] #[], .bool true] w fun e w' => (∃ x : Int, e = .returned (.int .i64 x) ∧ decide (0 ≤ x) = !s.data.toList.all okL) ∧ Below w.heap.size w w' := by
 have hsl : s.data.toList.length = s.size := by rw [Array.length_toList]; rfl
 go_enter Tryd.func38, Tryd.ntmps38
 go_wp2
 go_loopg [7, 8] s.size (fun g _ _ wx => ∃ i : Nat, i + g = s.size ∧ wx = w.iter s i ∧ Aside0 ((s.data.toList.take i).all okL = true))
 case atStart => exact ⟨0, by omega, rfl, ⟨rfl⟩⟩
 case round =>
  obtain ⟨i, hi, rfl, HA⟩ := hrel
  cases gk with
  | zero =>
   have hnx := fun ty => run_next_end (P := Tryd.prog) w s i ty (by omega)
   go_wp2
   go_ret
   refine ⟨⟨-1, rfl, ?_⟩, by apply below_alloc; exact Below.refl _ _⟩
   have := HA.out
   rw [List.take_of_length_le (by omega)] at this
   rw [this]; rfl
  | succ g =>
   have hlt : i < s.size := by omega
   have hli : i < s.data.toList.length := by omega
   have hb : s.data.toList[i] = s[i] := by rw [Array.getElem_toList]; rfl
   have hnx := fun ty => run_next_any (P := Tryd.prog) w s i ty hlt
   by_cases ha : (s[i]'hlt).toNat < 128
   case neg =>
    have hd := decode_high s i hlt (by omega)
    obtain ⟨c, n, e⟩ : ∃ c n, Utf8.decode s i = (c, n) := ⟨_, _, rfl⟩
    rw [e] at hd hnx
    have HO := a_ (oddR_high (c : Int) (by have := hd.1; simp only at this; omega))
    clear hd
    go_wp2_with (go_at_call 19; refine (odd_calls _ _ HO.out _).mono ?_; rintro e w1 ⟨rfl, rfl⟩)
    go_ret
    refine ⟨⟨(i : Int), rfl, ?_⟩, by apply below_alloc; exact Below.refl _ _⟩
    rw [all_false_of _ _ i hli (by rw [hb]; exact okL_high _ (by omega))]
    exact decide_eq_true (by omega)
   have hd := decode_ascii s i hlt ha
   cases ho : okL (s[i]'hlt) with
   | false =>
    have hO := oddR_byte _ ha
    rw [ho] at hO
    rw [hd] at hnx
    have HO := a_ hO
    clear hO
    go_wp2_with (go_at_call 19; refine (odd_calls _ _ HO.out _).mono ?_; rintro e w1 ⟨rfl, rfl⟩)
    go_ret
    refine ⟨⟨(i : Int), rfl, ?_⟩, by apply below_alloc; exact Below.refl _ _⟩
    rw [all_false_of _ _ i hli (by rw [hb]; exact ho)]
    exact decide_eq_true (by omega)
   | true =>
    have hO := oddR_byte _ ha
    rw [ho] at hO
    rw [hd] at hnx
    have HO := a_ hO
    clear hO
    go_wp2_with (go_at_call 19; refine (odd_calls _ _ HO.out _).mono ?_; rintro e w1 ⟨rfl, rfl⟩)
    go_roundg g
    case measure => omega
    case rel => exact ⟨i + 1, by omega, rfl, ⟨by rw [all_take_succ _ _ i hli, HA.out, hb, ho]; rfl⟩⟩
theorem contains_calls (s : ByteArray) (hs : s.size ≤ 2048) (w : World) :
 Calls Tryd.prog 20 #[.string s, .func (.func 19) #[] #[]] w fun e w' => e = .returned (.bool (!s.data.toList.all okL)) ∧ Below w.heap.size w w' := by
 have hI : Calls Tryd.prog 29 #[.string s, .func (.func 19) #[] #[]] w fun e w' => (∃ x : Int, e = .returned (.int .i64 x) ∧ decide (0 ≤ x) = !s.data.toList.all okL) ∧ Below w.heap.size w w' := by
  go_enter Tryd.func29, Tryd.ntmps29
  go_wp2_with (go_at_call 38; refine (idx_calls s hs _).mono ?_; rintro e w1 ⟨⟨x, rfl, hx⟩, hb⟩)
  go_ret
  exact ⟨⟨x, rfl, hx⟩, hb⟩
 obtain ⟨q, hq⟩ : ∃ q, s.data.toList.all okL = q := ⟨_, rfl⟩
 rw [hq] at hI ⊢
 go_enter Tryd.func20, Tryd.ntmps20
 go_wp2_with (go_at_call 29; refine hI.mono ?_; rintro e w1 ⟨⟨x, rfl, hx⟩, hb⟩)
 go_ret
 exact ⟨by first | rw [hx] | rfl, hb⟩
theorem lex_may.calls (s : ByteArray) (r : Bool) (w : World) (h : lex_may.f s = some r) :
 Calls Tryd.prog 14 #[.string s] w fun e w' => e = .returned (.bool r) ∧ Below w.heap.size w w' := by
 unfold lex_may.f at h
 obtain rfl := Option.some.inj h
 by_cases c : s.size ≤ 2048
 case neg =>
  have c1 : decide ((s.size : Int) ≤ 2048) = false := decide_eq_false (by omega)
  rw [decide_eq_false c, Bool.false_and]
  go_enter Tryd.func14, Tryd.ntmps14
  go_wp2
  go_ret
  exact ⟨rfl, Below.refl _ _⟩

 have c1 : decide ((s.size : Int) ≤ 2048) = true := decide_eq_true (by omega)
 rw [decide_eq_true c, Bool.true_and]
 have HC := a_ c
 have hI := contains_calls s HC.out
 obtain ⟨q, hq⟩ : ∃ q, s.data.toList.all okL = q := ⟨_, rfl⟩
 rw [hq] at hI ⊢
 have HI := a_ hI
 clear hI hq
 go_enter Tryd.func14, Tryd.ntmps14
 go_wp2_with (go_at_call 20; refine (HI.out _).mono ?_; rintro e w1 ⟨rfl, hb⟩)
 go_ret
 exact ⟨by first | rfl | rw [Bool.not_not] | (simp; done), hb⟩
end Go.Proofs.YtljlmkbcichlpaaDoor.G
