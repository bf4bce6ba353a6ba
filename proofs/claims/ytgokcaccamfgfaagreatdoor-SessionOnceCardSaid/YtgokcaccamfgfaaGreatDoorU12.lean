/- Parts of this proof, one behind the other: G48, G49, G51, G52, SessVals, G53. -/
import Derived.Test.YtgokcaccamfgfaaGreatDoorU2
import Derived.Test.YtgokcaccamfgfaaGreatDoorG0
import Derived.Test.YtgokcaccamfgfaaGreatDoorU11
import Derived.Test.YtgokcaccamfgfaaGreatDoorU7
import Derived.Test.YtgokcaccamfgfaaGreatDoorU8
import Derived.Test.YtgokcaccamfgfaaGreatDoorU5
import Derived.Test.YtgokcaccamfgfaaGreatDoorU10
section
-- Laid by the session's own driver gp.py over the kit's printer. Not trusted: Lean checks it.
namespace Go.Proofs.YtgokcaccamfgfaaGreatDoor.G
open Go.RowKit Go.Proofs.YtgokcaccamfgfaaGreatDoorW.PrintWords Go.Proofs.YtgokcaccamfgfaaGreatDoorW.PrintLast Go.Proofs.YtgokcaccamfgfaaGreatDoorW.PrintMore
set_option maxHeartbeats 8000000
set_option maxRecDepth 100000
attribute [local go_sem] max2_int min2_int max_two min_two max_three min_three max_four min_four   -- for this text's walks alone
set_option linter.unusedVariables false
set_option linter.unusedSimpArgs false

/-- a row whose elements are another row's, as they lay in w0 -/
def borK {α : Type} (w0 : World) (d : Kd α) : Kd α where
 sz := d.sz
 E := d.E
 K := fun _ x cs => d.K w0 x cs
 M := fun _ _ _ x cs => d.K w0 x cs
 K_len := fun h => d.K_len h
 K_one := fun h => d.K_one h
 K_below := fun _ h => h
 K_of_M := fun h => h
 M_mono := fun _ h => h
 M_bound := fun h => h
 M_move := fun _ h => h
 M_lower := fun _ h => h
/-- the same, some of its elements made anew, each apart from the others (f) -/
def mixK {α : Type} (w0 : World) (f : Nat → Nat) (d : Kd α) : Kd (α × Option Nat) where
 sz := d.sz
 E := d.E
 K := fun w x cs => match x.2 with | some _ => d.K w x.1 cs | none => d.K w0 x.1 cs
 M := fun w base ok x cs => match x.2 with | some i => d.M w base (fun k => ok k ∧ f k = i) x.1 cs | none => d.K w0 x.1 cs
 K_len := by rintro w ⟨x, _ | i⟩ cs h <;> exact d.K_len h
 K_one := by rintro w ⟨x, _ | i⟩ cs h <;> exact d.K_one h
 K_below := by
  rintro w w1 ⟨x, _ | i⟩ cs hb h
  · exact h
  · exact d.K_below hb h
 K_of_M := by
  rintro w base ok ⟨x, _ | i⟩ cs h
  · exact h
  · exact d.K_of_M h
 M_mono := by
  rintro w base ok ok' ⟨x, _ | i⟩ cs hok h
  · exact h
  · exact d.M_mono (fun k hk => ⟨hok k hk.1, hk.2⟩) h
 M_bound := by
  rintro w base ok ⟨x, _ | i⟩ cs h
  · exact h
  · exact d.M_mono (fun _ hk => ⟨⟨hk.1.1, hk.2⟩, hk.1.2⟩) (d.M_bound h)
 M_move := by
  rintro w w1 base ok ⟨x, _ | i⟩ cs hm h
  · exact h
  · exact d.M_move (fun k hk => hm k hk.1) h
 M_lower := by
  rintro w base base' ok ⟨x, _ | i⟩ cs hb h
  · exact h
  · exact d.M_lower hb h
theorem mix_tag {α : Type} {w0 : World} {f f' : Nat → Nat} {d : Kd α} {e : Nat} {w : World} {base : Nat} {ok : Nat → Prop} {v : Value} {xs : List (α × Option Nat)} (h : (mixK w0 f d).R e w base ok v xs) (hf : ∀ k, k < w.heap.size → f' k = f k) : (mixK w0 f' d).R e w base ok v xs := by
 obtain ⟨h0, inner, ho, hr⟩ := h
 refine ⟨h0, inner, ho, hr.imp_ ?_⟩
 rintro ⟨x, _ | i⟩ cs h
 · exact h
 · exact d.M_mono (fun k hk => ⟨hk.1.1, (hf k hk.2.2.1).trans hk.1.2⟩) (d.M_bound h)
def mixL {α : Type} (l : List α) (n : Nat) : List (α × Option Nat) := l.zipIdx.map fun p => (p.1, if p.2 < n then some p.2 else none)
theorem mixL_len {α : Type} (l : List α) (n : Nat) : (mixL l n).length = l.length := by simp [mixL]
theorem mixL_at {α : Type} (l : List α) (n j : Nat) : (mixL l n)[j]? = (l[j]?).map fun x => (x, if j < n then some j else none) := by
 unfold mixL
 rw [List.getElem?_map, List.getElem?_zipIdx, Option.map_map, Nat.zero_add]
 rfl
theorem mixL_set {α : Type} (l : List α) (i : Nat) (x : α) (h : l[i]? = some x) : (mixL l i).set i (x, some i) = mixL l (i + 1) := by
 apply List.ext_getElem?
 intro j
 rw [List.getElem?_set, mixL_at, mixL_at, mixL_len]
 by_cases c : i = j
 case neg =>
  rw [if_neg c]
  congr 1
  funext x
  by_cases d : j < i
  case pos =>
   rw [if_pos d, if_pos (by omega)]
  rw [if_neg d, if_neg (by omega)]
 subst c
 have hl : i < l.length := (List.getElem?_eq_some_iff.1 h).1
 rw [if_pos rfl, if_pos hl, h, Option.map_some, if_pos (Nat.lt_succ_self i)]
theorem mix_start {α : Type} {w0 : World} {f : Nat → Nat} {d : Kd α} {e : Nat} {w : World} {base : Nat} {ok : Nat → Prop} {v : Value} {xs : List α} (h : (borK w0 d).R e w base ok v xs) : (mixK w0 f d).R e w base ok v (mixL xs 0) := by
 obtain ⟨h0, inner, ho, hl, hr⟩ := h
 refine ⟨h0, inner, by rw [mixL_len]; exact ho, by rw [mixL_len]; exact hl, fun j p hj => ?_⟩
 rw [mixL_at] at hj
 obtain ⟨x, hx, rfl⟩ := Option.map_eq_some_iff.1 hj
 rw [if_neg (Nat.not_lt_zero j)]
 exact hr j x hx
theorem mix_end {α : Type} {w0 : World} {f : Nat → Nat} {d : Kd α} {e : Nat} {w : World} {base : Nat} {ok : Nat → Prop} {v : Value} {xs : List α} (h : (mixK w0 f d).R e w base ok v (mixL xs xs.length)) : Kd.S d e w base ok v xs := by
 obtain ⟨h0, inner, ho, hl, hr⟩ := h
 rw [mixL_len] at ho hl
 refine ⟨f, h0, inner, by rw [List.length_zipIdx]; exact ho, by rw [List.length_zipIdx]; exact hl, fun j p hj => ?_⟩
 rw [List.getElem?_zipIdx, Nat.zero_add] at hj
 obtain ⟨x, hx, rfl⟩ := Option.map_eq_some_iff.1 hj
 have h2 := hr j (x, some j) (by rw [mixL_at, hx, Option.map_some, if_pos (List.getElem?_eq_some_iff.1 hx).1])
 exact h2
theorem clN.calls (A : Option Addr) (c : Nat) (xs : List S64) (w0 w : World) (hB0 : Below w0.heap.size w0 w) (hC : Kd.C k64 w0 A xs.length xs) (hl : xs.length * 56 ≤ 140737488355328) :
 Calls Tryz.prog 48 #[.slice A xs.length c] w fun e w' => ∃ v, e = .returned v ∧ (borK w0 k64).R 64 w' w.heap.size (fun _ => True) v xs ∧ Below w.heap.size w w' := by
 have q_ : ∀ (w : World) (a : Option Addr) (n c n' c' : Nat), (binOp .eql 22 (.slice a n c) (.slice none n' c')).run Tryz.prog w = .ok (.bool a.isNone) w := fun w a n c n' c' => Lib.run_eql_slice_nil w _ _ a n c n' c' Tryz.underlying22
 cases A with
 | none =>
  have h0 : xs.length = 0 := by
   rcases Nat.eq_zero_or_pos xs.length with h0 | h0
   · exact h0
   · obtain ⟨ad, h, _⟩ := hC.2.2 h0
     cases h
  obtain rfl : xs = [] := List.eq_nil_of_length_eq_zero h0
  clear hC hl h0 hB0
  go_enter Tryz.func48, Tryz.ntmps48
  go_wp2
  go_ret
  exact ⟨_, rfl, Kd.R_nil _ _ _ _ _, Below.refl _ _⟩
 | some ad =>
  have HC := a_ hC
  have HB0 := a_ hB0
  have HL := a_ hl
  clear hC hl hB0
  go_enter Tryz.func48, Tryz.ntmps48
  go_wp2_with (first
   | ((with_reducible refine gate_dst (N := 5) rfl ?_); refine Kd.R_lit (borK w0 k64) _ 64 ?hg (N := 5) ?hd (xs := ([] : List S64)) (inner := []) (ok := fun _ => True) (okp := fun _ => True) ?hr ?hp (fun _ hk => hk) trivial (Below.refl _ _) (Nat.le_refl _) (by simp) ?_; (case hd => rfl); (case hg => rfl); (case hr => first | (go_simp; done) | (go_simp; rfl)); (case hp => exact (Reps.none _ _)); intro v5 w5 ho hb hg_ hnew_; have HO := a_ ho; have HB := a_ hb; clear ho hb hg_ hnew_)
   | ((with_reducible refine gate_builtin (b := .append) (xs := #[.tmp 5, .tmp 6]) rfl ?_); at_builtin; refine Kd.R_append_rows (borK w0 k64) (Rr := Kd.K k64 w0) (w0 := w) w.heap.size rfl (.tmp 5) (.tmp 6) 22 64 (.agg #[(.int .i64 0), (.int .i64 0), (.slice none 0 0), (.string ⟨#[]⟩)]) 56 rfl Tryz.underlying22 info64 rfl (show 0 < 4 by decide) (by omega) v5 [] xs _ _ _ (fun _ => True) (fun _ => False) rfl rfl HO.out (HC.out.imp_ (below_step HB0.out HB.out) (fun _ _ h => h)) (fun _ _ h => h) (fun _ h => h.elim) (fun _ _ => trivial) HB.out HB.out.size (by have := HL.out; simp only [List.length_nil, Nat.zero_add]; exact this) ?_; intro v7 w7 ho hb hg hat; rw [List.nil_append] at ho; have HO2 := a_ ho; have HB2 := a_ hb; clear ho hb hg hat HO HB))
  go_ret
  exact ⟨_, rfl, HO2.out, HB2.out⟩
theorem clA.calls (A : Option Addr) (c : Nat) (xs : List S46) (w0 w : World) (hB0 : Below w0.heap.size w0 w) (hC : Kd.C k46 w0 A xs.length xs) (hl : xs.length * 16 ≤ 140737488355328) :
 Calls Tryz.prog 49 #[.slice A xs.length c] w fun e w' => ∃ v, e = .returned v ∧ (borK w0 k46).R 46 w' w.heap.size (fun _ => True) v xs ∧ Below w.heap.size w w' := by
 have q_ : ∀ (w : World) (a : Option Addr) (n c n' c' : Nat), (binOp .eql 23 (.slice a n c) (.slice none n' c')).run Tryz.prog w = .ok (.bool a.isNone) w := fun w a n c n' c' => Lib.run_eql_slice_nil w _ _ a n c n' c' Tryz.underlying23
 cases A with
 | none =>
  have h0 : xs.length = 0 := by
   rcases Nat.eq_zero_or_pos xs.length with h0 | h0
   · exact h0
   · obtain ⟨ad, h, _⟩ := hC.2.2 h0
     cases h
  obtain rfl : xs = [] := List.eq_nil_of_length_eq_zero h0
  clear hC hl h0 hB0
  go_enter Tryz.func49, Tryz.ntmps49
  go_wp2
  go_ret
  exact ⟨_, rfl, Kd.R_nil _ _ _ _ _, Below.refl _ _⟩
 | some ad =>
  have HC := a_ hC
  have HB0 := a_ hB0
  have HL := a_ hl
  clear hC hl hB0
  go_enter Tryz.func49, Tryz.ntmps49
  go_wp2_with (first
   | ((with_reducible refine gate_dst (N := 5) rfl ?_); refine Kd.R_lit (borK w0 k46) _ 46 ?hg (N := 5) ?hd (xs := ([] : List S46)) (inner := []) (ok := fun _ => True) (okp := fun _ => True) ?hr ?hp (fun _ hk => hk) trivial (Below.refl _ _) (Nat.le_refl _) (by simp) ?_; (case hd => rfl); (case hg => rfl); (case hr => first | (go_simp; done) | (go_simp; rfl)); (case hp => exact (Reps.none _ _)); intro v5 w5 ho hb hg_ hnew_; have HO := a_ ho; have HB := a_ hb; clear ho hb hg_ hnew_)
   | ((with_reducible refine gate_builtin (b := .append) (xs := #[.tmp 5, .tmp 6]) rfl ?_); at_builtin; refine Kd.R_append_rows (borK w0 k46) (Rr := Kd.K k46 w0) (w0 := w) w.heap.size rfl (.tmp 5) (.tmp 6) 23 46 (.agg #[(.int .i64 0), (.int .i64 0)]) 16 rfl Tryz.underlying23 info46 rfl (show 0 < 2 by decide) (by omega) v5 [] xs _ _ _ (fun _ => True) (fun _ => False) rfl rfl HO.out (HC.out.imp_ (below_step HB0.out HB.out) (fun _ _ h => h)) (fun _ _ h => h) (fun _ h => h.elim) (fun _ _ => trivial) HB.out HB.out.size (by have := HL.out; simp only [List.length_nil, Nat.zero_add]; exact this) ?_; intro v7 w7 ho hb hg hat; rw [List.nil_append] at ho; have HO2 := a_ ho; have HB2 := a_ hb; clear ho hb hg hat HO HB))
  go_ret
  exact ⟨_, rfl, HO2.out, HB2.out⟩
theorem clS.calls (A : Option Addr) (c : Nat) (xs : List ByteArray) (w0 w : World) (hB0 : Below w0.heap.size w0 w) (hC : Kd.C Kd.string w0 A xs.length xs) (hl : xs.length * 16 ≤ 140737488355328) :
 Calls Tryz.prog 50 #[.slice A xs.length c] w fun e w' => ∃ v, e = .returned v ∧ (borK w0 Kd.string).R 9 w' w.heap.size (fun _ => True) v xs ∧ Below w.heap.size w w' := by
 have q_ : ∀ (w : World) (a : Option Addr) (n c n' c' : Nat), (binOp .eql 62 (.slice a n c) (.slice none n' c')).run Tryz.prog w = .ok (.bool a.isNone) w := fun w a n c n' c' => Lib.run_eql_slice_nil w _ _ a n c n' c' Tryz.underlying62
 cases A with
 | none =>
  have h0 : xs.length = 0 := by
   rcases Nat.eq_zero_or_pos xs.length with h0 | h0
   · exact h0
   · obtain ⟨ad, h, _⟩ := hC.2.2 h0
     cases h
  obtain rfl : xs = [] := List.eq_nil_of_length_eq_zero h0
  clear hC hl h0 hB0
  go_enter Tryz.func50, Tryz.ntmps50
  go_wp2
  go_ret
  exact ⟨_, rfl, Kd.R_nil _ _ _ _ _, Below.refl _ _⟩
 | some ad =>
  have HC := a_ hC
  have HB0 := a_ hB0
  have HL := a_ hl
  clear hC hl hB0
  go_enter Tryz.func50, Tryz.ntmps50
  go_wp2_with (first
   | ((with_reducible refine gate_dst (N := 5) rfl ?_); refine Kd.R_lit (borK w0 Kd.string) _ 9 ?hg (N := 5) ?hd (xs := ([] : List ByteArray)) (inner := []) (ok := fun _ => True) (okp := fun _ => True) ?hr ?hp (fun _ hk => hk) trivial (Below.refl _ _) (Nat.le_refl _) (by simp) ?_; (case hd => rfl); (case hg => rfl); (case hr => first | (go_simp; done) | (go_simp; rfl)); (case hp => exact (Reps.none _ _)); intro v5 w5 ho hb hg_ hnew_; have HO := a_ ho; have HB := a_ hb; clear ho hb hg_ hnew_)
   | ((with_reducible refine gate_builtin (b := .append) (xs := #[.tmp 5, .tmp 6]) rfl ?_); at_builtin; refine Kd.R_append_rows (borK w0 Kd.string) (Rr := Kd.K Kd.string w0) (w0 := w) w.heap.size rfl (.tmp 5) (.tmp 6) 62 9 (.string ⟨#[]⟩) 16 rfl Tryz.underlying62 info9 rfl (show 0 < 1 by decide) (by omega) v5 [] xs _ _ _ (fun _ => True) (fun _ => False) rfl rfl HO.out (HC.out.imp_ (below_step HB0.out HB.out) (fun _ _ h => h)) (fun _ _ h => h) (fun _ h => h.elim) (fun _ _ => trivial) HB.out HB.out.size (by have := HL.out; simp only [List.length_nil, Nat.zero_add]; exact this) ?_; intro v7 w7 ho hb hg hat; rw [List.nil_append] at ho; have HO2 := a_ ho; have HB2 := a_ hb; clear ho hb hg hat HO HB))
  go_ret
  exact ⟨_, rfl, HO2.out, HB2.out⟩
def sc_fit (l0 : List S64) (l2 : List S46) : Bool := decide (l0.length ≤ 2513169434916) && (decide (l2.length ≤ 8796093022208) && l0.all fun x => decide (x.f2.length ≤ 8796093022208))
def session_Copy.f (l0_0 : List S64) (a0_1 : Int) (l0_2 : List S46) : Option (List S64 × Int × List S46) := if sc_fit l0_0 l0_2 = true then some (l0_0, a0_1, l0_2) else none
def session_Copy.T1 : Bool × List (List Nat × List Nat) := (true, [([], []), ([0], [0]), ([1], [1]), ([], []), ([3], [3]), ([4, 2], [4]), ([0, 1, 2, 3, 4], []), ([6, 2, 5, 0, 1, 2, 3, 4], [2, 6]), ([0, 1, 2, 3, 4, 5, 6, 7], []), ([8, 5, 7, 0, 1, 2, 3, 4, 5, 6, 7], [5, 8])])
def session_Copy.B1 : List Nat := [0, 1, 3, 0, 8, 31, 31, 127, 255, 511]
theorem session_Copy.tab1 : rtab .any (opsOf Tryz.f36 1) = session_Copy.T1 := by kernel_rfl
theorem session_Copy.bits1 : waitsOk session_Copy.T1.2 session_Copy.B1 = true := by kernel_rfl
def session_Copy.T5 : Bool × List (List Nat × List Nat) := (true, [([], []), ([0], [0]), ([], []), ([], []), ([3], [3]), ([], []), ([4, 5], [4, 5]), ([6], [6]), ([7], [7]), ([8], [8]), ([1, 2, 0, 1, 2, 3, 4, 5, 6, 7, 8, 9], [1, 2]), ([10, 0, 1, 2, 3, 4, 5, 6, 7, 8, 9], [10]), ([11, 9, 9, 0, 1, 2, 3, 4, 5, 6, 7, 8, 9], [9, 11])])
def session_Copy.B5 : List Nat := [0, 1, 0, 0, 8, 0, 56, 120, 248, 504, 1023, 2047, 4095]
theorem session_Copy.tab5 : rtab .any (opsOf Tryz.f36 5) = session_Copy.T5 := by kernel_rfl
theorem session_Copy.bits5 : waitsOk session_Copy.T5.2 session_Copy.B5 = true := by kernel_rfl
theorem mixL_rd (l : List S64) (x : Int) (h0 : 0 ≤ x) (h1 : x < (l.length : Int)) : (mixL l x.toNat).getD x.toNat (z64, none) = (rd_T64 l x, none) := by
 have hl : x.toNat < l.length := by omega
 rw [List.getD_eq_getElem?_getD, mixL_at, List.getElem?_eq_getElem hl, Option.map_some, if_neg (Nat.lt_irrefl _)]
 show (_, _) = (List.getD _ _ _, _)
 rw [List.getD_eq_getElem?_getD, List.getElem?_eq_getElem hl]; rfl
theorem rd_mem_N (l : List S64) (x : Int) (h0 : 0 ≤ x) (h1 : x < (l.length : Int)) : rd_T64 l x ∈ l := by
 show List.getD _ _ _ ∈ _
 rw [List.getD_eq_getElem?_getD, List.getElem?_eq_getElem (show x.toNat < l.length by omega)]
 exact List.getElem_mem _
theorem rd_some_N (l : List S64) (x : Int) (h0 : 0 ≤ x) (h1 : x < (l.length : Int)) : l[x.toNat]? = some (rd_T64 l x) := by
 have hl : x.toNat < l.length := by omega
 rw [List.getElem?_eq_getElem hl]
 show some _ = some (List.getD _ _ _)
 rw [List.getD_eq_getElem?_getD, List.getElem?_eq_getElem hl]; rfl
theorem wsuccN (x : Int) (h0 : 0 ≤ x) (h1 : x ≤ 9223372036854775806) : wrap64 (x + 1) = x + 1 := by unfold wrap64; omega
theorem sc_spec {l0 : List S64} {l2 : List S46} (h : sc_fit l0 l2 = true) : l0.length ≤ 2513169434916 ∧ l2.length ≤ 8796093022208 ∧ ∀ x ∈ l0, x.f2.length ≤ 8796093022208 := by
 unfold sc_fit at h
 rw [Bool.and_eq_true, Bool.and_eq_true, decide_eq_true_iff, decide_eq_true_iff] at h
 exact ⟨h.1, h.2.1, fun x hx => of_decide_eq_true (List.all_eq_true.1 h.2.2 x hx)⟩
theorem borA {w0 w : World} {e base : Nat} {ok : Nat → Prop} {v : Value} {xs : List S46} (h : (borK w0 k46).R e w base ok v xs) : k46.R e w base ok v xs := Kd.R_imp rfl (fun _ _ _ _ _ h => h) h
theorem borS {w0 w : World} {e base : Nat} {ok : Nat → Prop} {v : Value} {xs : List ByteArray} (h : (borK w0 Kd.string).R e w base ok v xs) : Kd.string.R e w base ok v xs := Kd.R_imp rfl (fun _ _ _ _ _ h => h) h
theorem session_Copy.callsS (A0_0 : Option Addr) (c0_0 : Nat) (l0_0 : List S64) (a0_1 : Int) (A0_2 : Option Addr) (c0_2 : Nat) (l0_2 : List S46) (w : World) (hr0_0 : Kd.C k64 w A0_0 l0_0.length l0_0) (hc0_0 : l0_0.length ≤ c0_0) (hr0_2 : Kd.C k46 w A0_2 l0_2.length l0_2) (hc0_2 : l0_2.length ≤ c0_2) (hfit : sc_fit l0_0 l0_2 = true) :
 Calls Tryz.prog 36 #[.agg #[.slice A0_0 l0_0.length c0_0, .int .i64 a0_1, .slice A0_2 l0_2.length c0_2]] w fun e w' => ∃ v0_ v2_ : Value, e = .returned (.agg #[v0_, .int .i64 a0_1, v2_]) ∧ Kd.S k64 64 w' w.heap.size (fun _ => True) v0_ l0_0 ∧ Kd.R k46 46 w' w.heap.size (fun _ => True) v2_ l0_2 ∧ Below w.heap.size w w' := by
 obtain ⟨hx0, hx2, hxa⟩ := sc_spec hfit
 have HR0 := a_ hr0_0
 have HC0 := a_ hc0_0
 have HR2 := a_ hr0_2
 have HC2 := a_ hc0_2
 have HL0 := a_ (show l0_0.length * 56 ≤ 140737488355328 by omega)
 have HL2 := a_ (show l0_2.length * 16 ≤ 140737488355328 by omega)
 have HLa := a_ hxa
 have hmx := a_ hx0
 clear hr0_0 hc0_0 hr0_2 hc0_2 hx0 hx2 hxa hfit
 have HB := a_ (Below.refl w.heap.size w)
 have hu := Tryz.underlying25
 go_enter Tryz.func36, Tryz.ntmps36
 go_wp2_with (first
  | ((with_reducible refine gate_dst (N := 1) rfl ?_); refine boxE_ 1 #[.slice A0_0 l0_0.length c0_0, .int .i64 a0_1, .slice A0_2 l0_2.length c0_2] 25 ?_; intro gb1 hg w1 hbox hb; have GE1 := a_ (gE_ hg : w.heap.size ≤ gb1); have n0_ := a_ (below_step hB_ hb); clear HB; have HB := n0_; have BK1 := a_ hbox; clear n0_ hg hbox hb)
  | ((with_reducible refine gate_dst (N := 2) rfl ?_); refine boxE_ 2 #[.slice none 0 0, .int .i64 0, .slice none 0 0] 25 ?_; intro gb2 hg w2 hbox hb; have GE2 := a_ (gE_ hg : w.heap.size ≤ gb2); have NB := a_ (bL_ BK1.out hg : gb1 ≠ gb2); have n0_ := a_ (below_step hC_ hb); have n1_ := a_ (bB_ BK1.out hb); clear HB BK1; have HB := n0_; have BK1 := n1_; have BK2 := a_ hbox; clear n0_ n1_ hg hbox hb))
 replace BK1 := a_ (blk_drew BK1.out)
 replace BK2 := a_ (blk_drew BK2.out)
 replace HB := a_ (below_drew1 HB.out)
 refine start_ (n := 10) (S := fun w' => w'.cell? ⟨gb1, 0, none⟩ = some (.slice A0_0 l0_0.length c0_0) ∧ w'.cell? ⟨gb1, 2, none⟩ = some (.slice A0_2 l0_2.length c0_2)) (ds := [7, 9]) #[false, false, false, false, false, false, false, false, false, false] (by kernel_rfl) rfl rfl ⟨bc0_ BK1.out, bc2_ BK1.out⟩ (fun hHeld => ?_)
 refine with_tabW session_Copy.tab1 session_Copy.bits1 (fun HT_ HW_ => ?_)
 generalize w2.drew = w3 at BK1 BK2 HB hHeld ⊢
 refine pB_ 0 4 HT_.out ?_
 refine pB_ 3 7 HT_.out ?_
 refine tB_ 1 5 HT_.out HW_.out hHeld ?_
 refine tB_ 4 8 HT_.out HW_.out hHeld ?_
 refine one_ (i := 2) (N := some 6) #[true, true, true, true, true, false, false, false, false, false] rfl rfl (one_of HT_.out (by kernel_rfl)) (by decide) (fun K hK => ?_)
 refine goes_ Tryz.func48 (by kernel_rfl) rfl #[.slice A0_0 l0_0.length c0_0] (by rfl) rfl rfl hL_ ?_
 refine (clN.calls A0_0 c0_0 l0_0 w _ HB.out HR0.out HL0.out).mono ?_
 rintro e w4 ⟨v0, rfl, ho0, hb⟩
 refine ⟨_, rfl, ?_⟩
 have HO0 := a_ (Kd.R_lower ho0 HB.out.size)
 have BK1' := a_ (blk_below BK1.out hb)
 have BK2' := a_ (blk_below BK2.out hb)
 have HB' := a_ (below_step HB.out hb)
 clear BK1 BK2 ho0 hb
 obtain ⟨Ao, co, e0⟩ := Kd.R_slice HO0.out
 subst e0
 refine hK.out _ _ ⟨bc0_ BK1'.out, bc2_ BK1'.out⟩ (fun hHeld => ?_)
 clear hK K
 refine norm_ (a' := ?_) ?_ ?_
 rotate_left
 · show Act.put _ (some 6) _ = _
   simp only [Act.put, List.setIfInBounds_toArray, List.set_cons_zero, List.set_cons_succ, i64_w, i32_w]
   rfl
 refine pB_ 6 10 HT_.out ?_
 refine one_ (i := 5) (N := some 9) #[true, true, true, true, true, true, true, false, false, false] rfl rfl (one_of HT_.out (by kernel_rfl)) (by decide) (fun K hK => ?_)
 refine goes_ Tryz.func49 (by kernel_rfl) rfl #[.slice A0_2 l0_2.length c0_2] (by rfl) rfl rfl hL_ ?_
 refine (clA.calls A0_2 c0_2 l0_2 w _ HB'.out HR2.out HL2.out).mono ?_
 rintro e w5 ⟨v2, rfl, ho2, hb⟩
 refine ⟨_, rfl, ?_⟩
 have HO2 := a_ (borA (Kd.R_lower ho2 HB'.out.size))
 have HO0' := a_ (Kd.R_below HO0.out hb)
 have BK1 := a_ (blk_below BK1'.out hb)
 have BK2 := a_ (blk_below BK2'.out hb)
 have HB5 := a_ (below_step HB'.out hb)
 clear BK1' BK2' ho2 hb HO0 HB'
 obtain ⟨Ao2, co2, e2⟩ := Kd.R_slice HO2.out
 subst e2
 refine hK.out _ _ ⟨bc0_ BK1.out, bc2_ BK1.out⟩ (fun hHeld => ?_)
 clear hK K
 refine norm_ (a' := ?_) ?_ ?_
 rotate_left
 · show Act.put _ (some 9) _ = _
   simp only [Act.put, List.setIfInBounds_toArray, List.set_cons_zero, List.set_cons_succ, i64_w, i32_w]
   rfl
 refine last_ (i := 7) (N := none) #[true, true, true, true, true, true, true, true, false, false] rfl rfl (one_of HT_.out (by kernel_rfl)) (by decide) (fun K hK => ?_)
 obtain ⟨hc0, hc1, hc2, hf0, hf1, hf2⟩ := bx3_ BK1.out
 refine skip_ (w1 := ?_) (by rfl) rfl ?_ ?_
 rotate_left
 · go_simp
   rfl
 refine hK.out _ _ ?_
 clear hK K hc0 hc1 hc2 hf0 hf1 hf2 hHeld
 have n0_ : Aside0 _ := a_ (bP_ (u := .slice Ao l0_0.length co) (i := 0) (cs' := #[.slice Ao l0_0.length co, .int .i64 a0_1, .slice A0_2 l0_2.length c0_2]) BK1.out)
 have n1_ := a_ (bF_ (p := ⟨gb1, 0, none⟩) (u := .slice Ao l0_0.length co) BK2.out (Ne.symm NB.out))
 have n2_ := a_ (Kd.R_drop (rF_ (j := 0) (u := .slice Ao l0_0.length co) (Kd.R_types HO0'.out BK1.out (show ∀ q, q ∈ ([64, 9] : List Nat) → q ≠ 25 by decide))))
 have n3_ := a_ (Kd.R_drop (rF_ (j := 0) (u := .slice Ao l0_0.length co) (Kd.R_types HO2.out BK1.out (by decide))))
 have n4_ := a_ (below_set (j := 0) (v := .slice Ao l0_0.length co) HB5.out GE1.out)
 clear BK1 BK2 HO0' HO2 HB5
 have BK1 := n0_
 have BK2 := n1_
 have HO0' := n2_
 have HO2 := n3_
 have HB5 := n4_
 clear n0_ n1_ n2_ n3_ n4_
 generalize w5.setCell ⟨gb1, 0, none⟩ (.slice Ao l0_0.length co) = w6 at BK1 BK2 HO0' HO2 HB5 ⊢
 refine pB_ 8 11 HT_.out ?_
 refine last_ (i := 9) (N := none) #[true, true, true, true, true, true, true, true, true, true] rfl rfl (one_of HT_.out (by kernel_rfl)) (by decide) (fun K hK => ?_)
 obtain ⟨hc0, hc1, hc2, hf0, hf1, hf2⟩ := bx3_ BK1.out
 refine skip_ (w1 := ?_) (by rfl) rfl ?_ ?_
 rotate_left
 · go_simp
   rfl
 refine hK.out _ _ ?_
 clear hK K hc0 hc1 hc2 hf0 hf1 hf2
 have n0_ := a_ (bP_ (u := .slice Ao2 l0_2.length co2) (i := 2) (cs' := #[.slice Ao l0_0.length co, .int .i64 a0_1, .slice Ao2 l0_2.length co2]) BK1.out)
 have n1_ := a_ (bF_ (p := ⟨gb1, 2, none⟩) (u := .slice Ao2 l0_2.length co2) BK2.out (Ne.symm NB.out))
 have n2_ := a_ (Kd.R_drop (rF_ (j := 2) (u := .slice Ao2 l0_2.length co2) (Kd.R_types HO0'.out BK1.out (show ∀ q, q ∈ ([64, 9] : List Nat) → q ≠ 25 by decide))))
 have n3_ := a_ (Kd.R_drop (rF_ (j := 2) (u := .slice Ao2 l0_2.length co2) (Kd.R_types HO2.out BK1.out (by decide))))
 have n4_ := a_ (below_set (j := 2) (v := .slice Ao2 l0_2.length co2) HB5.out GE1.out)
 clear BK1 BK2 HO0' HO2 HB5
 have BK1 := n0_
 have BK2 := n1_
 have HO0' := n2_
 have HO2 := n3_
 have HB5 := n4_
 clear n0_ n1_ n2_ n3_ n4_
 generalize w6.setCell ⟨gb1, 2, none⟩ (.slice Ao2 l0_2.length co2) = w7 at BK1 BK2 HO0' HO2 HB5 ⊢
 refine done_ (done_of HT_.out (by kernel_rfl)) ?_
 clear HT_ HW_
 have HM := a_ (mix_start (f := fun _ => 0) HO0'.out)
 clear HO0'
 obtain ⟨hc0, hc1, hc2, hf0, hf1, hf2⟩ := bx3_ BK1.out
 go_wp2
 clear hc0 hc1 hc2 hf0 hf1 hf2
 go_loopw [15] (fun v wr => ∃ x : Int, v = .int .i64 x ∧ Aside0 (0 ≤ x ∧ x ≤ (l0_0.length : Int)) ∧ Aside0 (wr.heap[gb1]? = some (.cells #[.slice Ao l0_0.length co, .int .i64 a0_1, .slice Ao2 l0_2.length co2] 25 (0, 0))) ∧ Aside0 (wr.heap[gb2]? = some (.cells #[.slice none 0 0, .int .i64 0, .slice none 0 0] 25 (0, 0))) ∧ Aside0 (k46.R 46 wr w.heap.size (fun _ => True) (.slice Ao2 l0_2.length co2) l0_2) ∧ Aside0 (Below w.heap.size w wr) ∧ Aside0 (∃ f, (mixK w f k64).R 64 wr w.heap.size (fun _ => True) (.slice Ao l0_0.length co) (mixL l0_0 x.toNat))) (fun v _ => l0_0.length - (intOf v).toNat)
 case atStart => exact ⟨0, rfl, ⟨by omega, by omega⟩, BK1, BK2, HO2, HB5, ⟨⟨_, HM.out⟩⟩⟩
 case round =>
  clear BK1 BK2 HO2 HB5 HM
  obtain ⟨x, rfl, HX, BK1, BK2, HO2, HB, HM⟩ := hrel
  by_cases hlt : x < (l0_0.length : Int)
  case neg =>
   have hltb := decide_eq_false hlt
   obtain ⟨f, hM⟩ := HM.out
   have hxl : x.toNat = l0_0.length := by have := HX.out; omega
   rw [hxl] at hM
   have hS := a_ (mix_end hM)
   obtain ⟨hc0, hc1, hc2, hf0, hf1, hf2⟩ := bx3_ BK1.out
   obtain ⟨kc0, kc1, kc2, kf0, kf1, kf2⟩ := bx3_ BK2.out
   have hn1 := NB.out
   have hn2 := Ne.symm NB.out
   clear hM HM hlt hxl
   go_wp2
   refine bodyPost_ret (results_cell_row rfl _ _ gb2 25 #[.slice Ao l0_0.length co, .int .i64 a0_1, .slice Ao2 l0_2.length co2] (0, 0) _ rfl (bP_ (i := 2) (cs' := #[.slice Ao l0_0.length co, .int .i64 a0_1, .slice Ao2 l0_2.length co2]) (bP_ (i := 1) (cs' := #[.slice Ao l0_0.length co, .int .i64 a0_1, .slice none 0 0]) (bP_ (i := 0) (cs' := #[.slice Ao l0_0.length co, .int .i64 0, .slice none 0 0]) BK2.out))) hu rfl (by kernel_rfl)) rfl ?_
   refine ⟨_, _, rfl, ?_, ?_, ?_⟩
   · exact Kd.S_mono (sF_ (sF_ (sF_ (Kd.S_types hS.out BK2.out (show ∀ q, q ∈ ([64, 9] : List Nat) → q ≠ 25 by decide))))) (fun _ _ => trivial)
   · exact Kd.R_mono (rF_ (rF_ (rF_ (Kd.R_types HO2.out BK2.out (by decide))))) (fun _ _ => trivial)
   · exact below_set (below_set (below_set HB.out GE2.out) GE2.out) GE2.out
  have hltb := decide_eq_true hlt
  obtain ⟨f, hM⟩ := HM.out
  have hx0 := HX.out.1
  obtain ⟨g, cap, e, hbg, hgl, cells, hgc⟩ := Kd.R_form hM (by rw [mixL_len]; omega)
  rw [mixL_len] at e
  injection e with e1 e2_ e3
  subst e1 e3
  obtain ⟨c, hcl, hcM, hcc, hfz⟩ := Kd.R_elem hM (z64, none) x hx0 (by omega)
  rw [mixL_rd l0_0 x hx0 hlt] at hcM
  obtain ⟨A2e, c2e, rfl, hl2e, hC2e⟩ := k64_open (show k64.K w (rd_T64 l0_0 x) c from hcM)
  have hcell : wr.drew.cell? ⟨g, x.toNat * 4 + 2, none⟩ = some (.slice A2e (rd_T64 l0_0 x).f2.length c2e) := hcc 2 _ rfl
  have HF := a_ (show (rd_T64 l0_0 x).f2.length * 16 ≤ 140737488355328 by have := HLa.out _ (rd_mem_N l0_0 x hx0 hlt); omega)
  have HE := a_ (And.intro hx0 (And.intro hlt (And.intro hbg (And.intro hl2e hC2e))))
  have HM' := a_ (Kd.R_drew hM)
  have HCC := a_ (show ∀ j u, [Value.int .i64 (rd_T64 l0_0 x).f0, .int .i64 (rd_T64 l0_0 x).f1, .slice A2e (rd_T64 l0_0 x).f2.length c2e, .string (rd_T64 l0_0 x).f3][j]? = some u → wr.drew.cell? ⟨g, x.toNat * 4 + j, none⟩ = some u from hcc)
  have HGC := a_ (show wr.drew.heap[g]? = some (.cells cells 64 (0, 0)) from hgc)
  replace BK1 := a_ (blk_drew BK1.out)
  replace BK2 := a_ (blk_drew BK2.out)
  replace HB := a_ (below_drew1 HB.out)
  replace HO2 := a_ (Kd.R_drew HO2.out)
  clear HM hM hbg hgl hgc hcl hcM hcc hfz hl2e hC2e
  have hlt_ := eq_true hlt
  have hx0_ := eq_true hx0
  have hu1 := Tryz.underlying64
  have hu2 := Tryz.underlying22
  clear hlt hx0
  have HX0 := a_ hcell
  clear hcell
  go_wp2
  have hcell := HX0.out
  refine start_ (n := 13) (S := fun w' => w'.cell? ⟨gb1, 0, none⟩ = some (.slice (some ⟨g, 0, none⟩) l0_0.length co) ∧ w'.cell? ⟨g, x.toNat * 4 + 2, none⟩ = some (.slice A2e (rd_T64 l0_0 x).f2.length c2e)) (ds := [12]) #[false, false, false, false, false, false, false, false, false, false, false, false, false] (by kernel_rfl) rfl rfl ⟨bc0_ BK1.out, hcell⟩ (fun hHeld => ?_)
  refine with_tabW session_Copy.tab5 session_Copy.bits5 (fun HT_ HW_ => ?_)
  clear hcell HX0
  generalize wr.drew = w3 at BK1 BK2 HB HO2 HM' HCC HGC hHeld ⊢
  refine pB_ 0 18 HT_.out ?_
  refine pB_ 2 20 HT_.out ?_
  refine pB_ 3 21 HT_.out ?_
  refine pB_ 5 23 HT_.out ?_
  refine tB_ 1 19 HT_.out HW_.out hHeld ?_
  refine tB_ 4 22 HT_.out HW_.out hHeld ?_
  refine pB_ 6 24 HT_.out ?_
  refine pB_ 7 25 HT_.out ?_
  refine tB_ 8 26 HT_.out HW_.out hHeld ?_
  refine one_ (i := 9) (N := some 27) #[true, true, true, true, true, true, true, true, true, true, false, false, false] rfl rfl (one_of HT_.out (by kernel_rfl)) (by decide) (fun K hK => ?_)
  refine goes_ Tryz.func50 (by kernel_rfl) rfl #[.slice A2e (rd_T64 l0_0 x).f2.length c2e] (by rfl) rfl rfl hL_ ?_
  refine (clS.calls A2e c2e (rd_T64 l0_0 x).f2 w _ HB.out HE.out.2.2.2.2 HF.out).mono ?_
  rintro e w4 ⟨v5, rfl, ho, hb⟩
  refine ⟨_, rfl, ?_⟩
  have HOS := a_ (borS ho)
  obtain ⟨A5, c5, e5⟩ := Kd.R_slice HOS.out
  subst e5
  have n0_ := a_ (blk_below BK1.out hb)
  have n1_ := a_ (blk_below BK2.out hb)
  have n2_ := a_ (below_step HB.out hb)
  have n3_ := a_ (Kd.R_below HO2.out hb)
  have n4_ := a_ (And.intro HM'.out hb)
  have HGL := a_ (blk_lt HGC.out)
  have n5_ := a_ (blk_below HGC.out hb)
  have HCC' := a_ (fun j u (hu : [Value.int .i64 (rd_T64 l0_0 x).f0, .int .i64 (rd_T64 l0_0 x).f1, .slice A2e (rd_T64 l0_0 x).f2.length c2e, .string (rd_T64 l0_0 x).f3][j]? = some u) => (hb.cell (World.block_lt_of_cell? w3 _ (HCC.out j u hu))).trans (HCC.out j u hu))
  clear BK1 BK2 HB HO2 HM' HGC
  have BK1 := n0_
  have BK2 := n1_
  have HB := n2_
  have HO2 := n3_
  have HM' := n4_
  have HGC := n5_
  clear n0_ n1_ n2_ n3_ n4_ n5_
  clear HCC ho hb
  refine hK.out _ _ ⟨bc0_ BK1.out, HCC'.out 2 _ rfl⟩ (fun hHeld => ?_)
  clear hK K
  refine norm_ (a' := ?_) ?_ ?_
  rotate_left
  · show Act.put _ (some 27) _ = _
    simp only [Act.put, List.setIfInBounds_toArray, List.set_cons_zero, List.set_cons_succ, i64_w, i32_w]
    rfl
  refine pB_ 10 28 HT_.out ?_
  refine pB_ 11 29 HT_.out ?_
  refine last_ (i := 12) (N := none) #[true, true, true, true, true, true, true, true, true, true, true, true, true] rfl rfl (one_of HT_.out (by kernel_rfl)) (by decide) (fun K hK => ?_)
  have hcell := HCC'.out 2 _ rfl
  have hfrz := blk_frozen HGC.out (x.toNat * 4 + 2)
  refine skip_ (w1 := ?_) (by rfl) rfl ?_ ?_
  rotate_left
  · go_simp
    rfl
  refine hK.out _ _ ?_
  clear hK K hHeld
  refine done_ (done_of HT_.out (by kernel_rfl)) ?_
  go_wp2
  obtain ⟨hx0, hlt, hbg, hl2e, hC2e⟩ := HE.out
  have hw : wrap64 (x + 1) = x + 1 := wsuccN x hx0 (by have := hmx.out; omega)
  have hng1 : gb1 ≠ g := blk_ne BK1.out HGC.out (by decide)
  have hng2 : gb2 ≠ g := blk_ne BK2.out HGC.out (by decide)
  have hR' := Kd.R_below (mix_tag (f' := fun k => if k < w3.heap.size then f k else x.toNat) HM'.out.1 (fun k hk => by rw [if_pos hk])) HM'.out.2
  have hST : Kd.string.R 9 w4 w.heap.size (fun k => w3.heap.size ≤ k ∧ (if k < w3.heap.size then f k else x.toNat) = x.toNat) (.slice A5 (rd_T64 l0_0 x).f2.length c5) (rd_T64 l0_0 x).f2 := Kd.R_lower (Kd.R_mono (Kd.R_bound HOS.out) (fun k hk => ⟨hk.2.1, by rw [if_neg (Nat.not_lt.2 hk.2.1)]⟩)) (Nat.le_trans hbg (Nat.le_of_lt HGL.out))
  have hSEG := (Kd.R_seg (okp := fun k => w3.heap.size ≤ k) hR' x hx0 (by omega) (seg := [.slice A5 (rd_T64 l0_0 x).f2.length c5]) (j := 2) (x' := (rd_T64 l0_0 x, some x.toNat)) rfl HCC'.out (show 2 + 1 ≤ 4 by decide) (k64_mkM w4 w.heap.size _ (rd_T64 l0_0 x) hST) (fun k hk => ⟨trivial, fun e => by have := HGL.out; omega⟩)).1
  rw [mixL_set l0_0 x.toNat (rd_T64 l0_0 x) (rd_some_N l0_0 x hx0 hlt)] at hSEG
  rw [hw]
  refine ⟨⟨x + 1, rfl, ⟨by omega, by omega⟩, ⟨bF_ (p := ⟨g, x.toNat * 4 + 2, none⟩) (u := .slice A5 (rd_T64 l0_0 x).f2.length c5) BK1.out hng1⟩, ⟨bF_ (p := ⟨g, x.toNat * 4 + 2, none⟩) (u := .slice A5 (rd_T64 l0_0 x).f2.length c5) BK2.out hng2⟩, ⟨Kd.R_drop (Kd.R_far (p := ⟨g, x.toNat * 4 + 2, none⟩) (Kd.R_types HO2.out HGC.out (by decide)) (fun _ hk => hk.2) (.slice A5 (rd_T64 l0_0 x).f2.length c5))⟩, ⟨HB.out.setCell (p := ⟨g, x.toNat * 4 + 2, none⟩) hbg (.slice A5 (rd_T64 l0_0 x).f2.length c5)⟩, ⟨⟨fun k => if k < w3.heap.size then f k else x.toNat, ?_⟩⟩⟩, by simp only [intOf]; omega⟩
  rw [show (x + 1).toNat = x.toNat + 1 by omega]
  exact hSEG
theorem session_Copy.calls (A0_0 : Option Addr) (c0_0 : Nat) (l0_0 : List S64) (a0_1 : Int) (A0_2 : Option Addr) (c0_2 : Nat) (l0_2 : List S46) (r1 : List S64) (r2 : Int) (r3 : List S46) (w : World) (hr0_0 : Kd.C k64 w A0_0 l0_0.length l0_0) (hc0_0 : l0_0.length ≤ c0_0) (hr0_2 : Kd.C k46 w A0_2 l0_2.length l0_2) (hc0_2 : l0_2.length ≤ c0_2) (h : session_Copy.f l0_0 a0_1 l0_2 = some (r1, r2, r3)) :
 Calls Tryz.prog 36 #[.agg #[.slice A0_0 l0_0.length c0_0, .int .i64 a0_1, .slice A0_2 l0_2.length c0_2]] w fun e w' => ∃ v0_ v2_ : Value, e = .returned (.agg #[v0_, .int .i64 r2, v2_]) ∧ Kd.N k64 64 w' w.heap.size (fun _ => True) v0_ r1 ∧ Kd.R k46 46 w' w.heap.size (fun _ => True) v2_ r3 ∧ Below w.heap.size w w' := by
 unfold session_Copy.f at h
 by_cases c : sc_fit l0_0 l0_2 = true
 case neg =>
  rw [if_neg c] at h; cases h

 rw [if_pos c] at h
 obtain ⟨rfl, h2⟩ := Prod.mk.inj (Option.some.inj h)
 obtain ⟨rfl, rfl⟩ := Prod.mk.inj h2
 refine (session_Copy.callsS A0_0 c0_0 l0_0 a0_1 A0_2 c0_2 l0_2 w hr0_0 hc0_0 hr0_2 hc0_2 c).mono ?_
 rintro e w' ⟨v0, v2, h1, h2, h3, h4⟩
 exact ⟨v0, v2, h1, Kd.R_N (Kd.S_R h2), h3, h4⟩
end Go.Proofs.YtgokcaccamfgfaaGreatDoor.G
end
section
-- Laid by the session's own driver gp.py over the kit's printer. Not trusted: Lean checks it.
namespace Go.Proofs.YtgokcaccamfgfaaGreatDoor.G
open Go.RowKit Go.Proofs.YtgokcaccamfgfaaGreatDoorW.PrintWords Go.Proofs.YtgokcaccamfgfaaGreatDoorW.PrintLast Go.Proofs.YtgokcaccamfgfaaGreatDoorW.PrintMore
set_option maxHeartbeats 8000000
set_option maxRecDepth 100000
attribute [local go_sem] max2_int min2_int max_two min_two max_three min_three max_four min_four   -- for this text's walks alone
set_option linter.unusedVariables false
set_option linter.unusedSimpArgs false

def session_New.f (k : Nat) (l0 : List S64) (a1 : Int) : Option (List S64 × Int × List S46 × Int) := (session_fresh.f k l0 a1).bind fun t => if t = true then (session_Copy.f l0 a1 []).bind fun b => some (b.1, b.2.1, b.2.2, 0) else some ([], 0, [], 2100)
theorem session_New.mono : ∀ a0 a1 k, LeO (session_New.f k a0 a1) (session_New.f (k + 1) a0 a1) := by
 intro a0 a1 k
 unfold session_New.f
 exact LeO.bind (session_fresh.mono _ _ _) (fun _ => LeO.refl _)
theorem session_New.callsS (k : Nat) (A0 : Option Addr) (c0 : Nat) (l0 : List S64) (a1 : Int) (r1 : List S64) (r2 : Int) (r3 : List S46) (r4 : Int) (w : World) (hr0 : Kd.C k64 w A0 l0.length l0) (hc0 : l0.length ≤ c0) (h : session_New.f k l0 a1 = some (r1, r2, r3, r4)) (hG : GOK w) :
 Calls Tryz.prog 18 #[.slice A0 l0.length c0, .int .i64 a1] w fun e w' => ∃ v0_ v2_ : Value, e = .returned (.tuple #[.agg #[v0_, .int .i64 r2, v2_], .int .i64 r4]) ∧ Kd.S k64 64 w' w.heap.size (fun _ => True) v0_ r1 ∧ Kd.R k46 46 w' w.heap.size (fun _ => True) v2_ r3 ∧ Below w.heap.size w w' := by
 have HR0 := a_ hr0
 have HC0 := a_ hc0
 have HG := a_ hG
 have HB := a_ (Below.refl w.heap.size w)
 have hu := Tryz.underlying25
 unfold session_New.f at h
 obtain ⟨t, A1, h⟩ := Option.bind_eq_some_iff.mp h
 have HA := a_ A1
 clear A1 hr0 hc0 hG
 cases t with
 | false =>
  rw [if_neg Bool.false_ne_true] at h
  obtain ⟨rfl, h2⟩ := Prod.mk.inj (Option.some.inj h)
  obtain ⟨rfl, h3⟩ := Prod.mk.inj h2
  obtain ⟨rfl, rfl⟩ := Prod.mk.inj h3
  clear h h2 h3
  go_enter Tryz.func18, Tryz.ntmps18
  go_wp2_with (first
   | ((with_reducible refine gate_dst (N := 4) rfl ?_); refine boxE_ 4 #[.slice none 0 0, .int .i64 0, .slice none 0 0] 25 ?_; intro gb4 hg w1 hbox hb; have GE4 := a_ (gE_ hg : w.heap.size ≤ gb4); have n0_ := a_ (below_step hB_ hb); clear HB; have HB := n0_; have BK4 := a_ hbox; clear n0_ hg hbox hb)
   | ((with_reducible refine gate_dst (N := 6) rfl ?_); refine boxE_ 6 #[.slice none 0 0, .int .i64 0, .slice none 0 0] 25 ?_; intro gb6 hg w2 hbox hb; have GE6 := a_ (gE_ hg : w.heap.size ≤ gb6); have NB := a_ (bL_ BK4.out hg : gb4 ≠ gb6); have n0_ := a_ (below_step hC_ hb); have n1_ := a_ (bB_ BK4.out hb); clear HB BK4; have HB := n0_; have BK4 := n1_; have BK6 := a_ hbox; clear n0_ n1_ hg hbox hb; obtain ⟨hc0_, hc1_, hc2_, hf0_, hf1_, hf2_⟩ := bx3_ BK6.out)
   | ((with_reducible refine gate_store (t := 25) (p := 6) rfl ?_); refine store_event (t := 25) (p := 6) (v := ?vo) (w1 := (((w2.setCell ⟨gb6, 0, none⟩ (.slice A0 l0.length c0)).setCell ⟨gb6, 1, none⟩ (.int .i64 a1)).setCell ⟨gb6, 2, none⟩ (.slice none 0 0))) ?hg ?ho ?hn ?hr ?_; (case ho => rfl); (case hg => rfl); (case hn => rfl); (case hr => first | (go_simp; done) | (go_simp; rfl)); intro w3 hw; replace BK6 := a_ (show w3.heap[gb6]? = some (.cells #[.slice A0 l0.length c0, .int .i64 a1, .slice none 0 0] 25 (0, 0)) by rw [hw]; exact bP_ (cs' := #[.slice A0 l0.length c0, .int .i64 a1, .slice none 0 0]) (bP_ (cs' := #[.slice A0 l0.length c0, .int .i64 a1, .slice none 0 0]) (bP_ (cs' := #[.slice A0 l0.length c0, .int .i64 0, .slice none 0 0]) BK6.out))); replace BK4 := a_ (show w3.heap[gb4]? = some (.cells #[.slice none 0 0, .int .i64 0, .slice none 0 0] 25 (0, 0)) by rw [hw]; exact bF_ (bF_ (bF_ BK4.out NB.out) NB.out) NB.out); replace HB := a_ (show Below w.heap.size w w3 by rw [hw]; exact below_set (below_set (below_set HB.out GE6.out) GE6.out) GE6.out); clear hw hc0_ hc1_ hc2_ hf0_ hf1_ hf2_; obtain ⟨hc0_, hc1_, hc2_, hf0_, hf1_, hf2_⟩ := bx3_ BK6.out)
   | ((with_reducible refine gate_callee (f := 35) rfl ?_); refine goesL_ (some 10) rfl rfl Tryz.func35 (by kernel_rfl) rfl #[.pointer (some ⟨gb6, 0, none⟩)] rfl hL_ ?_; refine (session_fresh.calls k ⟨gb6, 0, none⟩ A0 c0 l0 a1 false _ (bc0_ BK6.out) (bc1_ BK6.out) (Kd.C_below HR0.out HB.out) HC0.out HA.out (GOK.below HG.out HB.out)).mono ?_; rintro e w5 ⟨rfl, hb⟩; refine ⟨_, rfl, ?_⟩; replace BK6 := a_ (blk_below BK6.out hb); replace BK4 := a_ (blk_below BK4.out hb); replace HB := a_ (below_step HB.out hb); clear hc0_ hc1_ hc2_ hf0_ hf1_ hf2_ hb; obtain ⟨hc0_, hc1_, hc2_, hf0_, hf1_, hf2_⟩ := bx3_ BK6.out; obtain ⟨kc0_, kc1_, kc2_, kf0_, kf1_, kf2_⟩ := bx3_ BK4.out; have hn1_ := NB.out; have hn2_ := Ne.symm NB.out))
  refine bodyPost_ret (results_ct rfl _ _ gb4 25 #[.slice none 0 0, .int .i64 0, .slice none 0 0] (0, 0) _ rfl (bP_ (cs' := #[.slice none 0 0, .int .i64 0, .slice none 0 0]) (bP_ (cs' := #[.slice none 0 0, .int .i64 0, .slice none 0 0]) (bP_ (cs' := #[.slice none 0 0, .int .i64 0, .slice none 0 0]) BK4.out))) hu rfl (by kernel_rfl)) rfl ?_
  exact ⟨_, _, rfl, Kd.S_nil _ _ _ _ _, Kd.R_nil _ _ _ _ _, below_set (below_set (below_set HB.out GE4.out) GE4.out) GE4.out⟩
 | true =>
  rw [if_pos rfl] at h
  obtain ⟨b, hb0, h⟩ := Option.bind_eq_some_iff.mp h
  unfold session_Copy.f at hb0
  by_cases c : sc_fit l0 ([] : List S46) = true
  case neg =>
   rw [if_neg c] at hb0; cases hb0
  rw [if_pos c] at hb0
  obtain rfl := Option.some.inj hb0
  obtain ⟨rfl, h2⟩ := Prod.mk.inj (Option.some.inj h)
  obtain ⟨rfl, h3⟩ := Prod.mk.inj h2
  obtain ⟨rfl, rfl⟩ := Prod.mk.inj h3
  have HF := a_ c
  clear h h2 h3 hb0 c
  go_enter Tryz.func18, Tryz.ntmps18
  go_wp2_with (first
   | ((with_reducible refine gate_dst (N := 4) rfl ?_); refine boxE_ 4 #[.slice none 0 0, .int .i64 0, .slice none 0 0] 25 ?_; intro gb4 hg w1 hbox hb; have GE4 := a_ (gE_ hg : w.heap.size ≤ gb4); have n0_ := a_ (below_step hB_ hb); clear HB; have HB := n0_; have BK4 := a_ hbox; clear n0_ hg hbox hb)
   | ((with_reducible refine gate_dst (N := 6) rfl ?_); refine boxE_ 6 #[.slice none 0 0, .int .i64 0, .slice none 0 0] 25 ?_; intro gb6 hg w2 hbox hb; have GE6 := a_ (gE_ hg : w.heap.size ≤ gb6); have NB := a_ (bL_ BK4.out hg : gb4 ≠ gb6); have n0_ := a_ (below_step hC_ hb); have n1_ := a_ (bB_ BK4.out hb); clear HB BK4; have HB := n0_; have BK4 := n1_; have BK6 := a_ hbox; clear n0_ n1_ hg hbox hb; obtain ⟨hc0_, hc1_, hc2_, hf0_, hf1_, hf2_⟩ := bx3_ BK6.out)
   | ((with_reducible refine gate_store (t := 25) (p := 6) rfl ?_); refine store_event (t := 25) (p := 6) (v := ?vo) (w1 := (((w2.setCell ⟨gb6, 0, none⟩ (.slice A0 l0.length c0)).setCell ⟨gb6, 1, none⟩ (.int .i64 a1)).setCell ⟨gb6, 2, none⟩ (.slice none 0 0))) ?hg ?ho ?hn ?hr ?_; (case ho => rfl); (case hg => rfl); (case hn => rfl); (case hr => first | (go_simp; done) | (go_simp; rfl)); intro w3 hw; replace BK6 := a_ (show w3.heap[gb6]? = some (.cells #[.slice A0 l0.length c0, .int .i64 a1, .slice none 0 0] 25 (0, 0)) by rw [hw]; exact bP_ (cs' := #[.slice A0 l0.length c0, .int .i64 a1, .slice none 0 0]) (bP_ (cs' := #[.slice A0 l0.length c0, .int .i64 a1, .slice none 0 0]) (bP_ (cs' := #[.slice A0 l0.length c0, .int .i64 0, .slice none 0 0]) BK6.out))); replace BK4 := a_ (show w3.heap[gb4]? = some (.cells #[.slice none 0 0, .int .i64 0, .slice none 0 0] 25 (0, 0)) by rw [hw]; exact bF_ (bF_ (bF_ BK4.out NB.out) NB.out) NB.out); replace HB := a_ (show Below w.heap.size w w3 by rw [hw]; exact below_set (below_set (below_set HB.out GE6.out) GE6.out) GE6.out); clear hw hc0_ hc1_ hc2_ hf0_ hf1_ hf2_; obtain ⟨hc0_, hc1_, hc2_, hf0_, hf1_, hf2_⟩ := bx3_ BK6.out)
   | ((with_reducible refine gate_callee (f := 35) rfl ?_); refine goesL_ (some 10) rfl rfl Tryz.func35 (by kernel_rfl) rfl #[.pointer (some ⟨gb6, 0, none⟩)] rfl hL_ ?_; refine (session_fresh.calls k ⟨gb6, 0, none⟩ A0 c0 l0 a1 true _ (bc0_ BK6.out) (bc1_ BK6.out) (Kd.C_below HR0.out HB.out) HC0.out HA.out (GOK.below HG.out HB.out)).mono ?_; rintro e w5 ⟨rfl, hb⟩; refine ⟨_, rfl, ?_⟩; replace BK6 := a_ (blk_below BK6.out hb); replace BK4 := a_ (blk_below BK4.out hb); replace HB := a_ (below_step HB.out hb); clear hc0_ hc1_ hc2_ hf0_ hf1_ hf2_ hb; obtain ⟨hc0_, hc1_, hc2_, hf0_, hf1_, hf2_⟩ := bx3_ BK6.out; obtain ⟨kc0_, kc1_, kc2_, kf0_, kf1_, kf2_⟩ := bx3_ BK4.out; have hn1_ := NB.out; have hn2_ := Ne.symm NB.out)
   | ((with_reducible refine gate_callee (f := 36) rfl ?_); refine goesL_ (some 14) rfl rfl Tryz.func36 (by kernel_rfl) rfl #[.agg #[.slice A0 l0.length c0, .int .i64 a1, .slice none 0 0]] rfl hL_ ?_; refine (session_Copy.callsS A0 c0 l0 a1 none 0 ([] : List S46) _ (Kd.C_below HR0.out HB.out) HC0.out (Kd.C_nil _ _) (Nat.le_refl _) HF.out).mono ?_; rintro e w7 ⟨v0, v2, rfl, ho0, ho2, hb⟩; refine ⟨_, rfl, ?_⟩; have n1_ := a_ (blk_below BK4.out hb); have n2_ := a_ (below_step HB.out hb); have HO0 := a_ (Kd.S_lower ho0 HB.out.size); have HO2 := a_ (Kd.R_lower ho2 HB.out.size); clear hc0_ hc1_ hc2_ hf0_ hf1_ hf2_ kc0_ kc1_ kc2_ kf0_ kf1_ kf2_ BK6 BK4 HB hb ho0 ho2; have BK4 := n1_; have HB := n2_; clear n1_ n2_; obtain ⟨Ao, co, e0⟩ := Kd.S_slice HO0.out; subst e0; obtain ⟨Ao2, co2, e2⟩ := Kd.R_slice HO2.out; subst e2; obtain ⟨kc0_, kc1_, kc2_, kf0_, kf1_, kf2_⟩ := bx3_ BK4.out))
  refine bodyPost_ret (results_ct rfl _ _ gb4 25 #[.slice Ao l0.length co, .int .i64 a1, .slice Ao2 ([] : List S46).length co2] (0, 0) _ rfl (bP_ (cs' := #[.slice Ao l0.length co, .int .i64 a1, .slice Ao2 ([] : List S46).length co2]) (bP_ (cs' := #[.slice Ao l0.length co, .int .i64 a1, .slice none 0 0]) (bP_ (cs' := #[.slice Ao l0.length co, .int .i64 0, .slice none 0 0]) BK4.out))) hu rfl (by kernel_rfl)) rfl ?_
  refine ⟨_, _, rfl, ?_, ?_, below_set (below_set (below_set HB.out GE4.out) GE4.out) GE4.out⟩
  · exact Kd.S_mono (sF_ (sF_ (sF_ (Kd.S_types HO0.out BK4.out (by decide))))) (fun _ _ => trivial)
  · exact Kd.R_mono (rF_ (rF_ (rF_ (Kd.R_types HO2.out BK4.out (by decide))))) (fun _ _ => trivial)
theorem session_New.calls (k : Nat) (A0 : Option Addr) (c0 : Nat) (l0 : List S64) (a1 : Int) (r1 : List S64) (r2 : Int) (r3 : List S46) (r4 : Int) (w : World) (hr0 : Kd.C k64 w A0 l0.length l0) (hc0 : l0.length ≤ c0) (h : session_New.f k l0 a1 = some (r1, r2, r3, r4)) (hG : GOK w) :
 Calls Tryz.prog 18 #[.slice A0 l0.length c0, .int .i64 a1] w fun e w' => ∃ v0_ v2_ : Value, e = .returned (.tuple #[.agg #[v0_, .int .i64 r2, v2_], .int .i64 r4]) ∧ Kd.S k64 64 w' w.heap.size (fun _ => True) v0_ r1 ∧ Kd.R k46 46 w' w.heap.size (fun _ => True) v2_ r3 ∧ Below w.heap.size w w' := by
 refine (session_New.callsS k A0 c0 l0 a1 r1 r2 r3 r4 w hr0 hc0 h hG).mono ?_
 rintro e w' ⟨v0, v2, h1, h2, h3, h4⟩
 exact ⟨v0, v2, h1, h2, h3, h4⟩

end Go.Proofs.YtgokcaccamfgfaaGreatDoor.G
end
section
-- Laid by the session's own driver gp.py over the kit's printer. Not trusted: Lean checks it.
namespace Go.Proofs.YtgokcaccamfgfaaGreatDoor.G
open Go.RowKit Go.Proofs.YtgokcaccamfgfaaGreatDoorW.PrintWords Go.Proofs.YtgokcaccamfgfaaGreatDoorW.PrintLast Go.Proofs.YtgokcaccamfgfaaGreatDoorW.PrintMore
set_option maxHeartbeats 8000000
set_option maxRecDepth 100000
attribute [local go_sem] max2_int min2_int max_two min_two max_three min_three max_four min_four   -- for this text's walks alone
set_option linter.unusedVariables false
set_option linter.unusedSimpArgs false

def session_May.l0 : Nat → List S64 → Int → List S46 → List Int → Int → Option Bool
 | 0, _, _, _, _, _ => none
 | k + 1, ns, wy, zs, ms, x => if x < (zs.length : Int) then (next_Ask.f k wy ns ms).bind fun b => if (!(b.1 == 0) || (!(b.2 == (rd_T46 zs x).f0))) = true then some false else (next_Mark.f (rd_T46 zs x).f1).bind fun t => if t = true then (if 0 ≤ (rd_T46 zs x).f0 ∧ (rd_T46 zs x).f0 < (ms.length : Int) then session_May.l0 k ns wy zs (ms.set (rd_T46 zs x).f0.toNat (rd_T46 zs x).f1) (wrap64 (x + 1)) else none) else some false else some true
def session_May.f (k : Nat) (l0_0 : List S64) (a0_1 : Int) (l0_2 : List S46) : Option Bool := (session_fresh.f k l0_0 a0_1).bind fun t => if t = true then session_May.l0 k l0_0 a0_1 l0_2 (List.replicate l0_0.length 0) 0 else some false
theorem session_May.mono_l : ∀ k, ∀ y0 y1 y2 y3 y4, LeO (session_May.l0 k y0 y1 y2 y3 y4) (session_May.l0 (k + 1) y0 y1 y2 y3 y4)
 | 0 => fun _ _ _ _ _ r h => by simp [session_May.l0] at h
 | k + 1 => by
  have ih0 := session_May.mono_l k
  intro y0 y1 y2 y3 y4
  unfold session_May.l0
  repeat' first
   | (with_reducible exact ih0 _ _ _ _ _)
   | (with_reducible exact next_Ask.mono _ _ _ _)
   | (with_reducible exact LeO.refl _)
   | (with_reducible exact LeO.none _)
   | (with_reducible refine LeO.ite ?_ ?_)
   | (with_reducible refine LeO.bind ?_ (fun _ => ?_))
   | exact next_Ask.mono _ _ _ _
   | exact LeO.none _
   | refine LeO.ite ?_ ?_
   | refine LeO.bind ?_ (fun _ => ?_)
theorem session_May.mono : ∀ a0 a1 a2 k, LeO (session_May.f k a0 a1 a2) (session_May.f (k + 1) a0 a1 a2) := by
 intro a0 a1 a2 k
 unfold session_May.f
 refine LeO.bind (session_fresh.mono _ _ _) (fun _ => ?_)
 exact LeO.ite (session_May.mono_l _ _ _ _ _ _) (LeO.refl _)
def session_May.T8 : Bool × List (List Nat × List Nat) := (true, [([], []), ([0], [0]), ([], []), ([2], [2]), ([], []), ([1, 3, 4], [1, 3, 4]), ([], []), ([5, 6], [5, 6]), ([7, 5], [7]), ([8], [8]), ([9, 8], [8, 9]), ([10, 8, 8], [8, 10]), ([11, 8], [8, 11]), ([8, 12], [8, 12])])
def session_May.B8 : List Nat := [0, 1, 0, 4, 0, 31, 0, 127, 255, 511, 1023, 2047, 4095, 8191]
theorem session_May.tab8 : rtab .any (opsOf Tryz.f20 8) = session_May.T8 := by kernel_rfl
theorem session_May.bits8 : waitsOk session_May.T8.2 session_May.B8 = true := by kernel_rfl
theorem wsuccM (x : Int) (h0 : 0 ≤ x) (h1 : x ≤ 9223372036854775806) : wrap64 (x + 1) = x + 1 := by unfold wrap64; omega
theorem eqAM (d : Nat) (w : World) (x0 y0 : Int) (x1 y1 : Int) :
 (Op.equalIn (d + 2) 34 (.agg #[.int .i64 x0, .int .i64 x1]) (.agg #[.int .i64 y0, .int .i64 y1])).run Tryz.prog w = .ok (x0 == y0 && (x1 == y1)) w := by
 refine eqA_of Tryz.underlying34 (by kernel_rfl) ?_
 refine eqf_cons (by rfl) (by go_simp; rfl) (by go_simp; rfl) (by go_simp) ?_
 exact eqf_last (by rfl) (by go_simp; rfl) (by go_simp; rfl) (by go_simp)
section
attribute [local go_sem high] eqAM
theorem session_May.calls (k : Nat) (A0_0 : Option Addr) (c0_0 : Nat) (l0_0 : List S64) (a0_1 : Int) (A0_2 : Option Addr) (c0_2 : Nat) (l0_2 : List S46) (r : Bool) (w : World) (hr0_0 : Kd.C k64 w A0_0 l0_0.length l0_0) (hc0_0 : l0_0.length ≤ c0_0) (hr0_2 : Kd.C k46 w A0_2 l0_2.length l0_2) (hc0_2 : l0_2.length ≤ c0_2) (h : session_May.f k l0_0 a0_1 l0_2 = some r) (hG : GOK w) :
 Calls Tryz.prog 20 #[.agg #[.slice A0_0 l0_0.length c0_0, .int .i64 a0_1, .slice A0_2 l0_2.length c0_2]] w fun e w' => e = .returned (.bool r) ∧ Below w.heap.size w w' := by
 have HR0 := a_ hr0_0
 have HC0 := a_ hc0_0
 have HR2 := a_ hr0_2
 have HG := a_ hG
 have HB := a_ (Below.refl w.heap.size w)
 have hu := Tryz.underlying25
 have hu1 := Tryz.underlying34
 have hu2 := Tryz.underlying46
 unfold session_May.f at h
 obtain ⟨t, A1, h⟩ := Option.bind_eq_some_iff.mp h
 have HF := a_ A1
 clear hr0_0 hc0_0 hr0_2 hc0_2 hG
 cases t with
 | false =>
  rw [if_neg Bool.false_ne_true] at h
  obtain rfl := Option.some.inj h
  clear h A1
  go_enter Tryz.func20, Tryz.ntmps20
  go_wp2_with (first
   | ((with_reducible refine gate_dst (N := 1) rfl ?_); refine boxE_ 1 #[.slice A0_0 l0_0.length c0_0, .int .i64 a0_1, .slice A0_2 l0_2.length c0_2] 25 ?_; intro gb1 hg w1 hbox hb; have GE1 := a_ (gE_ hg : w.heap.size ≤ gb1); have n0_ := a_ (below_step hB_ hb); clear HB; have HB := n0_; have BK1 := a_ hbox; clear n0_ hg hbox hb)
   | ((with_reducible refine gate_callee (f := 35) rfl ?_); refine goesL_ (some 7) rfl rfl Tryz.func35 (by kernel_rfl) rfl #[.pointer (some ⟨gb1, 0, none⟩)] rfl hL_ ?_; refine (session_fresh.calls k ⟨gb1, 0, none⟩ A0_0 c0_0 l0_0 a0_1 false _ (bc0_ BK1.out) (bc1_ BK1.out) (Kd.C_below HR0.out HB.out) HC0.out HF.out (GOK.below HG.out HB.out)).mono ?_; rintro e w2 ⟨rfl, hb⟩; refine ⟨_, rfl, ?_⟩; have n0_ := a_ (blk_below BK1.out hb); have n2_ := a_ (below_step HB.out hb); clear BK1 HB hb; have BK1 := n0_; have HB := n2_; clear n0_ n2_; obtain ⟨g0_, g1_, g2_, g3_, g4_, g5_⟩ := bx3_ BK1.out))
  go_ret
  exact ⟨rfl, HB.out⟩
 | true =>
  rw [if_pos rfl] at h
  have HN := a_ (session_fresh.true_spec A1)
  have H' := a_ h
  clear h A1
  go_enter Tryz.func20, Tryz.ntmps20
  go_wp2_with (first
   | ((with_reducible refine gate_dst (N := 1) rfl ?_); refine boxE_ 1 #[.slice A0_0 l0_0.length c0_0, .int .i64 a0_1, .slice A0_2 l0_2.length c0_2] 25 ?_; intro gb1 hg w1 hbox hb; have GE1 := a_ (gE_ hg : w.heap.size ≤ gb1); have n0_ := a_ (below_step hB_ hb); clear HB; have HB := n0_; have BK1 := a_ hbox; clear n0_ hg hbox hb)
   | ((with_reducible refine gate_callee (f := 35) rfl ?_); refine goesL_ (some 7) rfl rfl Tryz.func35 (by kernel_rfl) rfl #[.pointer (some ⟨gb1, 0, none⟩)] rfl hL_ ?_; refine (session_fresh.calls k ⟨gb1, 0, none⟩ A0_0 c0_0 l0_0 a0_1 true _ (bc0_ BK1.out) (bc1_ BK1.out) (Kd.C_below HR0.out HB.out) HC0.out HF.out (GOK.below HG.out HB.out)).mono ?_; rintro e w2 ⟨rfl, hb⟩; refine ⟨_, rfl, ?_⟩; have n0_ := a_ (blk_below BK1.out hb); have n2_ := a_ (below_step HB.out hb); clear BK1 HB hb; have BK1 := n0_; have HB := n2_; clear n0_ n2_; obtain ⟨g0_, g1_, g2_, g3_, g4_, g5_⟩ := bx3_ BK1.out)
   | ((with_reducible refine gate_dst (N := 12) rfl ?_); refine Kd.R_make (Kd.int .i64) _ 3 rfl (N := 12) rfl 27 _ _ rfl (l0_0.length : Int) rfl rfl Tryz.underlying27 (.int .i64 0) 8 info3 rfl (by decide) (by omega) 0 (ok := fun _ => True) (okp := fun _ => True) rfl (fun _ hk => hk) trivial (Int.natCast_nonneg _) (by have := HN.out; simp only [Int.toNat_natCast]; omega) (Below.refl _ _) (Nat.le_refl _) ?_; intro v12 w3 ho hb hg_ hnew_; rw [Int.toNat_natCast] at ho; have HM := a_ (Kd.R_lower ho HB.out.size); replace BK1 := a_ (blk_below BK1.out hb); replace HB := a_ (below_step HB.out hb); clear g0_ g1_ g2_ g3_ g4_ g5_ hg_ hnew_ hb ho; obtain ⟨g0_, g1_, g2_, g3_, g4_, g5_⟩ := bx3_ BK1.out))
  go_loopg [16] k (fun kq v w' => ∃ (ms : List Int) (x : Int), v = .int .i64 x ∧ Aside0 (session_May.l0 kq l0_0 a0_1 l0_2 ms x = some r) ∧ Aside0 (kq ≤ k) ∧ Aside0 (0 ≤ x) ∧ Aside0 (Kd.R (Kd.int .i64) 3 w' w.heap.size (fun _ => True) v12 ms) ∧ Aside0 (w'.heap[gb1]? = some (.cells #[.slice A0_0 l0_0.length c0_0, .int .i64 a0_1, .slice A0_2 l0_2.length c0_2] 25 (0, 0))) ∧ Aside0 (Below w.heap.size w w'))
  case atStart => exact ⟨_, 0, rfl, H', ⟨Nat.le_refl _⟩, ⟨by omega⟩, HM, BK1, HB⟩
  case round =>
   clear H' HB HM BK1 g0_ g1_ g2_ g3_ g4_ g5_
   obtain ⟨ms, x, rfl, HA, HK1, HX, HM, BK1, HB⟩ := hrel
   cases gk with
   | zero => exact absurd HA.out (by simp [session_May.l0])
   | succ k1 =>
    have H := HA.out
    clear HA
    simp only [session_May.l0] at H
    by_cases c : x < (l0_2.length : Int)
    case neg =>
     rw [if_neg c] at H
     have cb_ := decide_eq_false c
     obtain rfl := Option.some.inj H
     clear c H
     go_wp2
     go_ret
     exact ⟨rfl, HB.out⟩
    rw [if_pos c] at H
    have cb_ := decide_eq_true c
    obtain ⟨⟨b1, b2⟩, HA0, H⟩ := Option.bind_eq_some_iff.mp H
    have HA := a_ HA0
    clear HA0
    obtain ⟨ad, e0, hx0, hx1⟩ := at_T46 HR2.out x HX.out c
    cases e0
    replace hx0 := cl_ HB.out hx0
    replace hx1 := cl_ HB.out hx1
    have p_ := eq_true HX.out
    have q_ := eq_true c
    by_cases c2 : (!(b1 == 0) || (!(b2 == (rd_T46 l0_2 x).f0))) = true
    case pos =>
     rw [if_pos c2] at H
     obtain rfl := Option.some.inj H
     clear c H
     go_wp2_with (first
      | ((with_reducible refine gate_dst (N := 5) rfl ?_); refine boxE_ 5 #[.int .i64 0, .int .i64 0] 46 ?_; intro gb5 hg w5 hbox hb; have GE5 := a_ (gE_ hg : w.heap.size ≤ gb5); have NB15 := a_ (bL_ BK1.out hg : gb1 ≠ gb5); have n0_ := a_ (Kd.R_below (hR_ HM.out) hb); have n1_ := a_ (bB_ BK1.out hb); have n2_ := a_ (below_step hC_ hb); have BK5 := a_ hbox; clear HM BK1 HB hg hbox hb; have HM := n0_; have BK1 := n1_; have HB := n2_; clear n0_ n1_ n2_; obtain ⟨d0_, d1_, d2_, d3_⟩ := bx2_ BK5.out)
      | ((with_reducible refine gate_store (t := 46) (p := 5) rfl ?_); refine store_event (t := 46) (p := 5) (v := ?vo5) (w1 := ((w5.setCell ⟨gb5, 0, none⟩ (.int .i64 (rd_T46 l0_2 x).f0)).setCell ⟨gb5, 1, none⟩ (.int .i64 (rd_T46 l0_2 x).f1))) ?hg ?ho ?hn ?hr ?_; (case ho => rfl); (case hg => rfl); (case hn => rfl); (case hr => first | (go_simp; done) | (go_simp; rfl)); intro w6 hw; replace BK1 := a_ (show w6.heap[gb1]? = some (.cells #[.slice A0_0 l0_0.length c0_0, .int .i64 a0_1, .slice (some ad) l0_2.length c0_2] 25 (0, 0)) by rw [hw]; exact bF_ (bF_ BK1.out NB15.out) NB15.out); replace HM := a_ (show Kd.R (Kd.int .i64) 3 w6 w.heap.size (fun _ => True) v12 ms by rw [hw]; exact Kd.R_mono (rF_ (rF_ (Kd.R_types HM.out BK5.out (by decide)))) (fun _ _ => trivial)); replace BK5 := a_ (show w6.heap[gb5]? = some (.cells #[.int .i64 (rd_T46 l0_2 x).f0, .int .i64 (rd_T46 l0_2 x).f1] 46 (0, 0)) by rw [hw]; exact bP_ (bP_ (cs' := #[.int .i64 (rd_T46 l0_2 x).f0, .int .i64 0]) BK5.out)); replace HB := a_ (show Below w.heap.size w w6 by rw [hw]; exact below_set (below_set HB.out GE5.out) GE5.out); clear hw d0_ d1_ d2_ d3_; obtain ⟨d0_, d1_, d2_, d3_⟩ := bx2_ BK5.out)
      | ((with_reducible refine gate_dst (N := 6) rfl ?_); refine boxE_ 6 #[.int .i64 0, .int .i64 0] 34 ?_; intro gb6 hg w7 hbox hb; have GE6 := a_ (gE_ hg : w.heap.size ≤ gb6); have NB16 := a_ (bL_ BK1.out hg : gb1 ≠ gb6); have NB56 := a_ (bL_ BK5.out hg : gb5 ≠ gb6); have n0_ := a_ (Kd.R_below (hR_ HM.out) hb); have n1_ := a_ (bB_ BK1.out hb); have n2_ := a_ (below_step hC_ hb); have n3_ := a_ (bB_ BK5.out hb); have BK6 := a_ hbox; clear d0_ d1_ d2_ d3_ HM BK1 HB BK5 hg hbox hb; have HM := n0_; have BK1 := n1_; have HB := n2_; have BK5 := n3_; clear n0_ n1_ n2_ n3_; obtain ⟨d0_, d1_, d2_, d3_⟩ := bx2_ BK6.out)
      | ((with_reducible refine gate_store (t := 34) (p := 6) rfl ?_); refine store_event (t := 34) (p := 6) (v := ?vo6) (w1 := ((w7.setCell ⟨gb6, 0, none⟩ (.int .i64 0)).setCell ⟨gb6, 1, none⟩ (.int .i64 (rd_T46 l0_2 x).f0))) ?hg ?ho ?hn ?hr ?_; (case ho => rfl); (case hg => rfl); (case hn => rfl); (case hr => first | (go_simp; done) | (go_simp; rfl)); intro w8 hw; replace BK1 := a_ (show w8.heap[gb1]? = some (.cells #[.slice A0_0 l0_0.length c0_0, .int .i64 a0_1, .slice (some ad) l0_2.length c0_2] 25 (0, 0)) by rw [hw]; exact bF_ (bF_ BK1.out NB16.out) NB16.out); replace HM := a_ (show Kd.R (Kd.int .i64) 3 w8 w.heap.size (fun _ => True) v12 ms by rw [hw]; exact Kd.R_mono (rF_ (rF_ (Kd.R_types HM.out BK6.out (by decide)))) (fun _ _ => trivial)); replace BK6 := a_ (show w8.heap[gb6]? = some (.cells #[.int .i64 0, .int .i64 (rd_T46 l0_2 x).f0] 34 (0, 0)) by rw [hw]; exact bP_ (bP_ (cs' := #[.int .i64 0, .int .i64 0]) BK6.out)); replace HB := a_ (show Below w.heap.size w w8 by rw [hw]; exact below_set (below_set HB.out GE6.out) GE6.out); replace BK5 := a_ (show w8.heap[gb5]? = some (.cells #[.int .i64 (rd_T46 l0_2 x).f0, .int .i64 (rd_T46 l0_2 x).f1] 46 (0, 0)) by rw [hw]; exact bF_ (bF_ BK5.out NB56.out) NB56.out); clear hw d0_ d1_ d2_ d3_; obtain ⟨g0_, g1_, g2_, g3_, g4_, g5_⟩ := bx3_ BK1.out))
     clear g0_ g1_ g2_ g3_ g4_ g5_
     replace BK1 := a_ (blk_drew BK1.out)
     replace BK5 := a_ (blk_drew BK5.out)
     replace BK6 := a_ (blk_drew BK6.out)
     replace HM := a_ (Kd.R_drew HM.out)
     replace HB := a_ (below_drew1 HB.out)
     obtain ⟨Am, cm, em⟩ := Kd.R_slice HM.out
     subst em
     refine start_ (n := 14) (S := fun w' => w'.cell? ⟨gb1, 0, none⟩ = some (.slice A0_0 l0_0.length c0_0) ∧ w'.cell? ⟨gb1, 1, none⟩ = some (.int .i64 a0_1) ∧ w'.cell? ⟨gb6, 0, none⟩ = some (.int .i64 0) ∧ w'.cell? ⟨gb6, 1, none⟩ = some (.int .i64 (rd_T46 l0_2 x).f0) ∧ w'.cell? ⟨gb5, 1, none⟩ = some (.int .i64 (rd_T46 l0_2 x).f1)) (ds := []) #[false, false, false, false, false, false, false, false, false, false, false, false, false, false] (by kernel_rfl) rfl rfl ⟨bc0_ BK1.out, bc1_ BK1.out, bc0_ BK6.out, bc1_ BK6.out, bc1_ BK5.out⟩ (fun hHeld => ?_)
     refine with_tabW session_May.tab8 session_May.bits8 (fun HT_ HW_ => ?_)
     generalize w8.drew = w9 at BK1 BK5 BK6 HM HB hHeld ⊢
     refine pB_ 0 23 HT_.out ?_
     refine pB_ 2 25 HT_.out ?_
     refine pB_ 4 27 HT_.out ?_
     refine tB_ 1 24 HT_.out HW_.out hHeld ?_
     refine tB_ 3 26 HT_.out HW_.out hHeld ?_
     refine tB_ 6 29 HT_.out HW_.out hHeld ?_
     refine one_ (i := 5) (N := some 28) #[true, true, true, true, true, true, true, false, false, false, false, false, false, false] rfl rfl (one_of HT_.out (by kernel_rfl)) (by decide) (fun K hK => ?_)
     refine goes_ Tryz.func31 (by kernel_rfl) rfl #[.int .i64 a0_1, .slice A0_0 l0_0.length c0_0, .slice Am ms.length cm] (by rfl) rfl rfl hL_ ?_
     refine (next_Ask.calls k1 a0_1 A0_0 c0_0 l0_0 Am cm ms b1 b2 _ (Kd.C_below HR0.out HB.out) HC0.out (Kd.R_reads' HM.out).2.2 (Kd.R_reads' HM.out).2.1 HA.out (GOK.below HG.out HB.out)).mono ?_
     rintro e w10 ⟨rfl, hb⟩
     refine ⟨_, rfl, ?_⟩
     replace BK1 := a_ (blk_below BK1.out hb)
     replace BK5 := a_ (blk_below BK5.out hb)
     replace BK6 := a_ (blk_below BK6.out hb)
     replace HM := a_ (Kd.R_below HM.out hb)
     replace HB := a_ (below_step HB.out hb)
     clear hb
     refine hK.out _ _ ⟨bc0_ BK1.out, bc1_ BK1.out, bc0_ BK6.out, bc1_ BK6.out, bc1_ BK5.out⟩ (fun hHeld => ?_)
     clear hK K
     refine norm_ (a' := ?_) ?_ ?_
     rotate_left
     · show Act.put _ (some 28) _ = _
       simp only [Act.put, List.setIfInBounds_toArray, List.set_cons_zero, List.set_cons_succ, i64_w, i32_w]
       rfl
     refine pB_ 7 30 HT_.out ?_
     refine pB_ 8 31 HT_.out ?_
     refine pN_ 9 32 #[true, true, true, true, true, true, true, true, true, true, false, false, false, false] HT_.out ?_
     refine pN_ 10 33 #[true, true, true, true, true, true, true, true, true, true, true, false, false, false] HT_.out ?_
     refine pN_ 11 34 #[true, true, true, true, true, true, true, true, true, true, true, true, false, false] HT_.out ?_
     refine pN_ 12 35 #[true, true, true, true, true, true, true, true, true, true, true, true, true, false] HT_.out ?_
     refine pB_ 13 36 HT_.out ?_
     refine done_ (done_of HT_.out (by kernel_rfl)) ?_
     clear HT_ HW_ hHeld
     go_wp2
     go_ret
     exact ⟨rfl, HB.out⟩
    rw [if_neg c2] at H
    replace c2 : (!(b1 == 0) || (!(b2 == (rd_T46 l0_2 x).f0))) = false := by simpa using c2
    obtain ⟨t, HT0, H⟩ := Option.bind_eq_some_iff.mp H
    have HT2 := a_ HT0
    clear HT0
    cases t with
    | false =>
     rw [if_neg Bool.false_ne_true] at H
     obtain rfl := Option.some.inj H
     clear c H
     go_wp2_with (first
      | ((with_reducible refine gate_dst (N := 5) rfl ?_); refine boxE_ 5 #[.int .i64 0, .int .i64 0] 46 ?_; intro gb5 hg w5 hbox hb; have GE5 := a_ (gE_ hg : w.heap.size ≤ gb5); have NB15 := a_ (bL_ BK1.out hg : gb1 ≠ gb5); have n0_ := a_ (Kd.R_below (hR_ HM.out) hb); have n1_ := a_ (bB_ BK1.out hb); have n2_ := a_ (below_step hC_ hb); have BK5 := a_ hbox; clear HM BK1 HB hg hbox hb; have HM := n0_; have BK1 := n1_; have HB := n2_; clear n0_ n1_ n2_; obtain ⟨d0_, d1_, d2_, d3_⟩ := bx2_ BK5.out)
      | ((with_reducible refine gate_store (t := 46) (p := 5) rfl ?_); refine store_event (t := 46) (p := 5) (v := ?vo5) (w1 := ((w5.setCell ⟨gb5, 0, none⟩ (.int .i64 (rd_T46 l0_2 x).f0)).setCell ⟨gb5, 1, none⟩ (.int .i64 (rd_T46 l0_2 x).f1))) ?hg ?ho ?hn ?hr ?_; (case ho => rfl); (case hg => rfl); (case hn => rfl); (case hr => first | (go_simp; done) | (go_simp; rfl)); intro w6 hw; replace BK1 := a_ (show w6.heap[gb1]? = some (.cells #[.slice A0_0 l0_0.length c0_0, .int .i64 a0_1, .slice (some ad) l0_2.length c0_2] 25 (0, 0)) by rw [hw]; exact bF_ (bF_ BK1.out NB15.out) NB15.out); replace HM := a_ (show Kd.R (Kd.int .i64) 3 w6 w.heap.size (fun _ => True) v12 ms by rw [hw]; exact Kd.R_mono (rF_ (rF_ (Kd.R_types HM.out BK5.out (by decide)))) (fun _ _ => trivial)); replace BK5 := a_ (show w6.heap[gb5]? = some (.cells #[.int .i64 (rd_T46 l0_2 x).f0, .int .i64 (rd_T46 l0_2 x).f1] 46 (0, 0)) by rw [hw]; exact bP_ (bP_ (cs' := #[.int .i64 (rd_T46 l0_2 x).f0, .int .i64 0]) BK5.out)); replace HB := a_ (show Below w.heap.size w w6 by rw [hw]; exact below_set (below_set HB.out GE5.out) GE5.out); clear hw d0_ d1_ d2_ d3_; obtain ⟨d0_, d1_, d2_, d3_⟩ := bx2_ BK5.out)
      | ((with_reducible refine gate_dst (N := 6) rfl ?_); refine boxE_ 6 #[.int .i64 0, .int .i64 0] 34 ?_; intro gb6 hg w7 hbox hb; have GE6 := a_ (gE_ hg : w.heap.size ≤ gb6); have NB16 := a_ (bL_ BK1.out hg : gb1 ≠ gb6); have NB56 := a_ (bL_ BK5.out hg : gb5 ≠ gb6); have n0_ := a_ (Kd.R_below (hR_ HM.out) hb); have n1_ := a_ (bB_ BK1.out hb); have n2_ := a_ (below_step hC_ hb); have n3_ := a_ (bB_ BK5.out hb); have BK6 := a_ hbox; clear d0_ d1_ d2_ d3_ HM BK1 HB BK5 hg hbox hb; have HM := n0_; have BK1 := n1_; have HB := n2_; have BK5 := n3_; clear n0_ n1_ n2_ n3_; obtain ⟨d0_, d1_, d2_, d3_⟩ := bx2_ BK6.out)
      | ((with_reducible refine gate_store (t := 34) (p := 6) rfl ?_); refine store_event (t := 34) (p := 6) (v := ?vo6) (w1 := ((w7.setCell ⟨gb6, 0, none⟩ (.int .i64 0)).setCell ⟨gb6, 1, none⟩ (.int .i64 (rd_T46 l0_2 x).f0))) ?hg ?ho ?hn ?hr ?_; (case ho => rfl); (case hg => rfl); (case hn => rfl); (case hr => first | (go_simp; done) | (go_simp; rfl)); intro w8 hw; replace BK1 := a_ (show w8.heap[gb1]? = some (.cells #[.slice A0_0 l0_0.length c0_0, .int .i64 a0_1, .slice (some ad) l0_2.length c0_2] 25 (0, 0)) by rw [hw]; exact bF_ (bF_ BK1.out NB16.out) NB16.out); replace HM := a_ (show Kd.R (Kd.int .i64) 3 w8 w.heap.size (fun _ => True) v12 ms by rw [hw]; exact Kd.R_mono (rF_ (rF_ (Kd.R_types HM.out BK6.out (by decide)))) (fun _ _ => trivial)); replace BK6 := a_ (show w8.heap[gb6]? = some (.cells #[.int .i64 0, .int .i64 (rd_T46 l0_2 x).f0] 34 (0, 0)) by rw [hw]; exact bP_ (bP_ (cs' := #[.int .i64 0, .int .i64 0]) BK6.out)); replace HB := a_ (show Below w.heap.size w w8 by rw [hw]; exact below_set (below_set HB.out GE6.out) GE6.out); replace BK5 := a_ (show w8.heap[gb5]? = some (.cells #[.int .i64 (rd_T46 l0_2 x).f0, .int .i64 (rd_T46 l0_2 x).f1] 46 (0, 0)) by rw [hw]; exact bF_ (bF_ BK5.out NB56.out) NB56.out); clear hw d0_ d1_ d2_ d3_; obtain ⟨g0_, g1_, g2_, g3_, g4_, g5_⟩ := bx3_ BK1.out))
     clear g0_ g1_ g2_ g3_ g4_ g5_
     replace BK1 := a_ (blk_drew BK1.out)
     replace BK5 := a_ (blk_drew BK5.out)
     replace BK6 := a_ (blk_drew BK6.out)
     replace HM := a_ (Kd.R_drew HM.out)
     replace HB := a_ (below_drew1 HB.out)
     obtain ⟨Am, cm, em⟩ := Kd.R_slice HM.out
     subst em
     refine start_ (n := 14) (S := fun w' => w'.cell? ⟨gb1, 0, none⟩ = some (.slice A0_0 l0_0.length c0_0) ∧ w'.cell? ⟨gb1, 1, none⟩ = some (.int .i64 a0_1) ∧ w'.cell? ⟨gb6, 0, none⟩ = some (.int .i64 0) ∧ w'.cell? ⟨gb6, 1, none⟩ = some (.int .i64 (rd_T46 l0_2 x).f0) ∧ w'.cell? ⟨gb5, 1, none⟩ = some (.int .i64 (rd_T46 l0_2 x).f1)) (ds := []) #[false, false, false, false, false, false, false, false, false, false, false, false, false, false] (by kernel_rfl) rfl rfl ⟨bc0_ BK1.out, bc1_ BK1.out, bc0_ BK6.out, bc1_ BK6.out, bc1_ BK5.out⟩ (fun hHeld => ?_)
     refine with_tabW session_May.tab8 session_May.bits8 (fun HT_ HW_ => ?_)
     generalize w8.drew = w9 at BK1 BK5 BK6 HM HB hHeld ⊢
     refine pB_ 0 23 HT_.out ?_
     refine pB_ 2 25 HT_.out ?_
     refine pB_ 4 27 HT_.out ?_
     refine tB_ 1 24 HT_.out HW_.out hHeld ?_
     refine tB_ 3 26 HT_.out HW_.out hHeld ?_
     refine tB_ 6 29 HT_.out HW_.out hHeld ?_
     refine one_ (i := 5) (N := some 28) #[true, true, true, true, true, true, true, false, false, false, false, false, false, false] rfl rfl (one_of HT_.out (by kernel_rfl)) (by decide) (fun K hK => ?_)
     refine goes_ Tryz.func31 (by kernel_rfl) rfl #[.int .i64 a0_1, .slice A0_0 l0_0.length c0_0, .slice Am ms.length cm] (by rfl) rfl rfl hL_ ?_
     refine (next_Ask.calls k1 a0_1 A0_0 c0_0 l0_0 Am cm ms b1 b2 _ (Kd.C_below HR0.out HB.out) HC0.out (Kd.R_reads' HM.out).2.2 (Kd.R_reads' HM.out).2.1 HA.out (GOK.below HG.out HB.out)).mono ?_
     rintro e w10 ⟨rfl, hb⟩
     refine ⟨_, rfl, ?_⟩
     replace BK1 := a_ (blk_below BK1.out hb)
     replace BK5 := a_ (blk_below BK5.out hb)
     replace BK6 := a_ (blk_below BK6.out hb)
     replace HM := a_ (Kd.R_below HM.out hb)
     replace HB := a_ (below_step HB.out hb)
     clear hb
     refine hK.out _ _ ⟨bc0_ BK1.out, bc1_ BK1.out, bc0_ BK6.out, bc1_ BK6.out, bc1_ BK5.out⟩ (fun hHeld => ?_)
     clear hK K
     refine norm_ (a' := ?_) ?_ ?_
     rotate_left
     · show Act.put _ (some 28) _ = _
       simp only [Act.put, List.setIfInBounds_toArray, List.set_cons_zero, List.set_cons_succ, i64_w, i32_w]
       rfl
     refine pB_ 7 30 HT_.out ?_
     refine pB_ 8 31 HT_.out ?_
     refine pB_ 9 32 HT_.out ?_
     refine tB_ 10 33 HT_.out HW_.out hHeld ?_
     refine one_ (i := 11) (N := some 34) #[true, true, true, true, true, true, true, true, true, true, true, true, false, false] rfl rfl (one_of HT_.out (by kernel_rfl)) (by decide) (fun K hK => ?_)
     refine goes_ Tryz.func26 (by kernel_rfl) rfl #[.int .i64 (rd_T46 l0_2 x).f1] (by rfl) rfl rfl hL_ ?_
     refine (next_Mark.calls (rd_T46 l0_2 x).f1 false _ HT2.out).mono ?_
     rintro e w11 ⟨rfl, ⟨nd, rfl⟩⟩
     refine ⟨_, rfl, ?_⟩
     replace BK1 := a_ (blk_drewN BK1.out nd)
     replace BK5 := a_ (blk_drewN BK5.out nd)
     replace BK6 := a_ (blk_drewN BK6.out nd)
     replace HM := a_ (Kd.R_drewN HM.out nd)
     replace HB := a_ (below_dn HB.out nd)
     refine hK.out _ _ ⟨bc0_ BK1.out, bc1_ BK1.out, bc0_ BK6.out, bc1_ BK6.out, bc1_ BK5.out⟩ (fun hHeld => ?_)
     clear hK K
     refine norm_ (a' := ?_) ?_ ?_
     rotate_left
     · show Act.put _ (some 34) _ = _
       simp only [Act.put, List.setIfInBounds_toArray, List.set_cons_zero, List.set_cons_succ, i64_w, i32_w]
       rfl
     generalize w10.drewN nd = w12 at BK1 BK5 BK6 HM HB hHeld ⊢
     refine pB_ 12 35 HT_.out ?_
     refine pB_ 13 36 HT_.out ?_
     refine done_ (done_of HT_.out (by kernel_rfl)) ?_
     clear HT_ HW_ hHeld
     go_wp2
     go_ret
     exact ⟨rfl, HB.out⟩
    | true =>
     rw [if_pos rfl] at H
     obtain ⟨hX2, H⟩ := ifI_ H
     have HX2 := a_ hX2
     have H' := a_ H
     have HCX := a_ c
     clear c H hX2
     go_wp2_with (first
      | ((with_reducible refine gate_dst (N := 5) rfl ?_); refine boxE_ 5 #[.int .i64 0, .int .i64 0] 46 ?_; intro gb5 hg w5 hbox hb; have GE5 := a_ (gE_ hg : w.heap.size ≤ gb5); have NB15 := a_ (bL_ BK1.out hg : gb1 ≠ gb5); have n0_ := a_ (Kd.R_below (hR_ HM.out) hb); have n1_ := a_ (bB_ BK1.out hb); have n2_ := a_ (below_step hC_ hb); have BK5 := a_ hbox; clear HM BK1 HB hg hbox hb; have HM := n0_; have BK1 := n1_; have HB := n2_; clear n0_ n1_ n2_; obtain ⟨d0_, d1_, d2_, d3_⟩ := bx2_ BK5.out)
      | ((with_reducible refine gate_store (t := 46) (p := 5) rfl ?_); refine store_event (t := 46) (p := 5) (v := ?vo5) (w1 := ((w5.setCell ⟨gb5, 0, none⟩ (.int .i64 (rd_T46 l0_2 x).f0)).setCell ⟨gb5, 1, none⟩ (.int .i64 (rd_T46 l0_2 x).f1))) ?hg ?ho ?hn ?hr ?_; (case ho => rfl); (case hg => rfl); (case hn => rfl); (case hr => first | (go_simp; done) | (go_simp; rfl)); intro w6 hw; replace BK1 := a_ (show w6.heap[gb1]? = some (.cells #[.slice A0_0 l0_0.length c0_0, .int .i64 a0_1, .slice (some ad) l0_2.length c0_2] 25 (0, 0)) by rw [hw]; exact bF_ (bF_ BK1.out NB15.out) NB15.out); replace HM := a_ (show Kd.R (Kd.int .i64) 3 w6 w.heap.size (fun _ => True) v12 ms by rw [hw]; exact Kd.R_mono (rF_ (rF_ (Kd.R_types HM.out BK5.out (by decide)))) (fun _ _ => trivial)); replace BK5 := a_ (show w6.heap[gb5]? = some (.cells #[.int .i64 (rd_T46 l0_2 x).f0, .int .i64 (rd_T46 l0_2 x).f1] 46 (0, 0)) by rw [hw]; exact bP_ (bP_ (cs' := #[.int .i64 (rd_T46 l0_2 x).f0, .int .i64 0]) BK5.out)); replace HB := a_ (show Below w.heap.size w w6 by rw [hw]; exact below_set (below_set HB.out GE5.out) GE5.out); clear hw d0_ d1_ d2_ d3_; obtain ⟨d0_, d1_, d2_, d3_⟩ := bx2_ BK5.out)
      | ((with_reducible refine gate_dst (N := 6) rfl ?_); refine boxE_ 6 #[.int .i64 0, .int .i64 0] 34 ?_; intro gb6 hg w7 hbox hb; have GE6 := a_ (gE_ hg : w.heap.size ≤ gb6); have NB16 := a_ (bL_ BK1.out hg : gb1 ≠ gb6); have NB56 := a_ (bL_ BK5.out hg : gb5 ≠ gb6); have n0_ := a_ (Kd.R_below (hR_ HM.out) hb); have n1_ := a_ (bB_ BK1.out hb); have n2_ := a_ (below_step hC_ hb); have n3_ := a_ (bB_ BK5.out hb); have BK6 := a_ hbox; clear d0_ d1_ d2_ d3_ HM BK1 HB BK5 hg hbox hb; have HM := n0_; have BK1 := n1_; have HB := n2_; have BK5 := n3_; clear n0_ n1_ n2_ n3_; obtain ⟨d0_, d1_, d2_, d3_⟩ := bx2_ BK6.out)
      | ((with_reducible refine gate_store (t := 34) (p := 6) rfl ?_); refine store_event (t := 34) (p := 6) (v := ?vo6) (w1 := ((w7.setCell ⟨gb6, 0, none⟩ (.int .i64 0)).setCell ⟨gb6, 1, none⟩ (.int .i64 (rd_T46 l0_2 x).f0))) ?hg ?ho ?hn ?hr ?_; (case ho => rfl); (case hg => rfl); (case hn => rfl); (case hr => first | (go_simp; done) | (go_simp; rfl)); intro w8 hw; replace BK1 := a_ (show w8.heap[gb1]? = some (.cells #[.slice A0_0 l0_0.length c0_0, .int .i64 a0_1, .slice (some ad) l0_2.length c0_2] 25 (0, 0)) by rw [hw]; exact bF_ (bF_ BK1.out NB16.out) NB16.out); replace HM := a_ (show Kd.R (Kd.int .i64) 3 w8 w.heap.size (fun _ => True) v12 ms by rw [hw]; exact Kd.R_mono (rF_ (rF_ (Kd.R_types HM.out BK6.out (by decide)))) (fun _ _ => trivial)); replace BK6 := a_ (show w8.heap[gb6]? = some (.cells #[.int .i64 0, .int .i64 (rd_T46 l0_2 x).f0] 34 (0, 0)) by rw [hw]; exact bP_ (bP_ (cs' := #[.int .i64 0, .int .i64 0]) BK6.out)); replace HB := a_ (show Below w.heap.size w w8 by rw [hw]; exact below_set (below_set HB.out GE6.out) GE6.out); replace BK5 := a_ (show w8.heap[gb5]? = some (.cells #[.int .i64 (rd_T46 l0_2 x).f0, .int .i64 (rd_T46 l0_2 x).f1] 46 (0, 0)) by rw [hw]; exact bF_ (bF_ BK5.out NB56.out) NB56.out); clear hw d0_ d1_ d2_ d3_; obtain ⟨g0_, g1_, g2_, g3_, g4_, g5_⟩ := bx3_ BK1.out))
     clear g0_ g1_ g2_ g3_ g4_ g5_
     replace BK1 := a_ (blk_drew BK1.out)
     replace BK5 := a_ (blk_drew BK5.out)
     replace BK6 := a_ (blk_drew BK6.out)
     replace HM := a_ (Kd.R_drew HM.out)
     replace HB := a_ (below_drew1 HB.out)
     obtain ⟨Am, cm, em⟩ := Kd.R_slice HM.out
     subst em
     refine start_ (n := 14) (S := fun w' => w'.cell? ⟨gb1, 0, none⟩ = some (.slice A0_0 l0_0.length c0_0) ∧ w'.cell? ⟨gb1, 1, none⟩ = some (.int .i64 a0_1) ∧ w'.cell? ⟨gb6, 0, none⟩ = some (.int .i64 0) ∧ w'.cell? ⟨gb6, 1, none⟩ = some (.int .i64 (rd_T46 l0_2 x).f0) ∧ w'.cell? ⟨gb5, 1, none⟩ = some (.int .i64 (rd_T46 l0_2 x).f1)) (ds := []) #[false, false, false, false, false, false, false, false, false, false, false, false, false, false] (by kernel_rfl) rfl rfl ⟨bc0_ BK1.out, bc1_ BK1.out, bc0_ BK6.out, bc1_ BK6.out, bc1_ BK5.out⟩ (fun hHeld => ?_)
     refine with_tabW session_May.tab8 session_May.bits8 (fun HT_ HW_ => ?_)
     generalize w8.drew = w9 at BK1 BK5 BK6 HM HB hHeld ⊢
     refine pB_ 0 23 HT_.out ?_
     refine pB_ 2 25 HT_.out ?_
     refine pB_ 4 27 HT_.out ?_
     refine tB_ 1 24 HT_.out HW_.out hHeld ?_
     refine tB_ 3 26 HT_.out HW_.out hHeld ?_
     refine tB_ 6 29 HT_.out HW_.out hHeld ?_
     refine one_ (i := 5) (N := some 28) #[true, true, true, true, true, true, true, false, false, false, false, false, false, false] rfl rfl (one_of HT_.out (by kernel_rfl)) (by decide) (fun K hK => ?_)
     refine goes_ Tryz.func31 (by kernel_rfl) rfl #[.int .i64 a0_1, .slice A0_0 l0_0.length c0_0, .slice Am ms.length cm] (by rfl) rfl rfl hL_ ?_
     refine (next_Ask.calls k1 a0_1 A0_0 c0_0 l0_0 Am cm ms b1 b2 _ (Kd.C_below HR0.out HB.out) HC0.out (Kd.R_reads' HM.out).2.2 (Kd.R_reads' HM.out).2.1 HA.out (GOK.below HG.out HB.out)).mono ?_
     rintro e w10 ⟨rfl, hb⟩
     refine ⟨_, rfl, ?_⟩
     replace BK1 := a_ (blk_below BK1.out hb)
     replace BK5 := a_ (blk_below BK5.out hb)
     replace BK6 := a_ (blk_below BK6.out hb)
     replace HM := a_ (Kd.R_below HM.out hb)
     replace HB := a_ (below_step HB.out hb)
     clear hb
     refine hK.out _ _ ⟨bc0_ BK1.out, bc1_ BK1.out, bc0_ BK6.out, bc1_ BK6.out, bc1_ BK5.out⟩ (fun hHeld => ?_)
     clear hK K
     refine norm_ (a' := ?_) ?_ ?_
     rotate_left
     · show Act.put _ (some 28) _ = _
       simp only [Act.put, List.setIfInBounds_toArray, List.set_cons_zero, List.set_cons_succ, i64_w, i32_w]
       rfl
     refine pB_ 7 30 HT_.out ?_
     refine pB_ 8 31 HT_.out ?_
     refine pB_ 9 32 HT_.out ?_
     refine tB_ 10 33 HT_.out HW_.out hHeld ?_
     refine one_ (i := 11) (N := some 34) #[true, true, true, true, true, true, true, true, true, true, true, true, false, false] rfl rfl (one_of HT_.out (by kernel_rfl)) (by decide) (fun K hK => ?_)
     refine goes_ Tryz.func26 (by kernel_rfl) rfl #[.int .i64 (rd_T46 l0_2 x).f1] (by rfl) rfl rfl hL_ ?_
     refine (next_Mark.calls (rd_T46 l0_2 x).f1 true _ HT2.out).mono ?_
     rintro e w11 ⟨rfl, ⟨nd, rfl⟩⟩
     refine ⟨_, rfl, ?_⟩
     replace BK1 := a_ (blk_drewN BK1.out nd)
     replace BK5 := a_ (blk_drewN BK5.out nd)
     replace BK6 := a_ (blk_drewN BK6.out nd)
     replace HM := a_ (Kd.R_drewN HM.out nd)
     replace HB := a_ (below_dn HB.out nd)
     refine hK.out _ _ ⟨bc0_ BK1.out, bc1_ BK1.out, bc0_ BK6.out, bc1_ BK6.out, bc1_ BK5.out⟩ (fun hHeld => ?_)
     clear hK K
     refine norm_ (a' := ?_) ?_ ?_
     rotate_left
     · show Act.put _ (some 34) _ = _
       simp only [Act.put, List.setIfInBounds_toArray, List.set_cons_zero, List.set_cons_succ, i64_w, i32_w]
       rfl
     generalize w10.drewN nd = w12 at BK1 BK5 BK6 HM HB hHeld ⊢
     refine pB_ 12 35 HT_.out ?_
     refine pB_ 13 36 HT_.out ?_
     refine done_ (done_of HT_.out (by kernel_rfl)) ?_
     clear HT_ HW_ hHeld
     obtain ⟨gm, cm', eo, hbg, hgl, cl, hgm⟩ := Kd.R_form HM.out (by have := HX2.out; omega)
     injection eo with ea_ en_ ec_
     subst ea_
     clear en_ ec_
     obtain ⟨hx34, hf34⟩ := Kd.R_celln 0 HM.out (rd_T46 l0_2 x).f0 HX2.out.1 HX2.out.2
     have HP := a_ (Kd.R_putg HM.out (rd_T46 l0_2 x).f0 (rd_T46 l0_2 x).f1).1
     have hne : gb1 ≠ gm := blk_ne BK1.out hgm (by decide)
     have HE := a_ (And.intro hbg hne)
     obtain ⟨d0_, d1_, d2_, d3_⟩ := bx2_ BK5.out
     have p34_ := eq_true HX2.out.1
     have q34_ := eq_true HX2.out.2
     clear hbg hgl hgm hne
     go_wp2
     go_roundg k1
     case measure => have := HK1.out; omega
     case rel => exact ⟨_, _, rfl, H', ⟨by have := HK1.out; omega⟩, ⟨by have := HX.out; rw [wsuccM x HX.out (by have := Kd.C_max HR2.out; have := HCX.out; omega)]; omega⟩, ⟨HP.out⟩, ⟨bF_ BK1.out HE.out.2⟩, ⟨below_set HB.out HE.out.1⟩⟩
end

end Go.Proofs.YtgokcaccamfgfaaGreatDoor.G
end
section
-- Laid by the session's own driver gp.py over the kit's printer. Not trusted: Lean checks it.
namespace Go.Proofs.YtgokcaccamfgfaaGreatDoor.G
open Go.RowKit Go.Proofs.YtgokcaccamfgfaaGreatDoorW.PrintWords Go.Proofs.YtgokcaccamfgfaaGreatDoorW.PrintLast Go.Proofs.YtgokcaccamfgfaaGreatDoorW.PrintMore
set_option maxHeartbeats 8000000
set_option maxRecDepth 100000
attribute [local go_sem] max2_int min2_int max_two min_two max_three min_three max_four min_four   -- for this text's walks alone
set_option linter.unusedVariables false
set_option linter.unusedSimpArgs false

mutual
def sleuthref12_SessionMay.j0 : Nat → Bool → List (S64) → Int → List (S46) → Option (Bool)
 | 0, _, _, _, _ => none
 | k + 1, x22, x538000, x538001, x538002 => if x22 = true then (some false) else (if 0 ≤ (x538000.length : Int) then (if ((x538000.length : Int) : Int).toNat ≤ 35184372088832 then (sleuthref12_SessionMay.l0 k (List.replicate ((x538000.length : Int) : Int).toNat 0) 0 x538000 x538001 x538002) else (none)) else (none))
def sleuthref12_SessionMay.l0 : Nat → List Int → Int → List (S64) → Int → List (S46) → Option (Bool)
 | 0, _, _, _, _, _ => none
 | k + 1, x3, x4, x538000, x538001, x538002 => if x4 < (x538002.length : Int) then (if 0 ≤ x4 then ((sleuthref12_asks.f k x538000 x538001 x3).bind fun bt545 => (if bt545.1 = 0 then (if bt545.2 = ((rd_T46 x538002 x4).f0) then ((sleuthref12_markMay.f ((rd_T46 x538002 x4).f1)).bind fun t548 => (if t548 = true then (if 0 ≤ ((rd_T46 x538002 x4).f0) then (if ((rd_T46 x538002 x4).f0) < (x3.length : Int) then (sleuthref12_SessionMay.l0 k (x3.set (((rd_T46 x538002 x4).f0) : Int).toNat ((rd_T46 x538002 x4).f1)) (wrap64 (x4 + 1)) x538000 x538001 x538002) else (none)) else (none)) else (some false))) else (some false)) else (some false))) else (none)) else (some true)
end
def sleuthref12_SessionMay.f (k : Nat) (l0_0 : List (S64)) (a0_1 : Int) (l0_2 : List (S46)) : Option (Bool) := (sleuthref12_TrailMay.f k l0_0).bind fun t538 => (if t538 = true then ((sleuthref12_upTo.f a0_1 0 1).bind fun t539 => (if t539 = true then (sleuthref12_SessionMay.j0 k (decide ((l0_2.length : Int) > 512)) l0_0 a0_1 l0_2) else (sleuthref12_SessionMay.j0 k true l0_0 a0_1 l0_2))) else (sleuthref12_SessionMay.j0 k true l0_0 a0_1 l0_2))
theorem sleuthref12_SessionMay.mono_l : ∀ k, (∀ y0 y1 y2 y3, LeO (sleuthref12_SessionMay.j0 k y0 y1 y2 y3) (sleuthref12_SessionMay.j0 (k + 1) y0 y1 y2 y3)) ∧ (∀ y0 y1 y2 y3 y4, LeO (sleuthref12_SessionMay.l0 k y0 y1 y2 y3 y4) (sleuthref12_SessionMay.l0 (k + 1) y0 y1 y2 y3 y4))
 | 0 => ⟨fun _ _ _ _ r h => by simp [sleuthref12_SessionMay.j0] at h, fun _ _ _ _ _ r h => by simp [sleuthref12_SessionMay.l0] at h⟩
 | k + 1 => by
  obtain ⟨ih0, ih1⟩ := sleuthref12_SessionMay.mono_l k
  refine ⟨?_, ?_⟩
  · intro y0 y1 y2 y3
    unfold sleuthref12_SessionMay.j0
    repeat' first
    | (with_reducible exact ih0 _ _ _ _)
    | (with_reducible exact ih1 _ _ _ _ _)
    | (with_reducible exact sleuthref12_TrailMay.mono _ _)
    | (with_reducible exact sleuthref12_asks.mono _ _ _ _)
    | (with_reducible exact LeO.refl _)
    | (with_reducible exact LeO.none _)
    | (with_reducible refine LeO.ite ?_ ?_)
    | (with_reducible refine LeO.bind ?_ (fun _ => ?_))
    | exact ih0 _ _ _ _
    | exact ih1 _ _ _ _ _
    | exact sleuthref12_TrailMay.mono _ _
    | exact sleuthref12_asks.mono _ _ _ _
    | exact LeO.none _
    | refine LeO.ite ?_ ?_
    | refine LeO.bind ?_ (fun _ => ?_)
  · intro y0 y1 y2 y3 y4
    unfold sleuthref12_SessionMay.l0
    repeat' first
    | (with_reducible exact ih0 _ _ _ _)
    | (with_reducible exact ih1 _ _ _ _ _)
    | (with_reducible exact sleuthref12_TrailMay.mono _ _)
    | (with_reducible exact sleuthref12_asks.mono _ _ _ _)
    | (with_reducible exact LeO.refl _)
    | (with_reducible exact LeO.none _)
    | (with_reducible refine LeO.ite ?_ ?_)
    | (with_reducible refine LeO.bind ?_ (fun _ => ?_))
    | exact ih0 _ _ _ _
    | exact ih1 _ _ _ _ _
    | exact sleuthref12_TrailMay.mono _ _
    | exact sleuthref12_asks.mono _ _ _ _
    | exact LeO.none _
    | refine LeO.ite ?_ ?_
    | refine LeO.bind ?_ (fun _ => ?_)
theorem sleuthref12_SessionMay.mono : ∀ a0 a1 a2 k, LeO (sleuthref12_SessionMay.f k a0 a1 a2) (sleuthref12_SessionMay.f (k + 1) a0 a1 a2) := by
 intro a0 a1 a2 k
 obtain ⟨ih0, ih1⟩ := sleuthref12_SessionMay.mono_l k
 unfold sleuthref12_SessionMay.f
 repeat' first
  | (with_reducible exact ih0 _ _ _ _)
  | (with_reducible exact ih1 _ _ _ _ _)
  | (with_reducible exact sleuthref12_TrailMay.mono _ _)
  | (with_reducible exact sleuthref12_asks.mono _ _ _ _)
  | (with_reducible exact LeO.refl _)
  | (with_reducible exact LeO.none _)
  | (with_reducible refine LeO.ite ?_ ?_)
  | (with_reducible refine LeO.bind ?_ (fun _ => ?_))
  | exact ih0 _ _ _ _
  | exact ih1 _ _ _ _ _
  | exact sleuthref12_TrailMay.mono _ _
  | exact sleuthref12_asks.mono _ _ _ _
  | exact LeO.none _
  | refine LeO.ite ?_ ?_
  | refine LeO.bind ?_ (fun _ => ?_)
theorem sleuthref12_SessionMay.calls (k : Nat) (A0_0 : Option Addr) (c0_0 : Nat) (l0_0 : List (S64)) (a0_1 : Int) (A0_2 : Option Addr) (c0_2 : Nat) (l0_2 : List (S46)) (r : Bool) (w : World) (hr0_0 : Kd.C k64 w A0_0 l0_0.length l0_0) (hc0_0 : l0_0.length ≤ c0_0) (hr0_2 : Kd.C k46 w A0_2 l0_2.length l0_2) (hc0_2 : l0_2.length ≤ c0_2) (h : sleuthref12_SessionMay.f k l0_0 a0_1 l0_2 = some r) :
 Calls Tryz.prog 21 #[.agg #[.slice A0_0 l0_0.length c0_0, .int .i64 a0_1, .slice A0_2 l0_2.length c0_2]] w fun e w' => e = .returned (.bool r) ∧ Below w.heap.size w w' := by
 have hu25 := Tryz.underlying25
 have hu46 := Tryz.underlying46
 have hu34 := Tryz.underlying34
 have HR0_0 := a_ hr0_0
 have HC0_0 := a_ hc0_0
 clear hr0_0 hc0_0
 have HR0_2 := a_ hr0_2
 have HC0_2 := a_ hc0_2
 clear hr0_2 hc0_2
 have HB := a_ (Below.refl w.heap.size w)
 have H : ((sleuthref12_TrailMay.f k l0_0).bind fun t538 => (if t538 = true then ((sleuthref12_upTo.f a0_1 0 1).bind fun t539 => (if t539 = true then (sleuthref12_SessionMay.j0 k (decide ((l0_2.length : Int) > 512)) l0_0 a0_1 l0_2) else (sleuthref12_SessionMay.j0 k true l0_0 a0_1 l0_2))) else (sleuthref12_SessionMay.j0 k true l0_0 a0_1 l0_2))) = some r := h
 clear h
 have HC2 := a_ H
 clear H
 go_enter Tryz.func21, Tryz.ntmps21
 go_upto_region 1 with (first | ((with_reducible refine gate_dst (N := 1) rfl ?_); (try (refine gate_guard (by rfl) ?_; dsimp only)); refine boxE_ 1 #[.slice A0_0 l0_0.length c0_0, .int .i64 a0_1, .slice A0_2 l0_2.length c0_2] 25 ?_; intro gb537 hg w3 hbox hb; have BK537 := a_ (hbox); have GW537 := a_ ((gE_ hg : w.heap.size ≤ gb537)); have GE537 := a_ ((gE_ hg : w.heap.size ≤ gb537)); replace HB := a_ (below_step hB_ hb); clear hb hbox hg))
 (try simp only [Act.put, List.setIfInBounds_toArray, List.set_cons_zero, List.set_cons_succ])
 go_cut [22] (fun v22 wc => ∃ (kq : Nat) (x22_1 : Bool), v22 = .bool x22_1 ∧ Aside0 (sleuthref12_SessionMay.j0 kq x22_1 l0_0 a0_1 l0_2 = some r) ∧ Aside0 (kq ≤ k) ∧ Aside0 (wc.heap[gb537]? = some (.cells #[(.slice A0_0 l0_0.length c0_0), .int .i64 a0_1, (.slice A0_2 l0_2.length c0_2)] 25 (0, 0))) ∧ Aside0 (Below w.heap.size w wc))
 case first =>
  have H := HC2.out
  clear HC2
  replace H := Option.bind_eq_some_iff.mp H
  obtain ⟨t538, A40, H⟩ := H
  replace H : (if t538 = true then ((sleuthref12_upTo.f a0_1 0 1).bind fun t539 => (if t539 = true then (sleuthref12_SessionMay.j0 k (decide ((l0_2.length : Int) > 512)) l0_0 a0_1 l0_2) else (sleuthref12_SessionMay.j0 k true l0_0 a0_1 l0_2))) else (sleuthref12_SessionMay.j0 k true l0_0 a0_1 l0_2)) = some r := H
  have A4 := a_ A40
  clear A40
  by_cases c5 : t538 = true
  case neg =>
   replace c5 := Bool.eq_false_iff.mpr c5
   subst c5
   have H1 : (sleuthref12_SessionMay.j0 k true l0_0 a0_1 l0_2) = some r := by rw [if_neg (show ¬ (false = true) by decide)] at H; exact H
   clear H
   have H := H1
   clear H1
   have H' := a_ H
   clear H
   obtain ⟨hcz14_0, hcz14_1, hcz14_2, hfz14_0, hfz14_1, hfz14_2⟩ := bx3_ BK537.out
   go_wp2_with (first | ((with_reducible refine gate_callee (f := 27) rfl ?_); refine goesL_ (some 9) rfl rfl Tryz.func27 (by kernel_rfl) rfl #[.slice A0_0 l0_0.length c0_0] rfl hL_ ?_; (with_reducible refine (sleuthref12_TrailMay.calls k _ _ l0_0 false _ ?side1 ?side2 A4.out).mono ?_); (case side1 => exact cB_ HR0_0.out); (case side2 => exact HC0_0.out); rintro e w15 ⟨rfl, hb⟩; refine ⟨_, rfl, ?_⟩; replace BK537 := a_ (bB_ BK537.out hb); replace HB := a_ (below_step hC_ hb); (try clear hb); (try clear hb2); (try clear hk); (try clear hi)))
   go_meet
   case rel => exact ⟨_, (true), hW_, H', ⟨by first | omega | exact Nat.le_refl _⟩, ⟨(hK_ BK537.out)⟩, ⟨hC_⟩⟩
  subst c5
  have H1 : ((sleuthref12_upTo.f a0_1 0 1).bind fun t539 => (if t539 = true then (sleuthref12_SessionMay.j0 k (decide ((l0_2.length : Int) > 512)) l0_0 a0_1 l0_2) else (sleuthref12_SessionMay.j0 k true l0_0 a0_1 l0_2))) = some r := by rw [if_pos rfl] at H; exact H
  clear H
  have H := H1
  clear H1
  replace H := Option.bind_eq_some_iff.mp H
  obtain ⟨t539, A60, H⟩ := H
  replace H : (if t539 = true then (sleuthref12_SessionMay.j0 k (decide ((l0_2.length : Int) > 512)) l0_0 a0_1 l0_2) else (sleuthref12_SessionMay.j0 k true l0_0 a0_1 l0_2)) = some r := H
  have A6 := a_ A60
  clear A60
  by_cases c7 : t539 = true
  case pos =>
   subst c7
   have H1 : (sleuthref12_SessionMay.j0 k (decide ((l0_2.length : Int) > 512)) l0_0 a0_1 l0_2) = some r := by rw [if_pos rfl] at H; exact H
   clear H
   have H := H1
   clear H1
   have H' := a_ H
   clear H
   obtain ⟨hcz8_0, hcz8_1, hcz8_2, hfz8_0, hfz8_1, hfz8_2⟩ := bx3_ BK537.out
   go_wp2_with (first | ((with_reducible refine gate_callee (f := 27) rfl ?_); refine goesL_ (some 9) rfl rfl Tryz.func27 (by kernel_rfl) rfl #[.slice A0_0 l0_0.length c0_0] rfl hL_ ?_; (with_reducible refine (sleuthref12_TrailMay.calls k _ _ l0_0 true _ ?side1 ?side2 A4.out).mono ?_); (case side1 => exact cB_ HR0_0.out); (case side2 => exact HC0_0.out); rintro e w9 ⟨rfl, hb⟩; refine ⟨_, rfl, ?_⟩; replace BK537 := a_ (bB_ BK537.out hb); replace HB := a_ (below_step hC_ hb); (try clear hb); (try clear hb2); (try clear hk); (try clear hi); obtain ⟨hcz10_0, hcz10_1, hcz10_2, hfz10_0, hfz10_1, hfz10_2⟩ := bx3_ BK537.out) | (go_at_call 28; (with_reducible refine (sleuthref12_upTo.calls a0_1 0 1 true _ A6.out).mono ?_); rintro e w' ⟨rfl, ⟨nd, rfl⟩⟩))
   go_meet
   case rel => exact ⟨_, (decide ((l0_2.length : Int) > 512)), hW_, H', ⟨by first | omega | exact Nat.le_refl _⟩, ⟨(hK_ BK537.out)⟩, ⟨hC_⟩⟩
  replace c7 := Bool.eq_false_iff.mpr c7
  subst c7
  have H1 : (sleuthref12_SessionMay.j0 k true l0_0 a0_1 l0_2) = some r := by rw [if_neg (show ¬ (false = true) by decide)] at H; exact H
  clear H
  have H := H1
  clear H1
  have H' := a_ H
  clear H
  obtain ⟨hcz11_0, hcz11_1, hcz11_2, hfz11_0, hfz11_1, hfz11_2⟩ := bx3_ BK537.out
  go_wp2_with (first | ((with_reducible refine gate_callee (f := 27) rfl ?_); refine goesL_ (some 9) rfl rfl Tryz.func27 (by kernel_rfl) rfl #[.slice A0_0 l0_0.length c0_0] rfl hL_ ?_; (with_reducible refine (sleuthref12_TrailMay.calls k _ _ l0_0 true _ ?side1 ?side2 A4.out).mono ?_); (case side1 => exact cB_ HR0_0.out); (case side2 => exact HC0_0.out); rintro e w12 ⟨rfl, hb⟩; refine ⟨_, rfl, ?_⟩; replace BK537 := a_ (bB_ BK537.out hb); replace HB := a_ (below_step hC_ hb); (try clear hb); (try clear hb2); (try clear hk); (try clear hi); obtain ⟨hcz13_0, hcz13_1, hcz13_2, hfz13_0, hfz13_1, hfz13_2⟩ := bx3_ BK537.out) | (go_at_call 28; (with_reducible refine (sleuthref12_upTo.calls a0_1 0 1 false _ A6.out).mono ?_); rintro e w' ⟨rfl, ⟨nd, rfl⟩⟩))
  go_meet
  case rel => exact ⟨_, (true), hW_, H', ⟨by first | omega | exact Nat.le_refl _⟩, ⟨(hK_ BK537.out)⟩, ⟨hC_⟩⟩
 case rest =>
  clear HC2
  try clear c2
  try clear p2
  try clear c5
  try clear c7
  try clear hcz10_0
  try clear hcz10_1
  try clear hcz10_2
  try clear hcz11_0
  try clear hcz11_1
  try clear hcz11_2
  try clear hcz13_0
  try clear hcz13_1
  try clear hcz13_2
  try clear hcz14_0
  try clear hcz14_1
  try clear hcz14_2
  try clear hcz8_0
  try clear hcz8_1
  try clear hcz8_2
  try clear hfz10_0
  try clear hfz10_1
  try clear hfz10_2
  try clear hfz11_0
  try clear hfz11_1
  try clear hfz11_2
  try clear hfz13_0
  try clear hfz13_1
  try clear hfz13_2
  try clear hfz14_0
  try clear hfz14_1
  try clear hfz14_2
  try clear hfz8_0
  try clear hfz8_1
  try clear hfz8_2
  obtain ⟨kq, x22_1, rfl, HA, HJ1, BK537, HB⟩ := hcut
  cases kq with
  | zero => exact absurd HA.out (by simp [sleuthref12_SessionMay.j0])
  | succ kj1 =>
   have H := HA.out
   clear HA
   simp only [sleuthref12_SessionMay.j0] at H
   by_cases c16 : x22_1 = true
   case pos =>
    subst c16
    have H1 : (some false) = some r := by rw [if_pos rfl] at H; exact H
    clear H
    have H := H1
    clear H1
    obtain rfl := Option.some.inj H
    go_wp2
    go_ret
    exact ⟨hV_, hC_⟩
   replace c16 := Bool.eq_false_iff.mpr c16
   subst c16
   have H1 : (if 0 ≤ (l0_0.length : Int) then (if ((l0_0.length : Int) : Int).toNat ≤ 35184372088832 then (sleuthref12_SessionMay.l0 kj1 (List.replicate ((l0_0.length : Int) : Int).toNat 0) 0 l0_0 a0_1 l0_2) else (none)) else (none)) = some r := by rw [if_neg (show ¬ (false = true) by decide)] at H; exact H
   clear H
   have H := H1
   clear H1
   replace H := ifI_ H; obtain ⟨c17, H⟩ := H
   have c17b0 := eq_true c17
   have c17b1 : decide (0 ≤ (l0_0.length : Int)) = true := decide_eq_true c17
   clear c17
   replace H := ifI_ H; obtain ⟨c18, H⟩ := H
   have c18b0 := eq_true c18
   have c18b1 : decide (((l0_0.length : Int) : Int).toNat ≤ 35184372088832) = true := decide_eq_true c18
   clear c18
   obtain ⟨y540, hy540⟩ : ∃ y_ : List Int, y_ = (List.replicate ((l0_0.length : Int) : Int).toNat 0) := ⟨_, rfl⟩
   replace H : (sleuthref12_SessionMay.l0 kj1 y540 0 l0_0 a0_1 l0_2) = some r := by first | (rw [hy540]; with_reducible exact H) | (have H2_ := (Option.bind_some _ _).symm.trans H; rw [hy540]; with_reducible exact H2_) | (have H2_ := (Option.bind_some _ _).symm.trans H; with_reducible exact H2_) | with_reducible exact H | (rw [hy540]; exact H) | exact H
   have Ny540 := a_ hy540
   clear hy540
   have H' := a_ H
   clear H
   obtain ⟨hcz19_0, hcz19_1, hcz19_2, hfz19_0, hfz19_1, hfz19_2⟩ := bx3_ BK537.out
   go_wp2_with (first | ((with_reducible refine gate_dst (N := 26) rfl ?_); (try (refine gate_guard (by rfl) ?_; dsimp only)); refine Kd.R_make (Kd.int .i64) _ 3 rfl (N := 26) rfl 27 _ _ rfl (l0_0.length : Int) rfl rfl Tryz.underlying27 (.int .i64 0) 8 info3 rfl (by decide) (by omega) 0 (ok := fun _ => True) (okp := fun _ => True) rfl (fun _ hk => hk) trivial (of_decide_eq_true hA_) (Nat.le_trans (Nat.mul_le_mul_right _ (of_decide_eq_true hA_ : (l0_0.length : Int).toNat ≤ 35184372088832)) (by omega)) (Below.refl _ _) (Nat.le_refl _) ?_; intro v541 w20 ho21 hb hg_ hnew_; clear hg_ hnew_; (first | rw [← Ny540.out] at ho21 | (simp only [Int.reduceToNat] at ho21; rw [← Ny540.out] at ho21)); have HO542 := a_ (Kd.R_lower ho21 (below_size hC_)); replace BK537 := a_ (bB_ BK537.out hb); replace HB := a_ (below_step hC_ hb); clear hb ho21))
   go_loopg [4] kj1 (fun kq v4 w' => ∃ (x3_2 : List Int) (x4_2 : Int), v4 = .int .i64 x4_2 ∧ Aside0 (sleuthref12_SessionMay.l0 kq x3_2 x4_2 l0_0 a0_1 l0_2 = some r) ∧ Aside0 (kq ≤ kj1) ∧ Aside0 (Kd.R (Kd.int .i64) 3 w' w.heap.size (fun _ => True) v541 x3_2) ∧ Aside0 (w'.heap[gb537]? = some (.cells #[(.slice A0_0 l0_0.length c0_0), .int .i64 a0_1, (.slice A0_2 l0_2.length c0_2)] 25 (0, 0))) ∧ Aside0 (Below w.heap.size w w'))
   case atStart => exact ⟨(y540), (0), hW_, H', ⟨Nat.le_refl _⟩, ⟨hR_ HO542.out⟩, ⟨(hK_ BK537.out)⟩, ⟨hC_⟩⟩
   case round =>
    clear H'
    try clear c1
    try clear c2
    try clear p2
    try clear c5
    try clear c7
    try clear c16
    try clear c17
    try clear c17b0
    try clear c17b1
    try clear c18
    try clear c18b0
    try clear c18b1
    try clear c21
    try clear hcz10_0
    try clear hcz10_1
    try clear hcz10_2
    try clear hcz11_0
    try clear hcz11_1
    try clear hcz11_2
    try clear hcz13_0
    try clear hcz13_1
    try clear hcz13_2
    try clear hcz14_0
    try clear hcz14_1
    try clear hcz14_2
    try clear hcz19_0
    try clear hcz19_1
    try clear hcz19_2
    try clear hcz8_0
    try clear hcz8_1
    try clear hcz8_2
    try clear hfz10_0
    try clear hfz10_1
    try clear hfz10_2
    try clear hfz11_0
    try clear hfz11_1
    try clear hfz11_2
    try clear hfz13_0
    try clear hfz13_1
    try clear hfz13_2
    try clear hfz14_0
    try clear hfz14_1
    try clear hfz14_2
    try clear hfz19_0
    try clear hfz19_1
    try clear hfz19_2
    try clear hfz8_0
    try clear hfz8_1
    try clear hfz8_2
    try clear p2
    obtain ⟨x3_2, x4_2, rfl, HA, HK2, HO_3, BK537, HB⟩ := hrel
    cases gk with
    | zero => exact absurd HA.out (by simp [sleuthref12_SessionMay.l0])
    | succ k2 =>
     have H := HA.out
     clear HA
     simp only [sleuthref12_SessionMay.l0] at H
     by_cases c22 : x4_2 < (l0_2.length : Int)
     case neg =>
      rw [if_neg c22] at H
      have c22b0 : decide (x4_2 < (l0_2.length : Int)) = false := decide_eq_false c22
      clear c22
      obtain rfl := Option.some.inj H
      obtain ⟨hcz83_0, hcz83_1, hcz83_2, hfz83_0, hfz83_1, hfz83_2⟩ := bx3_ BK537.out
      go_wp2
      go_ret
      exact ⟨hV_, hC_⟩
     rw [if_pos c22] at H
     have c22b0 : decide (x4_2 < (l0_2.length : Int)) = true := decide_eq_true c22
     clear c22
     replace H := ifI_ H; obtain ⟨c23, H⟩ := H
     have c23b0 : decide (0 ≤ x4_2) = true := decide_eq_true c23
     clear c23
     replace H := Option.bind_eq_some_iff.mp H
     obtain ⟨⟨t545, t546⟩, A240, H⟩ := H
     replace H : (if t545 = 0 then (if t546 = ((rd_T46 l0_2 x4_2).f0) then ((sleuthref12_markMay.f ((rd_T46 l0_2 x4_2).f1)).bind fun t548 => (if t548 = true then (if 0 ≤ ((rd_T46 l0_2 x4_2).f0) then (if ((rd_T46 l0_2 x4_2).f0) < (x3_2.length : Int) then (sleuthref12_SessionMay.l0 k2 (x3_2.set (((rd_T46 l0_2 x4_2).f0) : Int).toNat ((rd_T46 l0_2 x4_2).f1)) (wrap64 (x4_2 + 1)) l0_0 a0_1 l0_2) else (none)) else (none)) else (some false))) else (some false)) else (some false)) = some r := H
     have A24 := a_ A240
     clear A240
     by_cases c25 : t545 = 0
     case neg =>
      rw [if_neg c25] at H
      have c25b0 : (t545 == 0) = false := beq_eq_false_iff_ne.mpr c25
      have c25b1 : (t545 != 0) = true := bne_iff_ne.mpr c25
      obtain rfl := Option.some.inj H
      obtain ⟨hcz72_0, hcz72_1, hcz72_2, hfz72_0, hfz72_1, hfz72_2⟩ := bx3_ BK537.out
      have p543 : 0 ≤ (x4_2 : Int) := of_decide_eq_true hA_
      have q543 : x4_2 < (l0_2.length : Int) := of_decide_eq_true hA_
      obtain ⟨ad543, e543, hx543_0, hx543_1⟩ := at_T46 HR0_2.out x4_2 p543 q543
      cases e543
      replace hx543_0 := cl_ HB.out hx543_0
      replace hx543_1 := cl_ HB.out hx543_1
      replace p543 := eq_true p543
      replace q543 := eq_true q543
      go_wp2_with (first | ((with_reducible refine gate_dst (N := 5) rfl ?_); (try (refine gate_guard (by rfl) ?_; dsimp only)); refine boxE_ 5 #[.int .i64 0, .int .i64 0] 46 ?_; intro gb544 hg w73 hbox hb; replace HO_3 := a_ (Kd.R_below (hR_ HO_3.out) hb); have BK544 := a_ (hbox); have GW544 := a_ ((gE_ hg : w.heap.size ≤ gb544)); have GE544 := a_ ((gE_ hg : w.heap.size ≤ gb544)); replace HB := a_ (below_step hC_ hb); have NB537_544 := a_ ((bL_ BK537.out hg : gb537 ≠ gb544)); have NB544_537 := a_ ((bG_ BK537.out hg : gb544 ≠ gb537)); replace BK537 := a_ (bB_ BK537.out hb); clear hb hbox hg; have hnb74 := NB544_537.out; have hnc74 := NB537_544.out; obtain ⟨hcz75_0, hcz75_1, hfz75_0, hfz75_1⟩ := bx2_ BK544.out; obtain ⟨hcz76_0, hcz76_1, hcz76_2, hfz76_0, hfz76_1, hfz76_2⟩ := bx3_ BK537.out; obtain ⟨Ao77, co77, eo77⟩ := Kd.R_slice HO_3.out; subst eo77) | ((with_reducible refine gate_callee (f := 32) rfl ?_); refine goesL_ (some 44) rfl rfl Tryz.func32 (by kernel_rfl) rfl #[.slice A0_0 l0_0.length c0_0, .int .i64 a0_1, .slice Ao77 x3_2.length co77] rfl hL_ ?_; (with_reducible refine (sleuthref12_asks.calls k2 _ _ l0_0 a0_1 _ _ x3_2 t545 t546 _ ?side1 ?side2 ?side3 ?side4 A24.out).mono ?_); (case side1 => exact Kd.C_below HR0_0.out hC_); (case side2 => exact HC0_0.out); (case side3 => refine (Kd.R_reads' (e := 3) (base := w.heap.size) (ok := fun k_ => True) (n := x3_2.length) (c := co77) ?_).2.2; exact (by (with_reducible repeat (first | apply Kd.R_alloc | apply Kd.R_drewN | apply Kd.R_drew)); exact (Kd.R_mono (rF_ (rF_ (Kd.R_types HO_3.out BK544.out (by decide)))) (fun _ h_ => h_.1)))); (case side4 => exact (Kd.R_reads' HO_3.out).2.1); rintro e w78 ⟨rfl, hb⟩; refine ⟨_, rfl, ?_⟩; replace HO_3 := a_ (Kd.R_below (by (with_reducible repeat (first | apply Kd.R_alloc | apply Kd.R_drewN | apply Kd.R_drew)); exact (Kd.R_mono (rF_ (rF_ (Kd.R_types HO_3.out BK544.out (by decide)))) (fun _ h_ => h_.1))) hb); replace BK537 := a_ (blk_below (g := gb537) (o := .cells #[.slice A0_0 l0_0.length c0_0, .int .i64 a0_1, .slice (some ad543) l0_2.length c0_2] 25 (0, 0)) (bF_ (bF_ (hK_ BK537.out) NB537_544.out) NB537_544.out) hb); replace BK544 := a_ (blk_below (g := gb544) (o := .cells #[.int .i64 ((rd_T46 l0_2 x4_2).f0), .int .i64 ((rd_T46 l0_2 x4_2).f1)] 46 (0, 0)) (bP_ (bP_ (hK_ BK544.out))) hb); replace HB := a_ (below_step hC_ hb); (try clear hb); (try clear hb2); (try clear hk); (try clear hi)) | ((with_reducible refine gate_dst (N := 6) rfl ?_); (try (refine gate_guard (by rfl) ?_; dsimp only)); refine boxE_ 6 #[.int .i64 0, .int .i64 0] 34 ?_; intro gb547 hg w79 hbox hb; replace HO_3 := a_ (Kd.R_below (hR_ HO_3.out) hb); have BK547 := a_ (hbox); have GW547 := a_ ((gE_ hg : w.heap.size ≤ gb547)); have GE547 := a_ ((gE_ hg : w.heap.size ≤ gb547)); replace HB := a_ (below_step hC_ hb); have NB537_547 := a_ ((bL_ BK537.out hg : gb537 ≠ gb547)); have NB547_537 := a_ ((bG_ BK537.out hg : gb547 ≠ gb537)); replace BK537 := a_ (bB_ BK537.out hb); have NB544_547 := a_ ((bL_ BK544.out hg : gb544 ≠ gb547)); have NB547_544 := a_ ((bG_ BK544.out hg : gb547 ≠ gb544)); replace BK544 := a_ (bB_ BK544.out hb); clear hb hbox hg; have hnb80 := NB547_537.out; have hnc80 := NB537_547.out; have hnb81 := NB547_544.out; have hnc81 := NB544_547.out; obtain ⟨hcz82_0, hcz82_1, hfz82_0, hfz82_1⟩ := bx2_ BK547.out))
      go_ret
      exact ⟨hV_, hC_⟩
     rw [if_pos c25] at H
     have c25b0 : (t545 == 0) = true := beq_iff_eq.mpr c25
     have c25b1 : (t545 != 0) = false := bne_eq_false_iff_eq.mpr c25
     clear c25
     by_cases c26 : t546 = ((rd_T46 l0_2 x4_2).f0)
     case neg =>
      rw [if_neg c26] at H
      have c26b0 : (t546 == ((rd_T46 l0_2 x4_2).f0)) = false := beq_eq_false_iff_ne.mpr c26
      have c26b1 : (t546 != ((rd_T46 l0_2 x4_2).f0)) = true := bne_iff_ne.mpr c26
      obtain rfl := Option.some.inj H
      obtain ⟨hcz60_0, hcz60_1, hcz60_2, hfz60_0, hfz60_1, hfz60_2⟩ := bx3_ BK537.out
      have p543 : 0 ≤ (x4_2 : Int) := of_decide_eq_true hA_
      have q543 : x4_2 < (l0_2.length : Int) := of_decide_eq_true hA_
      obtain ⟨ad543, e543, hx543_0, hx543_1⟩ := at_T46 HR0_2.out x4_2 p543 q543
      cases e543
      replace hx543_0 := cl_ HB.out hx543_0
      replace hx543_1 := cl_ HB.out hx543_1
      replace p543 := eq_true p543
      replace q543 := eq_true q543
      go_wp2_with (first | ((with_reducible refine gate_dst (N := 5) rfl ?_); (try (refine gate_guard (by rfl) ?_; dsimp only)); refine boxE_ 5 #[.int .i64 0, .int .i64 0] 46 ?_; intro gb544 hg w61 hbox hb; replace HO_3 := a_ (Kd.R_below (hR_ HO_3.out) hb); have BK544 := a_ (hbox); have GW544 := a_ ((gE_ hg : w.heap.size ≤ gb544)); have GE544 := a_ ((gE_ hg : w.heap.size ≤ gb544)); replace HB := a_ (below_step hC_ hb); have NB537_544 := a_ ((bL_ BK537.out hg : gb537 ≠ gb544)); have NB544_537 := a_ ((bG_ BK537.out hg : gb544 ≠ gb537)); replace BK537 := a_ (bB_ BK537.out hb); clear hb hbox hg; have hnb62 := NB544_537.out; have hnc62 := NB537_544.out; obtain ⟨hcz63_0, hcz63_1, hfz63_0, hfz63_1⟩ := bx2_ BK544.out; obtain ⟨hcz64_0, hcz64_1, hcz64_2, hfz64_0, hfz64_1, hfz64_2⟩ := bx3_ BK537.out; obtain ⟨Ao65, co65, eo65⟩ := Kd.R_slice HO_3.out; subst eo65) | ((with_reducible refine gate_callee (f := 32) rfl ?_); refine goesL_ (some 44) rfl rfl Tryz.func32 (by kernel_rfl) rfl #[.slice A0_0 l0_0.length c0_0, .int .i64 a0_1, .slice Ao65 x3_2.length co65] rfl hL_ ?_; (with_reducible refine (sleuthref12_asks.calls k2 _ _ l0_0 a0_1 _ _ x3_2 t545 t546 _ ?side1 ?side2 ?side3 ?side4 A24.out).mono ?_); (case side1 => exact Kd.C_below HR0_0.out hC_); (case side2 => exact HC0_0.out); (case side3 => refine (Kd.R_reads' (e := 3) (base := w.heap.size) (ok := fun k_ => True) (n := x3_2.length) (c := co65) ?_).2.2; exact (by (with_reducible repeat (first | apply Kd.R_alloc | apply Kd.R_drewN | apply Kd.R_drew)); exact (Kd.R_mono (rF_ (rF_ (Kd.R_types HO_3.out BK544.out (by decide)))) (fun _ h_ => h_.1)))); (case side4 => exact (Kd.R_reads' HO_3.out).2.1); rintro e w66 ⟨rfl, hb⟩; refine ⟨_, rfl, ?_⟩; replace HO_3 := a_ (Kd.R_below (by (with_reducible repeat (first | apply Kd.R_alloc | apply Kd.R_drewN | apply Kd.R_drew)); exact (Kd.R_mono (rF_ (rF_ (Kd.R_types HO_3.out BK544.out (by decide)))) (fun _ h_ => h_.1))) hb); replace BK537 := a_ (blk_below (g := gb537) (o := .cells #[.slice A0_0 l0_0.length c0_0, .int .i64 a0_1, .slice (some ad543) l0_2.length c0_2] 25 (0, 0)) (bF_ (bF_ (hK_ BK537.out) NB537_544.out) NB537_544.out) hb); replace BK544 := a_ (blk_below (g := gb544) (o := .cells #[.int .i64 ((rd_T46 l0_2 x4_2).f0), .int .i64 ((rd_T46 l0_2 x4_2).f1)] 46 (0, 0)) (bP_ (bP_ (hK_ BK544.out))) hb); replace HB := a_ (below_step hC_ hb); (try clear hb); (try clear hb2); (try clear hk); (try clear hi)) | ((with_reducible refine gate_dst (N := 6) rfl ?_); (try (refine gate_guard (by rfl) ?_; dsimp only)); refine boxE_ 6 #[.int .i64 0, .int .i64 0] 34 ?_; intro gb547 hg w67 hbox hb; replace HO_3 := a_ (Kd.R_below (hR_ HO_3.out) hb); have BK547 := a_ (hbox); have GW547 := a_ ((gE_ hg : w.heap.size ≤ gb547)); have GE547 := a_ ((gE_ hg : w.heap.size ≤ gb547)); replace HB := a_ (below_step hC_ hb); have NB537_547 := a_ ((bL_ BK537.out hg : gb537 ≠ gb547)); have NB547_537 := a_ ((bG_ BK537.out hg : gb547 ≠ gb537)); replace BK537 := a_ (bB_ BK537.out hb); have NB544_547 := a_ ((bL_ BK544.out hg : gb544 ≠ gb547)); have NB547_544 := a_ ((bG_ BK544.out hg : gb547 ≠ gb544)); replace BK544 := a_ (bB_ BK544.out hb); clear hb hbox hg; have hnb68 := NB547_537.out; have hnc68 := NB537_547.out; have hnb69 := NB547_544.out; have hnc69 := NB544_547.out; obtain ⟨hcz70_0, hcz70_1, hfz70_0, hfz70_1⟩ := bx2_ BK547.out; obtain ⟨hcz71_0, hcz71_1, hfz71_0, hfz71_1⟩ := bx2_ BK544.out))
      go_ret
      exact ⟨hV_, hC_⟩
     rw [if_pos c26] at H
     have c26b0 : (t546 == ((rd_T46 l0_2 x4_2).f0)) = true := beq_iff_eq.mpr c26
     have c26b1 : (t546 != ((rd_T46 l0_2 x4_2).f0)) = false := bne_eq_false_iff_eq.mpr c26
     clear c26
     replace H := Option.bind_eq_some_iff.mp H
     obtain ⟨t548, A270, H⟩ := H
     replace H : (if t548 = true then (if 0 ≤ ((rd_T46 l0_2 x4_2).f0) then (if ((rd_T46 l0_2 x4_2).f0) < (x3_2.length : Int) then (sleuthref12_SessionMay.l0 k2 (x3_2.set (((rd_T46 l0_2 x4_2).f0) : Int).toNat ((rd_T46 l0_2 x4_2).f1)) (wrap64 (x4_2 + 1)) l0_0 a0_1 l0_2) else (none)) else (none)) else (some false)) = some r := H
     have A27 := a_ A270
     clear A270
     by_cases c28 : t548 = true
     case neg =>
      replace c28 := Bool.eq_false_iff.mpr c28
      subst c28
      have H1 : (some false) = some r := by rw [if_neg (show ¬ (false = true) by decide)] at H; exact H
      clear H
      have H := H1
      clear H1
      obtain rfl := Option.some.inj H
      obtain ⟨hcz48_0, hcz48_1, hcz48_2, hfz48_0, hfz48_1, hfz48_2⟩ := bx3_ BK537.out
      have p543 : 0 ≤ (x4_2 : Int) := of_decide_eq_true hA_
      have q543 : x4_2 < (l0_2.length : Int) := of_decide_eq_true hA_
      obtain ⟨ad543, e543, hx543_0, hx543_1⟩ := at_T46 HR0_2.out x4_2 p543 q543
      cases e543
      replace hx543_0 := cl_ HB.out hx543_0
      replace hx543_1 := cl_ HB.out hx543_1
      replace p543 := eq_true p543
      replace q543 := eq_true q543
      go_wp2_with (first | ((with_reducible refine gate_dst (N := 5) rfl ?_); (try (refine gate_guard (by rfl) ?_; dsimp only)); refine boxE_ 5 #[.int .i64 0, .int .i64 0] 46 ?_; intro gb544 hg w49 hbox hb; replace HO_3 := a_ (Kd.R_below (hR_ HO_3.out) hb); have BK544 := a_ (hbox); have GW544 := a_ ((gE_ hg : w.heap.size ≤ gb544)); have GE544 := a_ ((gE_ hg : w.heap.size ≤ gb544)); replace HB := a_ (below_step hC_ hb); have NB537_544 := a_ ((bL_ BK537.out hg : gb537 ≠ gb544)); have NB544_537 := a_ ((bG_ BK537.out hg : gb544 ≠ gb537)); replace BK537 := a_ (bB_ BK537.out hb); clear hb hbox hg; have hnb50 := NB544_537.out; have hnc50 := NB537_544.out; obtain ⟨hcz51_0, hcz51_1, hfz51_0, hfz51_1⟩ := bx2_ BK544.out; obtain ⟨hcz52_0, hcz52_1, hcz52_2, hfz52_0, hfz52_1, hfz52_2⟩ := bx3_ BK537.out; obtain ⟨Ao53, co53, eo53⟩ := Kd.R_slice HO_3.out; subst eo53) | ((with_reducible refine gate_callee (f := 32) rfl ?_); refine goesL_ (some 44) rfl rfl Tryz.func32 (by kernel_rfl) rfl #[.slice A0_0 l0_0.length c0_0, .int .i64 a0_1, .slice Ao53 x3_2.length co53] rfl hL_ ?_; (with_reducible refine (sleuthref12_asks.calls k2 _ _ l0_0 a0_1 _ _ x3_2 t545 t546 _ ?side1 ?side2 ?side3 ?side4 A24.out).mono ?_); (case side1 => exact Kd.C_below HR0_0.out hC_); (case side2 => exact HC0_0.out); (case side3 => refine (Kd.R_reads' (e := 3) (base := w.heap.size) (ok := fun k_ => True) (n := x3_2.length) (c := co53) ?_).2.2; exact (by (with_reducible repeat (first | apply Kd.R_alloc | apply Kd.R_drewN | apply Kd.R_drew)); exact (Kd.R_mono (rF_ (rF_ (Kd.R_types HO_3.out BK544.out (by decide)))) (fun _ h_ => h_.1)))); (case side4 => exact (Kd.R_reads' HO_3.out).2.1); rintro e w54 ⟨rfl, hb⟩; refine ⟨_, rfl, ?_⟩; replace HO_3 := a_ (Kd.R_below (by (with_reducible repeat (first | apply Kd.R_alloc | apply Kd.R_drewN | apply Kd.R_drew)); exact (Kd.R_mono (rF_ (rF_ (Kd.R_types HO_3.out BK544.out (by decide)))) (fun _ h_ => h_.1))) hb); replace BK537 := a_ (blk_below (g := gb537) (o := .cells #[.slice A0_0 l0_0.length c0_0, .int .i64 a0_1, .slice (some ad543) l0_2.length c0_2] 25 (0, 0)) (bF_ (bF_ (hK_ BK537.out) NB537_544.out) NB537_544.out) hb); replace BK544 := a_ (blk_below (g := gb544) (o := .cells #[.int .i64 ((rd_T46 l0_2 x4_2).f0), .int .i64 ((rd_T46 l0_2 x4_2).f1)] 46 (0, 0)) (bP_ (bP_ (hK_ BK544.out))) hb); replace HB := a_ (below_step hC_ hb); (try clear hb); (try clear hb2); (try clear hk); (try clear hi)) | ((with_reducible refine gate_dst (N := 6) rfl ?_); (try (refine gate_guard (by rfl) ?_; dsimp only)); refine boxE_ 6 #[.int .i64 0, .int .i64 0] 34 ?_; intro gb547 hg w55 hbox hb; replace HO_3 := a_ (Kd.R_below (hR_ HO_3.out) hb); have BK547 := a_ (hbox); have GW547 := a_ ((gE_ hg : w.heap.size ≤ gb547)); have GE547 := a_ ((gE_ hg : w.heap.size ≤ gb547)); replace HB := a_ (below_step hC_ hb); have NB537_547 := a_ ((bL_ BK537.out hg : gb537 ≠ gb547)); have NB547_537 := a_ ((bG_ BK537.out hg : gb547 ≠ gb537)); replace BK537 := a_ (bB_ BK537.out hb); have NB544_547 := a_ ((bL_ BK544.out hg : gb544 ≠ gb547)); have NB547_544 := a_ ((bG_ BK544.out hg : gb547 ≠ gb544)); replace BK544 := a_ (bB_ BK544.out hb); clear hb hbox hg; have hnb56 := NB547_537.out; have hnc56 := NB537_547.out; have hnb57 := NB547_544.out; have hnc57 := NB544_547.out; obtain ⟨hcz58_0, hcz58_1, hfz58_0, hfz58_1⟩ := bx2_ BK547.out; obtain ⟨hcz59_0, hcz59_1, hfz59_0, hfz59_1⟩ := bx2_ BK544.out) | (go_at_call 29; (with_reducible refine (sleuthref12_markMay.calls ((rd_T46 l0_2 x4_2).f1) false _ A27.out).mono ?_); rintro e w' ⟨rfl, ⟨nd, rfl⟩⟩))
      go_ret
      exact ⟨hV_, hC_⟩
     subst c28
     have H1 : (if 0 ≤ ((rd_T46 l0_2 x4_2).f0) then (if ((rd_T46 l0_2 x4_2).f0) < (x3_2.length : Int) then (sleuthref12_SessionMay.l0 k2 (x3_2.set (((rd_T46 l0_2 x4_2).f0) : Int).toNat ((rd_T46 l0_2 x4_2).f1)) (wrap64 (x4_2 + 1)) l0_0 a0_1 l0_2) else (none)) else (none)) = some r := by rw [if_pos rfl] at H; exact H
     clear H
     have H := H1
     clear H1
     replace H := ifI_ H; obtain ⟨c29, H⟩ := H
     have c29b0 : decide (0 ≤ ((rd_T46 l0_2 x4_2).f0)) = true := decide_eq_true c29
     clear c29
     replace H := ifI_ H; obtain ⟨c30, H⟩ := H
     have c30b0 : decide (((rd_T46 l0_2 x4_2).f0) < (x3_2.length : Int)) = true := decide_eq_true c30
     clear c30
     obtain ⟨y549, hy549⟩ : ∃ y_ : List Int, y_ = (x3_2.set (((rd_T46 l0_2 x4_2).f0) : Int).toNat ((rd_T46 l0_2 x4_2).f1)) := ⟨_, rfl⟩
     replace H : (sleuthref12_SessionMay.l0 k2 y549 (wrap64 (x4_2 + 1)) l0_0 a0_1 l0_2) = some r := by first | (rw [hy549]; with_reducible exact H) | (have H2_ := (Option.bind_some _ _).symm.trans H; rw [hy549]; with_reducible exact H2_) | (have H2_ := (Option.bind_some _ _).symm.trans H; with_reducible exact H2_) | with_reducible exact H | (rw [hy549]; exact H) | exact H
     have Ny549 := a_ hy549
     clear hy549
     have H' := a_ H
     clear H
     obtain ⟨hcz32_0, hcz32_1, hcz32_2, hfz32_0, hfz32_1, hfz32_2⟩ := bx3_ BK537.out
     have p543 : 0 ≤ (x4_2 : Int) := of_decide_eq_true hA_
     have q543 : x4_2 < (l0_2.length : Int) := of_decide_eq_true hA_
     obtain ⟨ad543, e543, hx543_0, hx543_1⟩ := at_T46 HR0_2.out x4_2 p543 q543
     cases e543
     replace hx543_0 := cl_ HB.out hx543_0
     replace hx543_1 := cl_ HB.out hx543_1
     replace p543 := eq_true p543
     replace q543 := eq_true q543
     go_wp2_with (first | ((with_reducible refine gate_dst (N := 5) rfl ?_); (try (refine gate_guard (by rfl) ?_; dsimp only)); refine boxE_ 5 #[.int .i64 0, .int .i64 0] 46 ?_; intro gb544 hg w33 hbox hb; replace HO_3 := a_ (Kd.R_below (hR_ HO_3.out) hb); have BK544 := a_ (hbox); have GW544 := a_ ((gE_ hg : w.heap.size ≤ gb544)); have GE544 := a_ ((gE_ hg : w.heap.size ≤ gb544)); replace HB := a_ (below_step hC_ hb); have NB537_544 := a_ ((bL_ BK537.out hg : gb537 ≠ gb544)); have NB544_537 := a_ ((bG_ BK537.out hg : gb544 ≠ gb537)); replace BK537 := a_ (bB_ BK537.out hb); clear hb hbox hg; have hnb34 := NB544_537.out; have hnc34 := NB537_544.out; obtain ⟨hcz35_0, hcz35_1, hfz35_0, hfz35_1⟩ := bx2_ BK544.out; obtain ⟨hcz36_0, hcz36_1, hcz36_2, hfz36_0, hfz36_1, hfz36_2⟩ := bx3_ BK537.out; obtain ⟨Ao37, co37, eo37⟩ := Kd.R_slice HO_3.out; subst eo37) | ((with_reducible refine gate_callee (f := 32) rfl ?_); refine goesL_ (some 44) rfl rfl Tryz.func32 (by kernel_rfl) rfl #[.slice A0_0 l0_0.length c0_0, .int .i64 a0_1, .slice Ao37 x3_2.length co37] rfl hL_ ?_; (with_reducible refine (sleuthref12_asks.calls k2 _ _ l0_0 a0_1 _ _ x3_2 t545 t546 _ ?side1 ?side2 ?side3 ?side4 A24.out).mono ?_); (case side1 => exact Kd.C_below HR0_0.out hC_); (case side2 => exact HC0_0.out); (case side3 => refine (Kd.R_reads' (e := 3) (base := w.heap.size) (ok := fun k_ => True) (n := x3_2.length) (c := co37) ?_).2.2; exact (by (with_reducible repeat (first | apply Kd.R_alloc | apply Kd.R_drewN | apply Kd.R_drew)); exact (Kd.R_mono (rF_ (rF_ (Kd.R_types HO_3.out BK544.out (by decide)))) (fun _ h_ => h_.1)))); (case side4 => exact (Kd.R_reads' HO_3.out).2.1); rintro e w38 ⟨rfl, hb⟩; refine ⟨_, rfl, ?_⟩; replace HO_3 := a_ (Kd.R_below (by (with_reducible repeat (first | apply Kd.R_alloc | apply Kd.R_drewN | apply Kd.R_drew)); exact (Kd.R_mono (rF_ (rF_ (Kd.R_types HO_3.out BK544.out (by decide)))) (fun _ h_ => h_.1))) hb); replace BK537 := a_ (blk_below (g := gb537) (o := .cells #[.slice A0_0 l0_0.length c0_0, .int .i64 a0_1, .slice (some ad543) l0_2.length c0_2] 25 (0, 0)) (bF_ (bF_ (hK_ BK537.out) NB537_544.out) NB537_544.out) hb); replace BK544 := a_ (blk_below (g := gb544) (o := .cells #[.int .i64 ((rd_T46 l0_2 x4_2).f0), .int .i64 ((rd_T46 l0_2 x4_2).f1)] 46 (0, 0)) (bP_ (bP_ (hK_ BK544.out))) hb); replace HB := a_ (below_step hC_ hb); (try clear hb); (try clear hb2); (try clear hk); (try clear hi)) | ((with_reducible refine gate_dst (N := 6) rfl ?_); (try (refine gate_guard (by rfl) ?_; dsimp only)); refine boxE_ 6 #[.int .i64 0, .int .i64 0] 34 ?_; intro gb547 hg w39 hbox hb; replace HO_3 := a_ (Kd.R_below (hR_ HO_3.out) hb); have BK547 := a_ (hbox); have GW547 := a_ ((gE_ hg : w.heap.size ≤ gb547)); have GE547 := a_ ((gE_ hg : w.heap.size ≤ gb547)); replace HB := a_ (below_step hC_ hb); have NB537_547 := a_ ((bL_ BK537.out hg : gb537 ≠ gb547)); have NB547_537 := a_ ((bG_ BK537.out hg : gb547 ≠ gb537)); replace BK537 := a_ (bB_ BK537.out hb); have NB544_547 := a_ ((bL_ BK544.out hg : gb544 ≠ gb547)); have NB547_544 := a_ ((bG_ BK544.out hg : gb547 ≠ gb544)); replace BK544 := a_ (bB_ BK544.out hb); clear hb hbox hg; have hnb40 := NB547_537.out; have hnc40 := NB537_547.out; have hnb41 := NB547_544.out; have hnc41 := NB544_547.out; obtain ⟨hcz42_0, hcz42_1, hfz42_0, hfz42_1⟩ := bx2_ BK547.out) | ((with_reducible refine gate_store (t := 34) (p := 6) rfl ?_); refine store_event (t := 34) (p := 6) (v := ?vo_w43) (w1 := ((w39.setCell ⟨gb547, 0, none⟩ (.int .i64 t545)).setCell ⟨gb547, 1, none⟩ (.int .i64 t546))) ?hg ?ho ?hn ?hr ?_; (case ho => rfl); (case hg => rfl); (case hn => rfl); (case hr => first | (go_simp; done) | (go_simp; rfl)); intro w43 hw; replace HO_3 : Aside0 (Kd.R (Kd.int .i64) 3 w43 w.heap.size (fun _ => True) (.slice Ao37 x3_2.length co37) x3_2) := ⟨(by rw [hw]; exact (by (with_reducible repeat (first | apply Kd.R_alloc | apply Kd.R_drewN | apply Kd.R_drew)); exact Kd.R_mono (rF_ (rF_ (Kd.R_types HO_3.out BK547.out (by decide)))) (fun _ hk => trivial)))⟩; replace BK537 : Aside0 (w43.heap[gb537]? = some (.cells #[.slice A0_0 l0_0.length c0_0, .int .i64 a0_1, .slice (some ad543) l0_2.length c0_2] 25 (0, 0))) := ⟨(by rw [hw]; exact (bF_ (bF_ (hK_ BK537.out) NB537_547.out) NB537_547.out))⟩; replace BK544 : Aside0 (w43.heap[gb544]? = some (.cells #[.int .i64 ((rd_T46 l0_2 x4_2).f0), .int .i64 ((rd_T46 l0_2 x4_2).f1)] 46 (0, 0))) := ⟨(by rw [hw]; exact (bF_ (bF_ (hK_ BK544.out) NB544_547.out) NB544_547.out))⟩; replace BK547 : Aside0 (w43.heap[gb547]? = some (.cells #[.int .i64 t545, .int .i64 t546] 34 (0, 0))) := ⟨(by rw [hw]; exact (bP_ (bP_ (hK_ BK547.out))))⟩; replace HB : Aside0 (Below w.heap.size w w43) := ⟨(by rw [hw]; exact hC_)⟩; clear hw; obtain ⟨hcz44_0, hcz44_1, hfz44_0, hfz44_1⟩ := bx2_ BK547.out; obtain ⟨hcz45_0, hcz45_1, hfz45_0, hfz45_1⟩ := bx2_ BK544.out) | (go_at_call 29; (with_reducible refine (sleuthref12_markMay.calls ((rd_T46 l0_2 x4_2).f1) true _ A27.out).mono ?_); rintro e w' ⟨rfl, ⟨nd, rfl⟩⟩; (try (rw [drewN_self w43]; generalize hq_ : World.drewN w43 _ = w43; replace HO_3 : Aside0 (Kd.R (Kd.int .i64) 3 w43 w.heap.size (fun _ => True) (.slice Ao37 x3_2.length co37) x3_2) := ⟨by rw [← hq_]; exact (hR_ HO_3.out)⟩; replace BK537 : Aside0 (w43.heap[gb537]? = some (.cells #[.slice A0_0 l0_0.length c0_0, .int .i64 a0_1, .slice (some ad543) l0_2.length c0_2] 25 (0, 0))) := ⟨by rw [← hq_]; exact (hK_ BK537.out)⟩; replace BK544 : Aside0 (w43.heap[gb544]? = some (.cells #[.int .i64 ((rd_T46 l0_2 x4_2).f0), .int .i64 ((rd_T46 l0_2 x4_2).f1)] 46 (0, 0))) := ⟨by rw [← hq_]; exact (hK_ BK544.out)⟩; replace BK547 : Aside0 (w43.heap[gb547]? = some (.cells #[.int .i64 t545, .int .i64 t546] 34 (0, 0))) := ⟨by rw [← hq_]; exact (hK_ BK547.out)⟩; replace HB : Aside0 (Below w.heap.size w w43) := ⟨by rw [← hq_]; exact hC_⟩; clear hq_; (try have hcu0_0 := bc0_ BK537.out); (try have hfu0_0 := blk_frozen BK537.out 0); (try have hcu0_1 := bc1_ BK537.out); (try have hfu0_1 := blk_frozen BK537.out 1); (try have hcu0_2 := bc2_ BK537.out); (try have hfu0_2 := blk_frozen BK537.out 2); (try have hcu1_0 := bc0_ BK544.out); (try have hfu1_0 := blk_frozen BK544.out 0); (try have hcu1_1 := bc1_ BK544.out); (try have hfu1_1 := blk_frozen BK544.out 1); (try have hcu2_0 := bc0_ BK547.out); (try have hfu2_0 := blk_frozen BK547.out 0); (try have hcu2_1 := bc1_ BK547.out); (try have hfu2_1 := blk_frozen BK547.out 1))); have p31 : 0 ≤ (((rd_T46 l0_2 x4_2).f0) : Int) := of_decide_eq_true hA_; have q31 : (((rd_T46 l0_2 x4_2).f0) : Int) < ((x3_2.length : Int) : Int) := of_decide_eq_true hA_; obtain ⟨go31, co31, eo31, gb31, gl31, cl31, HG31⟩ := Kd.R_form HO_3.out (by omega); (first | cases eo31 | (injection eo31 with ea_ en_ ec_; (first | subst ea_ | (injection ea_ with ea_; subst ea_)); subst ec_; clear en_)); have GB31 := a_ gb31; have GG31 := a_ HG31; clear gb31 gl31 HG31; obtain ⟨hx31_0, hf31_0⟩ := Kd.R_celln 0 HO_3.out (((rd_T46 l0_2 x4_2).f0) : Int) p31 q31; replace p31 := eq_true p31; replace q31 := eq_true q31; obtain ⟨hy46_, hz46_⟩ := Kd.R_celln 0 HO_3.out (((rd_T46 l0_2 x4_2).f0) : Int) (of_decide_eq_true hA_) (of_decide_eq_true hA_); have HP46 := Kd.R_putg HO_3.out (((rd_T46 l0_2 x4_2).f0) : Int) ((rd_T46 l0_2 x4_2).f1)) | ((with_reducible refine gate_store (t := 3) (p := 66) rfl ?_); refine store_event (t := 3) (p := 66) (v := ?vo_w47) (w1 := (w43.setCell ⟨go31, (((rd_T46 l0_2 x4_2).f0) : Int).toNat, none⟩ (.int .i64 ((rd_T46 l0_2 x4_2).f1)))) ?hg ?ho ?hn ?hr ?_; (case ho => rfl); (case hg => rfl); (case hn => rfl); (case hr => first | (go_simp; done) | (go_simp; rfl)); intro w47 hw; have hg : w43.grownBy w47 (some go31) := (by rw [hw]; exact HP46.2); have hp_ : Kd.R (Kd.int .i64) 3 w47 w.heap.size (fun _ => True) (.slice (some ⟨go31, 0, none⟩) x3_2.length co37) y549 := (by rw [hw, Ny549.out]; exact HP46.1); clear HP46; replace BK537 := a_ (blk_grown (hK_ BK537.out) hg (Kd.R_ne HO_3.out BK537.out (by decide))); replace BK544 := a_ (blk_grown (hK_ BK544.out) hg (Kd.R_ne HO_3.out BK544.out (by decide))); replace BK547 := a_ (blk_grown (hK_ BK547.out) hg (Kd.R_ne HO_3.out BK547.out (by decide))); replace HO_3 := a_ (hp_); replace HB := a_ ((by rw [hw]; exact below_set (HB.out) GB31.out : Below w.heap.size w w47)); clear hg hw hp_))
     go_roundg k2
     case measure => have := HJ1.out; have := HK2.out; omega
     case rel => exact ⟨(y549), (wrap64 (x4_2 + 1)), hW_, H', ⟨by have := HJ1.out; have := HK2.out; omega⟩, ⟨hR_ HO_3.out⟩, ⟨(hK_ BK537.out)⟩, ⟨hC_⟩⟩
end Go.Proofs.YtgokcaccamfgfaaGreatDoor.G
end
section
/- What package session answers, and the document's answer, as plain functions. -/
namespace Go.Proofs.YtgokcaccamfgfaaGreatDoor.G
open Go.RowKit Go.Proofs.YtgokcaccamfgfaaGreatDoorW.PrintWords Go.Proofs.YtgokcaccamfgfaaGreatDoorW.PrintLast Go.Proofs.YtgokcaccamfgfaaGreatDoorW.PrintMore
set_option linter.unusedVariables false
set_option linter.unusedSimpArgs false
theorem marksS_set {ns : List Nd} {m : List Int} (h : marksS ns m = true) (i : Nat) (v : Int) (hv : markB v = true) : marksS ns (m.set i v) = true := by
  obtain ⟨hm, hl, hx⟩ := marksS_spec h
  have hb := markB_spec hv
  unfold marksS
  rw [hm, List.length_set, hl, decide_eq_true rfl, Bool.true_and, Bool.true_and, Bool.not_eq_true', List.any_eq_false]
  intro x hx'
  rcases List.mem_or_eq_of_mem_set hx' with h1 | rfl
  · rw [hx x h1]; exact Bool.false_ne_true
  · unfold oddB
    rw [decide_eq_false (by omega), decide_eq_false (by omega)]; exact Bool.false_ne_true
theorem marksS_zero {ns : List Nd} (h : mayT ns = true) : marksS ns (List.replicate ns.length 0) = true := by
  unfold marksS
  rw [h, List.length_replicate, decide_eq_true rfl, Bool.true_and, Bool.true_and, Bool.not_eq_true', List.any_eq_false]
  intro x hx
  rw [List.eq_of_mem_replicate hx]
  exact Bool.false_ne_true
/-- are these the answers of a search? -/
def goS (ns : List Nd) (w : Int) : List An → List Int → Bool
  | [], _ => true
  | a :: t, m => if (!((askW w ns m).1 == 0) || (!((askW w ns m).2 == a.f0))) = true then false else if markB a.f1 = true then goS ns w t (m.set a.f0.toNat a.f1) else false
theorem goS_step {ns : List Nd} {w : Int} {a : An} {t : List An} {m : List Int} (h : goS ns w (a :: t) m = true) : (askW w ns m).1 = 0 ∧ (askW w ns m).2 = a.f0 ∧ markB a.f1 = true ∧ goS ns w t (m.set a.f0.toNat a.f1) = true := by
  rw [goS] at h
  by_cases c : (!((askW w ns m).1 == 0) || (!((askW w ns m).2 == a.f0))) = true
  · rw [if_pos c] at h; cases h
  · rw [if_neg c] at h
    by_cases d : markB a.f1 = true
    · rw [if_pos d] at h
      rw [Bool.or_eq_true, Bool.not_eq_true', Bool.not_eq_true', beq_eq_false_iff_ne, beq_eq_false_iff_ne] at c
      exact ⟨Classical.not_not.1 fun e => c (.inl e), Classical.not_not.1 fun e => c (.inr e), d, h⟩
    · rw [if_neg d] at h; cases h
theorem may_l0 (ns : List Nd) (w : Int) (zs : List An) (hz : zs.length ≤ 9223372036854775806) : ∀ (n i : Nat) (m : List Int), i + n = zs.length → marksS ns m = true → Ev (fun k => session_May.l0 k ns w zs m (i : Int)) (goS ns w (zs.drop i) m) := by
  intro n
  induction n with
  | zero =>
    intro i m hi hm
    rw [List.drop_eq_nil_of_le (by omega)]
    refine Ev.step (f := fun _ => some true) (fun k => ?_) (Ev.now _)
    rw [session_May.l0, if_neg (by omega)]
  | succ n ih =>
    intro i m hi hm
    have hw : wrap64 ((i : Int) + 1) = ((i + 1 : Nat) : Int) := by rw [w64 (by omega) (by omega)]; omega
    have hlt : (i : Int) < (zs.length : Int) := by omega
    have hf := askW_facts hm w
    have ha := nextAsk_ev hm w
    have hml := (marksS_spec hm).2.1
    rw [drop_ra zs i (by omega), goS]
    obtain ⟨a, hae⟩ : ∃ a, ra zs (i : Int) = a := ⟨_, rfl⟩
    have hae' : rd_T46 zs (i : Int) = a := hae
    rw [hae]
    generalize askW w ns m = b at ha hf
    refine Ev.step (f := fun k => (next_Ask.f k w ns m).bind fun b => if (!(b.1 == 0) || (!(b.2 == a.f0))) = true then some false else (next_Mark.f a.f1).bind fun t => if t = true then (if 0 ≤ a.f0 ∧ a.f0 < (m.length : Int) then session_May.l0 k ns w zs (m.set a.f0.toNat a.f1) ((i + 1 : Nat) : Int) else none) else some false) (fun k => by rw [session_May.l0, if_pos hlt, hae', hw]) ?_
    refine Ev.bind ha ?_
    by_cases c : (!(b.1 == 0) || (!(b.2 == a.f0))) = true
    · simp only [if_pos c]; exact Ev.now _
    · simp only [if_neg c, mark_eq, Option.bind_some]
      rw [Bool.or_eq_true, Bool.not_eq_true', Bool.not_eq_true', beq_eq_false_iff_ne, beq_eq_false_iff_ne] at c
      have e1 : b.2 = a.f0 := Classical.not_not.1 fun e => c (.inr e)
      by_cases d : markB a.f1 = true
      · have g : 0 ≤ a.f0 ∧ a.f0 < (m.length : Int) := by rw [← e1]; exact ⟨hf.1, by omega⟩
        simp only [if_pos d, if_pos g]
        exact ih (i + 1) _ (by omega) (marksS_set hm _ _ d)
      · simp only [if_neg d]; exact Ev.now _
def sessS (ns : List Nd) (w : Int) (zs : List An) : Bool := if (mayT ns && wayB w) = true then goS ns w zs (List.replicate ns.length 0) else false
theorem fresh_ev (ns : List Nd) (w : Int) : Ev (fun k => session_fresh.f k ns w) (mayT ns && wayB w) := by
  unfold session_fresh.f
  refine Ev.bind (trailMay_ev ns) ?_
  cases mayT ns with
  | false => simp only [if_neg Bool.false_ne_true, Bool.false_and]; exact Ev.now _
  | true => simp only [if_pos, Bool.true_and, way_eq]; exact Ev.now _
theorem sessMay_ev (ns : List Nd) (w : Int) (zs : List An) (hz : zs.length ≤ 9223372036854775806) : Ev (fun k => session_May.f k ns w zs) (sessS ns w zs) := by
  unfold session_May.f sessS
  refine Ev.bind (fresh_ev ns w) ?_
  by_cases c : (mayT ns && wayB w) = true
  · simp only [if_pos c]
    rw [Bool.and_eq_true] at c
    have := may_l0 ns w zs hz zs.length 0 (List.replicate ns.length 0) (by omega) (marksS_zero c.1)
    rw [List.drop_zero] at this
    exact this
  · simp only [if_neg c]; exact Ev.now _
def newF (ns : List Nd) (w : Int) : List Nd × Int × List An × Int := if (mayT ns && wayB w) = true then (ns, w, [], 0) else ([], 0, [], 2100)
theorem new_ev (ns : List Nd) (hok : okN ns) (w : Int) : Ev (fun k => session_New.f k ns w) (newF ns w) := by
  unfold session_New.f newF
  refine Ev.bind (fresh_ev ns w) ?_
  by_cases c : (mayT ns && wayB w) = true
  · have hfit : sc_fit ns ([] : List An) = true := by
      unfold sc_fit
      rw [decide_eq_true (show ns.length ≤ 2513169434916 by have := hok.1; omega), Bool.true_and, decide_eq_true (show ([] : List An).length ≤ 8796093022208 from Nat.zero_le _), Bool.true_and]
      exact List.all_eq_true.2 fun x hx => decide_eq_true (by have := hok.2 x hx; omega)
    unfold session_Copy.f
    simp only [if_pos c, if_pos hfit, Option.bind_some]
    exact Ev.now _
  · simp only [if_neg c]; exact Ev.now _
/-- how many nodes have no mark -/
def zeros : List Int → Nat
  | [] => 0
  | x :: t => (if x = 0 then 1 else 0) + zeros t
theorem zeros_le : ∀ m : List Int, zeros m ≤ m.length
  | [] => Nat.le_refl _
  | x :: t => by
    have := zeros_le t
    rw [zeros, List.length_cons]
    split <;> omega
theorem zeros_set : ∀ (m : List Int) (i : Nat) (v : Int), v ≠ 0 → m.getD i 1 = 0 → zeros (m.set i v) + 1 = zeros m
  | [], i, v, _, h => by simp at h
  | x :: t, 0, v, hv, h => by
    have hx : x = 0 := by simpa using h
    show zeros (v :: t) + 1 = _
    rw [zeros, zeros, if_neg hv, if_pos hx]; omega
  | x :: t, i + 1, v, hv, h => by
    have := zeros_set t i v hv (by simpa using h)
    show zeros (x :: t.set i v) + 1 = _
    rw [zeros, zeros]; omega
theorem getD_rd (m : List Int) (i : Int) (h0 : 0 ≤ i) (h1 : i < (m.length : Int)) : m.getD i.toNat 1 = rd m i := by
  show _ = List.getD _ _ _
  rw [List.getD_eq_getElem?_getD, List.getD_eq_getElem?_getD, List.getElem?_eq_getElem (show i.toNat < m.length by omega)]; rfl
theorem goS_ask {ns : List Nd} {w : Int} {a : An} {t : List An} {m : List Int} (hm : marksS ns m = true) (h : goS ns w (a :: t) m = true) : 0 ≤ a.f0 ∧ a.f0 < (m.length : Int) ∧ rd m a.f0 = 0 ∧ markB a.f1 = true ∧ marksS ns (m.set a.f0.toNat a.f1) = true ∧ goS ns w t (m.set a.f0.toNat a.f1) = true := by
  obtain ⟨h1, h2, h3, h4⟩ := goS_step h
  have hf := askW_facts hm w
  have hl := (marksS_spec hm).2.1
  rw [h2] at hf
  exact ⟨hf.1, by omega, hf.2.2 h1, h3, marksS_set hm _ _ h3, h4⟩
theorem goS_len {ns : List Nd} {w : Int} : ∀ (zs : List An) (m : List Int), marksS ns m = true → goS ns w zs m = true → zs.length ≤ zeros m
  | [], m, _, _ => Nat.zero_le _
  | a :: t, m, hm, h => by
    obtain ⟨h0, h1, h2, h3, h4, h5⟩ := goS_ask hm h
    have ih := goS_len t _ h4 h5
    have hb := markB_spec h3
    have := zeros_set m a.f0.toNat a.f1 (by omega) (by rw [getD_rd m a.f0 h0 h1]; exact h2)
    rw [List.length_cons]; omega
theorem goS_max {ns : List Nd} {w : Int} {zs : List An} (hm : mayT ns = true) (h : goS ns w zs (List.replicate ns.length 0) = true) : zs.length ≤ ns.length := by
  have h1 := goS_len zs _ (marksS_zero hm) h
  have h2 := zeros_le (List.replicate ns.length 0)
  rw [List.length_replicate] at h2
  omega
theorem refSMay_l0 (ns : List Nd) (w : Int) (hw0 : wayB w = true) (zs : List An) (hz : zs.length ≤ 9223372036854775806) : ∀ (n i : Nat) (m : List Int), i + n = zs.length → marksS ns m = true → Ev (fun k => sleuthref12_SessionMay.l0 k m (i : Int) ns w zs) (goS ns w (zs.drop i) m) := by
  intro n
  induction n with
  | zero =>
    intro i m hi hm
    rw [List.drop_eq_nil_of_le (by omega)]
    refine Ev.step (f := fun _ => some true) (fun k => ?_) (Ev.now _)
    rw [sleuthref12_SessionMay.l0, if_neg (by omega)]
  | succ n ih =>
    intro i m hi hm
    have hw : wrap64 ((i : Int) + 1) = ((i + 1 : Nat) : Int) := by rw [w64 (by omega) (by omega)]; omega
    have hlt : (i : Int) < (zs.length : Int) := by omega
    have hi0 : (0 : Int) ≤ (i : Int) := by omega
    have hf := askW_facts hm w
    have ha := asksR_ev hm w hw0
    have hml := (marksS_spec hm).2.1
    rw [drop_ra zs i (by omega), goS]
    obtain ⟨a, hae⟩ : ∃ a, ra zs (i : Int) = a := ⟨_, rfl⟩
    have hae' : rd_T46 zs (i : Int) = a := hae
    rw [hae]
    generalize askW w ns m = b at ha hf
    refine Ev.step (f := fun k => (sleuthref12_asks.f k ns w m).bind fun bt => (if bt.1 = 0 then (if bt.2 = a.f0 then ((sleuthref12_markMay.f a.f1).bind fun t => (if t = true then (if 0 ≤ a.f0 then (if a.f0 < (m.length : Int) then (sleuthref12_SessionMay.l0 k (m.set a.f0.toNat a.f1) ((i + 1 : Nat) : Int) ns w zs) else (none)) else (none)) else (some false))) else (some false)) else (some false))) (fun k => by rw [sleuthref12_SessionMay.l0, if_pos hlt, if_pos hi0, hae', hw]) ?_
    refine Ev.bind ha ?_
    by_cases c1 : b.1 = 0
    · by_cases c2 : b.2 = a.f0
      · have c : ¬ (!(b.1 == 0) || (!(b.2 == a.f0))) = true := by rw [c1, c2]; simp
        simp only [if_pos c1, if_pos c2, if_neg c, markMay_eq, Option.bind_some]
        by_cases d : markB a.f1 = true
        · have g0 : 0 ≤ a.f0 := by rw [← c2]; exact hf.1
          have g1 : a.f0 < (m.length : Int) := by rw [← c2]; omega
          simp only [if_pos d, if_pos g0, if_pos g1]
          exact ih (i + 1) _ (by omega) (marksS_set hm _ _ d)
        · simp only [if_neg d]; exact Ev.now _
      · have c : (!(b.1 == 0) || (!(b.2 == a.f0))) = true := by rw [Bool.or_eq_true]; exact .inr (by simpa using c2)
        simp only [if_pos c1, if_neg c2, if_pos c]; exact Ev.now _
    · have c : (!(b.1 == 0) || (!(b.2 == a.f0))) = true := by rw [Bool.or_eq_true]; exact .inl (by simpa using c1)
      simp only [if_neg c1, if_pos c]; exact Ev.now _
theorem refSMay_ev (ns : List Nd) (hok : okN ns) (w : Int) (zs : List An) (hz : zs.length ≤ 9223372036854775806) : Ev (fun k => sleuthref12_SessionMay.f k ns w zs) (sessS ns w zs) := by
  unfold sleuthref12_SessionMay.f sessS
  refine Ev.bind (refTrail_ev ns hok) ?_
  cases hm : mayT ns with
  | false =>
    simp only [if_neg Bool.false_ne_true, Bool.false_and]
    refine Ev.step (f := fun _ => some false) (fun k => ?_) (Ev.now _)
    rw [sleuthref12_SessionMay.j0, if_pos rfl]
  | true =>
    have hlen := mayT_len hm
    simp only [if_pos, Bool.true_and, wayR_eq, Option.bind_some]
    by_cases d : wayB w = true
    · simp only [if_pos d]
      by_cases c : zs.length ≤ 512
      · rw [decide_eq_false (show ¬ (zs.length : Int) > 512 by omega)]
        have h := refSMay_l0 ns w d zs hz zs.length 0 (List.replicate ns.length 0) (by omega) (marksS_zero hm)
        rw [List.drop_zero] at h
        refine Ev.step (fun k => ?_) h
        rw [sleuthref12_SessionMay.j0, if_neg Bool.false_ne_true, if_pos (by omega), Int.toNat_natCast, if_pos (by omega)]; rfl
      · rw [decide_eq_true (show (zs.length : Int) > 512 by omega)]
        have e : goS ns w zs (List.replicate ns.length 0) = false := by
          rw [← Bool.not_eq_true]
          intro h
          have := goS_max hm h
          omega
        rw [e]
        refine Ev.step (f := fun _ => some false) (fun k => ?_) (Ev.now _)
        rw [sleuthref12_SessionMay.j0, if_pos rfl]
    · simp only [if_neg d]
      refine Ev.step (f := fun _ => some false) (fun k => ?_) (Ev.now _)
      rw [sleuthref12_SessionMay.j0, if_pos rfl]
end Go.Proofs.YtgokcaccamfgfaaGreatDoor.G
end
section
-- Laid by the session's own driver gp.py over the kit's printer. Not trusted: Lean checks it.
namespace Go.Proofs.YtgokcaccamfgfaaGreatDoor.G
open Go.RowKit Go.Proofs.YtgokcaccamfgfaaGreatDoorW.PrintWords Go.Proofs.YtgokcaccamfgfaaGreatDoorW.PrintLast Go.Proofs.YtgokcaccamfgfaaGreatDoorW.PrintMore
set_option maxHeartbeats 8000000
set_option maxRecDepth 100000
attribute [local go_sem] max2_int min2_int max_two min_two max_three min_three max_four min_four   -- for this text's walks alone
set_option linter.unusedVariables false
set_option linter.unusedSimpArgs false

-- NOT PRINTED: function 38 (sleuthlaw0_SpoilNodes)

-- NOT PRINTED: function 22 (sleuthlaw0_SpoilSession)

def sleuthlaw21_some.f  : Option ((List (S64))) := some (([(⟨0, (-1), ([] : List ByteArray), (⟨#[57]⟩ : ByteArray)⟩ : S64), (⟨1, 0, (([(⟨#[64, 55, 40, 95, 32, 52, 41]⟩ : ByteArray), (⟨#[53]⟩ : ByteArray)] : List ByteArray)), (⟨#[57]⟩ : ByteArray)⟩ : S64), (⟨2, 0, ([] : List ByteArray), (⟨#[33]⟩ : ByteArray)⟩ : S64), (⟨1, 1, (([(⟨#[49]⟩ : ByteArray), (⟨#[95]⟩ : ByteArray)] : List ByteArray)), (⟨#[95]⟩ : ByteArray)⟩ : S64), (⟨1, 2, (([(⟨#[49]⟩ : ByteArray), (⟨#[95]⟩ : ByteArray)] : List ByteArray)), (⟨#[95]⟩ : ByteArray)⟩ : S64)] : List (S64)))
theorem sleuthlaw21_some.calls  (r : List (S64)) (w : World) (h : sleuthlaw21_some.f  = some r) :
 Calls Tryz.prog 40 #[] w fun e w' => ∃ v0_ : Value, e = .returned (v0_) ∧ Kd.N k64 64 w' w.heap.size (fun k_ => (w.heap.size ≤ k_)) v0_ r ∧ Below w.heap.size w w' := by
 have hu64 := Tryz.underlying64
 have HB := a_ (Below.refl w.heap.size w)
 have H : (some (([(⟨0, (-1), ([] : List ByteArray), (⟨#[57]⟩ : ByteArray)⟩ : S64), (⟨1, 0, (([(⟨#[64, 55, 40, 95, 32, 52, 41]⟩ : ByteArray), (⟨#[53]⟩ : ByteArray)] : List ByteArray)), (⟨#[57]⟩ : ByteArray)⟩ : S64), (⟨2, 0, ([] : List ByteArray), (⟨#[33]⟩ : ByteArray)⟩ : S64), (⟨1, 1, (([(⟨#[49]⟩ : ByteArray), (⟨#[95]⟩ : ByteArray)] : List ByteArray)), (⟨#[95]⟩ : ByteArray)⟩ : S64), (⟨1, 2, (([(⟨#[49]⟩ : ByteArray), (⟨#[95]⟩ : ByteArray)] : List ByteArray)), (⟨#[95]⟩ : ByteArray)⟩ : S64)] : List (S64)))) = some r := h
 clear h
 obtain ⟨y556, hy556⟩ : ∃ y_ : List ByteArray, y_ = (([(⟨#[64, 55, 40, 95, 32, 52, 41]⟩ : ByteArray), (⟨#[53]⟩ : ByteArray)] : List ByteArray)) := ⟨_, rfl⟩
 replace H : (some (([(⟨0, (-1), ([] : List ByteArray), (⟨#[57]⟩ : ByteArray)⟩ : S64), (⟨1, 0, y556, (⟨#[57]⟩ : ByteArray)⟩ : S64), (⟨2, 0, ([] : List ByteArray), (⟨#[33]⟩ : ByteArray)⟩ : S64), (⟨1, 1, (([(⟨#[49]⟩ : ByteArray), (⟨#[95]⟩ : ByteArray)] : List ByteArray)), (⟨#[95]⟩ : ByteArray)⟩ : S64), (⟨1, 2, (([(⟨#[49]⟩ : ByteArray), (⟨#[95]⟩ : ByteArray)] : List ByteArray)), (⟨#[95]⟩ : ByteArray)⟩ : S64)] : List (S64)))) = some r := by first | (rw [hy556]; with_reducible exact H) | (have H2_ := (Option.bind_some _ _).symm.trans H; rw [hy556]; with_reducible exact H2_) | (have H2_ := (Option.bind_some _ _).symm.trans H; with_reducible exact H2_) | with_reducible exact H | (rw [hy556]; exact H) | exact H
 have Ny556 := a_ hy556
 clear hy556
 obtain ⟨y559, hy559⟩ : ∃ y_ : List ByteArray, y_ = (([(⟨#[49]⟩ : ByteArray), (⟨#[95]⟩ : ByteArray)] : List ByteArray)) := ⟨_, rfl⟩
 replace H : (some (([(⟨0, (-1), ([] : List ByteArray), (⟨#[57]⟩ : ByteArray)⟩ : S64), (⟨1, 0, y556, (⟨#[57]⟩ : ByteArray)⟩ : S64), (⟨2, 0, ([] : List ByteArray), (⟨#[33]⟩ : ByteArray)⟩ : S64), (⟨1, 1, y559, (⟨#[95]⟩ : ByteArray)⟩ : S64), (⟨1, 2, (([(⟨#[49]⟩ : ByteArray), (⟨#[95]⟩ : ByteArray)] : List ByteArray)), (⟨#[95]⟩ : ByteArray)⟩ : S64)] : List (S64)))) = some r := by first | (rw [hy559]; with_reducible exact H) | (have H2_ := (Option.bind_some _ _).symm.trans H; rw [hy559]; with_reducible exact H2_) | (have H2_ := (Option.bind_some _ _).symm.trans H; with_reducible exact H2_) | with_reducible exact H | (rw [hy559]; exact H) | exact H
 have Ny559 := a_ hy559
 clear hy559
 obtain ⟨y562, hy562⟩ : ∃ y_ : List ByteArray, y_ = (([(⟨#[49]⟩ : ByteArray), (⟨#[95]⟩ : ByteArray)] : List ByteArray)) := ⟨_, rfl⟩
 replace H : (some (([(⟨0, (-1), ([] : List ByteArray), (⟨#[57]⟩ : ByteArray)⟩ : S64), (⟨1, 0, y556, (⟨#[57]⟩ : ByteArray)⟩ : S64), (⟨2, 0, ([] : List ByteArray), (⟨#[33]⟩ : ByteArray)⟩ : S64), (⟨1, 1, y559, (⟨#[95]⟩ : ByteArray)⟩ : S64), (⟨1, 2, y562, (⟨#[95]⟩ : ByteArray)⟩ : S64)] : List (S64)))) = some r := by first | (rw [hy562]; with_reducible exact H) | (have H2_ := (Option.bind_some _ _).symm.trans H; rw [hy562]; with_reducible exact H2_) | (have H2_ := (Option.bind_some _ _).symm.trans H; with_reducible exact H2_) | with_reducible exact H | (rw [hy562]; exact H) | exact H
 have Ny562 := a_ hy562
 clear hy562
 obtain ⟨y565, hy565⟩ : ∃ y_ : List (S64), y_ = (([(⟨0, (-1), ([] : List ByteArray), (⟨#[57]⟩ : ByteArray)⟩ : S64), (⟨1, 0, y556, (⟨#[57]⟩ : ByteArray)⟩ : S64), (⟨2, 0, ([] : List ByteArray), (⟨#[33]⟩ : ByteArray)⟩ : S64), (⟨1, 1, y559, (⟨#[95]⟩ : ByteArray)⟩ : S64), (⟨1, 2, y562, (⟨#[95]⟩ : ByteArray)⟩ : S64)] : List (S64))) := ⟨_, rfl⟩
 replace H : (some y565) = some r := by first | (rw [hy565]; with_reducible exact H) | (have H2_ := (Option.bind_some _ _).symm.trans H; rw [hy565]; with_reducible exact H2_) | (have H2_ := (Option.bind_some _ _).symm.trans H; with_reducible exact H2_) | with_reducible exact H | (rw [hy565]; exact H) | exact H
 have Ny565 := a_ hy565
 clear hy565
 obtain rfl := Option.some.inj H
 go_enter Tryz.func40, Tryz.ntmps40
 go_wp2_with (first | ((with_reducible refine gate_dst (N := 2) rfl ?_); refine Kd.R_lit Kd.string _ 9 ?hg (N := 2) ?hd (xs := ([(⟨#[64, 55, 40, 95, 32, 52, 41]⟩ : ByteArray), (⟨#[53]⟩ : ByteArray)] : List ByteArray)) (inner := [.string (⟨#[64, 55, 40, 95, 32, 52, 41]⟩ : ByteArray), .string (⟨#[53]⟩ : ByteArray)]) (ok := fun _ => True) (okp := fun _ => True) ?hr ?hp (fun _ hk => hk) trivial (Below.refl _ _) (Nat.le_refl _) (by simp) ?_; (case hd => rfl); (case hg => rfl); (case hr => first | (go_simp; done) | (go_simp; rfl)); (case hp => exact (Reps.one (show Kd.M Kd.string _ _ _ (⟨#[64, 55, 40, 95, 32, 52, 41]⟩ : ByteArray) [.string (⟨#[64, 55, 40, 95, 32, 52, 41]⟩ : ByteArray)] from rfl) (Reps.one (show Kd.M Kd.string _ _ _ (⟨#[53]⟩ : ByteArray) [.string (⟨#[53]⟩ : ByteArray)] from rfl) (Reps.none _ _)))); intro v557 w1 ho2 hb hg_ hnew_; clear hg_ hnew_; (first | rw [← Ny556.out] at ho2 | (simp only [Int.reduceToNat] at ho2; rw [← Ny556.out] at ho2)); have HO558 := a_ (Kd.R_lower (Kd.R_newM (M := fun k_ => (w.heap.size ≤ k_)) ho2 hS_ (fun k_ h_ => h_)) hS_); replace HB := a_ (below_step hB_ hb); clear hb ho2; obtain ⟨Ao3, co3, eo3⟩ := Kd.R_slice HO558.out; subst eo3) | ((with_reducible refine gate_dst (N := 5) rfl ?_); refine Kd.R_lit Kd.string _ 9 ?hg (N := 5) ?hd (xs := ([(⟨#[49]⟩ : ByteArray), (⟨#[95]⟩ : ByteArray)] : List ByteArray)) (inner := [.string (⟨#[49]⟩ : ByteArray), .string (⟨#[95]⟩ : ByteArray)]) (ok := fun _ => True) (okp := fun _ => True) ?hr ?hp (fun _ hk => hk) trivial (Below.refl _ _) (Nat.le_refl _) (by simp) ?_; (case hd => rfl); (case hg => rfl); (case hr => first | (go_simp; done) | (go_simp; rfl)); (case hp => exact (Reps.one (show Kd.M Kd.string _ _ _ (⟨#[49]⟩ : ByteArray) [.string (⟨#[49]⟩ : ByteArray)] from rfl) (Reps.one (show Kd.M Kd.string _ _ _ (⟨#[95]⟩ : ByteArray) [.string (⟨#[95]⟩ : ByteArray)] from rfl) (Reps.none _ _)))); intro v560 w4 ho5 hb hg_ hnew_; clear hg_ hnew_; (first | rw [← Ny559.out] at ho5 | (simp only [Int.reduceToNat] at ho5; rw [← Ny559.out] at ho5)); have HO561 := a_ (Kd.R_lower (Kd.R_new' (Kd.R_newM (M := fun k_ => (w.heap.size ≤ k_)) ho5 hS_ (fun k_ h_ => h_)) (Kd.R_lt (hR_ HO558.out))) hS_); replace HO558 := a_ (Kd.R_elder' (hR_ HO558.out) (Kd.R_base ho5) hb); replace HB := a_ (below_step hB_ hb); clear hb ho5; obtain ⟨Ao6, co6, eo6⟩ := Kd.R_slice HO561.out; subst eo6) | ((with_reducible refine gate_dst (N := 7) rfl ?_); refine Kd.R_lit Kd.string _ 9 ?hg (N := 7) ?hd (xs := ([(⟨#[49]⟩ : ByteArray), (⟨#[95]⟩ : ByteArray)] : List ByteArray)) (inner := [.string (⟨#[49]⟩ : ByteArray), .string (⟨#[95]⟩ : ByteArray)]) (ok := fun _ => True) (okp := fun _ => True) ?hr ?hp (fun _ hk => hk) trivial (Below.refl _ _) (Nat.le_refl _) (by simp) ?_; (case hd => rfl); (case hg => rfl); (case hr => first | (go_simp; done) | (go_simp; rfl)); (case hp => exact (Reps.one (show Kd.M Kd.string _ _ _ (⟨#[49]⟩ : ByteArray) [.string (⟨#[49]⟩ : ByteArray)] from rfl) (Reps.one (show Kd.M Kd.string _ _ _ (⟨#[95]⟩ : ByteArray) [.string (⟨#[95]⟩ : ByteArray)] from rfl) (Reps.none _ _)))); intro v563 w7 ho8 hb hg_ hnew_; clear hg_ hnew_; (first | rw [← Ny562.out] at ho8 | (simp only [Int.reduceToNat] at ho8; rw [← Ny562.out] at ho8)); have HO564 := a_ (Kd.R_lower (Kd.R_new' (Kd.R_new' (Kd.R_newM (M := fun k_ => (w.heap.size ≤ k_)) ho8 hS_ (fun k_ h_ => h_)) (Kd.R_lt (hR_ HO558.out))) (Kd.R_lt (hR_ HO561.out))) hS_); replace HO558 := a_ (Kd.R_elder' (hR_ HO558.out) (Kd.R_base ho8) hb); replace HO561 := a_ (Kd.R_elder' (hR_ HO561.out) (Kd.R_base ho8) hb); replace HB := a_ (below_step hB_ hb); clear hb ho8; obtain ⟨Ao9, co9, eo9⟩ := Kd.R_slice HO564.out; subst eo9) | ((with_reducible refine gate_dst (N := 9) rfl ?_); refine Kd.N_lit k64 _ 64 ?hg (N' := 9) ?hd (xs := ([(⟨0, (-1), ([] : List ByteArray), (⟨#[57]⟩ : ByteArray)⟩ : S64), (⟨1, 0, y556, (⟨#[57]⟩ : ByteArray)⟩ : S64), (⟨2, 0, ([] : List ByteArray), (⟨#[33]⟩ : ByteArray)⟩ : S64), (⟨1, 1, y559, (⟨#[95]⟩ : ByteArray)⟩ : S64), (⟨1, 2, y562, (⟨#[95]⟩ : ByteArray)⟩ : S64)] : List (S64))) (inner := [.int .i64 0, .int .i64 (-1), .slice none 0 0, .string (⟨#[57]⟩ : ByteArray), .int .i64 1, .int .i64 0, .slice Ao3 y556.length co3, .string (⟨#[57]⟩ : ByteArray), .int .i64 2, .int .i64 0, .slice none 0 0, .string (⟨#[33]⟩ : ByteArray), .int .i64 1, .int .i64 1, .slice Ao6 y559.length co6, .string (⟨#[95]⟩ : ByteArray), .int .i64 1, .int .i64 2, .slice Ao9 y562.length co9, .string (⟨#[95]⟩ : ByteArray)]) (ok := (fun k_ => (w.heap.size ≤ k_))) (okp := (fun k_ => (w.heap.size ≤ k_))) ?hr ?hp (fun _ hk => hk) ((show ∀ k_, w7.heap.size ≤ k_ → (fun k_ => (w.heap.size ≤ k_)) k_ from fun k_ hk => (Nat.le_trans hS_ hk)) _ (Nat.le_refl _)) (Below.refl _ _) (Nat.le_refl _) (by simp) ?_; (case hd => rfl); (case hg => rfl); (case hr => first | (go_simp; done) | (go_simp; rfl)); (case hp => exact (Reps.c4 (show Kd.FK k64 _ _ (⟨0, (-1), ([] : List ByteArray), (⟨#[57]⟩ : ByteArray)⟩ : S64) [.int .i64 0, .int .i64 (-1), .slice none 0 0, .string (⟨#[57]⟩ : ByteArray)] from (k64_mkF _ _ (⟨0, (-1), ([] : List ByteArray), (⟨#[57]⟩ : ByteArray)⟩ : S64) (Nat.le_refl _) (Kd.F_nil _ _ _))) (Reps.c4 (show Kd.FK k64 _ _ (⟨1, 0, y556, (⟨#[57]⟩ : ByteArray)⟩ : S64) [.int .i64 1, .int .i64 0, .slice Ao3 y556.length co3, .string (⟨#[57]⟩ : ByteArray)] from (k64_mkF _ _ (⟨1, 0, y556, (⟨#[57]⟩ : ByteArray)⟩ : S64) (Kd.R_reads' (Kd.R_mono (ok' := (fun k_ => (w.heap.size ≤ k_))) (HO558.out) (fun k_ hk => hk.1.1.1))).2.1 (Kd.R_F (Kd.R_mono (ok' := (fun k_ => (w.heap.size ≤ k_))) (HO558.out) (fun k_ hk => hk.1.1.1))))) (Reps.c4 (show Kd.FK k64 _ _ (⟨2, 0, ([] : List ByteArray), (⟨#[33]⟩ : ByteArray)⟩ : S64) [.int .i64 2, .int .i64 0, .slice none 0 0, .string (⟨#[33]⟩ : ByteArray)] from (k64_mkF _ _ (⟨2, 0, ([] : List ByteArray), (⟨#[33]⟩ : ByteArray)⟩ : S64) (Nat.le_refl _) (Kd.F_nil _ _ _))) (Reps.c4 (show Kd.FK k64 _ _ (⟨1, 1, y559, (⟨#[95]⟩ : ByteArray)⟩ : S64) [.int .i64 1, .int .i64 1, .slice Ao6 y559.length co6, .string (⟨#[95]⟩ : ByteArray)] from (k64_mkF _ _ (⟨1, 1, y559, (⟨#[95]⟩ : ByteArray)⟩ : S64) (Kd.R_reads' (Kd.R_mono (ok' := (fun k_ => (w.heap.size ≤ k_))) (HO561.out) (fun k_ hk => hk.1.1.1))).2.1 (Kd.R_F (Kd.R_mono (ok' := (fun k_ => (w.heap.size ≤ k_))) (HO561.out) (fun k_ hk => hk.1.1.1))))) (Reps.c4 (show Kd.FK k64 _ _ (⟨1, 2, y562, (⟨#[95]⟩ : ByteArray)⟩ : S64) [.int .i64 1, .int .i64 2, .slice Ao9 y562.length co9, .string (⟨#[95]⟩ : ByteArray)] from (k64_mkF _ _ (⟨1, 2, y562, (⟨#[95]⟩ : ByteArray)⟩ : S64) (Kd.R_reads' (Kd.R_mono (ok' := (fun k_ => (w.heap.size ≤ k_))) (HO564.out) (fun k_ hk => hk.1.1.1))).2.1 (Kd.R_F (Kd.R_mono (ok' := (fun k_ => (w.heap.size ≤ k_))) (HO564.out) (fun k_ hk => hk.1.1.1))))) (Reps.none _ _))))))); intro v566 w10 ho11 hb hg_ hnew_; clear hg_ hnew_; (first | rw [← Ny565.out] at ho11 | (simp only [Int.reduceToNat] at ho11; rw [← Ny565.out] at ho11)); have HO567 := a_ (Kd.N_lower ho11 hS_); replace HB := a_ (below_step hB_ hb); clear HO558 HO561 HO564; clear hb ho11))
 go_ret
 exact ⟨_, hV_, hN_ HO567.out, hC_⟩

end Go.Proofs.YtgokcaccamfgfaaGreatDoor.G
end
