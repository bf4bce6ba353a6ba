/- What the document's GetRecord answers. -/
import Derived.Test.YtnhmmbgnaogokaaGreatDoorU9
namespace Go.Proofs.YtnhmmbgnaogokaaGreatDoor.G
open Go.RowKit Go.Proofs.YtnhmmbgnaogokaaGreatDoorW.PrintWords Go.Proofs.YtnhmmbgnaogokaaGreatDoorW.PrintLast Go.Proofs.YtnhmmbgnaogokaaGreatDoorW.PrintMore
set_option linter.unusedVariables false
set_option linter.unusedSimpArgs false
theorem refPut_l0 (x : Nd) (h : recS x = true) : ∀ (n i : Nat), i + n = x.f2.length → Ev (fun k => sleuthref12_PutRecord.l0 k (strOfNums (headOf x ++ (x.f2.take i).flatMap textL)) (i : Int) x.f0 x.f1 x.f2 x.f3) (recOf x, 0) := by
  obtain ⟨e, _, _⟩ := recS_spec h
  obtain ⟨_, _, q2, q3, q4⟩ := eqS_spec e
  have hz : ∀ i, (strOfNums (headOf x ++ (x.f2.take i).flatMap textL)).size ≤ 4000 := fun i => by
    have := flat_length (x.f2.take i) (fun s hs => mayS_size (q3 s (List.mem_of_mem_take hs)))
    have h2 : (x.f2.take i).length ≤ 3 := by rw [List.length_take]; omega
    rw [size_strOfNums, List.length_append]
    have h3 : (headOf x).length = 4 := by unfold headOf; rw [List.length_append, List.length_append, lowL_length, lowL_length, lowL_length]
    omega
  intro n
  induction n with
  | zero =>
    intro i hi
    have hs3 := mayS_size q4
    have hr := refSized_ev x.f3 hs3
    have e1 : (strOfNums (textL x.f3)).size = 2 + x.f3.size := by rw [size_strOfNums, textL_length]
    refine Ev.step (f := fun k => (sleuthref12_sized.f k x.f3).bind fun t => (if (strOfNums (headOf x ++ (x.f2.take i).flatMap textL)).size + t.size ≤ 9223372036854775807 then some (strOfNums (headOf x ++ (x.f2.take i).flatMap textL) ++ t, 0) else none)) (fun k => by rw [sleuthref12_PutRecord.l0, if_neg (by omega)]) ?_
    refine Ev.bind hr ?_
    simp only [if_pos (show (strOfNums (headOf x ++ (x.f2.take i).flatMap textL)).size + (strOfNums (textL x.f3)).size ≤ 9223372036854775807 by have := hz i; omega)]
    have e2 : strOfNums (headOf x ++ (x.f2.take i).flatMap textL) ++ strOfNums (textL x.f3) = recOf x := by
      rw [← strOfNums_append, List.take_of_length_le (by omega)]
      unfold recOf recL headOf
      rw [List.append_assoc]
    rw [e2]
    exact Ev.now _
  | succ n ih =>
    intro i hi
    have hlt : i < x.f2.length := by omega
    have hw : wrap64 ((i : Int) + 1) = ((i + 1 : Nat) : Int) := by rw [w64 (by omega) (by omega)]; omega
    have hrd : rdOf ByteArray.empty x.f2 (i : Int) = x.f2[i] := by
      show x.f2.getD _ _ = _
      rw [Int.toNat_natCast, List.getD_eq_getElem?_getD, List.getElem?_eq_getElem hlt]; rfl
    have hsz := mayS_size (q3 _ (List.getElem_mem hlt))
    have e1 : (strOfNums (textL x.f2[i])).size = 2 + x.f2[i].size := by rw [size_strOfNums, textL_length]
    refine Ev.step (f := fun k => (sleuthref12_sized.f k x.f2[i]).bind fun t => (if (strOfNums (headOf x ++ (x.f2.take i).flatMap textL)).size + t.size ≤ 9223372036854775807 then sleuthref12_PutRecord.l0 k (strOfNums (headOf x ++ (x.f2.take i).flatMap textL) ++ t) ((i + 1 : Nat) : Int) x.f0 x.f1 x.f2 x.f3 else none)) (fun k => by rw [sleuthref12_PutRecord.l0, if_pos (by omega), if_pos (by omega), hrd, hw]) ?_
    refine Ev.bind (refSized_ev _ hsz) ?_
    simp only [if_pos (show (strOfNums (headOf x ++ (x.f2.take i).flatMap textL)).size + (strOfNums (textL x.f2[i])).size ≤ 9223372036854775807 by have := hz i; omega)]
    have e2 : strOfNums (headOf x ++ (x.f2.take i).flatMap textL) ++ strOfNums (textL x.f2[i]) = strOfNums (headOf x ++ (x.f2.take (i + 1)).flatMap textL) := by
      rw [← strOfNums_append, List.take_succ_eq_append_getElem hlt, List.flatMap_append, List.append_assoc]
      simp only [List.flatMap_cons, List.flatMap_nil, List.append_nil]
    rw [e2]
    exact ih (i + 1) (by omega)
theorem refPutRec_ev (x : Nd) (hl : x.f2.length ≤ 9223372036854775806) (hp0 : -9223372036854775808 ≤ x.f1) (hp1 : x.f1 ≤ 9223372036854775807) : Ev (fun k => sleuthref12_PutRecord.f k x.f0 x.f1 x.f2 x.f3) (putR x) := by
  unfold sleuthref12_PutRecord.f putR recS
  refine Ev.bind (refTexts_ev x hl) ?_
  have hbad : Ev (fun k => sleuthref12_PutRecord.j0 k true x.f0 x.f1 x.f2 x.f3) ((⟨#[]⟩ : ByteArray), 1500) := Ev.step (f := fun _ => some (⟨#[]⟩, 1500)) (fun k => by rw [sleuthref12_PutRecord.j0, if_pos rfl]) (Ev.now _)
  cases he : eqS x with
  | false => simp only [if_neg Bool.false_ne_true, Bool.false_and]; exact hbad
  | true =>
    simp only [if_pos, Bool.true_and, upTo_eq, Option.bind_some]
    by_cases c : -1 ≤ x.f1 ∧ x.f1 < 512
    · have c2 : x.f1 ≤ 511 := by omega
      rw [decide_eq_true c.1, decide_eq_true c.2, decide_eq_true c2]
      simp only [Bool.and_self, if_pos, Bool.not_true]
      have hrs : recS x = true := by
        unfold recS
        rw [he, decide_eq_true c.1, decide_eq_true c.2]; rfl
      have hw : wrap64 (x.f1 + 1) = x.f1 + 1 := w64 (by omega) (by omega)
      have s1 : (strOfNums (lowL 1 x.f0)).size = 1 := by rw [size_strOfNums, lowL_length]
      have s2 : (strOfNums (lowL 2 (x.f1 + 1))).size = 2 := by rw [size_strOfNums, lowL_length]
      have s3 : (strOfNums (lowL 1 (x.f2.length : Int))).size = 1 := by rw [size_strOfNums, lowL_length]
      refine Ev.step (f := fun k => (sleuthref12_low.f k x.f0 1).bind fun t280 => ((sleuthref12_low.f k (x.f1 + 1) 2).bind fun t281 => (if t280.size + t281.size ≤ 9223372036854775807 then ((sleuthref12_low.f k (x.f2.length : Int) 1).bind fun t282 => (if (t280 ++ t281).size + t282.size ≤ 9223372036854775807 then (sleuthref12_PutRecord.l0 k ((t280 ++ t281) ++ t282) 0 x.f0 x.f1 x.f2 x.f3) else (none))) else (none)))) (fun k => by rw [sleuthref12_PutRecord.j0, if_neg Bool.false_ne_true, hw]) ?_
      refine Ev.bind (refLow_ev x.f0 1 (by omega)) (Ev.bind (refLow_ev (x.f1 + 1) 2 (by omega)) ?_)
      simp only [s1, s2, if_pos (show 1 + 2 ≤ 9223372036854775807 by omega)]
      refine Ev.bind (refLow_ev (x.f2.length : Int) 1 (by omega)) ?_
      simp only [ByteArray.size_append, s1, s2, s3, if_pos (show 1 + 2 + 1 ≤ 9223372036854775807 by omega)]
      have h0 := refPut_l0 x hrs x.f2.length 0 (by omega)
      have e0 : strOfNums (headOf x ++ (x.f2.take 0).flatMap textL) = (strOfNums (lowL 1 x.f0) ++ strOfNums (lowL 2 (x.f1 + 1))) ++ strOfNums (lowL 1 (x.f2.length : Int)) := by
        rw [List.take_zero, List.flatMap_nil, List.append_nil]
        unfold headOf
        rw [strOfNums_append, strOfNums_append, ByteArray.append_assoc]
      rw [e0] at h0
      exact h0
    · have e1 : (decide (-1 ≤ x.f1) && decide (x.f1 < 512)) = false := by
        rw [Bool.and_eq_false_iff]
        by_cases d : -1 ≤ x.f1
        · right; exact decide_eq_false (by omega)
        · left; exact decide_eq_false d
      have e2 : (decide (-1 ≤ x.f1) && decide (x.f1 ≤ 511)) = false := by
        rw [Bool.and_eq_false_iff]
        by_cases d : -1 ≤ x.f1
        · right; exact decide_eq_false (by omega)
        · left; exact decide_eq_false d
      rw [e1, e2]
      simp only [if_neg Bool.false_ne_true, Bool.not_false]
      exact hbad
theorem or_low' (c0 c1 : Int) (h0 : 0 ≤ c0) (h1 : c0 < 256) (h2 : 0 ≤ c1) (h3 : c1 < 36028797018963968) : Go.bits .or .i64 (c1 * 256) c0 = c0 + 256 * c1 := by
  obtain ⟨a, rfl⟩ := Int.eq_ofNat_of_zero_le h0
  obtain ⟨b, rfl⟩ := Int.eq_ofNat_of_zero_le h2
  have e : ((b : Int) * 256) = ((b * 256 : Nat) : Int) := by omega
  rw [e, or_i64_nat (b * 256) a (by omega) (by omega)]
  have h := Nat.two_pow_add_eq_or_of_lt (i := 8) (b := a) (by omega) b
  rw [Nat.mul_comm b 256]
  rw [show (2 : Nat) ^ 8 = 256 from rfl] at h
  rw [← h]
  omega
theorem bytes_1 (s : ByteArray) (h : 1 ≤ s.size) : numLE ((bytesOf s).take 1) = bt s 0 := by
  have e := bytesOf_drop s 0 (by omega)
  rw [List.drop_zero] at e
  rw [e]
  show bt s 0 + 256 * 0 = bt s 0
  omega
theorem bytes_2 (s : ByteArray) (h : 2 ≤ s.size) : numLE ((bytesOf s).take 2) = bt s 0 + 256 * bt s 1 := by
  have e := bytesOf_drop s 0 (by omega)
  have e2 := bytesOf_drop s 1 (by omega)
  rw [List.drop_zero] at e
  rw [e, e2]
  show bt s 0 + 256 * (bt s 1 + 256 * 0) = _
  omega
theorem numR1 (s : ByteArray) (b : Bool) : ∃ n r b', Ev (fun k => sleuthref12_reader_num.f k s b 1) (n, r, b') ∧ 0 ≤ n ∧ n < 256 ∧ (1 ≤ s.size → n = numLE ((bytesOf s).take 1) ∧ bytesOf r = (bytesOf s).drop 1 ∧ b' = b) := by
  by_cases c : (1 : Int) > (s.size : Int)
  · refine ⟨0, s, true, Ev.congr (fun k => by unfold sleuthref12_reader_num.f; rw [if_pos c]) (Ev.now _), by omega, by omega, fun h => by omega⟩
  · have h0 := bt_rng s 0
    have hz : (s.extract 1 s.size) = s.extract (min 1 s.size) s.size := by rw [Nat.min_eq_left (by omega)]
    refine ⟨bt s 0, s.extract 1 s.size, b, ?_, h0.1, h0.2, fun h => ⟨(bytes_1 s h).symm, by rw [hz]; exact ext_drop s 1, rfl⟩⟩
    have w0 : wrap64 ((1 : Int) - 1) = 0 := (w64 (by omega) (by omega)).trans (by omega)
    have w1 : wrap64 ((0 : Int) - 1) = -1 := (w64 (by omega) (by omega)).trans (by omega)
    have w2 : wrap64 ((0 : Int) * 256) = 0 := (w64 (by omega) (by omega)).trans (by omega)
    have w3 : wrap64 (bt s 0) = bt s 0 := w64 (by omega) (by omega)
    refine Ev.congr (f := fun k => sleuthref12_reader_num.l0 k 1 0 0 s b) (fun k => by unfold sleuthref12_reader_num.f; rw [if_neg c, w0]) ?_
    refine Ev.step (f := fun k => sleuthref12_reader_num.l0 k 1 (bt s 0) (-1) s b) (fun k => by rw [sleuthref12_reader_num.l0, if_pos (by omega), if_pos (by omega), if_pos (by omega), w1, w2, w3, or_zero' _ h0.1 h0.2]) ?_
    refine Ev.step (f := fun _ => some (bt s 0, s.extract 1 s.size, b)) (fun k => by rw [sleuthref12_reader_num.l0, if_neg (by omega), if_pos (by omega), if_pos (by omega)]; rfl) (Ev.now _)
theorem numR2 (s : ByteArray) (b : Bool) : ∃ n r b', Ev (fun k => sleuthref12_reader_num.f k s b 2) (n, r, b') ∧ 0 ≤ n ∧ n < 65536 ∧ (2 ≤ s.size → n = numLE ((bytesOf s).take 2) ∧ bytesOf r = (bytesOf s).drop 2 ∧ b' = b) := by
  by_cases c : (2 : Int) > (s.size : Int)
  · refine ⟨0, s, true, Ev.congr (fun k => by unfold sleuthref12_reader_num.f; rw [if_pos c]) (Ev.now _), by omega, by omega, fun h => by omega⟩
  · have h0 := bt_rng s 0
    have h1 := bt_rng s 1
    have hz : (s.extract 2 s.size) = s.extract (min 2 s.size) s.size := by rw [Nat.min_eq_left (by omega)]
    refine ⟨bt s 0 + 256 * bt s 1, s.extract 2 s.size, b, ?_, by omega, by omega, fun h => ⟨(bytes_2 s h).symm, by rw [hz]; exact ext_drop s 2, rfl⟩⟩
    have w0 : wrap64 ((2 : Int) - 1) = 1 := (w64 (by omega) (by omega)).trans (by omega)
    have w1 : wrap64 ((0 : Int) - 1) = -1 := (w64 (by omega) (by omega)).trans (by omega)
    have w1' : wrap64 ((1 : Int) - 1) = 0 := (w64 (by omega) (by omega)).trans (by omega)
    have w2 : wrap64 ((0 : Int) * 256) = 0 := (w64 (by omega) (by omega)).trans (by omega)
    have w3 : wrap64 (bt s 0) = bt s 0 := w64 (by omega) (by omega)
    have w4 : wrap64 (bt s 1) = bt s 1 := w64 (by omega) (by omega)
    have w5 : wrap64 (bt s 1 * 256) = bt s 1 * 256 := w64 (by omega) (by omega)
    refine Ev.congr (f := fun k => sleuthref12_reader_num.l0 k 2 0 1 s b) (fun k => by unfold sleuthref12_reader_num.f; rw [if_neg c, w0]) ?_
    refine Ev.step (f := fun k => sleuthref12_reader_num.l0 k 2 (bt s 1) 0 s b) (fun k => by rw [sleuthref12_reader_num.l0, if_pos (by omega), if_pos (by omega), if_pos (by omega), w1', w2, w4, or_zero' _ h1.1 h1.2]) ?_
    refine Ev.step (f := fun k => sleuthref12_reader_num.l0 k 2 (bt s 0 + 256 * bt s 1) (-1) s b) (fun k => by rw [sleuthref12_reader_num.l0, if_pos (by omega), if_pos (by omega), if_pos (by omega), w1, w5, w3, or_low' _ _ h0.1 h0.2 h1.1 (by omega)]) ?_
    refine Ev.step (f := fun _ => some (bt s 0 + 256 * bt s 1, s.extract 2 s.size, b)) (fun k => by rw [sleuthref12_reader_num.l0, if_neg (by omega), if_pos (by omega), if_pos (by omega)]; rfl) (Ev.now _)
theorem size_of_bytes {s : ByteArray} {L : List Int} (h : bytesOf s = L) : s.size = L.length := by rw [← h, bytesOf_length]
theorem textRd (s : ByteArray) (b : Bool) : ∃ t r b', Ev (fun k => sleuthref12_reader_text.f k s b) (t, r, b') ∧ ∀ (u : ByteArray) (R : List Int), u.size < 65536 → bytesOf s = textL u ++ R → t = u ∧ bytesOf r = R ∧ b' = b := by
  obtain ⟨n, q, b1, h1, n0, n1, h2⟩ := numR2 s b
  by_cases c : n > (q.size : Int)
  · refine ⟨⟨#[]⟩, q, true, ?_, fun u R hu hs => ?_⟩
    · unfold sleuthref12_reader_text.f
      refine Ev.bind h1 ?_
      simp only [if_pos c]
      exact Ev.now _
    · exfalso
      have hz := size_of_bytes hs
      rw [List.length_append, textL_length] at hz
      obtain ⟨e1, e2, e3⟩ := h2 (by omega)
      have ht := textP_text u hu R
      rw [← hs] at ht
      have hd : (bytesOf s).drop 2 = bytesOf u ++ R := by
        rw [hs]
        unfold textL
        rw [List.append_assoc, List.drop_append_of_le_length (by rw [lowL_length]; omega), List.drop_eq_nil_of_le (by rw [lowL_length]; omega), List.nil_append]
      have hn : (bytesOf s).take 2 = lowL 2 (u.size : Int) := by
        rw [hs]
        unfold textL
        rw [List.append_assoc, List.take_append_of_le_length (by rw [lowL_length]; omega), List.take_of_length_le (by rw [lowL_length]; omega)]
      rw [hn, numLE_low 2 _ (by omega) (by show (u.size : Int) < 65536; omega)] at e1
      have hq := size_of_bytes e2
      rw [hd, List.length_append, bytesOf_length] at hq
      omega
  · have h3 : n ≤ (q.size : Int) := by omega
    refine ⟨q.extract 0 n.toNat, q.extract n.toNat q.size, b1, ?_, fun u R hu hs => ?_⟩
    · unfold sleuthref12_reader_text.f
      refine Ev.bind h1 ?_
      simp only [if_neg c, if_pos n0, if_pos h3]
      exact Ev.now _
    · have hz := size_of_bytes hs
      rw [List.length_append, textL_length] at hz
      obtain ⟨e1, e2, e3⟩ := h2 (by omega)
      have hd : (bytesOf s).drop 2 = bytesOf u ++ R := by
        rw [hs]
        unfold textL
        rw [List.append_assoc, List.drop_append_of_le_length (by rw [lowL_length]; omega), List.drop_eq_nil_of_le (by rw [lowL_length]; omega), List.nil_append]
      have hn : (bytesOf s).take 2 = lowL 2 (u.size : Int) := by
        rw [hs]
        unfold textL
        rw [List.append_assoc, List.take_append_of_le_length (by rw [lowL_length]; omega), List.take_of_length_le (by rw [lowL_length]; omega)]
      rw [hn, numLE_low 2 _ (by omega) (by show (u.size : Int) < 65536; omega)] at e1
      rw [hd] at e2
      have hnn : n.toNat = (bytesOf u).length := by rw [e1, bytesOf_length]; rfl
      have hq := size_of_bytes e2
      refine ⟨bytesOf_inj ?_, ?_, e3⟩
      · rw [bytesOf_extract, List.drop_zero, e2, hnn, List.take_append_of_le_length (Nat.le_refl _), List.take_of_length_le (Nat.le_refl _)]
      · rw [bytesOf_extract, ← bytesOf_length q, List.take_of_length_le (Nat.le_refl _), e2, hnn, List.drop_append_of_le_length (Nat.le_refl _), List.drop_eq_nil_of_le (Nat.le_refl _), List.nil_append]
theorem argsRd : ∀ (n x m : Nat) (l : List ByteArray) (s : ByteArray) (b : Bool), x + n = m → m ≤ 256 → l.length = x → ∃ l' r b', Ev (fun k => sleuthref12_GetRecord.l0 k (m : Int) (x : Int) l s b) (l', r, b') ∧ l'.length ≤ 256 ∧ ∀ (zs : List ByteArray) (R : List Int), zs.length = n → (∀ u ∈ zs, u.size < 65536) → b = false → bytesOf s = zs.flatMap textL ++ R → l' = l ++ zs ∧ bytesOf r = R ∧ b' = false
  | 0, x, m, l, s, b, hx, hm, hl => ⟨l, s, b, Ev.step (f := fun _ => some (l, s, b)) (fun k => by rw [sleuthref12_GetRecord.l0, if_neg (by omega)]) (Ev.now _), by omega, fun zs R h1 h2 h3 h4 => by
      obtain rfl := List.length_eq_zero_iff.1 h1
      rw [List.flatMap_nil, List.nil_append] at h4
      exact ⟨(List.append_nil _).symm, h4, h3⟩⟩
  | n + 1, x, m, l, s, b, hx, hm, hl => by
    cases b with
    | true => exact ⟨l, s, true, Ev.step (f := fun _ => some (l, s, true)) (fun k => by rw [sleuthref12_GetRecord.l0, if_pos (by omega), if_pos rfl]) (Ev.now _), by omega, fun zs R h1 h2 h3 h4 => by cases h3⟩
    | false =>
      obtain ⟨t, q, b1, h1, h2⟩ := textRd s false
      obtain ⟨l', r, b', g1, g2, g3⟩ := argsRd n (x + 1) m (l ++ [t]) q b1 (by omega) hm (by rw [List.length_append, hl]; rfl)
      have hw : wrap64 ((x : Int) + 1) = ((x + 1 : Nat) : Int) := by rw [w64 (by omega) (by omega)]; omega
      refine ⟨l', r, b', ?_, g2, fun zs R e1 e2 e3 e4 => ?_⟩
      · refine Ev.step (f := fun k => (sleuthref12_reader_text.f k s false).bind fun t => (if l.length < 1000 then sleuthref12_GetRecord.l0 k (m : Int) ((x + 1 : Nat) : Int) (l ++ [t.1]) t.2.1 t.2.2 else none)) (fun k => by rw [sleuthref12_GetRecord.l0, if_pos (by omega), if_neg Bool.false_ne_true, hw]) ?_
        refine Ev.bind h1 ?_
        simp only [if_pos (show l.length < 1000 by omega)]
        exact g1
      · match zs, e1 with
        | a :: zs, e1 =>
          rw [List.flatMap_cons, List.append_assoc] at e4
          obtain ⟨f1, f2, f3⟩ := h2 a _ (e2 a (List.mem_cons_self ..)) e4
          obtain ⟨k1, k2, k3⟩ := g3 zs R (by simpa using e1) (fun u hu => e2 u (List.mem_cons_of_mem _ hu)) f3 f2
          refine ⟨?_, k2, k3⟩
          rw [k1, f1, List.append_assoc]; rfl
theorem refGetRec_ev (s : ByteArray) : Ev (fun k => sleuthref12_GetRecord.f k s) (flatR (getR s)) := by
  obtain ⟨n0, q1, b1, a1, r10, r11, p1⟩ := numR1 s false
  obtain ⟨n1, q2, b2, a2, r20, r21, p2⟩ := numR2 q1 b1
  obtain ⟨n2, q3, b3, a3, r30, r31, p3⟩ := numR1 q2 b2
  obtain ⟨l', q4, b4, a4, hl4, p4⟩ := argsRd n2.toNat 0 n2.toNat [] q3 b3 (Nat.zero_add _) (by omega) rfl
  obtain ⟨t, q5, b5, a5, p5⟩ := textRd q4 b4
  have e2 : (n2.toNat : Int) = n2 := by omega
  rw [e2] at a4
  have hw : wrap64 (n1 - 1) = n1 - 1 := w64 (by omega) (by omega)
  have hp := refPutRec_ev ⟨n0, n1 - 1, l', t⟩ (by show l'.length ≤ _; omega) (by show _ ≤ n1 - 1; omega) (by show n1 - 1 ≤ _; omega)
  have main : Ev (fun k => sleuthref12_GetRecord.f k s) (if b5 = true then (0, 0, [], (⟨#[]⟩ : ByteArray), 1500) else if (putR ⟨n0, n1 - 1, l', t⟩).2 = 0 then (if (putR ⟨n0, n1 - 1, l', t⟩).1.toList = s.toList then (n0, n1 - 1, l', t, 0) else (0, 0, [], (⟨#[]⟩ : ByteArray), 1500)) else (0, 0, [], (⟨#[]⟩ : ByteArray), 1500)) := by
    unfold sleuthref12_GetRecord.f
    refine Ev.bind a1 (Ev.bind a2 (Ev.bind a3 (Ev.bind a4 (Ev.bind a5 ?_))))
    simp only [hw]
    refine Ev.bind hp ?_
    by_cases c : b5 = true
    · simp only [if_pos c]; exact Ev.now _
    · simp only [if_neg c]
      by_cases d : (putR ⟨n0, n1 - 1, l', t⟩).2 = 0
      · simp only [if_pos d]
        by_cases e : (putR ⟨n0, n1 - 1, l', t⟩).1.toList = s.toList
        · simp only [if_pos e]; exact Ev.now _
        · simp only [if_neg e]; exact Ev.now _
      · simp only [if_neg d]; exact Ev.now _
  by_cases hx : ∃ x, recS x = true ∧ recOf x = s
  · obtain ⟨x, hx1, hx2⟩ := hx
    have hb : bytesOf s = recL x := by rw [← hx2, recOf_bytes]
    obtain ⟨g1, g2, g3, g4⟩ := recL_head x []
    rw [List.append_nil] at g1 g2 g3 g4
    rw [List.append_nil] at g4
    obtain ⟨e, v0, v1⟩ := recS_spec hx1
    obtain ⟨u0, u1, u2, u3, u4⟩ := eqS_spec e
    have hlen : (recL x).length = 4 + (x.f2.flatMap textL ++ textL x.f3).length := by
      have := congrArg List.length g4
      rw [List.length_drop] at this
      have h4 : 4 ≤ (recL x).length := by
        unfold recL
        rw [List.length_append, List.length_append, List.length_append, lowL_length, lowL_length, lowL_length]
        omega
      omega
    have z0 := size_of_bytes hb
    obtain ⟨c1, c2, c3⟩ := p1 (by omega)
    rw [hb, g1, numLE_low 1 _ u0 (by show x.f0 < 256; omega)] at c1
    rw [hb] at c2
    have z1 := size_of_bytes c2
    rw [List.length_drop] at z1
    obtain ⟨d1, d2, d3⟩ := p2 (by omega)
    rw [c2, g2, numLE_low 2 _ (by omega) (by show x.f1 + 1 < 65536; omega)] at d1
    rw [c2, List.drop_drop] at d2
    have z2 := size_of_bytes d2
    rw [List.length_drop] at z2
    obtain ⟨f1, f2, f3⟩ := p3 (by omega)
    rw [d2, g3, numLE_low 1 _ (by omega) (by show (x.f2.length : Int) < 256; omega)] at f1
    rw [d2, List.drop_drop, g4] at f2
    obtain ⟨k1, k2, k3⟩ := p4 x.f2 (textL x.f3) (by rw [f1]; rfl) (fun u hu => by have := mayS_size (u3 u hu); omega) (by rw [f3, d3, c3]) f2
    obtain ⟨m1, m2, m3⟩ := p5 x.f3 [] (by have := mayS_size u4; omega) (by rw [k2, List.append_nil])
    have ey : (⟨n0, n1 - 1, l', t⟩ : Nd) = x := by
      rw [c1, d1, k1, m1, List.nil_append, Int.add_sub_cancel]
    have eb : b5 = false := by rw [m3, k3]
    rw [getR_of hx1 hx2]
    rw [ey, eb, if_neg Bool.false_ne_true] at main
    unfold putR at main
    rw [if_pos hx1] at main
    simp only [if_pos, hx2] at main
    have e' : flatR (x, 0) = (n0, n1 - 1, l', t, 0) := by rw [← ey]; rfl
    rw [e']
    exact main
  · rw [getR_not (fun x h1 h2 => hx ⟨x, h1, h2⟩)]
    have e' : (if b5 = true then (0, 0, [], (⟨#[]⟩ : ByteArray), 1500) else if (putR ⟨n0, n1 - 1, l', t⟩).2 = 0 then (if (putR ⟨n0, n1 - 1, l', t⟩).1.toList = s.toList then (n0, n1 - 1, l', t, 0) else (0, 0, [], (⟨#[]⟩ : ByteArray), 1500)) else (0, 0, [], (⟨#[]⟩ : ByteArray), 1500) : Int × Int × List ByteArray × ByteArray × Int) = flatR (⟨0, 0, [], ⟨#[]⟩⟩, 1500) := by
      by_cases c : b5 = true
      · rw [if_pos c]; rfl
      · rw [if_neg c]
        unfold putR
        by_cases d : recS ⟨n0, n1 - 1, l', t⟩ = true
        · rw [if_pos d, if_pos rfl, if_neg (fun hh => hx ⟨_, d, toList_inj.1 hh⟩)]; rfl
        · rw [if_neg d, if_neg (by decide)]; rfl
    rw [← e']
    exact main
end Go.Proofs.YtnhmmbgnaogokaaGreatDoor.G
