import Derived.Test.YteaaaldfccildaaFrameLaws
import Derived.Test.YteaaaldfccildaaG8
namespace Go.Proofs.Yteaaaldfccildaa.FrameLib
open Go.RowKit Go.Proofs.Yteaaaldfccildaa.G Go.Proofs.YteaaaldfccildaaW.PrintWords Go.Proofs.YteaaaldfccildaaW.PrintLast Go.Proofs.YteaaaldfccildaaW.PrintMore
set_option linter.unusedVariables false
set_option linter.unusedSimpArgs false

theorem and_range (x : Int) (m : Nat) (hm : m < 9223372036854775808) : 0 ≤ Go.bits .and .i64 x (m : Int) ∧ Go.bits .and .i64 x (m : Int) ≤ m := by
  have h : (BitVec.ofInt IntKind.i64.bits x &&& BitVec.ofInt IntKind.i64.bits (m : Int)).toNat ≤ m := by
    rw [BitVec.toNat_and, BitVec.ofInt_natCast, BitVec.toNat_ofNat]
    exact Nat.le_trans Nat.and_le_right (Nat.mod_le _ _)
  unfold Go.bits
  simp only [IntKind.wrap_i64]
  omega
theorem get_is (t : ByteArray) (at_ : Int) (r : ByteArray × Int × Int) (h : getF t at_ = r) (ht : t.size ≤ 1000000) (h0 : -100000 ≤ at_) (h1 : at_ ≤ 100000) : Ev (fun k => frame_Get.f k t at_) r := by
  rw [← h]
  exact get_ev t at_ (by omega) (by omega) (by omega)
def abc : ByteArray := ⟨#[97, 98, 99]⟩
theorem abc_size : abc.size = 3 := rfl
theorem abcF_size : (frameOf abc).size = 9 := by rw [frame_size, abc_size]
theorem abcF_bytes : bytesOf (frameOf abc) = [3, 0, 97, 98, 99] ++ lowL 4 (crcI (headL abc)) := by rw [frame_bytes]; rfl
theorem abcF_bt0 : bt (frameOf abc) 0 = 3 := by
  have := bt_get (frameOf abc) 0
  rw [abcF_bytes] at this
  exact this
theorem abcF_bt1 : bt (frameOf abc) 1 = 0 := by
  have := bt_get (frameOf abc) 1
  rw [abcF_bytes] at this
  exact this
theorem bt_extract0 (s : ByteArray) (n i : Nat) (h : i < n) : bt (s.extract 0 n) (i : Int) = bt s (i : Int) := by
  rw [bt_get, bt_get, bytesOf_extract, List.drop_zero, List.getD_eq_getElem?_getD, List.getD_eq_getElem?_getD, List.getElem?_take_of_lt h]
theorem abc_cut (n : Nat) (hn : n < 9) : getF ((frameOf abc).extract 0 n) 0 = badF := by
  have hz : ((frameOf abc).extract 0 n).size = n := by rw [size_extract _ _ _ (by rw [abcF_size]; omega)]; omega
  unfold getF
  rw [hz]
  by_cases c : n < 6
  · rw [if_pos (by omega)]
  · have b0 := bt_extract0 (frameOf abc) n 0 (by omega)
    have b1 := bt_extract0 (frameOf abc) n 1 (by omega)
    have h0 := abcF_bt0
    have h1 := abcF_bt1
    rw [if_neg (by omega), if_pos]
    refine .inl ?_
    unfold manyAt
    rw [show (0 : Int) + 1 = ((1 : Nat) : Int) from rfl, show (0 : Int) = ((0 : Nat) : Int) from rfl, b0, b1]
    rw [show ((0 : Nat) : Int) = 0 from rfl, show ((1 : Nat) : Int) = 1 from rfl, h0, h1]
    omega
theorem far_bad (t : ByteArray) (at_ : Int) (h : at_ < 0 ∨ at_ > (t.size : Int) ∨ (t.size : Int) - at_ < 6) : getF t at_ = badF := by
  unfold getF
  rw [if_pos h]
theorem two_bytes : bytesOf ((⟨#[2]⟩ : ByteArray) ++ (frameOf abc).extract 1 (frameOf abc).size) = [2, 0, 97, 98, 99] ++ lowL 4 (crcI (headL abc)) := by
  rw [bytesOf_append, bytesOf_extract, ← bytesOf_length, List.take_length, abcF_bytes]
  rfl
theorem two_crc : lowL 4 (crcI [2, 0, 97, 98]) ≠ [99] ++ (lowL 4 (crcI (headL abc))).take 3 := by decide +kernel
theorem two_bad : getF ((⟨#[2]⟩ : ByteArray) ++ (frameOf abc).extract 1 (frameOf abc).size) 0 = badF := by
  have hz : ((⟨#[2]⟩ : ByteArray) ++ (frameOf abc).extract 1 (frameOf abc).size).size = 9 := by
    rw [← bytesOf_length, two_bytes, List.length_append, lowL_length]; rfl
  have b0 : bt ((⟨#[2]⟩ : ByteArray) ++ (frameOf abc).extract 1 (frameOf abc).size) 0 = 2 := by
    have := bt_get ((⟨#[2]⟩ : ByteArray) ++ (frameOf abc).extract 1 (frameOf abc).size) 0
    rw [two_bytes] at this
    exact this
  have b1 : bt ((⟨#[2]⟩ : ByteArray) ++ (frameOf abc).extract 1 (frameOf abc).size) 1 = 0 := by
    have := bt_get ((⟨#[2]⟩ : ByteArray) ++ (frameOf abc).extract 1 (frameOf abc).size) 1
    rw [two_bytes] at this
    exact this
  have hm : manyAt ((⟨#[2]⟩ : ByteArray) ++ (frameOf abc).extract 1 (frameOf abc).size) 0 = 2 := by
    unfold manyAt
    rw [show (0 : Int) + 1 = 1 from rfl, b0, b1]
    rfl
  unfold getF
  rw [hz, hm, if_neg (by omega), if_neg (by omega), if_neg]
  intro h
  have h' := congrArg bytesOf h
  rw [frame_bytes] at h'
  unfold wholeOf partOf at h'
  rw [hm, bytesOf_extract, two_bytes] at h'
  have e : headL ((⟨#[2]⟩ ++ (frameOf abc).extract 1 (frameOf abc).size).extract ((0 : Int) + 2).toNat ((0 : Int) + 2 + 2).toNat) = [2, 0, 97, 98] := by
    unfold headL
    rw [bytesOf_extract, two_bytes, size_extract _ _ _ (by rw [hz]; decide)]
    rfl
  rw [e] at h'
  apply two_crc
  have h2 := congrArg (List.drop 4) h'
  exact h2
theorem ff_bad : getF ((⟨#[255, 255]⟩ : ByteArray) ++ (frameOf abc).extract 2 (frameOf abc).size) 0 = badF := by
  have hb : bytesOf ((⟨#[255, 255]⟩ : ByteArray) ++ (frameOf abc).extract 2 (frameOf abc).size) = [255, 255, 97, 98, 99] ++ lowL 4 (crcI (headL abc)) := by
    rw [bytesOf_append, bytesOf_extract, ← bytesOf_length, List.take_length, abcF_bytes]
    rfl
  have hz : ((⟨#[255, 255]⟩ : ByteArray) ++ (frameOf abc).extract 2 (frameOf abc).size).size = 9 := by
    rw [← bytesOf_length, hb, List.length_append, lowL_length]; rfl
  have b0 : bt ((⟨#[255, 255]⟩ : ByteArray) ++ (frameOf abc).extract 2 (frameOf abc).size) 0 = 255 := by
    have := bt_get ((⟨#[255, 255]⟩ : ByteArray) ++ (frameOf abc).extract 2 (frameOf abc).size) 0
    rw [hb] at this
    exact this
  have b1 : bt ((⟨#[255, 255]⟩ : ByteArray) ++ (frameOf abc).extract 2 (frameOf abc).size) 1 = 255 := by
    have := bt_get ((⟨#[255, 255]⟩ : ByteArray) ++ (frameOf abc).extract 2 (frameOf abc).size) 1
    rw [hb] at this
    exact this
  unfold getF
  rw [hz, if_neg (by omega), if_pos]
  unfold manyAt
  rw [show (0 : Int) + 1 = 1 from rfl, b0, b1]
  omega
theorem nine_crc : crcI (bytesOf ⟨#[49, 50, 51, 52, 53, 54, 55, 56, 57]⟩) = 3421780262 := by decide +kernel
theorem frameForms_j0 (a0 a1 d : Int) (hd : 1 ≤ d ∧ d ≤ 1024) : Ev (fun k => sleuthlaw16_FrameForms.j0 k a0 a1 d 1600 (frameOf abc) false) true := by
  have h1 : 0 ≤ Go.bits .and .i64 a0 1 ∧ Go.bits .and .i64 a0 1 ≤ 1 := and_range a0 1 (by omega)
  have hw : 0 ≤ IntKind.u64.wrap a1 := by simp [IntKind.wrap, IntKind.bits, IntKind.signed]; omega
  have ht : 0 ≤ Int.tmod (IntKind.u64.wrap a1) 9 ∧ Int.tmod (IntKind.u64.wrap a1) 9 < 9 := by
    rw [Int.tmod_eq_emod_of_nonneg hw]
    omega
  have hx : wrap64 (Int.tmod (IntKind.u64.wrap a1) 9) = Int.tmod (IntKind.u64.wrap a1) 9 := w64 (by omega) (by omega)
  have hz := abcF_size
  have hr : getF (frameOf abc) (rd [wrap64 (-d), wrap64 (9 + d)] (Go.bits .and .i64 a0 1)) = badF ∧ -100000 ≤ rd [wrap64 (-d), wrap64 (9 + d)] (Go.bits .and .i64 a0 1) ∧ rd [wrap64 (-d), wrap64 (9 + d)] (Go.bits .and .i64 a0 1) ≤ 100000 := by
    have e0 : wrap64 (-d) = -d := w64 (by omega) (by omega)
    have e1 : wrap64 (9 + d) = 9 + d := w64 (by omega) (by omega)
    rcases (by omega : Go.bits .and .i64 a0 1 = 0 ∨ Go.bits .and .i64 a0 1 = 1) with e | e
    · have er : rd [wrap64 (-d), wrap64 (9 + d)] (Go.bits .and .i64 a0 1) = -d := by rw [e, e0]; rfl
      rw [er]
      exact ⟨far_bad _ _ (.inl (by omega)), by omega, by omega⟩
    · have er : rd [wrap64 (-d), wrap64 (9 + d)] (Go.bits .and .i64 a0 1) = 9 + d := by rw [e, e1]; rfl
      rw [er]
      exact ⟨far_bad _ _ (.inr (.inl (by rw [hz]; omega))), by omega, by omega⟩
  have hcut : ((frameOf abc).extract 0 (Int.tmod (IntKind.u64.wrap a1) 9).toNat).size ≤ 1000000 := by
    rw [ByteArray.size_extract, hz]; omega
  have e1s : ((frameOf abc).extract 1 9).size = 8 := by rw [size_extract _ _ _ (by omega)]
  have e2s : ((frameOf abc).extract 2 9).size = 7 := by rw [size_extract _ _ _ (by omega)]
  have htb := two_bad
  have hfb := ff_bad
  rw [hz] at htb hfb
  refine Ev.step (fun k => by simp only [sleuthlaw16_FrameForms.j0]; rfl) ?_
  refine evn (by decide) ?_
  simp only [Option.bind_some, hx, hz]
  refine evp h1.1 (evp (by simp only [List.length_cons, List.length_nil]; omega) (Ev.bind (get_is _ _ _ hr.1 (by omega) hr.2.1 hr.2.2) ?_))
  refine evp ht.1 (evp (by omega) (Ev.bind (get_is _ _ _ (abc_cut _ (by omega)) hcut (by omega) (by omega)) (Ev.bind (get_is _ _ _ (far_bad _ _ (.inr (.inr (by rw [hz]; omega)))) (by omega) (by omega) (by omega)) ?_)))
  refine evp (by omega) (evp (by omega) (Ev.bind (get_is _ _ _ htb (by rw [ByteArray.size_append, e1s]; decide) (by omega) (by omega)) ?_))
  refine evp (by omega) (evp (by omega) (Ev.bind (get_is _ _ _ hfb (by rw [ByteArray.size_append, e2s]; decide) (by omega) (by omega)) ?_))
  refine Ev.bind (num_ev _) (evp rfl (Ev.bind (num_ev _) (evp rfl (Ev.bind (num_ev _) (evp rfl (Ev.bind (num_ev _) (evp rfl (Ev.bind (num_ev _) (evp rfl (Ev.bind (num_ev _) (evp rfl ?_)))))))))))
  have hsum := Sum_ev ⟨#[49, 50, 51, 52, 53, 54, 55, 56, 57]⟩ (by decide)
  rw [nine_crc] at hsum
  exact Ev.bind hsum (Ev.now _)
theorem frameForms_pure : sleuthlaw16_FrameForms.Pure := by
  intro a0 a1 h0 h1
  refine Ev.rounds (g := fun k => sleuthlaw16_FrameForms.f k a0 a1) ?_
  unfold sleuthlaw16_FrameForms.f
  have hb : 0 ≤ Go.bits .and .i64 a1 1023 ∧ Go.bits .and .i64 a1 1023 ≤ 1023 := and_range a1 1023 (by omega)
  have hd : wrap64 (1 + (Go.bits .and .i64 a1 1023)) = 1 + Go.bits .and .i64 a1 1023 := by
    have := hb.1; have := hb.2
    exact w64 (by omega) (by omega)
  have hd2 : wrap64 (8192 + (1 + (Go.bits .and .i64 a1 1023))) = 8193 + Go.bits .and .i64 a1 1023 := by
    have := hb.1; have := hb.2
    rw [w64 (by omega) (by omega)]; omega
  have hb1 := hb.1
  have hb2 : Go.bits .and .i64 a1 1023 ≤ 1023 := hb.2
  refine Ev.bind awake_ev (evp rfl ?_)
  simp only [hd, hd2]
  refine evp (by omega) (evp (by omega) ?_)
  have hp := put_ev (strOfNums (List.replicate (8193 + Go.bits .and .i64 a1 1023).toNat 0))
  rw [putF_great _ (by rw [size_strOfNums, List.length_replicate]; omega)] at hp
  have hp2 := put_ev abc
  rw [putF_small _ (by rw [abc_size]; omega)] at hp2
  refine Ev.bind hp (Ev.bind hp2 (Ev.bind (num_ev _) (evp rfl ?_)))
  have e : (((frameOf abc).size : Int) != 9) = false := by rw [abcF_size]; rfl
  simp only [e]
  exact frameForms_j0 a0 a1 _ (by omega)
end Go.Proofs.Yteaaaldfccildaa.FrameLib
