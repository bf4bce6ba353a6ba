/- The law RecordSizes of package record, as a plain statement about what the program computes. -/
import Derived.Test.YthoegphcmkejoaaDoorU6
import Derived.Test.YthoegphcmkejoaaDoorG21
namespace Go.Proofs.YthoegphcmkejoaaDoor.G
open Go.RowKit Go.Proofs.YthoegphcmkejoaaDoorW.PrintWords Go.Proofs.YthoegphcmkejoaaDoorW.PrintLast Go.Proofs.YthoegphcmkejoaaDoorW.PrintMore
set_option linter.unusedVariables false
set_option linter.unusedSimpArgs false
theorem recL_length (x : Nd) : (recL x).length = 6 + x.f3.size + (x.f2.flatMap textL).length := by
  unfold recL
  simp only [List.length_append, lowL_length, textL_length]
  omega
theorem recOf_size (x : Nd) : (recOf x).size = 6 + x.f3.size + (x.f2.flatMap textL).length := by
  unfold recOf
  rw [size_strOfNums, recL_length]
theorem w64n (W z : Nat) (h : W + z ≤ 100000) : wrap64 ((W : Int) + (z : Int)) = ((W + z : Nat) : Int) := by
  rw [w64 (by omega) (by omega)]; omega
theorem sizes_wraps (f p : Int) (n : Nat) (q0 : 0 ≤ f) (q1 : f < 8) (p0 : -1 ≤ p) (p1 : p < 512) (q2 : n ≤ 3) : wrap64 (f % 256) = f ∧ wrap64 ((p + 1) % 256) = (p + 1) % 256 ∧ wrap64 ((p + 1) / 256 % 256) = (p + 1) / 256 % 256 ∧ wrap64 (256 * ((p + 1) / 256 % 256)) = 256 * ((p + 1) / 256 % 256) ∧ wrap64 ((p + 1) % 256 + 256 * ((p + 1) / 256 % 256)) = p + 1 ∧ wrap64 (p + 1) = p + 1 ∧ wrap64 ((n : Int) % 256) = (n : Int) := by
  refine ⟨?_, w64 (by omega) (by omega), w64 (by omega) (by omega), w64 (by omega) (by omega), ?_, w64 (by omega) (by omega), ?_⟩
  · rw [w64 (by omega) (by omega)]; omega
  · rw [w64 (by omega) (by omega)]; omega
  · rw [w64 (by omega) (by omega)]; omega
theorem sizes_l0 (x : Nd) (h : recS x = true) : ∀ (n i : Nat), i + n = x.f2.length → Ev (fun k => sleuthlaw15_RecordSizes.l0 k (recOf x) (((6 + x.f3.size + ((x.f2.take i).flatMap textL).length : Nat)) : Int) (i : Int) x.f0 x.f1 x.f2 x.f3) true := by
  obtain ⟨e, p0, p1⟩ := recS_spec h
  obtain ⟨q0, q1, q2, q3, q4⟩ := eqS_spec e
  have hs4 := mayS_size q4
  intro n
  induction n with
  | zero =>
    intro i hi
    rw [List.take_of_length_le (by omega), ← recOf_size]
    have hz := recOf_size x
    have d0 : ¬ (i : Int) < (x.f2.length : Int) := by omega
    have d1 : 0 < ((recOf x).size : Int) := by omega
    have d2 : 1 < ((recOf x).size : Int) := by omega
    have d3 : 2 < ((recOf x).size : Int) := by omega
    have d4 : 3 < ((recOf x).size : Int) := by omega
    have b0 : bt (recOf x) 0 = x.f0 % 256 := by
      rw [show (0 : Int) = ((0 : Nat) : Int) from rfl, bt_get, recOf_bytes]; rfl
    have b1 : bt (recOf x) 1 = (x.f1 + 1) % 256 := by
      rw [show (1 : Int) = ((1 : Nat) : Int) from rfl, bt_get, recOf_bytes]; rfl
    have b2 : bt (recOf x) 2 = (x.f1 + 1) / 256 % 256 := by
      rw [show (2 : Int) = ((2 : Nat) : Int) from rfl, bt_get, recOf_bytes]; rfl
    have b3 : bt (recOf x) 3 = (x.f2.length : Int) % 256 := by
      rw [show (3 : Int) = ((3 : Nat) : Int) from rfl, bt_get, recOf_bytes]; rfl
    obtain ⟨w0, w1, w2, w3, w4, w5, w6⟩ := sizes_wraps x.f0 x.f1 x.f2.length q0 q1 p0 p1 q2
    refine Ev.step (f := fun _ => some true) (fun k => ?_) (Ev.now _)
    rw [sleuthlaw15_RecordSizes.l0, if_neg d0, if_pos rfl, if_pos d1, b0, w0, if_pos rfl, if_pos d2, if_pos d3, b1, b2, w1, w2, w3, w4, w5, if_pos rfl, if_pos d4, b3, w6, beq_self_eq_true]
  | succ n ih =>
    intro i hi
    have hlt : i < x.f2.length := by omega
    have hrd : rdOf ByteArray.empty x.f2 (i : Int) = x.f2[i] := by
      show x.f2.getD _ _ = _
      rw [Int.toNat_natCast, List.getD_eq_getElem?_getD, List.getElem?_eq_getElem hlt]; rfl
    have hsz := mayS_size (q3 _ (List.getElem_mem hlt))
    have hfl := flat_length (x.f2.take i) (fun s hs => mayS_size (q3 s (List.mem_of_mem_take hs)))
    have hlen : (x.f2.take i).length ≤ 3 := by rw [List.length_take]; omega
    have hS : ((x.f2.take (i + 1)).flatMap textL).length = ((x.f2.take i).flatMap textL).length + (2 + x.f2[i].size) := by
      rw [List.take_succ_eq_append_getElem hlt, List.flatMap_append, List.length_append]
      simp only [List.flatMap_cons, List.flatMap_nil, List.append_nil, textL_length]
    have c1 : (i : Int) < (x.f2.length : Int) := by omega
    have c2 : 0 ≤ (i : Int) := by omega
    have c3 : i + 1 ≤ 100000 := by omega
    have hle : 6 + x.f3.size + ((x.f2.take i).flatMap textL).length + 2 + x.f2[i].size ≤ 100000 := by omega
    have hnx : 6 + x.f3.size + ((x.f2.take (i + 1)).flatMap textL).length = 6 + x.f3.size + ((x.f2.take i).flatMap textL).length + 2 + x.f2[i].size := by omega
    have h2 := ih (i + 1) (by omega)
    rw [hnx] at h2
    generalize 6 + x.f3.size + ((x.f2.take i).flatMap textL).length = W at hle h2
    refine Ev.step (f := fun k => sleuthlaw15_RecordSizes.l0 k (recOf x) ((W + 2 + x.f2[i].size : Nat) : Int) ((i + 1 : Nat) : Int) x.f0 x.f1 x.f2 x.f3) (fun k => ?_) h2
    have c4 : W + 2 ≤ 100000 := by omega
    have hw : wrap64 ((i : Int) + 1) = ((i + 1 : Nat) : Int) := w64n i 1 c3
    have e1 : wrap64 ((W : Int) + 2) = ((W + 2 : Nat) : Int) := w64n W 2 c4
    have e2 := w64n (W + 2) x.f2[i].size hle
    rw [sleuthlaw15_RecordSizes.l0, if_pos c1, if_pos c2, hrd, e1, e2, hw]
theorem recordSizes_pure (a0 a1 : Int) (l2 : List ByteArray) (a3 : ByteArray) (h : fine1 ⟨a0, a1, l2, a3⟩) : ∃ k, sleuthlaw15_RecordSizes.f k a0 a1 l2 a3 = some true := by
  refine Ev.rounds (g := fun k => sleuthlaw15_RecordSizes.f k a0 a1 l2 a3) ?_
  obtain ⟨_, h1, _, _⟩ := h
  have h1 := wf_i64 h1
  unfold sleuthlaw15_RecordSizes.f
  refine Ev.bind awakeRec_ev ?_
  simp only [if_pos]
  refine Ev.bind (putRec_ev ⟨a0, a1, l2, a3⟩ h1.1 h1.2) ?_
  simp only [sleuthlaw0_Num.f, Option.bind_some]
  unfold putR
  by_cases c : recS ⟨a0, a1, l2, a3⟩ = true
  · simp only [if_pos c, if_pos]
    have hs4 : a3.size ≤ 1024 := mayS_size (eqS_spec (recS_spec c).1).2.2.2.2
    have hw : wrap64 (6 + (a3.size : Int)) = ((6 + a3.size + ((l2.take 0).flatMap textL).length : Nat) : Int) := by
      rw [w64 (by omega) (by omega), List.take_zero, List.flatMap_nil, List.length_nil]; omega
    rw [hw]
    exact sizes_l0 ⟨a0, a1, l2, a3⟩ c l2.length 0 (Nat.zero_add _)
  · have g : ¬ (1500 : Int) = 0 := by decide
    simp only [if_neg c, if_neg g, toList_eq, BEq.rfl]
    exact Ev.now _
end Go.Proofs.YthoegphcmkejoaaDoor.G
