import Derived.OpenShut
import Derived.Test.YteaaaldfccildaaFrameLib
import Derived.Test.YteaaaldfccildaaG7
import Derived.Test.YteaaaldfccildaaG9
import Derived.Test.YteaaaldfccildaaG10
namespace Go.Proofs.Yteaaaldfccildaa.FrameLib
open Go.RowKit Go.Proofs.Yteaaaldfccildaa.G Go.Proofs.YteaaaldfccildaaW.PrintWords Go.Proofs.YteaaaldfccildaaW.PrintLast Go.Proofs.YteaaaldfccildaaW.PrintMore
set_option linter.unusedVariables false
set_option linter.unusedSimpArgs false

theorem evp {α : Type} {c : Prop} [Decidable c] {f g : Nat → Option α} {r : α} (hc : c) (h : Ev f r) : Ev (fun n => if c then f n else g n) r :=
  Ev.congr (fun k => if_pos hc) h
theorem evn {α : Type} {c : Prop} [Decidable c] {f g : Nat → Option α} {r : α} (hc : ¬ c) (h : Ev g r) : Ev (fun n => if c then f n else g n) r :=
  Ev.congr (fun k => if_neg hc) h
theorem putF_small (s : ByteArray) (h : s.size ≤ 8192) : putF s = (frameOf s, 0) := by unfold putF; rw [if_neg (by omega)]
theorem putF_great (s : ByteArray) (h : 8192 < s.size) : putF s = (⟨#[]⟩, 1600) := by unfold putF; rw [if_pos (by omega)]
theorem get_frame0 (s : ByteArray) (hs : s.size ≤ 8192) : getF (frameOf s) 0 = (s, ((frameOf s).size : Int), 0) := by
  have h := get_frame ⟨#[]⟩ s ⟨#[]⟩ hs
  have e1 : (⟨#[]⟩ : ByteArray) ++ frameOf s ++ ⟨#[]⟩ = frameOf s := by
    apply bytesOf_inj
    rw [bytesOf_append, bytesOf_append]
    show [] ++ bytesOf (frameOf s) ++ [] = _
    simp
  rw [e1] at h
  have e2 : (((⟨#[]⟩ : ByteArray).size : Nat) : Int) = 0 := rfl
  rw [e2, Int.zero_add] at h
  exact h
theorem one_size : (⟨#[49]⟩ : ByteArray).size = 1 := rfl
theorem awake_ev : Ev (fun k => sleuthlaw16_awake.f k) true := by
  have hs : (frameOf ⟨#[49]⟩).size = 7 := by rw [frame_size]; rfl
  have hp : putF ⟨#[49]⟩ = (frameOf ⟨#[49]⟩, 0) := putF_small _ (by rw [one_size]; omega)
  have h1 := put_ev ⟨#[49]⟩
  rw [hp] at h1
  have g1 := get_frame ⟨#[63]⟩ ⟨#[49]⟩ ⟨#[63]⟩ (by rw [one_size]; omega)
  have e1 : (((⟨#[63]⟩ : ByteArray).size : Nat) : Int) = 1 := rfl
  rw [e1, hs] at g1
  have hz : ((⟨#[63]⟩ : ByteArray) ++ frameOf ⟨#[49]⟩ ++ ⟨#[63]⟩).size = 9 := by
    rw [ByteArray.size_append, ByteArray.size_append, hs]; rfl
  have h2 := get_ev ((⟨#[63]⟩ : ByteArray) ++ frameOf ⟨#[49]⟩ ++ ⟨#[63]⟩) 1 (by rw [hz]; omega) (by omega) (by omega)
  rw [g1] at h2
  have hb : bytesOf (frameOf ⟨#[49]⟩) = [1, 0, 49] ++ lowL 4 (crcI (headL ⟨#[49]⟩)) := by
    rw [frame_bytes]; rfl
  have g2 : getF (frameOf ⟨#[49]⟩) 1 = badF := by
    have b1 : bt (frameOf ⟨#[49]⟩) 1 = 0 := by
      have := bt_get (frameOf ⟨#[49]⟩) 1
      rw [hb] at this
      exact this
    have b2 : bt (frameOf ⟨#[49]⟩) 2 = 49 := by
      have := bt_get (frameOf ⟨#[49]⟩) 2
      rw [hb] at this
      exact this
    unfold getF
    rw [hs, if_neg (by omega), if_pos]
    unfold manyAt
    rw [b1, show (1 : Int) + 1 = 2 from rfl, b2]
    omega
  have h3 := get_ev (frameOf ⟨#[49]⟩) 1 (by omega) (by omega) (by omega)
  rw [g2] at h3
  have g3 : getF (frameOf ⟨#[49]⟩) (-1) = badF := by
    unfold getF
    rw [if_pos (by omega)]
  have h4 := get_ev (frameOf ⟨#[49]⟩) (-1) (by omega) (by omega) (by omega)
  rw [g3] at h4
  unfold sleuthlaw16_awake.f
  refine Ev.bind h1 ?_
  simp only [hs]
  refine evp (by omega) (evp (by rw [ByteArray.size_append, hs]; decide) (Ev.bind h2 (Ev.bind h3 (Ev.bind h4 (evp (by decide) (Ev.bind (num_ev _) ?_))))))
  refine evp rfl (evp (by rw [toList_eq]) (evp rfl (Ev.bind (num_ev _) (evp rfl (Ev.bind (num_ev _) (evp rfl (Ev.bind (num_ev _) ?_)))))))
  exact Ev.now _
theorem wf_i64 {x : Int} (h : (Lit.int .i64 x).wf = true) : -9223372036854775808 ≤ x ∧ x ≤ 9223372036854775807 := by
  exact bounds_i64 h
theorem frames_pure : sleuthlaw16_Frames.Pure := by
  intro s t at_ hs ht hat
  have ha := wf_i64 hat
  refine Ev.rounds (g := fun k => sleuthlaw16_Frames.f k s t at_) ?_
  unfold sleuthlaw16_Frames.f
  have hp : (putF s).1.size ≤ 4611686018427387904 := by
    unfold putF
    split
    · exact Nat.zero_le _
    · show (frameOf s).size ≤ _
      rw [frame_size]; omega
  refine Ev.bind (put_ev s) (Ev.bind (refPut_ev s) (Ev.bind (get_ev t at_ (by omega) ha.1 ha.2) (Ev.bind (refGet_ev t at_ (by omega) ha.1 ha.2) (Ev.bind (get_ev (putF s).1 0 hp (by omega) (by omega)) ?_))))
  refine evp rfl (Ev.bind (num_ev _) (evp rfl (evp rfl (evp rfl (Ev.bind (num_ev _) (evp rfl ?_))))))
  by_cases c : s.size ≤ 8192
  · rw [putF_small s c, get_frame0 s c]
    exact evp rfl (evp rfl (evp rfl (Ev.bind (num_ev _) (evp rfl (Ev.bind awake_ev (Ev.now _))))))
  · rw [putF_great s (by omega)]
    exact evn (by decide) (Ev.bind awake_ev (Ev.now _))
theorem frameAt_pure : sleuthlaw16_FrameAt.Pure := by
  intro a s b ha hs hb
  refine Ev.rounds (g := fun k => sleuthlaw16_FrameAt.f k a s b) ?_
  unfold sleuthlaw16_FrameAt.f
  refine Ev.bind awake_ev (evp rfl ?_)
  refine Ev.bind (put_ev s) (Ev.bind (num_ev _) ?_)
  by_cases c : s.size ≤ 8192
  · have hz := frame_size s
    rw [putF_small s c]
    refine evp rfl ?_
    simp only [hz]
    refine evp (by omega) (evp (by rw [ByteArray.size_append, hz]; omega) ?_)
    have h := get_ev (a ++ frameOf s ++ b) (a.size : Int) (by rw [ByteArray.size_append, ByteArray.size_append, hz]; omega) (by omega) (by omega)
    rw [get_frame a s b c, hz] at h
    refine Ev.bind h (Ev.bind (num_ev _) (evp rfl (evp rfl (evp (by rw [w64 (by omega) (by omega)]) ?_))))
    have e : ((((6 + s.size : Nat) : Int)) == wrap64 (6 + (s.size : Int))) = true := by
      rw [beq_iff_eq, w64 (by omega) (by omega)]; omega
    rw [e]
    exact Ev.now _
  · rw [putF_great s (by omega)]
    refine evn (by decide) ?_
    have hE : (⟨#[]⟩ : ByteArray).toList = [] := by rw [toList_eq]
    dsimp only
    rw [hE]
    exact Ev.now _
theorem frame_prefix (a b : ByteArray) (ha : a.size ≤ 8192) (hb : b.size ≤ 8192) (n : Nat) (hn : n = min (frameOf a).size (frameOf b).size) (h : (frameOf a).extract 0 n = (frameOf b).extract 0 n) : a = b := by
  have za := frame_size a
  have zb := frame_size b
  have h' : ((bytesOf (frameOf a)).take n) = ((bytesOf (frameOf b)).take n) := by
    have := congrArg bytesOf h
    rw [bytesOf_extract, bytesOf_extract] at this
    simpa using this
  have hha : headL a = [(a.size : Int) % 4294967296 % 256, (a.size : Int) % 4294967296 / 256 % 256] ++ bytesOf a := rfl
  have hhb : headL b = [(b.size : Int) % 4294967296 % 256, (b.size : Int) % 4294967296 / 256 % 256] ++ bytesOf b := rfl
  have e0 := congrArg (fun l => l[0]?) h'
  have e1 := congrArg (fun l => l[1]?) h'
  simp only [List.getElem?_take_of_lt (show 0 < n by omega), List.getElem?_take_of_lt (show 1 < n by omega), frame_bytes, hha, hhb, List.cons_append, List.getElem?_cons_zero, List.getElem?_cons_succ, Option.some.injEq] at e0 e1
  have es : a.size = b.size := by omega
  have e : frameOf a = frameOf b := by
    apply bytesOf_inj
    rw [List.take_of_length_le (by rw [bytesOf_length]; omega), List.take_of_length_le (by rw [bytesOf_length]; omega)] at h'
    exact h'
  have ga := get_frame0 a ha
  have gb := get_frame0 b hb
  rw [e, gb] at ga
  exact (Prod.mk.inj ga).1.symm
theorem unlike_j0 (a b s t : ByteArray) (e f : Int) (x : Bool) (r : Bool)
    (h : (if x = true then ((sleuthlaw0_Num.f e).bind fun t217 => (if t217 = 0 then ((sleuthlaw0_Num.f f).bind fun t218 => (if t218 = 0 then (some true) else (some (t.toList == ([] : List UInt8))))) else (if s.toList = ([] : List UInt8) then ((sleuthlaw0_Num.f f).bind fun t219 => (if t219 = 0 then (some true) else (some (t.toList == ([] : List UInt8))))) else (some false)))) else (if 0 ≤ (mn (s.size : Int) (t.size : Int)) then (if (mn (s.size : Int) (t.size : Int)) ≤ (s.size : Int) then (if (mn (s.size : Int) (t.size : Int)) ≤ (t.size : Int) then (some (((s.extract 0 ((mn (s.size : Int) (t.size : Int)) : Int).toNat).toList == (t.extract 0 ((mn (s.size : Int) (t.size : Int)) : Int).toNat).toList) == (a.toList == b.toList))) else (none)) else (none)) else (none))) = some r) :
    Ev (fun k => sleuthlaw16_FrameUnlike.j0 k a b s e t f x) r := by
  refine Ev.step (f := fun _ => some r) (fun k => ?_) (Ev.now _)
  simp only [sleuthlaw16_FrameUnlike.j0]
  exact h
theorem frameUnlike_pure : sleuthlaw16_FrameUnlike.Pure := by
  intro a b ha hb
  refine Ev.rounds (g := fun k => sleuthlaw16_FrameUnlike.f k a b) ?_
  unfold sleuthlaw16_FrameUnlike.f
  refine Ev.bind awake_ev (evp rfl ?_)
  refine Ev.bind (put_ev a) (Ev.bind (put_ev b) (Ev.bind (num_ev _) ?_))
  have hE : (⟨#[]⟩ : ByteArray).toList = [] := by rw [toList_eq]
  by_cases ca : a.size ≤ 8192
  · rw [putF_small a ca]
    refine evp rfl (Ev.bind (num_ev _) ?_)
    by_cases cb : b.size ≤ 8192
    · rw [putF_small b cb]
      refine unlike_j0 _ _ _ _ _ _ _ _ ?_
      have za := frame_size a
      have zb := frame_size b
      have hmn : mn ((frameOf a).size : Int) ((frameOf b).size : Int) = ((min (frameOf a).size (frameOf b).size : Nat) : Int) := by unfold mn; split <;> omega
      dsimp only
      rw [if_neg (by decide), hmn, if_pos (by omega), if_pos (by omega), if_pos (by omega), Int.toNat_natCast]
      congr 1
      rw [beq_iff_eq, Bool.eq_iff_iff, beq_iff_eq, beq_iff_eq, toList_inj, toList_inj]
      constructor
      · exact frame_prefix a b ca cb _ rfl
      · rintro rfl; rfl
    · rw [putF_great b (by omega)]
      refine unlike_j0 _ _ _ _ _ _ _ _ ?_
      rw [if_pos (by decide)]
      simp only [sleuthlaw0_Num.f, Option.bind_some]
      rw [if_pos trivial, if_neg (by decide), hE]
      rfl
  · rw [putF_great a (by omega)]
    refine evn (by decide) ?_
    refine unlike_j0 _ _ _ _ _ _ _ _ ?_
    rw [if_pos rfl]
    simp only [sleuthlaw0_Num.f, Option.bind_some]
    rw [if_neg (by decide), if_pos hE]
    by_cases cb : b.size ≤ 8192
    · rw [putF_small b cb]; rfl
    · rw [putF_great b (by omega), if_neg (by decide), hE]; rfl
end Go.Proofs.Yteaaaldfccildaa.FrameLib
