/- Parts of this proof, one behind the other: SessVals, AnsVals, AnsWake. -/
import Derived.Test.YtbnljapgnfmmoaaDoorU10
import Derived.Test.YtbnljapgnfmmoaaDoorU8
import Derived.Test.YtbnljapgnfmmoaaDoorU9
section
/- What package session answers, and the document's answer, as plain functions. -/
namespace Go.Proofs.YtbnljapgnfmmoaaDoor.G
open Go.RowKit Go.Proofs.YtbnljapgnfmmoaaDoorW.PrintWords Go.Proofs.YtbnljapgnfmmoaaDoorW.PrintLast Go.Proofs.YtbnljapgnfmmoaaDoorW.PrintMore
set_option linter.unusedVariables false
set_option linter.unusedSimpArgs false
theorem marksS_set {ns : List Nd} {m : List Int} (h : marksS ns m = true) (i : Nat) (v : Int) (hv : markB v = true) : marksS ns (m.set i v) = true := by
  obtain ⟨hm, hl, hx⟩ := marksS_spec h
  have hb := markB_spec hv
  unfold marksS
  rw [hm, List.length_set, hl, decide_eq_true rfl, Bool.true_and, Bool.true_and, Bool.not_eq_true', List.any_eq_false]
  intro x hx'
  rcases List.mem_or_eq_of_mem_set hx' with h1 | rfl
  · rw [hx x h1]; exact Bool.false_ne_true
  · unfold oddB
    rw [decide_eq_false (by omega), decide_eq_false (by omega)]; exact Bool.false_ne_true
theorem marksS_zero {ns : List Nd} (h : mayT ns = true) : marksS ns (List.replicate ns.length 0) = true := by
  unfold marksS
  rw [h, List.length_replicate, decide_eq_true rfl, Bool.true_and, Bool.true_and, Bool.not_eq_true', List.any_eq_false]
  intro x hx
  rw [List.eq_of_mem_replicate hx]
  exact Bool.false_ne_true
/-- are these the answers of a search? -/
def goS (ns : List Nd) (w : Int) : List An → List Int → Bool
  | [], _ => true
  | a :: t, m => if (!((askW w ns m).1 == 0) || (!((askW w ns m).2 == a.f0))) = true then false else if markB a.f1 = true then goS ns w t (m.set a.f0.toNat a.f1) else false
theorem goS_step {ns : List Nd} {w : Int} {a : An} {t : List An} {m : List Int} (h : goS ns w (a :: t) m = true) : (askW w ns m).1 = 0 ∧ (askW w ns m).2 = a.f0 ∧ markB a.f1 = true ∧ goS ns w t (m.set a.f0.toNat a.f1) = true := by
  rw [goS] at h
  by_cases c : (!((askW w ns m).1 == 0) || (!((askW w ns m).2 == a.f0))) = true
  · rw [if_pos c] at h; cases h
  · rw [if_neg c] at h
    by_cases d : markB a.f1 = true
    · rw [if_pos d] at h
      rw [Bool.or_eq_true, Bool.not_eq_true', Bool.not_eq_true', beq_eq_false_iff_ne, beq_eq_false_iff_ne] at c
      exact ⟨Classical.not_not.1 fun e => c (.inl e), Classical.not_not.1 fun e => c (.inr e), d, h⟩
    · rw [if_neg d] at h; cases h
theorem may_l0 (ns : List Nd) (w : Int) (zs : List An) (hz : zs.length ≤ 9223372036854775806) : ∀ (n i : Nat) (m : List Int), i + n = zs.length → marksS ns m = true → Ev (fun k => session_May.l0 k ns w zs m (i : Int)) (goS ns w (zs.drop i) m) := by
  intro n
  induction n with
  | zero =>
    intro i m hi hm
    rw [List.drop_eq_nil_of_le (by omega)]
    refine Ev.step (f := fun _ => some true) (fun k => ?_) (Ev.now _)
    rw [session_May.l0, if_neg (by omega)]
  | succ n ih =>
    intro i m hi hm
    have hw : wrap64 ((i : Int) + 1) = ((i + 1 : Nat) : Int) := by rw [w64 (by omega) (by omega)]; omega
    have hlt : (i : Int) < (zs.length : Int) := by omega
    have hf := askW_facts hm w
    have ha := nextAsk_ev hm w
    have hml := (marksS_spec hm).2.1
    rw [drop_ra zs i (by omega), goS]
    obtain ⟨a, hae⟩ : ∃ a, ra zs (i : Int) = a := ⟨_, rfl⟩
    have hae' : rd_T29 zs (i : Int) = a := hae
    rw [hae]
    generalize askW w ns m = b at ha hf
    refine Ev.step (f := fun k => (next_Ask.f k w ns m).bind fun b => if (!(b.1 == 0) || (!(b.2 == a.f0))) = true then some false else (next_Mark.f a.f1).bind fun t => if t = true then (if 0 ≤ a.f0 ∧ a.f0 < (m.length : Int) then session_May.l0 k ns w zs (m.set a.f0.toNat a.f1) ((i + 1 : Nat) : Int) else none) else some false) (fun k => by rw [session_May.l0, if_pos hlt, hae', hw]) ?_
    refine Ev.bind ha ?_
    by_cases c : (!(b.1 == 0) || (!(b.2 == a.f0))) = true
    · simp only [if_pos c]; exact Ev.now _
    · simp only [if_neg c, mark_eq, Option.bind_some]
      rw [Bool.or_eq_true, Bool.not_eq_true', Bool.not_eq_true', beq_eq_false_iff_ne, beq_eq_false_iff_ne] at c
      have e1 : b.2 = a.f0 := Classical.not_not.1 fun e => c (.inr e)
      by_cases d : markB a.f1 = true
      · have g : 0 ≤ a.f0 ∧ a.f0 < (m.length : Int) := by rw [← e1]; exact ⟨hf.1, by omega⟩
        simp only [if_pos d, if_pos g]
        exact ih (i + 1) _ (by omega) (marksS_set hm _ _ d)
      · simp only [if_neg d]; exact Ev.now _
def sessS (ns : List Nd) (w : Int) (zs : List An) : Bool := if (mayT ns && wayB w) = true then goS ns w zs (List.replicate ns.length 0) else false
theorem fresh_ev (ns : List Nd) (w : Int) : Ev (fun k => session_fresh.f k ns w) (mayT ns && wayB w) := by
  unfold session_fresh.f
  refine Ev.bind (trailMay_ev ns) ?_
  cases mayT ns with
  | false => simp only [if_neg Bool.false_ne_true, Bool.false_and]; exact Ev.now _
  | true => simp only [if_pos, Bool.true_and, way_eq]; exact Ev.now _
theorem sessMay_ev (ns : List Nd) (w : Int) (zs : List An) (hz : zs.length ≤ 9223372036854775806) : Ev (fun k => session_May.f k ns w zs) (sessS ns w zs) := by
  unfold session_May.f sessS
  refine Ev.bind (fresh_ev ns w) ?_
  by_cases c : (mayT ns && wayB w) = true
  · simp only [if_pos c]
    rw [Bool.and_eq_true] at c
    have := may_l0 ns w zs hz zs.length 0 (List.replicate ns.length 0) (by omega) (marksS_zero c.1)
    rw [List.drop_zero] at this
    exact this
  · simp only [if_neg c]; exact Ev.now _
/-- how many nodes have no mark -/
def zeros : List Int → Nat
  | [] => 0
  | x :: t => (if x = 0 then 1 else 0) + zeros t
theorem zeros_le : ∀ m : List Int, zeros m ≤ m.length
  | [] => Nat.le_refl _
  | x :: t => by
    have := zeros_le t
    rw [zeros, List.length_cons]
    split <;> omega
theorem zeros_set : ∀ (m : List Int) (i : Nat) (v : Int), v ≠ 0 → m.getD i 1 = 0 → zeros (m.set i v) + 1 = zeros m
  | [], i, v, _, h => by simp at h
  | x :: t, 0, v, hv, h => by
    have hx : x = 0 := by simpa using h
    show zeros (v :: t) + 1 = _
    rw [zeros, zeros, if_neg hv, if_pos hx]; omega
  | x :: t, i + 1, v, hv, h => by
    have := zeros_set t i v hv (by simpa using h)
    show zeros (x :: t.set i v) + 1 = _
    rw [zeros, zeros]; omega
theorem getD_rd (m : List Int) (i : Int) (h0 : 0 ≤ i) (h1 : i < (m.length : Int)) : m.getD i.toNat 1 = rd m i := by
  show _ = List.getD _ _ _
  rw [List.getD_eq_getElem?_getD, List.getD_eq_getElem?_getD, List.getElem?_eq_getElem (show i.toNat < m.length by omega)]; rfl
theorem goS_ask {ns : List Nd} {w : Int} {a : An} {t : List An} {m : List Int} (hm : marksS ns m = true) (h : goS ns w (a :: t) m = true) : 0 ≤ a.f0 ∧ a.f0 < (m.length : Int) ∧ rd m a.f0 = 0 ∧ markB a.f1 = true ∧ marksS ns (m.set a.f0.toNat a.f1) = true ∧ goS ns w t (m.set a.f0.toNat a.f1) = true := by
  obtain ⟨h1, h2, h3, h4⟩ := goS_step h
  have hf := askW_facts hm w
  have hl := (marksS_spec hm).2.1
  rw [h2] at hf
  exact ⟨hf.1, by omega, hf.2.2 h1, h3, marksS_set hm _ _ h3, h4⟩
theorem goS_len {ns : List Nd} {w : Int} : ∀ (zs : List An) (m : List Int), marksS ns m = true → goS ns w zs m = true → zs.length ≤ zeros m
  | [], m, _, _ => Nat.zero_le _
  | a :: t, m, hm, h => by
    obtain ⟨h0, h1, h2, h3, h4, h5⟩ := goS_ask hm h
    have ih := goS_len t _ h4 h5
    have hb := markB_spec h3
    have := zeros_set m a.f0.toNat a.f1 (by omega) (by rw [getD_rd m a.f0 h0 h1]; exact h2)
    rw [List.length_cons]; omega
theorem goS_max {ns : List Nd} {w : Int} {zs : List An} (hm : mayT ns = true) (h : goS ns w zs (List.replicate ns.length 0) = true) : zs.length ≤ ns.length := by
  have h1 := goS_len zs _ (marksS_zero hm) h
  have h2 := zeros_le (List.replicate ns.length 0)
  rw [List.length_replicate] at h2
  omega
end Go.Proofs.YtbnljapgnfmmoaaDoor.G
end
section
/- What package answer answers, as plain functions. -/
namespace Go.Proofs.YtbnljapgnfmmoaaDoor.G
open Go.RowKit Go.Proofs.YtbnljapgnfmmoaaDoorW.PrintWords Go.Proofs.YtbnljapgnfmmoaaDoorW.PrintLast Go.Proofs.YtbnljapgnfmmoaaDoorW.PrintMore
set_option linter.unusedVariables false
set_option linter.unusedSimpArgs false
/-- the marks behind answers -/
def finM : List An → List Int → List Int
  | [], m => m
  | a :: t, m => finM t (m.set a.f0.toNat a.f1)
theorem goS_fin {ns : List Nd} {w : Int} : ∀ (zs : List An) (m : List Int), marksS ns m = true → goS ns w zs m = true → goA zs m = some (finM zs m) ∧ marksS ns (finM zs m) = true
  | [], m, hm, _ => ⟨rfl, hm⟩
  | a :: t, m, hm, h => by
    obtain ⟨h0, h1, h2, h3, h4, h5⟩ := goS_ask hm h
    obtain ⟨i1, i2⟩ := goS_fin t _ h4 h5
    refine ⟨?_, i2⟩
    rw [goA, decide_eq_true h0, decide_eq_true h1, h3, Bool.and_self, Bool.and_self, if_pos rfl]
    exact i1
def lastM' (ns : List Nd) (zs : List An) : List Int := finM zs (List.replicate ns.length 0)
theorem sess_spec {ns : List Nd} {w : Int} {zs : List An} (h : sessS ns w zs = true) : mayT ns = true ∧ wayB w = true ∧ goS ns w zs (List.replicate ns.length 0) = true ∧ zs.length ≤ ns.length ∧ marksS ns (lastM' ns zs) = true ∧ stepF ns w zs = ((askW w ns (lastM' ns zs)).1, (askW w ns (lastM' ns zs)).2, 0) := by
  unfold sessS at h
  by_cases c : (mayT ns && wayB w) = true
  · rw [if_pos c] at h
    rw [Bool.and_eq_true] at c
    have hlen := mayT_len c.1
    have hmax := goS_max c.1 h
    obtain ⟨h1, h2⟩ := goS_fin zs _ (marksS_zero c.1) h
    refine ⟨c.1, c.2, h, hmax, h2, ?_⟩
    have e : marksF ns zs = (lastM' ns zs, 0) := by
      unfold marksF
      rw [c.1, decide_eq_true (show zs.length ≤ 512 by omega), Bool.and_self, if_pos rfl, h1]; rfl
    unfold stepF
    rw [e, if_pos rfl, if_pos c.2]
  · rw [if_neg c] at h; cases h
def putF (ns : List Nd) (w : Int) (zs : List An) (mk : Int) : List Nd × Int × List An × Int :=
  if sessS ns w zs = true then (if markB mk = true then (if (askW w ns (lastM' ns zs)).1 = 0 then (ns, w, zs ++ [⟨(askW w ns (lastM' ns zs)).2, mk⟩], 0) else ([], 0, [], 2201)) else ([], 0, [], 2200)) else ([], 0, [], 2200)
theorem fit_of {ns : List Nd} {zs : List An} (hok : okN ns) (hz : zs.length ≤ 8796093022208) : sc_fit ns zs = true := by
  unfold sc_fit
  rw [decide_eq_true (show ns.length ≤ 2513169434916 by have := hok.1; omega), Bool.true_and, decide_eq_true hz, Bool.true_and]
  exact List.all_eq_true.2 fun x hx => decide_eq_true (by have := hok.2 x hx; omega)
theorem put_ev (ns : List Nd) (hok : okN ns) (w : Int) (zs : List An) (hz : zs.length ≤ 9223372036854775806) (mk : Int) : Ev (fun k => answer_Put.f k ns w zs mk) (putF ns w zs mk) := by
  unfold answer_Put.f putF
  refine Ev.bind (sessMay_ev ns w zs hz) ?_
  by_cases c : sessS ns w zs = true
  · simp only [if_pos c, mark_eq, Option.bind_some]
    by_cases d : markB mk = true
    · rw [if_pos d, d]
      obtain ⟨h1, h2, h3, h4, h5, h6⟩ := sess_spec c
      have hlen := mayT_len h1
      have hfit : sc_fit ns zs = true := fit_of hok (by omega)
      have hlt : zs.length < 8796093022208 := by omega
      refine Ev.step (f := fun k => (next_Step.f k ns w zs).bind fun bt207 => (if bt207.1 = 0 then ((session_Copy.f ns w zs).bind fun bt211 => (if bt211.2.2.length < 8796093022208 then (some (bt211.1, bt211.2.1, (bt211.2.2 ++ [(⟨bt207.2.1, mk⟩ : An)]), 0)) else (none))) else (some (([] : List Nd), 0, ([] : List An), 2201)))) (fun k => by rw [answer_Put.j0, Bool.not_true, if_neg Bool.false_ne_true]) ?_
      have hs := step_ev ns w zs
      rw [h6] at hs
      refine Ev.bind hs ?_
      unfold session_Copy.f
      by_cases e : (askW w ns (lastM' ns zs)).1 = 0
      · simp only [if_pos e, if_pos hfit, Option.bind_some, if_pos hlt]; exact Ev.now _
      · simp only [if_neg e]; exact Ev.now _
    · rw [if_neg d]
      rw [Bool.not_eq_true] at d
      rw [d]
      refine Ev.step (f := fun _ => some ([], 0, [], 2200)) (fun k => by rw [answer_Put.j0, Bool.not_false, if_pos rfl]) (Ev.now _)
  · simp only [if_neg c]
    refine Ev.step (f := fun _ => some ([], 0, [], 2200)) (fun k => by rw [answer_Put.j0, if_pos rfl]) (Ev.now _)
def undoF (ns : List Nd) (w : Int) (zs : List An) : List Nd × Int × List An × Int :=
  if sessS ns w zs = true then (if zs.length = 0 then ([], 0, [], 2201) else (ns, w, zs.take (zs.length - 1), 0)) else ([], 0, [], 2200)
theorem undo_ev (ns : List Nd) (hok : okN ns) (w : Int) (zs : List An) (hz : zs.length ≤ 9223372036854775806) : Ev (fun k => answer_Undo.f k ns w zs) (undoF ns w zs) := by
  unfold answer_Undo.f undoF
  refine Ev.bind (sessMay_ev ns w zs hz) ?_
  by_cases c : sessS ns w zs = true
  · simp only [if_pos c]
    obtain ⟨h1, h2, h3, h4, h5, h6⟩ := sess_spec c
    have hlen := mayT_len h1
    have hfit : sc_fit ns zs = true := fit_of hok (by omega)
    by_cases d : zs.length = 0
    · have d' : (zs.length : Int) = 0 := by omega
      simp only [if_pos d, if_pos d']; exact Ev.now _
    · have d' : ¬ (zs.length : Int) = 0 := by omega
      have hw : wrap64 ((zs.length : Int) - 1) = ((zs.length - 1 : Nat) : Int) := by rw [w64 (by omega) (by omega)]; omega
      have g0 : (0 : Int) ≤ ((zs.length - 1 : Nat) : Int) := by omega
      have g1 : ((zs.length - 1 : Nat) : Int) ≤ (zs.length : Int) := by omega
      unfold session_Copy.f
      simp only [if_neg d, if_neg d', if_pos hfit, Option.bind_some, hw, if_pos g0, if_pos g1, Int.toNat_natCast]
      exact Ev.now _
  · simp only [if_neg c]; exact Ev.now _
end Go.Proofs.YtbnljapgnfmmoaaDoor.G
end
section
/- What the laws of package answer share. -/
namespace Go.Proofs.YtbnljapgnfmmoaaDoor.G
open Go.RowKit Go.Proofs.YtbnljapgnfmmoaaDoorW.PrintWords Go.Proofs.YtbnljapgnfmmoaaDoorW.PrintLast Go.Proofs.YtbnljapgnfmmoaaDoorW.PrintMore
set_option linter.unusedVariables false
set_option linter.unusedSimpArgs false
def ansSome : List Nd := [(⟨0, (-1), ([] : List ByteArray), (⟨#[57]⟩ : ByteArray)⟩ : Nd), (⟨1, 0, (([(⟨#[64, 55, 40, 95, 32, 52, 41]⟩ : ByteArray), (⟨#[53]⟩ : ByteArray)] : List ByteArray)), (⟨#[57]⟩ : ByteArray)⟩ : Nd), (⟨2, 0, ([] : List ByteArray), (⟨#[33]⟩ : ByteArray)⟩ : Nd), (⟨1, 1, (([(⟨#[49]⟩ : ByteArray), (⟨#[95]⟩ : ByteArray)] : List ByteArray)), (⟨#[95]⟩ : ByteArray)⟩ : Nd), (⟨1, 2, (([(⟨#[49]⟩ : ByteArray), (⟨#[95]⟩ : ByteArray)] : List ByteArray)), (⟨#[95]⟩ : ByteArray)⟩ : Nd)]
theorem ansSome_eq : sleuthlaw22_some.f = some ansSome := rfl
theorem ansSome_ok : okN ansSome := ⟨by decide, by
  intro x hx
  have h : (ansSome.all fun x => decide (x.f2.length ≤ 8796093021952)) = true := by kernel_rfl
  exact of_decide_eq_true (List.all_eq_true.1 h x hx)⟩
theorem ansNil_ok : okN [] := ⟨by decide, fun x hx => by cases hx⟩
theorem sameAnswers_lit : Ev (fun k => sleuthlaw0_SameAnswers.f k ([⟨0, 2⟩, ⟨1, 1⟩] : List An) [⟨0, 2⟩, ⟨1, 1⟩]) true := sameAnswers_ev _ (by decide)
theorem ansAwake_ev : Ev (fun k => sleuthlaw22_awake.f k) true := by
  unfold sleuthlaw22_awake.f
  simp only [ansSome_eq, Option.bind_some]
  have e1 : putF ansSome 0 [] 2 = (ansSome, 0, [⟨0, 2⟩], 0) := by kernel_rfl
  have e2 : putF ansSome 0 [⟨0, 2⟩] 1 = (ansSome, 0, [⟨0, 2⟩, ⟨1, 1⟩], 0) := by kernel_rfl
  have e3 : undoF ansSome 0 [⟨0, 2⟩, ⟨1, 1⟩] = (ansSome, 0, [⟨0, 2⟩], 0) := by kernel_rfl
  have e4 : undoF ansSome 0 [] = ([], 0, [], 2201) := by kernel_rfl
  have e5 : putF ansSome 0 [] 0 = ([], 0, [], 2200) := by kernel_rfl
  have e6 : putF ansSome 0 [] 1 = (ansSome, 0, [⟨0, 1⟩], 0) := by kernel_rfl
  have e7 : putF ansSome 0 [⟨0, 1⟩] 1 = ([], 0, [], 2201) := by kernel_rfl
  have p1 := put_ev ansSome ansSome_ok 0 [] (Nat.zero_le _) 2
  have p2 := put_ev ansSome ansSome_ok 0 [⟨0, 2⟩] (by decide) 1
  have p3 := undo_ev ansSome ansSome_ok 0 [⟨0, 2⟩, ⟨1, 1⟩] (by decide)
  have p4 := undo_ev ansSome ansSome_ok 0 [] (Nat.zero_le _)
  have p5 := put_ev ansSome ansSome_ok 0 [] (Nat.zero_le _) 0
  have p6 := put_ev ansSome ansSome_ok 0 [] (Nat.zero_le _) 1
  have p7 := put_ev ansSome ansSome_ok 0 [⟨0, 1⟩] (by decide) 1
  rw [e1] at p1
  rw [e2] at p2
  rw [e3] at p3
  rw [e4] at p4
  rw [e5] at p5
  rw [e6] at p6
  rw [e7] at p7
  refine Ev.bind p1 (Ev.bind p2 (Ev.bind p3 (Ev.bind p4 (Ev.bind p5 (Ev.bind p6 (Ev.bind p7 (Ev.bind sameAnswers_lit ?_)))))))
  simp only [if_pos, sleuthlaw0_Num.f, Option.bind_some]
  refine Ev.bind (sameSession_ev ansSome ansSome_ok 0 [⟨0, 2⟩] (by decide)) ?_
  simp only [if_pos, BEq.rfl]
  exact Ev.now _
end Go.Proofs.YtbnljapgnfmmoaaDoor.G
end
