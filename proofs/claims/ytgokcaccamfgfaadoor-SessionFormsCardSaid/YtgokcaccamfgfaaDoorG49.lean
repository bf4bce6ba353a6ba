-- Laid by the session's own driver gp.py over the kit's printer. Not trusted: Lean checks it.
import Derived.Test.YtgokcaccamfgfaaDoorG0
import Derived.Test.YtgokcaccamfgfaaDoorU9
import Derived.Test.YtgokcaccamfgfaaDoorU13
import Derived.Test.YtgokcaccamfgfaaDoorU14
namespace Go.Proofs.YtgokcaccamfgfaaDoor.G
open Go.RowKit Go.Proofs.YtgokcaccamfgfaaDoorW.PrintWords Go.Proofs.YtgokcaccamfgfaaDoorW.PrintLast Go.Proofs.YtgokcaccamfgfaaDoorW.PrintMore
attribute [local go_sem] max2_int min2_int max_two min_two max_three min_three max_four min_four   -- for this text's walks alone
set_option linter.unusedVariables false
set_option linter.unusedSimpArgs false

/-! ### sleuthlaw21_SessionForms: function 5 -/
def sleuthlaw21_SessionForms.j0 : Nat → Int → Bool → List (S33) → Int → List (S26) → Option (Bool)
  | 0, _, _, _, _, _ => none
  | k + 1, x0, x7, x533000, x533001, x533002 => (session_New.f k x533000 x533001).bind fun bt545 => (if x7 = true then ((session_May.f k x533000 x533001 x533002).bind fun t554 => (if t554 = true then (none) else ((sleuthlaw0_Num.f bt545.2.2.2).bind fun t555 => (if ((t555 == 2100) == (decide ((Int.tmod (IntKind.u64.wrap (x0)) 10) < 4))) = true then (if (Int.tmod (IntKind.u64.wrap (x0)) 10) < 4 then (some true) else (some (t555 == 0))) else (none))))) else (none))
def sleuthlaw21_SessionForms.f (k : Nat) (a0 : Int) (a1 : Int) : Option (Bool) := (sleuthlaw21_awake.f k).bind fun t525 => (if t525 = true then ((sleuthlaw21_some.f).bind fun t526 => ((some (([(⟨0, 2⟩ : S26), (⟨1, 1⟩ : S26), (⟨2, 1⟩ : S26)] : List (S26)) : List (S26))).bind fun y529 => ((session_May.f k t526 0 y529).bind fun t533 => (if (Int.tmod (IntKind.u64.wrap (a0)) 10) = 0 then (sleuthlaw21_SessionForms.j0 k a0 t533 ([] : List (S33)) 0 y529) else (if (Int.tmod (IntKind.u64.wrap (a0)) 10) = 1 then (if 4 < (t526.length : Int) then (sleuthlaw21_SessionForms.j0 k a0 t533 (t526.set (4 : Int).toNat (⟨(rd_T33 t526 4).f0, (rd_T33 t526 4).f1, (rd_T33 t526 4).f2, (⟨#[33, 33]⟩ : ByteArray)⟩ : S33)) 0 y529) else (none)) else (if (Int.tmod (IntKind.u64.wrap (a0)) 10) = 2 then (sleuthlaw21_SessionForms.j0 k a0 t533 t526 (wrap64 (-(wrap64 (1 + (Go.bits .and .i64 a1 1023))))) y529) else (if (Int.tmod (IntKind.u64.wrap (a0)) 10) = 3 then (sleuthlaw21_SessionForms.j0 k a0 t533 t526 (wrap64 (1 + (wrap64 (1 + (Go.bits .and .i64 a1 1023))))) y529) else (if (Int.tmod (IntKind.u64.wrap (a0)) 10) = 4 then (if 2 < (y529.length : Int) then (sleuthlaw21_SessionForms.j0 k a0 t533 t526 0 (y529.set (2 : Int).toNat (⟨wrap64 (2 + (wrap64 (1 + (Go.bits .and .i64 a1 1023)))), (rd_T26 y529 2).f1⟩ : S26))) else (none)) else (if (Int.tmod (IntKind.u64.wrap (a0)) 10) = 5 then (if 2 < (y529.length : Int) then (sleuthlaw21_SessionForms.j0 k a0 t533 t526 0 (y529.set (2 : Int).toNat (⟨(rd_T26 y529 2).f0, wrap64 (1 - (wrap64 (1 + (Go.bits .and .i64 a1 1023))))⟩ : S26))) else (none)) else (if (Int.tmod (IntKind.u64.wrap (a0)) 10) = 6 then (if 2 < (y529.length : Int) then (sleuthlaw21_SessionForms.j0 k a0 t533 t526 0 (y529.set (2 : Int).toNat (⟨(rd_T26 y529 2).f0, wrap64 (3 + (wrap64 (1 + (Go.bits .and .i64 a1 1023))))⟩ : S26))) else (none)) else (if (Int.tmod (IntKind.u64.wrap (a0)) 10) = 7 then (if y529.length < 8796093022208 then (sleuthlaw21_SessionForms.j0 k a0 t533 t526 0 (y529 ++ [(⟨Go.bits .and .i64 a1 3, 1⟩ : S26)])) else (none)) else (if (Int.tmod (IntKind.u64.wrap (a0)) 10) = 8 then (if 0 < (y529.length : Int) then (sleuthlaw21_SessionForms.j0 k a0 t533 t526 0 (y529.set (0 : Int).toNat (⟨(rd_T26 y529 0).f0, 1⟩ : S26))) else (none)) else (if 1 ≤ (y529.length : Int) then (sleuthlaw21_SessionForms.j0 k a0 t533 t526 0 (y529.drop (1 : Int).toNat)) else (none)))))))))))))) else (none))
theorem sleuthlaw21_SessionForms.mono_l : ∀ k, (∀ y0 y1 y2 y3 y4, LeO (sleuthlaw21_SessionForms.j0 k y0 y1 y2 y3 y4) (sleuthlaw21_SessionForms.j0 (k + 1) y0 y1 y2 y3 y4))
  | 0 => fun _ _ _ _ _ r h => by simp [sleuthlaw21_SessionForms.j0] at h
  | k + 1 => by
    have ih0 := sleuthlaw21_SessionForms.mono_l k
    · intro y0 y1 y2 y3 y4
      unfold sleuthlaw21_SessionForms.j0
      repeat' first
      | (with_reducible exact ih0 _ _ _ _ _)
      | (with_reducible exact session_May.mono _ _ _ _)
      | (with_reducible exact session_New.mono _ _ _)
      | (with_reducible exact sleuthlaw21_awake.mono _)
      | (with_reducible exact LeO.refl _)
      | (with_reducible exact LeO.none _)
      | (with_reducible refine LeO.ite ?_ ?_)
      | (with_reducible refine LeO.bind ?_ (fun _ => ?_))
      | exact ih0 _ _ _ _ _
      | exact session_May.mono _ _ _ _
      | exact session_New.mono _ _ _
      | exact sleuthlaw21_awake.mono _
      | exact LeO.none _
      | refine LeO.ite ?_ ?_
      | refine LeO.bind ?_ (fun _ => ?_)
theorem sleuthlaw21_SessionForms.mono : ∀ a0 a1 k, LeO (sleuthlaw21_SessionForms.f k a0 a1) (sleuthlaw21_SessionForms.f (k + 1) a0 a1) := by
  intro a0 a1 k
  have ih0 := sleuthlaw21_SessionForms.mono_l k
  unfold sleuthlaw21_SessionForms.f
  repeat' first
      | (with_reducible exact ih0 _ _ _ _ _)
      | (with_reducible exact session_May.mono _ _ _ _)
      | (with_reducible exact session_New.mono _ _ _)
      | (with_reducible exact sleuthlaw21_awake.mono _)
      | (with_reducible exact LeO.refl _)
      | (with_reducible exact LeO.none _)
      | (with_reducible refine LeO.ite ?_ ?_)
      | (with_reducible refine LeO.bind ?_ (fun _ => ?_))
      | exact ih0 _ _ _ _ _
      | exact session_May.mono _ _ _ _
      | exact session_New.mono _ _ _
      | exact sleuthlaw21_awake.mono _
      | exact LeO.none _
      | refine LeO.ite ?_ ?_
      | refine LeO.bind ?_ (fun _ => ?_)
set_option maxHeartbeats 8000000 in
set_option maxRecDepth 100000 in
theorem sleuthlaw21_SessionForms.calls (k : Nat) (a0 : Int) (a1 : Int) (r : Bool) (w : World) (h : sleuthlaw21_SessionForms.f k a0 a1 = some r) (hG : GOK w) :
    Calls Tryd.prog 5 #[.int .i64 a0, .int .i64 a1] w fun e w' => e = .returned (.bool r) ∧ Below w.heap.size w w' := by
  have hu26 := Tryd.underlying26
  have hu29 := Tryd.underlying29
  have HB := Aside0.mk (Below.refl w.heap.size w)
  have H : ((sleuthlaw21_awake.f k).bind fun t525 => (if t525 = true then ((sleuthlaw21_some.f).bind fun t526 => ((some (([(⟨0, 2⟩ : S26), (⟨1, 1⟩ : S26), (⟨2, 1⟩ : S26)] : List (S26)) : List (S26))).bind fun y529 => ((session_May.f k t526 0 y529).bind fun t533 => (if (Int.tmod (IntKind.u64.wrap (a0)) 10) = 0 then (sleuthlaw21_SessionForms.j0 k a0 t533 ([] : List (S33)) 0 y529) else (if (Int.tmod (IntKind.u64.wrap (a0)) 10) = 1 then (if 4 < (t526.length : Int) then (sleuthlaw21_SessionForms.j0 k a0 t533 (t526.set (4 : Int).toNat (⟨(rd_T33 t526 4).f0, (rd_T33 t526 4).f1, (rd_T33 t526 4).f2, (⟨#[33, 33]⟩ : ByteArray)⟩ : S33)) 0 y529) else (none)) else (if (Int.tmod (IntKind.u64.wrap (a0)) 10) = 2 then (sleuthlaw21_SessionForms.j0 k a0 t533 t526 (wrap64 (-(wrap64 (1 + (Go.bits .and .i64 a1 1023))))) y529) else (if (Int.tmod (IntKind.u64.wrap (a0)) 10) = 3 then (sleuthlaw21_SessionForms.j0 k a0 t533 t526 (wrap64 (1 + (wrap64 (1 + (Go.bits .and .i64 a1 1023))))) y529) else (if (Int.tmod (IntKind.u64.wrap (a0)) 10) = 4 then (if 2 < (y529.length : Int) then (sleuthlaw21_SessionForms.j0 k a0 t533 t526 0 (y529.set (2 : Int).toNat (⟨wrap64 (2 + (wrap64 (1 + (Go.bits .and .i64 a1 1023)))), (rd_T26 y529 2).f1⟩ : S26))) else (none)) else (if (Int.tmod (IntKind.u64.wrap (a0)) 10) = 5 then (if 2 < (y529.length : Int) then (sleuthlaw21_SessionForms.j0 k a0 t533 t526 0 (y529.set (2 : Int).toNat (⟨(rd_T26 y529 2).f0, wrap64 (1 - (wrap64 (1 + (Go.bits .and .i64 a1 1023))))⟩ : S26))) else (none)) else (if (Int.tmod (IntKind.u64.wrap (a0)) 10) = 6 then (if 2 < (y529.length : Int) then (sleuthlaw21_SessionForms.j0 k a0 t533 t526 0 (y529.set (2 : Int).toNat (⟨(rd_T26 y529 2).f0, wrap64 (3 + (wrap64 (1 + (Go.bits .and .i64 a1 1023))))⟩ : S26))) else (none)) else (if (Int.tmod (IntKind.u64.wrap (a0)) 10) = 7 then (if y529.length < 8796093022208 then (sleuthlaw21_SessionForms.j0 k a0 t533 t526 0 (y529 ++ [(⟨Go.bits .and .i64 a1 3, 1⟩ : S26)])) else (none)) else (if (Int.tmod (IntKind.u64.wrap (a0)) 10) = 8 then (if 0 < (y529.length : Int) then (sleuthlaw21_SessionForms.j0 k a0 t533 t526 0 (y529.set (0 : Int).toNat (⟨(rd_T26 y529 0).f0, 1⟩ : S26))) else (none)) else (if 1 ≤ (y529.length : Int) then (sleuthlaw21_SessionForms.j0 k a0 t533 t526 0 (y529.drop (1 : Int).toNat)) else (none)))))))))))))) else (none))) = some r := h
  clear h
  replace H := Option.bind_eq_some_iff.mp H
  obtain ⟨t525, A30, H⟩ := H
  replace H : (if t525 = true then ((sleuthlaw21_some.f).bind fun t526 => ((some (([(⟨0, 2⟩ : S26), (⟨1, 1⟩ : S26), (⟨2, 1⟩ : S26)] : List (S26)) : List (S26))).bind fun y529 => ((session_May.f k t526 0 y529).bind fun t533 => (if (Int.tmod (IntKind.u64.wrap (a0)) 10) = 0 then (sleuthlaw21_SessionForms.j0 k a0 t533 ([] : List (S33)) 0 y529) else (if (Int.tmod (IntKind.u64.wrap (a0)) 10) = 1 then (if 4 < (t526.length : Int) then (sleuthlaw21_SessionForms.j0 k a0 t533 (t526.set (4 : Int).toNat (⟨(rd_T33 t526 4).f0, (rd_T33 t526 4).f1, (rd_T33 t526 4).f2, (⟨#[33, 33]⟩ : ByteArray)⟩ : S33)) 0 y529) else (none)) else (if (Int.tmod (IntKind.u64.wrap (a0)) 10) = 2 then (sleuthlaw21_SessionForms.j0 k a0 t533 t526 (wrap64 (-(wrap64 (1 + (Go.bits .and .i64 a1 1023))))) y529) else (if (Int.tmod (IntKind.u64.wrap (a0)) 10) = 3 then (sleuthlaw21_SessionForms.j0 k a0 t533 t526 (wrap64 (1 + (wrap64 (1 + (Go.bits .and .i64 a1 1023))))) y529) else (if (Int.tmod (IntKind.u64.wrap (a0)) 10) = 4 then (if 2 < (y529.length : Int) then (sleuthlaw21_SessionForms.j0 k a0 t533 t526 0 (y529.set (2 : Int).toNat (⟨wrap64 (2 + (wrap64 (1 + (Go.bits .and .i64 a1 1023)))), (rd_T26 y529 2).f1⟩ : S26))) else (none)) else (if (Int.tmod (IntKind.u64.wrap (a0)) 10) = 5 then (if 2 < (y529.length : Int) then (sleuthlaw21_SessionForms.j0 k a0 t533 t526 0 (y529.set (2 : Int).toNat (⟨(rd_T26 y529 2).f0, wrap64 (1 - (wrap64 (1 + (Go.bits .and .i64 a1 1023))))⟩ : S26))) else (none)) else (if (Int.tmod (IntKind.u64.wrap (a0)) 10) = 6 then (if 2 < (y529.length : Int) then (sleuthlaw21_SessionForms.j0 k a0 t533 t526 0 (y529.set (2 : Int).toNat (⟨(rd_T26 y529 2).f0, wrap64 (3 + (wrap64 (1 + (Go.bits .and .i64 a1 1023))))⟩ : S26))) else (none)) else (if (Int.tmod (IntKind.u64.wrap (a0)) 10) = 7 then (if y529.length < 8796093022208 then (sleuthlaw21_SessionForms.j0 k a0 t533 t526 0 (y529 ++ [(⟨Go.bits .and .i64 a1 3, 1⟩ : S26)])) else (none)) else (if (Int.tmod (IntKind.u64.wrap (a0)) 10) = 8 then (if 0 < (y529.length : Int) then (sleuthlaw21_SessionForms.j0 k a0 t533 t526 0 (y529.set (0 : Int).toNat (⟨(rd_T26 y529 0).f0, 1⟩ : S26))) else (none)) else (if 1 ≤ (y529.length : Int) then (sleuthlaw21_SessionForms.j0 k a0 t533 t526 0 (y529.drop (1 : Int).toNat)) else (none)))))))))))))) else (none)) = some r := H
  have A3 := Aside0.mk A30
  clear A30
  by_cases c4 : t525 = true
  case neg =>
    replace c4 := Bool.eq_false_iff.mpr c4
    subst c4
    have H1 : (none) = some r := by rw [if_neg (show ¬ (false = true) by decide)] at H; exact H
    clear H
    have H := H1
    clear H1
    cases H
  subst c4
  have H1 : ((sleuthlaw21_some.f).bind fun t526 => ((some (([(⟨0, 2⟩ : S26), (⟨1, 1⟩ : S26), (⟨2, 1⟩ : S26)] : List (S26)) : List (S26))).bind fun y529 => ((session_May.f k t526 0 y529).bind fun t533 => (if (Int.tmod (IntKind.u64.wrap (a0)) 10) = 0 then (sleuthlaw21_SessionForms.j0 k a0 t533 ([] : List (S33)) 0 y529) else (if (Int.tmod (IntKind.u64.wrap (a0)) 10) = 1 then (if 4 < (t526.length : Int) then (sleuthlaw21_SessionForms.j0 k a0 t533 (t526.set (4 : Int).toNat (⟨(rd_T33 t526 4).f0, (rd_T33 t526 4).f1, (rd_T33 t526 4).f2, (⟨#[33, 33]⟩ : ByteArray)⟩ : S33)) 0 y529) else (none)) else (if (Int.tmod (IntKind.u64.wrap (a0)) 10) = 2 then (sleuthlaw21_SessionForms.j0 k a0 t533 t526 (wrap64 (-(wrap64 (1 + (Go.bits .and .i64 a1 1023))))) y529) else (if (Int.tmod (IntKind.u64.wrap (a0)) 10) = 3 then (sleuthlaw21_SessionForms.j0 k a0 t533 t526 (wrap64 (1 + (wrap64 (1 + (Go.bits .and .i64 a1 1023))))) y529) else (if (Int.tmod (IntKind.u64.wrap (a0)) 10) = 4 then (if 2 < (y529.length : Int) then (sleuthlaw21_SessionForms.j0 k a0 t533 t526 0 (y529.set (2 : Int).toNat (⟨wrap64 (2 + (wrap64 (1 + (Go.bits .and .i64 a1 1023)))), (rd_T26 y529 2).f1⟩ : S26))) else (none)) else (if (Int.tmod (IntKind.u64.wrap (a0)) 10) = 5 then (if 2 < (y529.length : Int) then (sleuthlaw21_SessionForms.j0 k a0 t533 t526 0 (y529.set (2 : Int).toNat (⟨(rd_T26 y529 2).f0, wrap64 (1 - (wrap64 (1 + (Go.bits .and .i64 a1 1023))))⟩ : S26))) else (none)) else (if (Int.tmod (IntKind.u64.wrap (a0)) 10) = 6 then (if 2 < (y529.length : Int) then (sleuthlaw21_SessionForms.j0 k a0 t533 t526 0 (y529.set (2 : Int).toNat (⟨(rd_T26 y529 2).f0, wrap64 (3 + (wrap64 (1 + (Go.bits .and .i64 a1 1023))))⟩ : S26))) else (none)) else (if (Int.tmod (IntKind.u64.wrap (a0)) 10) = 7 then (if y529.length < 8796093022208 then (sleuthlaw21_SessionForms.j0 k a0 t533 t526 0 (y529 ++ [(⟨Go.bits .and .i64 a1 3, 1⟩ : S26)])) else (none)) else (if (Int.tmod (IntKind.u64.wrap (a0)) 10) = 8 then (if 0 < (y529.length : Int) then (sleuthlaw21_SessionForms.j0 k a0 t533 t526 0 (y529.set (0 : Int).toNat (⟨(rd_T26 y529 0).f0, 1⟩ : S26))) else (none)) else (if 1 ≤ (y529.length : Int) then (sleuthlaw21_SessionForms.j0 k a0 t533 t526 0 (y529.drop (1 : Int).toNat)) else (none)))))))))))))) = some r := by rw [if_pos rfl] at H; exact H
  clear H
  have H := H1
  clear H1
  replace H := Option.bind_eq_some_iff.mp H
  obtain ⟨t526, A50, H⟩ := H
  replace H : ((some (([(⟨0, 2⟩ : S26), (⟨1, 1⟩ : S26), (⟨2, 1⟩ : S26)] : List (S26)) : List (S26))).bind fun y529 => ((session_May.f k t526 0 y529).bind fun t533 => (if (Int.tmod (IntKind.u64.wrap (a0)) 10) = 0 then (sleuthlaw21_SessionForms.j0 k a0 t533 ([] : List (S33)) 0 y529) else (if (Int.tmod (IntKind.u64.wrap (a0)) 10) = 1 then (if 4 < (t526.length : Int) then (sleuthlaw21_SessionForms.j0 k a0 t533 (t526.set (4 : Int).toNat (⟨(rd_T33 t526 4).f0, (rd_T33 t526 4).f1, (rd_T33 t526 4).f2, (⟨#[33, 33]⟩ : ByteArray)⟩ : S33)) 0 y529) else (none)) else (if (Int.tmod (IntKind.u64.wrap (a0)) 10) = 2 then (sleuthlaw21_SessionForms.j0 k a0 t533 t526 (wrap64 (-(wrap64 (1 + (Go.bits .and .i64 a1 1023))))) y529) else (if (Int.tmod (IntKind.u64.wrap (a0)) 10) = 3 then (sleuthlaw21_SessionForms.j0 k a0 t533 t526 (wrap64 (1 + (wrap64 (1 + (Go.bits .and .i64 a1 1023))))) y529) else (if (Int.tmod (IntKind.u64.wrap (a0)) 10) = 4 then (if 2 < (y529.length : Int) then (sleuthlaw21_SessionForms.j0 k a0 t533 t526 0 (y529.set (2 : Int).toNat (⟨wrap64 (2 + (wrap64 (1 + (Go.bits .and .i64 a1 1023)))), (rd_T26 y529 2).f1⟩ : S26))) else (none)) else (if (Int.tmod (IntKind.u64.wrap (a0)) 10) = 5 then (if 2 < (y529.length : Int) then (sleuthlaw21_SessionForms.j0 k a0 t533 t526 0 (y529.set (2 : Int).toNat (⟨(rd_T26 y529 2).f0, wrap64 (1 - (wrap64 (1 + (Go.bits .and .i64 a1 1023))))⟩ : S26))) else (none)) else (if (Int.tmod (IntKind.u64.wrap (a0)) 10) = 6 then (if 2 < (y529.length : Int) then (sleuthlaw21_SessionForms.j0 k a0 t533 t526 0 (y529.set (2 : Int).toNat (⟨(rd_T26 y529 2).f0, wrap64 (3 + (wrap64 (1 + (Go.bits .and .i64 a1 1023))))⟩ : S26))) else (none)) else (if (Int.tmod (IntKind.u64.wrap (a0)) 10) = 7 then (if y529.length < 8796093022208 then (sleuthlaw21_SessionForms.j0 k a0 t533 t526 0 (y529 ++ [(⟨Go.bits .and .i64 a1 3, 1⟩ : S26)])) else (none)) else (if (Int.tmod (IntKind.u64.wrap (a0)) 10) = 8 then (if 0 < (y529.length : Int) then (sleuthlaw21_SessionForms.j0 k a0 t533 t526 0 (y529.set (0 : Int).toNat (⟨(rd_T26 y529 0).f0, 1⟩ : S26))) else (none)) else (if 1 ≤ (y529.length : Int) then (sleuthlaw21_SessionForms.j0 k a0 t533 t526 0 (y529.drop (1 : Int).toNat)) else (none))))))))))))) = some r := H
  have A5 := Aside0.mk A50
  clear A50
  obtain ⟨y529, hy529⟩ : ∃ y_ : List (S26), y_ = (([(⟨0, 2⟩ : S26), (⟨1, 1⟩ : S26), (⟨2, 1⟩ : S26)] : List (S26))) := ⟨_, rfl⟩
  replace H : ((session_May.f k t526 0 y529).bind fun t533 => (if (Int.tmod (IntKind.u64.wrap (a0)) 10) = 0 then (sleuthlaw21_SessionForms.j0 k a0 t533 ([] : List (S33)) 0 y529) else (if (Int.tmod (IntKind.u64.wrap (a0)) 10) = 1 then (if 4 < (t526.length : Int) then (sleuthlaw21_SessionForms.j0 k a0 t533 (t526.set (4 : Int).toNat (⟨(rd_T33 t526 4).f0, (rd_T33 t526 4).f1, (rd_T33 t526 4).f2, (⟨#[33, 33]⟩ : ByteArray)⟩ : S33)) 0 y529) else (none)) else (if (Int.tmod (IntKind.u64.wrap (a0)) 10) = 2 then (sleuthlaw21_SessionForms.j0 k a0 t533 t526 (wrap64 (-(wrap64 (1 + (Go.bits .and .i64 a1 1023))))) y529) else (if (Int.tmod (IntKind.u64.wrap (a0)) 10) = 3 then (sleuthlaw21_SessionForms.j0 k a0 t533 t526 (wrap64 (1 + (wrap64 (1 + (Go.bits .and .i64 a1 1023))))) y529) else (if (Int.tmod (IntKind.u64.wrap (a0)) 10) = 4 then (if 2 < (y529.length : Int) then (sleuthlaw21_SessionForms.j0 k a0 t533 t526 0 (y529.set (2 : Int).toNat (⟨wrap64 (2 + (wrap64 (1 + (Go.bits .and .i64 a1 1023)))), (rd_T26 y529 2).f1⟩ : S26))) else (none)) else (if (Int.tmod (IntKind.u64.wrap (a0)) 10) = 5 then (if 2 < (y529.length : Int) then (sleuthlaw21_SessionForms.j0 k a0 t533 t526 0 (y529.set (2 : Int).toNat (⟨(rd_T26 y529 2).f0, wrap64 (1 - (wrap64 (1 + (Go.bits .and .i64 a1 1023))))⟩ : S26))) else (none)) else (if (Int.tmod (IntKind.u64.wrap (a0)) 10) = 6 then (if 2 < (y529.length : Int) then (sleuthlaw21_SessionForms.j0 k a0 t533 t526 0 (y529.set (2 : Int).toNat (⟨(rd_T26 y529 2).f0, wrap64 (3 + (wrap64 (1 + (Go.bits .and .i64 a1 1023))))⟩ : S26))) else (none)) else (if (Int.tmod (IntKind.u64.wrap (a0)) 10) = 7 then (if y529.length < 8796093022208 then (sleuthlaw21_SessionForms.j0 k a0 t533 t526 0 (y529 ++ [(⟨Go.bits .and .i64 a1 3, 1⟩ : S26)])) else (none)) else (if (Int.tmod (IntKind.u64.wrap (a0)) 10) = 8 then (if 0 < (y529.length : Int) then (sleuthlaw21_SessionForms.j0 k a0 t533 t526 0 (y529.set (0 : Int).toNat (⟨(rd_T26 y529 0).f0, 1⟩ : S26))) else (none)) else (if 1 ≤ (y529.length : Int) then (sleuthlaw21_SessionForms.j0 k a0 t533 t526 0 (y529.drop (1 : Int).toNat)) else (none)))))))))))) = some r := by first | (rw [hy529]; with_reducible exact H) | (have H2_ := (Option.bind_some _ _).symm.trans H; rw [hy529]; with_reducible exact H2_) | (have H2_ := (Option.bind_some _ _).symm.trans H; with_reducible exact H2_) | with_reducible exact H | (rw [hy529]; exact H) | exact H
  have Ny529 := Aside0.mk hy529
  clear hy529
  replace H := Option.bind_eq_some_iff.mp H
  obtain ⟨t533, A60, H⟩ := H
  replace H : (if (Int.tmod (IntKind.u64.wrap (a0)) 10) = 0 then (sleuthlaw21_SessionForms.j0 k a0 t533 ([] : List (S33)) 0 y529) else (if (Int.tmod (IntKind.u64.wrap (a0)) 10) = 1 then (if 4 < (t526.length : Int) then (sleuthlaw21_SessionForms.j0 k a0 t533 (t526.set (4 : Int).toNat (⟨(rd_T33 t526 4).f0, (rd_T33 t526 4).f1, (rd_T33 t526 4).f2, (⟨#[33, 33]⟩ : ByteArray)⟩ : S33)) 0 y529) else (none)) else (if (Int.tmod (IntKind.u64.wrap (a0)) 10) = 2 then (sleuthlaw21_SessionForms.j0 k a0 t533 t526 (wrap64 (-(wrap64 (1 + (Go.bits .and .i64 a1 1023))))) y529) else (if (Int.tmod (IntKind.u64.wrap (a0)) 10) = 3 then (sleuthlaw21_SessionForms.j0 k a0 t533 t526 (wrap64 (1 + (wrap64 (1 + (Go.bits .and .i64 a1 1023))))) y529) else (if (Int.tmod (IntKind.u64.wrap (a0)) 10) = 4 then (if 2 < (y529.length : Int) then (sleuthlaw21_SessionForms.j0 k a0 t533 t526 0 (y529.set (2 : Int).toNat (⟨wrap64 (2 + (wrap64 (1 + (Go.bits .and .i64 a1 1023)))), (rd_T26 y529 2).f1⟩ : S26))) else (none)) else (if (Int.tmod (IntKind.u64.wrap (a0)) 10) = 5 then (if 2 < (y529.length : Int) then (sleuthlaw21_SessionForms.j0 k a0 t533 t526 0 (y529.set (2 : Int).toNat (⟨(rd_T26 y529 2).f0, wrap64 (1 - (wrap64 (1 + (Go.bits .and .i64 a1 1023))))⟩ : S26))) else (none)) else (if (Int.tmod (IntKind.u64.wrap (a0)) 10) = 6 then (if 2 < (y529.length : Int) then (sleuthlaw21_SessionForms.j0 k a0 t533 t526 0 (y529.set (2 : Int).toNat (⟨(rd_T26 y529 2).f0, wrap64 (3 + (wrap64 (1 + (Go.bits .and .i64 a1 1023))))⟩ : S26))) else (none)) else (if (Int.tmod (IntKind.u64.wrap (a0)) 10) = 7 then (if y529.length < 8796093022208 then (sleuthlaw21_SessionForms.j0 k a0 t533 t526 0 (y529 ++ [(⟨Go.bits .and .i64 a1 3, 1⟩ : S26)])) else (none)) else (if (Int.tmod (IntKind.u64.wrap (a0)) 10) = 8 then (if 0 < (y529.length : Int) then (sleuthlaw21_SessionForms.j0 k a0 t533 t526 0 (y529.set (0 : Int).toNat (⟨(rd_T26 y529 0).f0, 1⟩ : S26))) else (none)) else (if 1 ≤ (y529.length : Int) then (sleuthlaw21_SessionForms.j0 k a0 t533 t526 0 (y529.drop (1 : Int).toNat)) else (none))))))))))) = some r := H
  have A6 := Aside0.mk A60
  clear A60
  have HC7 := Aside0.mk H
  clear H
  go_enter Tryd.func5, Tryd.ntmps5
  go_upto_block 0 with (first | ((with_reducible refine gate_callee (f := 14) rfl ?_); refine goesL_ (some 11) rfl rfl Tryd.func14 (by kernel_rfl) rfl #[] rfl hL_ ?_; (with_reducible refine (sleuthlaw21_awake.calls k  true _ A3.out hG_).mono ?_); rintro e w8 ⟨rfl, hb⟩; refine ⟨_, rfl, ?_⟩; have n0_ := Aside0.mk (below_step hB_ hb); clear HB; have HB := n0_; clear n0_; (try clear hb); (try clear hb2); (try clear hk); (try clear hi)) | ((with_reducible refine gate_callee (f := 15) rfl ?_); refine goesL_ (some 16) rfl rfl Tryd.func15 (by kernel_rfl) rfl #[] rfl hL_ ?_; (with_reducible refine (sleuthlaw21_some.calls  t526 _ A5.out).mono ?_); rintro e w9 ⟨v527, rfl, ho0, hb⟩; refine ⟨_, rfl, ?_⟩; have n0_ := Aside0.mk (Kd.N_lower (Kd.N_mono (ok' := fun k_ => True) ho0 (fun k_ hk_ => trivial)) hS_); have n1_ := Aside0.mk (below_step hB_ hb); clear HB; have HO528 := n0_; have HB := n1_; clear n0_ n1_; (try clear hb); (try clear hb2); (try clear hk); (try clear hi); (try clear ho0)) | ((with_reducible refine gate_dst (N := 20) rfl ?_); refine Kd.R_lit k26 _ 26 ?hg (N := 20) ?hd (xs := ([(⟨0, 2⟩ : S26), (⟨1, 1⟩ : S26), (⟨2, 1⟩ : S26)] : List (S26))) (inner := [.int .i64 0, .int .i64 2, .int .i64 1, .int .i64 1, .int .i64 2, .int .i64 1]) (ok := fun _ => True) (okp := fun _ => True) ?hr ?hp (fun _ hk => hk) trivial (Below.refl _ _) (Nat.le_refl _) (by simp) ?_; (case hd => rfl); (case hg => rfl); (case hr => first | (go_simp; done) | (go_simp; rfl)); (case hp => exact (Reps.c2 (show Kd.M k26 _ _ _ (⟨0, 2⟩ : S26) [.int .i64 0, .int .i64 2] from (k26_mkM _ _ _ (⟨0, 2⟩ : S26) )) (Reps.c2 (show Kd.M k26 _ _ _ (⟨1, 1⟩ : S26) [.int .i64 1, .int .i64 1] from (k26_mkM _ _ _ (⟨1, 1⟩ : S26) )) (Reps.c2 (show Kd.M k26 _ _ _ (⟨2, 1⟩ : S26) [.int .i64 2, .int .i64 1] from (k26_mkM _ _ _ (⟨2, 1⟩ : S26) )) (Reps.none _ _))))); intro v530 w10 ho11 hb hg_ hnew_; clear hg_ hnew_; (first | rw [← Ny529.out] at ho11 | (simp only [Int.reduceToNat] at ho11; rw [← Ny529.out] at ho11)); have n0_ := Aside0.mk (Kd.N_elder' (hN_ HO528.out) (Kd.R_base ho11) hb); have n1_ := Aside0.mk (Kd.R_lower ho11 hS_); have n2_ := Aside0.mk (below_step hB_ hb); clear HO528 HB; have HO528 := n0_; have HO531 := n1_; have HB := n2_; clear n0_ n1_ n2_; clear hb ho11; obtain ⟨Ao12, co12, eo12⟩ := Kd.R_slice HO531.out; subst eo12; obtain ⟨Ao13, co13, eo13⟩ := Kd.N_slice HO528.out; subst eo13) | ((with_reducible refine gate_dst (N := 6) rfl ?_); refine boxE_ 6 #[.slice none 0 0, .int .i64 0, .slice none 0 0] 29 ?_; intro gb532 hg w14 hbox hb; have n0_ := Aside0.mk (Kd.N_below (Kd.N_elderB (hN_ HO528.out) gb532 (Nat.le_of_eq hg.symm)) hb); have n1_ := Aside0.mk (Kd.R_below (hR_ HO531.out) hb); have n2_ := Aside0.mk (below_step hB_ hb); have n3_ := Aside0.mk (hbox); have n4_ := Aside0.mk ((gE_ hg : w.heap.size ≤ gb532)); have n5_ := Aside0.mk ((gE_ hg : w.heap.size ≤ gb532)); clear HO528 HO531 HB; have HO528 := n0_; have HO531 := n1_; have HB := n2_; have BK532 := n3_; have GW532 := n4_; have GE532 := n5_; clear n0_ n1_ n2_ n3_ n4_ n5_; clear hb hbox hg; obtain ⟨hcz15_0, hcz15_1, hcz15_2, hfz15_0, hfz15_1, hfz15_2⟩ := bx3_ BK532.out) | ((with_reducible refine gate_callee (f := 16) rfl ?_); refine goesL_ (some 23) rfl rfl Tryd.func16 (by kernel_rfl) rfl #[.agg #[.slice Ao13 t526.length co13, .int .i64 0, .slice Ao12 y529.length co12]] rfl hL_ ?_; (with_reducible refine (session_May.calls k _ _ t526 0 _ _ y529 t533 _ ?side1 ?side2 ?side3 ?side4 A6.out (by first | exact hG | exact GOK.below hG hC_)).mono ?_); (case side1 => refine (Kd.N_reads' (e := 33) (base := w.heap.size) (ok := fun k_ => ((True ∧ some k_ ≠ (.slice Ao12 y529.length co12 : Value).ownBlock) ∧ k_ ≠ gb532)) (n := t526.length) (c := co13) ?_).2.2; exact (by (with_reducible repeat (first | apply Kd.N_alloc | apply Kd.N_drewN | apply Kd.N_drew)); exact (Kd.N_mono (nF_ (nF_ (nF_ (Kd.N_mono HO528.out (fun k_ hk => (⟨hk, hk.2⟩ : _ ∧ k_ ≠ gb532)))))) (fun _ h_ => h_.1)))); (case side2 => exact (Kd.N_reads' HO528.out).2.1); (case side3 => refine (Kd.R_reads' (e := 26) (base := w.heap.size) (ok := fun k_ => True) (n := y529.length) (c := co12) ?_).2.2; exact (by (with_reducible repeat (first | apply Kd.R_alloc | apply Kd.R_drewN | apply Kd.R_drew)); exact (Kd.R_mono (rF_ (rF_ (rF_ (Kd.R_types HO531.out BK532.out (by decide))))) (fun _ h_ => h_.1)))); (case side4 => exact (Kd.R_reads' HO531.out).2.1); rintro e w16 ⟨rfl, hb⟩; refine ⟨_, rfl, ?_⟩; have n0_ := Aside0.mk (Kd.N_below (by (with_reducible repeat (first | apply Kd.N_alloc | apply Kd.N_drewN | apply Kd.N_drew)); exact (Kd.N_mono (nF_ (nF_ (nF_ (Kd.N_mono HO528.out (fun k_ hk => (⟨hk, hk.2⟩ : _ ∧ k_ ≠ gb532)))))) (fun _ h_ => h_.1))) hb); have n1_ := Aside0.mk (Kd.R_below (by (with_reducible repeat (first | apply Kd.R_alloc | apply Kd.R_drewN | apply Kd.R_drew)); exact (Kd.R_mono (rF_ (rF_ (rF_ (Kd.R_types HO531.out BK532.out (by decide))))) (fun _ h_ => h_.1))) hb); have n2_ := Aside0.mk (blk_below (g := gb532) (o := .cells #[.slice Ao13 t526.length co13, .int .i64 0, .slice Ao12 y529.length co12] 29 (0, 0)) (bP_ (bP_ (bP_ (hK_ BK532.out)))) hb); have n3_ := Aside0.mk (below_step hC_ hb); clear HO528 HO531 BK532 HB; have HO528 := n0_; have HO531 := n1_; have BK532 := n2_; have HB := n3_; clear n0_ n1_ n2_ n3_; (try clear hb); (try clear hb2); (try clear hk); (try clear hi)))
  (try simp only [Act.put, List.setIfInBounds_toArray, List.set_cons_zero, List.set_cons_succ])
  go_cut [] (fun wc => ∃ (kq : Nat) (x533000_6 : List (S33)) (x533001_6 : Int) (x533002_6 : List (S26)) (u533000 : Value) (u533002 : Value), Aside0 (sleuthlaw21_SessionForms.j0 kq a0 t533 x533000_6 x533001_6 x533002_6 = some r) ∧ Aside0 (kq ≤ k) ∧ Aside0 (Kd.N k33 33 wc w.heap.size (fun k_ => some k_ ≠ (u533002 : Value).ownBlock ∧ k_ ≠ gb532) u533000 x533000_6) ∧ Aside0 (Kd.Q k26 26 wc w.heap.size (fun _ => True) u533002 x533002_6) ∧ Aside0 (wc.heap[gb532]? = some (.cells #[u533000, .int .i64 x533001_6, u533002] 29 (0, 0))) ∧ Aside0 (Below w.heap.size w wc))
  case first =>
    have H := HC7.out
    clear HC7
    by_cases c17 : (Int.tmod (IntKind.u64.wrap (a0)) 10) = 0
    case pos =>
      rw [if_pos c17] at H
      have c17b0 : ((Int.tmod (IntKind.u64.wrap (a0)) 10) == 0) = true := beq_iff_eq.mpr c17
      have c17b1 : ((Int.tmod (IntKind.u64.wrap (a0)) 10) != 0) = false := bne_eq_false_iff_eq.mpr c17
      clear c17
      (first | rw [c17b0] | (simp only [i64_w, i32_w]; rw [c17b0]) | skip)
      have H' := Aside0.mk H
      clear H
      obtain ⟨hcz18_0, hcz18_1, hcz18_2, hfz18_0, hfz18_1, hfz18_2⟩ := bx3_ BK532.out
      go_wp2
      go_meet
      case rel => exact ⟨_, (([] : List (S33))), (0), (y529), (.slice none 0 0), (.slice Ao12 y529.length co12), H', ⟨by first | omega | exact Nat.le_refl _⟩, ⟨by first | exact Kd.S_nil _ _ _ _ _ | exact Kd.N_nil _ _ _ _ _ | exact Kd.V_nil _ _ _ _ _ | exact Kd.Q_nil _ _ _ _ _ | exact Kd.R_nil _ _ _ _ _⟩, ⟨Kd.Q_of_R (by (with_reducible repeat (first | apply Kd.R_alloc | apply Kd.R_drewN | apply Kd.R_drew)); exact Kd.R_mono (rF_ (Kd.R_types HO531.out BK532.out (by decide))) (fun _ hk => trivial))⟩, ⟨(bP_ (hK_ BK532.out))⟩, ⟨hC_⟩⟩
    rw [if_neg c17] at H
    have c17b0 : ((Int.tmod (IntKind.u64.wrap (a0)) 10) == 0) = false := beq_eq_false_iff_ne.mpr c17
    have c17b1 : ((Int.tmod (IntKind.u64.wrap (a0)) 10) != 0) = true := bne_iff_ne.mpr c17
    (first | rw [c17b0] | (simp only [i64_w, i32_w]; rw [c17b0]) | skip)
    by_cases c19 : (Int.tmod (IntKind.u64.wrap (a0)) 10) = 1
    case pos =>
      rw [if_pos c19] at H
      have c19b0 : ((Int.tmod (IntKind.u64.wrap (a0)) 10) == 1) = true := beq_iff_eq.mpr c19
      have c19b1 : ((Int.tmod (IntKind.u64.wrap (a0)) 10) != 1) = false := bne_eq_false_iff_eq.mpr c19
      clear c19
      replace H := ifI_ H; obtain ⟨c20, H⟩ := H
      have c20b0 : decide (4 < (t526.length : Int)) = true := decide_eq_true c20
      have c20b1 : decide (4 < t526.length) = true := decide_eq_true (by omega)
      clear c20
      obtain ⟨y534, hy534⟩ : ∃ y_ : List (S33), y_ = (t526.set (4 : Int).toNat (⟨(rd_T33 t526 4).f0, (rd_T33 t526 4).f1, (rd_T33 t526 4).f2, (⟨#[33, 33]⟩ : ByteArray)⟩ : S33)) := ⟨_, rfl⟩
      replace H : (sleuthlaw21_SessionForms.j0 k a0 t533 y534 0 y529) = some r := by first | (rw [hy534]; with_reducible exact H) | (have H2_ := (Option.bind_some _ _).symm.trans H; rw [hy534]; with_reducible exact H2_) | (have H2_ := (Option.bind_some _ _).symm.trans H; with_reducible exact H2_) | with_reducible exact H | (rw [hy534]; exact H) | exact H
      have Ny534 := Aside0.mk hy534
      clear hy534
      have H' := Aside0.mk H
      clear H
      obtain ⟨hcz22_0, hcz22_1, hcz22_2, hfz22_0, hfz22_1, hfz22_2⟩ := bx3_ BK532.out
      have p21 : 0 ≤ (4 : Int) := (by omega)
      have q21 : (4 : Int) < ((t526.length : Int) : Int) := of_decide_eq_true hA_
      have qi21 : (4 < t526.length) = True := eq_true (by omega)
      obtain ⟨go21, co21, eo21, gb21, gl21, cl21, HG21⟩ := Kd.N_form HO528.out (by omega)
      (first | cases eo21 | (injection eo21 with ea_ en_ ec_; (first | subst ea_ | (injection ea_ with ea_; subst ea_)); subst ec_; clear en_))
      have GB21 := Aside0.mk gb21
      have GG21 := Aside0.mk HG21
      clear gb21 gl21 HG21
      obtain ⟨ce21, hcl21, hM21, hcc21, hfr21⟩ := Kd.N_elem HO528.out z33 (4 : Int) p21 q21
      obtain ⟨ua21_2, uc21_2, rfl, ul21_2, ge21_2⟩ := k33_openF hM21
      have hx21_0 : w16.cell? ⟨go21, (4 : Int).toNat * 4, none⟩ = some (.int .i64 ((rd_T33 t526 4).f0)) := hcc21 0 _ rfl
      have hx21_1 : w16.cell? ⟨go21, (4 : Int).toNat * 4 + 1, none⟩ = some (.int .i64 ((rd_T33 t526 4).f1)) := hcc21 1 _ rfl
      have hx21_2 : w16.cell? ⟨go21, (4 : Int).toNat * 4 + 2, none⟩ = some (.slice ua21_2 ((rd_T33 t526 4).f2).length uc21_2) := hcc21 2 _ rfl
      have hx21_3 : w16.cell? ⟨go21, (4 : Int).toNat * 4 + 3, none⟩ = some (.string ((rd_T33 t526 4).f3)) := hcc21 3 _ rfl
      have hf21_0 : w16.frozen? ⟨go21, (4 : Int).toNat * 4, none⟩ = false := hfr21 0
      have hf21_1 : w16.frozen? ⟨go21, (4 : Int).toNat * 4 + 1, none⟩ = false := hfr21 1
      have hf21_2 : w16.frozen? ⟨go21, (4 : Int).toNat * 4 + 2, none⟩ = false := hfr21 2
      have hf21_3 : w16.frozen? ⟨go21, (4 : Int).toNat * 4 + 3, none⟩ = false := hfr21 3
      clear hcl21 hcc21 hfr21 hM21
      (try rw [show ((4 : Int)).toNat = 4 from rfl] at hx21_0)
      (try simp only [Nat.reduceMul, Nat.zero_mul, Nat.zero_add, Nat.reduceAdd] at hx21_0)
      (try rw [show ((4 : Int)).toNat = 4 from rfl] at hf21_0)
      (try simp only [Nat.reduceMul, Nat.zero_mul, Nat.zero_add, Nat.reduceAdd] at hf21_0)
      (try rw [show ((4 : Int)).toNat = 4 from rfl] at hx21_1)
      (try simp only [Nat.reduceMul, Nat.zero_mul, Nat.zero_add, Nat.reduceAdd] at hx21_1)
      (try rw [show ((4 : Int)).toNat = 4 from rfl] at hf21_1)
      (try simp only [Nat.reduceMul, Nat.zero_mul, Nat.zero_add, Nat.reduceAdd] at hf21_1)
      (try rw [show ((4 : Int)).toNat = 4 from rfl] at hx21_2)
      (try simp only [Nat.reduceMul, Nat.zero_mul, Nat.zero_add, Nat.reduceAdd] at hx21_2)
      (try rw [show ((4 : Int)).toNat = 4 from rfl] at hf21_2)
      (try simp only [Nat.reduceMul, Nat.zero_mul, Nat.zero_add, Nat.reduceAdd] at hf21_2)
      (try rw [show ((4 : Int)).toNat = 4 from rfl] at hx21_3)
      (try simp only [Nat.reduceMul, Nat.zero_mul, Nat.zero_add, Nat.reduceAdd] at hx21_3)
      (try rw [show ((4 : Int)).toNat = 4 from rfl] at hf21_3)
      (try simp only [Nat.reduceMul, Nat.zero_mul, Nat.zero_add, Nat.reduceAdd] at hf21_3)
      replace p21 := eq_true p21
      replace q21 := eq_true q21
      have n_ := Aside0.mk (Kd.N_mono (ok' := (fun k_ => some k_ ≠ (.slice Ao12 y529.length co12 : Value).ownBlock ∧ k_ ≠ gb532)) HO528.out (fun k_ hk => ⟨hk.1.2, hk.2⟩))
      clear HO528
      have HO528 := n_
      clear n_
      have HX23 := Aside0.mk (show Kd.N k33 33 w16 w.heap.size (fun k_ => some k_ ≠ (.slice Ao12 y529.length co12 : Value).ownBlock ∧ k_ ≠ gb532) (.slice (some ⟨go21, 0, none⟩) t526.length co13) t526 from (hN_ HO528.out))
      obtain ⟨ce23, hcl23, hM23, hcc23, hfr23⟩ := Kd.N_elem HX23.out z33 (4 : Int) (by omega) (by have h_ : (4 : Int) < ((t526.length : Int) : Int) := of_decide_eq_true hA_; first | exact h_ | (have e_ := (Kd.N_reads' HO528.out).1; omega) | simpa using h_)
      obtain ⟨ua23_2, uc23_2, rfl, ul23_2, ge23_2⟩ := k33_openF hM23
      have HP23 := Kd.N_seg HX23.out (4 : Int) (by omega) (by have h_ : (4 : Int) < ((t526.length : Int) : Int) := of_decide_eq_true hA_; first | exact h_ | (have e_ := (Kd.N_reads' HO528.out).1; omega) | simpa using h_) (seg := [.string (⟨#[33, 33]⟩ : ByteArray)]) (j := 3) hcl23 hcc23 (show 4 ≤ 4 from by decide) (x' := (⟨(rd_T33 t526 4).f0, (rd_T33 t526 4).f1, (rd_T33 t526 4).f2, (⟨#[33, 33]⟩ : ByteArray)⟩ : S33)) (k33_mkF _ _ (⟨(rd_T33 t526 4).f0, (rd_T33 t526 4).f1, (rd_T33 t526 4).f2, (⟨#[33, 33]⟩ : ByteArray)⟩ : S33) ul23_2 ge23_2) (fun _ hk => hk)
      have hx23_3 := hcc23 3 _ rfl
      (try simp only [show (k33).sz = 4 from rfl, Nat.mul_one, Nat.add_zero] at hx23_3)
      (try rw [show ((4 : Int)).toNat = 4 from rfl] at hx23_3)
      (try simp only [Nat.reduceMul, Nat.zero_mul, Nat.zero_add, Nat.reduceAdd] at hx23_3)
      have hf23_3 := hfr23 3
      (try simp only [show (k33).sz = 4 from rfl, Nat.mul_one, Nat.add_zero] at hf23_3)
      (try rw [show ((4 : Int)).toNat = 4 from rfl] at hf23_3)
      (try simp only [Nat.reduceMul, Nat.zero_mul, Nat.zero_add, Nat.reduceAdd] at hf23_3)
      clear hcl23 hcc23 hfr23 hM23
      go_wp2_with (first | ((with_reducible refine gate_store (t := 9) (p := 39) rfl ?_); refine store_event (t := 9) (p := 39) (v := ?vo_w24) (w1 := (w16.setCell ⟨go21, 19, none⟩ (.string (⟨#[33, 33]⟩ : ByteArray)))) ?hg ?ho ?hn ?hr ?_; (case ho => rfl); (case hg => rfl); (case hn => rfl); (case hr => first | (go_simp; done) | (go_simp; rfl)); intro w24 hw; have hg : w16.grownBy w24 (some go21) := (by rw [hw]; exact HP23.2); have hp_ : Kd.N k33 33 w24 w.heap.size (fun k_ => some k_ ≠ (.slice Ao12 y529.length co12 : Value).ownBlock ∧ k_ ≠ gb532) (.slice (some ⟨go21, 0, none⟩) t526.length co13) y534 := (by rw [hw, Ny534.out]; exact HP23.1); clear HP23; have n0_ := Aside0.mk (hp_); have n1_ := Aside0.mk (Kd.R_over' (v := (.slice (some ⟨go21, 0, none⟩) t526.length co13)) (hR_ HO531.out) (Kd.N_typed HO528.out) (by decide) hg); have n2_ := Aside0.mk (blk_grown (hK_ BK532.out) hg (Kd.N_ne HO528.out BK532.out (by decide))); have n3_ := Aside0.mk ((by rw [hw]; exact below_set (HB.out) GB21.out : Below w.heap.size w w24)); clear HO528 HO531 BK532 HB; have HO528 := n0_; have HO531 := n1_; have BK532 := n2_; have HB := n3_; clear n0_ n1_ n2_ n3_; clear hg hw hp_))
      go_meet
      case rel => exact ⟨_, (y534), (0), (y529), (.slice (some ⟨go21, 0, none⟩) t526.length co13), (.slice Ao12 y529.length co12), H', ⟨by first | omega | exact Nat.le_refl _⟩, ⟨hN_ HO528.out⟩, ⟨Kd.Q_of_R (hR_ HO531.out)⟩, ⟨(hK_ BK532.out)⟩, ⟨hC_⟩⟩
    rw [if_neg c19] at H
    have c19b0 : ((Int.tmod (IntKind.u64.wrap (a0)) 10) == 1) = false := beq_eq_false_iff_ne.mpr c19
    have c19b1 : ((Int.tmod (IntKind.u64.wrap (a0)) 10) != 1) = true := bne_iff_ne.mpr c19
    by_cases c25 : (Int.tmod (IntKind.u64.wrap (a0)) 10) = 2
    case pos =>
      rw [if_pos c25] at H
      have c25b0 : ((Int.tmod (IntKind.u64.wrap (a0)) 10) == 2) = true := beq_iff_eq.mpr c25
      have c25b1 : ((Int.tmod (IntKind.u64.wrap (a0)) 10) != 2) = false := bne_eq_false_iff_eq.mpr c25
      clear c25
      have H' := Aside0.mk H
      clear H
      obtain ⟨hcz26_0, hcz26_1, hcz26_2, hfz26_0, hfz26_1, hfz26_2⟩ := bx3_ BK532.out
      go_wp2
      go_meet
      case rel => exact ⟨_, (t526), (wrap64 (-(wrap64 (1 + (Go.bits .and .i64 a1 1023))))), (y529), (.slice Ao13 t526.length co13), (.slice Ao12 y529.length co12), H', ⟨by first | omega | exact Nat.le_refl _⟩, ⟨by (with_reducible repeat (first | apply Kd.N_alloc | apply Kd.N_drewN | apply Kd.N_drew)); exact Kd.N_mono (nF_ (Kd.N_mono HO528.out (fun k_ hk => (⟨hk, hk.2⟩ : _ ∧ k_ ≠ gb532)))) (fun _ hk => ⟨hk.1.1.2, hk.1.2⟩)⟩, ⟨Kd.Q_of_R (by (with_reducible repeat (first | apply Kd.R_alloc | apply Kd.R_drewN | apply Kd.R_drew)); exact Kd.R_mono (rF_ (Kd.R_types HO531.out BK532.out (by decide))) (fun _ hk => trivial))⟩, ⟨(bP_ (hK_ BK532.out))⟩, ⟨hC_⟩⟩
    rw [if_neg c25] at H
    have c25b0 : ((Int.tmod (IntKind.u64.wrap (a0)) 10) == 2) = false := beq_eq_false_iff_ne.mpr c25
    have c25b1 : ((Int.tmod (IntKind.u64.wrap (a0)) 10) != 2) = true := bne_iff_ne.mpr c25
    by_cases c27 : (Int.tmod (IntKind.u64.wrap (a0)) 10) = 3
    case pos =>
      rw [if_pos c27] at H
      have c27b0 : ((Int.tmod (IntKind.u64.wrap (a0)) 10) == 3) = true := beq_iff_eq.mpr c27
      have c27b1 : ((Int.tmod (IntKind.u64.wrap (a0)) 10) != 3) = false := bne_eq_false_iff_eq.mpr c27
      clear c27
      have H' := Aside0.mk H
      clear H
      obtain ⟨hcz28_0, hcz28_1, hcz28_2, hfz28_0, hfz28_1, hfz28_2⟩ := bx3_ BK532.out
      go_wp2
      go_meet
      case rel => exact ⟨_, (t526), (wrap64 (1 + (wrap64 (1 + (Go.bits .and .i64 a1 1023))))), (y529), (.slice Ao13 t526.length co13), (.slice Ao12 y529.length co12), H', ⟨by first | omega | exact Nat.le_refl _⟩, ⟨by (with_reducible repeat (first | apply Kd.N_alloc | apply Kd.N_drewN | apply Kd.N_drew)); exact Kd.N_mono (nF_ (Kd.N_mono HO528.out (fun k_ hk => (⟨hk, hk.2⟩ : _ ∧ k_ ≠ gb532)))) (fun _ hk => ⟨hk.1.1.2, hk.1.2⟩)⟩, ⟨Kd.Q_of_R (by (with_reducible repeat (first | apply Kd.R_alloc | apply Kd.R_drewN | apply Kd.R_drew)); exact Kd.R_mono (rF_ (Kd.R_types HO531.out BK532.out (by decide))) (fun _ hk => trivial))⟩, ⟨(bP_ (hK_ BK532.out))⟩, ⟨hC_⟩⟩
    rw [if_neg c27] at H
    have c27b0 : ((Int.tmod (IntKind.u64.wrap (a0)) 10) == 3) = false := beq_eq_false_iff_ne.mpr c27
    have c27b1 : ((Int.tmod (IntKind.u64.wrap (a0)) 10) != 3) = true := bne_iff_ne.mpr c27
    by_cases c29 : (Int.tmod (IntKind.u64.wrap (a0)) 10) = 4
    case pos =>
      rw [if_pos c29] at H
      have c29b0 : ((Int.tmod (IntKind.u64.wrap (a0)) 10) == 4) = true := beq_iff_eq.mpr c29
      have c29b1 : ((Int.tmod (IntKind.u64.wrap (a0)) 10) != 4) = false := bne_eq_false_iff_eq.mpr c29
      clear c29
      replace H := ifI_ H; obtain ⟨c30, H⟩ := H
      have c30b0 : decide (2 < (y529.length : Int)) = true := decide_eq_true c30
      have c30b1 : decide (2 < y529.length) = true := decide_eq_true (by omega)
      clear c30
      obtain ⟨y535, hy535⟩ : ∃ y_ : List (S26), y_ = (y529.set (2 : Int).toNat (⟨wrap64 (2 + (wrap64 (1 + (Go.bits .and .i64 a1 1023)))), (rd_T26 y529 2).f1⟩ : S26)) := ⟨_, rfl⟩
      replace H : (sleuthlaw21_SessionForms.j0 k a0 t533 t526 0 y535) = some r := by first | (rw [hy535]; with_reducible exact H) | (have H2_ := (Option.bind_some _ _).symm.trans H; rw [hy535]; with_reducible exact H2_) | (have H2_ := (Option.bind_some _ _).symm.trans H; with_reducible exact H2_) | with_reducible exact H | (rw [hy535]; exact H) | exact H
      have Ny535 := Aside0.mk hy535
      clear hy535
      have H' := Aside0.mk H
      clear H
      obtain ⟨hcz32_0, hcz32_1, hcz32_2, hfz32_0, hfz32_1, hfz32_2⟩ := bx3_ BK532.out
      have p31 : 0 ≤ (2 : Int) := (by omega)
      have q31 : (2 : Int) < ((y529.length : Int) : Int) := of_decide_eq_true hA_
      have qi31 : (2 < y529.length) = True := eq_true (by omega)
      obtain ⟨go31, co31, eo31, gb31, gl31, cl31, HG31⟩ := Kd.R_form HO531.out (by omega)
      (first | cases eo31 | (injection eo31 with ea_ en_ ec_; (first | subst ea_ | (injection ea_ with ea_; subst ea_)); subst ec_; clear en_))
      have GB31 := Aside0.mk gb31
      have GG31 := Aside0.mk HG31
      clear gb31 gl31 HG31
      obtain ⟨ce31, hcl31, hM31, hcc31, hfr31⟩ := Kd.R_elem HO531.out z26 (2 : Int) p31 q31
      obtain rfl := k26_openM hM31
      have hx31_0 : w16.cell? ⟨go31, (2 : Int).toNat * 2, none⟩ = some (.int .i64 ((rd_T26 y529 2).f0)) := hcc31 0 _ rfl
      have hx31_1 : w16.cell? ⟨go31, (2 : Int).toNat * 2 + 1, none⟩ = some (.int .i64 ((rd_T26 y529 2).f1)) := hcc31 1 _ rfl
      have hf31_0 : w16.frozen? ⟨go31, (2 : Int).toNat * 2, none⟩ = false := hfr31 0
      have hf31_1 : w16.frozen? ⟨go31, (2 : Int).toNat * 2 + 1, none⟩ = false := hfr31 1
      clear hcl31 hcc31 hfr31 hM31
      (try rw [show ((2 : Int)).toNat = 2 from rfl] at hx31_0)
      (try simp only [Nat.reduceMul, Nat.zero_mul, Nat.zero_add, Nat.reduceAdd] at hx31_0)
      (try rw [show ((2 : Int)).toNat = 2 from rfl] at hf31_0)
      (try simp only [Nat.reduceMul, Nat.zero_mul, Nat.zero_add, Nat.reduceAdd] at hf31_0)
      (try rw [show ((2 : Int)).toNat = 2 from rfl] at hx31_1)
      (try simp only [Nat.reduceMul, Nat.zero_mul, Nat.zero_add, Nat.reduceAdd] at hx31_1)
      (try rw [show ((2 : Int)).toNat = 2 from rfl] at hf31_1)
      (try simp only [Nat.reduceMul, Nat.zero_mul, Nat.zero_add, Nat.reduceAdd] at hf31_1)
      replace p31 := eq_true p31
      replace q31 := eq_true q31
      have HX33 := Aside0.mk (show Kd.R k26 26 w16 w.heap.size (fun _ => True) (.slice (some ⟨go31, 0, none⟩) y529.length co12) y529 from (hR_ HO531.out))
      obtain ⟨ce33, hcl33, hM33, hcc33, hfr33⟩ := Kd.R_elem HX33.out z26 (2 : Int) (by omega) (by have h_ : (2 : Int) < ((y529.length : Int) : Int) := of_decide_eq_true hA_; first | exact h_ | (have e_ := (Kd.R_reads' HO531.out).1; omega) | simpa using h_)
      obtain rfl := k26_openM hM33
      have HP33 := Kd.R_seg HX33.out (2 : Int) (by omega) (by have h_ : (2 : Int) < ((y529.length : Int) : Int) := of_decide_eq_true hA_; first | exact h_ | (have e_ := (Kd.R_reads' HO531.out).1; omega) | simpa using h_) (seg := [.int .i64 (wrap64 (2 + (wrap64 (1 + (Go.bits .and .i64 a1 1023)))))]) (j := 0) hcl33 hcc33 (show 1 ≤ 2 from by decide) (x' := (⟨wrap64 (2 + (wrap64 (1 + (Go.bits .and .i64 a1 1023)))), (rd_T26 y529 2).f1⟩ : S26)) (k26_mkM _ _ _ (⟨wrap64 (2 + (wrap64 (1 + (Go.bits .and .i64 a1 1023)))), (rd_T26 y529 2).f1⟩ : S26) ) (fun _ hk => hk)
      have hx33_0 := hcc33 0 _ rfl
      (try simp only [show (k26).sz = 2 from rfl, Nat.mul_one, Nat.add_zero] at hx33_0)
      (try rw [show ((2 : Int)).toNat = 2 from rfl] at hx33_0)
      (try simp only [Nat.reduceMul, Nat.zero_mul, Nat.zero_add, Nat.reduceAdd] at hx33_0)
      have hf33_0 := hfr33 0
      (try simp only [show (k26).sz = 2 from rfl, Nat.mul_one, Nat.add_zero] at hf33_0)
      (try rw [show ((2 : Int)).toNat = 2 from rfl] at hf33_0)
      (try simp only [Nat.reduceMul, Nat.zero_mul, Nat.zero_add, Nat.reduceAdd] at hf33_0)
      clear hcl33 hcc33 hfr33 hM33
      go_wp2_with (first | ((with_reducible refine gate_store (t := 3) (p := 57) rfl ?_); refine store_event (t := 3) (p := 57) (v := ?vo_w34) (w1 := (w16.setCell ⟨go31, 4, none⟩ (.int .i64 (wrap64 (2 + (wrap64 (1 + (Go.bits .and .i64 a1 1023)))))))) ?hg ?ho ?hn ?hr ?_; (case ho => rfl); (case hg => rfl); (case hn => rfl); (case hr => first | (go_simp; done) | (go_simp; rfl)); intro w34 hw; have hg : w16.grownBy w34 (some go31) := (by rw [hw]; exact HP33.2); have hp_ : Kd.R k26 26 w34 w.heap.size (fun _ => True) (.slice (some ⟨go31, 0, none⟩) y529.length co12) y535 := (by rw [hw, Ny535.out]; exact HP33.1); clear HP33; have n0_ := Aside0.mk (Kd.N_afterv (v := (.slice (some ⟨go31, 0, none⟩) y529.length co12)) (v1 := (.slice (some ⟨go31, 0, none⟩) y529.length co12)) (ok := (fun k_ => k_ ≠ gb532)) (by (with_reducible repeat (first | apply Kd.N_alloc | apply Kd.N_drewN | apply Kd.N_drew)); exact Kd.N_mono HO528.out (fun _ hk => ⟨hk.2, hk.1.2⟩)) hg (.inl rfl)); have n1_ := Aside0.mk (hp_); have n2_ := Aside0.mk (blk_grown (hK_ BK532.out) hg (Kd.R_ne HO531.out BK532.out (by decide))); have n3_ := Aside0.mk ((by rw [hw]; exact below_set (HB.out) GB31.out : Below w.heap.size w w34)); clear HO528 HO531 BK532 HB; have HO528 := n0_; have HO531 := n1_; have BK532 := n2_; have HB := n3_; clear n0_ n1_ n2_ n3_; clear hg hw hp_))
      go_meet
      case rel => exact ⟨_, (t526), (0), (y535), (.slice Ao13 t526.length co13), (.slice (some ⟨go31, 0, none⟩) y529.length co12), H', ⟨by first | omega | exact Nat.le_refl _⟩, ⟨by (with_reducible repeat (first | apply Kd.N_alloc | apply Kd.N_drewN | apply Kd.N_drew)); exact Kd.N_mono HO528.out (fun _ hk => ⟨hk.2, hk.1⟩)⟩, ⟨Kd.Q_of_R (hR_ HO531.out)⟩, ⟨(hK_ BK532.out)⟩, ⟨hC_⟩⟩
    rw [if_neg c29] at H
    have c29b0 : ((Int.tmod (IntKind.u64.wrap (a0)) 10) == 4) = false := beq_eq_false_iff_ne.mpr c29
    have c29b1 : ((Int.tmod (IntKind.u64.wrap (a0)) 10) != 4) = true := bne_iff_ne.mpr c29
    by_cases c35 : (Int.tmod (IntKind.u64.wrap (a0)) 10) = 5
    case pos =>
      rw [if_pos c35] at H
      have c35b0 : ((Int.tmod (IntKind.u64.wrap (a0)) 10) == 5) = true := beq_iff_eq.mpr c35
      have c35b1 : ((Int.tmod (IntKind.u64.wrap (a0)) 10) != 5) = false := bne_eq_false_iff_eq.mpr c35
      clear c35
      replace H := ifI_ H; obtain ⟨c36, H⟩ := H
      have c36b0 : decide (2 < (y529.length : Int)) = true := decide_eq_true c36
      have c36b1 : decide (2 < y529.length) = true := decide_eq_true (by omega)
      clear c36
      obtain ⟨y536, hy536⟩ : ∃ y_ : List (S26), y_ = (y529.set (2 : Int).toNat (⟨(rd_T26 y529 2).f0, wrap64 (1 - (wrap64 (1 + (Go.bits .and .i64 a1 1023))))⟩ : S26)) := ⟨_, rfl⟩
      replace H : (sleuthlaw21_SessionForms.j0 k a0 t533 t526 0 y536) = some r := by first | (rw [hy536]; with_reducible exact H) | (have H2_ := (Option.bind_some _ _).symm.trans H; rw [hy536]; with_reducible exact H2_) | (have H2_ := (Option.bind_some _ _).symm.trans H; with_reducible exact H2_) | with_reducible exact H | (rw [hy536]; exact H) | exact H
      have Ny536 := Aside0.mk hy536
      clear hy536
      have H' := Aside0.mk H
      clear H
      obtain ⟨hcz38_0, hcz38_1, hcz38_2, hfz38_0, hfz38_1, hfz38_2⟩ := bx3_ BK532.out
      have p37 : 0 ≤ (2 : Int) := (by omega)
      have q37 : (2 : Int) < ((y529.length : Int) : Int) := of_decide_eq_true hA_
      have qi37 : (2 < y529.length) = True := eq_true (by omega)
      obtain ⟨go37, co37, eo37, gb37, gl37, cl37, HG37⟩ := Kd.R_form HO531.out (by omega)
      (first | cases eo37 | (injection eo37 with ea_ en_ ec_; (first | subst ea_ | (injection ea_ with ea_; subst ea_)); subst ec_; clear en_))
      have GB37 := Aside0.mk gb37
      have GG37 := Aside0.mk HG37
      clear gb37 gl37 HG37
      obtain ⟨ce37, hcl37, hM37, hcc37, hfr37⟩ := Kd.R_elem HO531.out z26 (2 : Int) p37 q37
      obtain rfl := k26_openM hM37
      have hx37_0 : w16.cell? ⟨go37, (2 : Int).toNat * 2, none⟩ = some (.int .i64 ((rd_T26 y529 2).f0)) := hcc37 0 _ rfl
      have hx37_1 : w16.cell? ⟨go37, (2 : Int).toNat * 2 + 1, none⟩ = some (.int .i64 ((rd_T26 y529 2).f1)) := hcc37 1 _ rfl
      have hf37_0 : w16.frozen? ⟨go37, (2 : Int).toNat * 2, none⟩ = false := hfr37 0
      have hf37_1 : w16.frozen? ⟨go37, (2 : Int).toNat * 2 + 1, none⟩ = false := hfr37 1
      clear hcl37 hcc37 hfr37 hM37
      (try rw [show ((2 : Int)).toNat = 2 from rfl] at hx37_0)
      (try simp only [Nat.reduceMul, Nat.zero_mul, Nat.zero_add, Nat.reduceAdd] at hx37_0)
      (try rw [show ((2 : Int)).toNat = 2 from rfl] at hf37_0)
      (try simp only [Nat.reduceMul, Nat.zero_mul, Nat.zero_add, Nat.reduceAdd] at hf37_0)
      (try rw [show ((2 : Int)).toNat = 2 from rfl] at hx37_1)
      (try simp only [Nat.reduceMul, Nat.zero_mul, Nat.zero_add, Nat.reduceAdd] at hx37_1)
      (try rw [show ((2 : Int)).toNat = 2 from rfl] at hf37_1)
      (try simp only [Nat.reduceMul, Nat.zero_mul, Nat.zero_add, Nat.reduceAdd] at hf37_1)
      replace p37 := eq_true p37
      replace q37 := eq_true q37
      have HX39 := Aside0.mk (show Kd.R k26 26 w16 w.heap.size (fun _ => True) (.slice (some ⟨go37, 0, none⟩) y529.length co12) y529 from (hR_ HO531.out))
      obtain ⟨ce39, hcl39, hM39, hcc39, hfr39⟩ := Kd.R_elem HX39.out z26 (2 : Int) (by omega) (by have h_ : (2 : Int) < ((y529.length : Int) : Int) := of_decide_eq_true hA_; first | exact h_ | (have e_ := (Kd.R_reads' HO531.out).1; omega) | simpa using h_)
      obtain rfl := k26_openM hM39
      have HP39 := Kd.R_seg HX39.out (2 : Int) (by omega) (by have h_ : (2 : Int) < ((y529.length : Int) : Int) := of_decide_eq_true hA_; first | exact h_ | (have e_ := (Kd.R_reads' HO531.out).1; omega) | simpa using h_) (seg := [.int .i64 (wrap64 (1 - (wrap64 (1 + (Go.bits .and .i64 a1 1023)))))]) (j := 1) hcl39 hcc39 (show 2 ≤ 2 from by decide) (x' := (⟨(rd_T26 y529 2).f0, wrap64 (1 - (wrap64 (1 + (Go.bits .and .i64 a1 1023))))⟩ : S26)) (k26_mkM _ _ _ (⟨(rd_T26 y529 2).f0, wrap64 (1 - (wrap64 (1 + (Go.bits .and .i64 a1 1023))))⟩ : S26) ) (fun _ hk => hk)
      have hx39_1 := hcc39 1 _ rfl
      (try simp only [show (k26).sz = 2 from rfl, Nat.mul_one, Nat.add_zero] at hx39_1)
      (try rw [show ((2 : Int)).toNat = 2 from rfl] at hx39_1)
      (try simp only [Nat.reduceMul, Nat.zero_mul, Nat.zero_add, Nat.reduceAdd] at hx39_1)
      have hf39_1 := hfr39 1
      (try simp only [show (k26).sz = 2 from rfl, Nat.mul_one, Nat.add_zero] at hf39_1)
      (try rw [show ((2 : Int)).toNat = 2 from rfl] at hf39_1)
      (try simp only [Nat.reduceMul, Nat.zero_mul, Nat.zero_add, Nat.reduceAdd] at hf39_1)
      clear hcl39 hcc39 hfr39 hM39
      go_wp2_with (first | ((with_reducible refine gate_store (t := 3) (p := 65) rfl ?_); refine store_event (t := 3) (p := 65) (v := ?vo_w40) (w1 := (w16.setCell ⟨go37, 5, none⟩ (.int .i64 (wrap64 (1 - (wrap64 (1 + (Go.bits .and .i64 a1 1023)))))))) ?hg ?ho ?hn ?hr ?_; (case ho => rfl); (case hg => rfl); (case hn => rfl); (case hr => first | (go_simp; done) | (go_simp; rfl)); intro w40 hw; have hg : w16.grownBy w40 (some go37) := (by rw [hw]; exact HP39.2); have hp_ : Kd.R k26 26 w40 w.heap.size (fun _ => True) (.slice (some ⟨go37, 0, none⟩) y529.length co12) y536 := (by rw [hw, Ny536.out]; exact HP39.1); clear HP39; have n0_ := Aside0.mk (Kd.N_afterv (v := (.slice (some ⟨go37, 0, none⟩) y529.length co12)) (v1 := (.slice (some ⟨go37, 0, none⟩) y529.length co12)) (ok := (fun k_ => k_ ≠ gb532)) (by (with_reducible repeat (first | apply Kd.N_alloc | apply Kd.N_drewN | apply Kd.N_drew)); exact Kd.N_mono HO528.out (fun _ hk => ⟨hk.2, hk.1.2⟩)) hg (.inl rfl)); have n1_ := Aside0.mk (hp_); have n2_ := Aside0.mk (blk_grown (hK_ BK532.out) hg (Kd.R_ne HO531.out BK532.out (by decide))); have n3_ := Aside0.mk ((by rw [hw]; exact below_set (HB.out) GB37.out : Below w.heap.size w w40)); clear HO528 HO531 BK532 HB; have HO528 := n0_; have HO531 := n1_; have BK532 := n2_; have HB := n3_; clear n0_ n1_ n2_ n3_; clear hg hw hp_))
      go_meet
      case rel => exact ⟨_, (t526), (0), (y536), (.slice Ao13 t526.length co13), (.slice (some ⟨go37, 0, none⟩) y529.length co12), H', ⟨by first | omega | exact Nat.le_refl _⟩, ⟨by (with_reducible repeat (first | apply Kd.N_alloc | apply Kd.N_drewN | apply Kd.N_drew)); exact Kd.N_mono HO528.out (fun _ hk => ⟨hk.2, hk.1⟩)⟩, ⟨Kd.Q_of_R (hR_ HO531.out)⟩, ⟨(hK_ BK532.out)⟩, ⟨hC_⟩⟩
    rw [if_neg c35] at H
    have c35b0 : ((Int.tmod (IntKind.u64.wrap (a0)) 10) == 5) = false := beq_eq_false_iff_ne.mpr c35
    have c35b1 : ((Int.tmod (IntKind.u64.wrap (a0)) 10) != 5) = true := bne_iff_ne.mpr c35
    by_cases c41 : (Int.tmod (IntKind.u64.wrap (a0)) 10) = 6
    case pos =>
      rw [if_pos c41] at H
      have c41b0 : ((Int.tmod (IntKind.u64.wrap (a0)) 10) == 6) = true := beq_iff_eq.mpr c41
      have c41b1 : ((Int.tmod (IntKind.u64.wrap (a0)) 10) != 6) = false := bne_eq_false_iff_eq.mpr c41
      clear c41
      replace H := ifI_ H; obtain ⟨c42, H⟩ := H
      have c42b0 : decide (2 < (y529.length : Int)) = true := decide_eq_true c42
      have c42b1 : decide (2 < y529.length) = true := decide_eq_true (by omega)
      clear c42
      obtain ⟨y537, hy537⟩ : ∃ y_ : List (S26), y_ = (y529.set (2 : Int).toNat (⟨(rd_T26 y529 2).f0, wrap64 (3 + (wrap64 (1 + (Go.bits .and .i64 a1 1023))))⟩ : S26)) := ⟨_, rfl⟩
      replace H : (sleuthlaw21_SessionForms.j0 k a0 t533 t526 0 y537) = some r := by first | (rw [hy537]; with_reducible exact H) | (have H2_ := (Option.bind_some _ _).symm.trans H; rw [hy537]; with_reducible exact H2_) | (have H2_ := (Option.bind_some _ _).symm.trans H; with_reducible exact H2_) | with_reducible exact H | (rw [hy537]; exact H) | exact H
      have Ny537 := Aside0.mk hy537
      clear hy537
      have H' := Aside0.mk H
      clear H
      obtain ⟨hcz44_0, hcz44_1, hcz44_2, hfz44_0, hfz44_1, hfz44_2⟩ := bx3_ BK532.out
      have p43 : 0 ≤ (2 : Int) := (by omega)
      have q43 : (2 : Int) < ((y529.length : Int) : Int) := of_decide_eq_true hA_
      have qi43 : (2 < y529.length) = True := eq_true (by omega)
      obtain ⟨go43, co43, eo43, gb43, gl43, cl43, HG43⟩ := Kd.R_form HO531.out (by omega)
      (first | cases eo43 | (injection eo43 with ea_ en_ ec_; (first | subst ea_ | (injection ea_ with ea_; subst ea_)); subst ec_; clear en_))
      have GB43 := Aside0.mk gb43
      have GG43 := Aside0.mk HG43
      clear gb43 gl43 HG43
      obtain ⟨ce43, hcl43, hM43, hcc43, hfr43⟩ := Kd.R_elem HO531.out z26 (2 : Int) p43 q43
      obtain rfl := k26_openM hM43
      have hx43_0 : w16.cell? ⟨go43, (2 : Int).toNat * 2, none⟩ = some (.int .i64 ((rd_T26 y529 2).f0)) := hcc43 0 _ rfl
      have hx43_1 : w16.cell? ⟨go43, (2 : Int).toNat * 2 + 1, none⟩ = some (.int .i64 ((rd_T26 y529 2).f1)) := hcc43 1 _ rfl
      have hf43_0 : w16.frozen? ⟨go43, (2 : Int).toNat * 2, none⟩ = false := hfr43 0
      have hf43_1 : w16.frozen? ⟨go43, (2 : Int).toNat * 2 + 1, none⟩ = false := hfr43 1
      clear hcl43 hcc43 hfr43 hM43
      (try rw [show ((2 : Int)).toNat = 2 from rfl] at hx43_0)
      (try simp only [Nat.reduceMul, Nat.zero_mul, Nat.zero_add, Nat.reduceAdd] at hx43_0)
      (try rw [show ((2 : Int)).toNat = 2 from rfl] at hf43_0)
      (try simp only [Nat.reduceMul, Nat.zero_mul, Nat.zero_add, Nat.reduceAdd] at hf43_0)
      (try rw [show ((2 : Int)).toNat = 2 from rfl] at hx43_1)
      (try simp only [Nat.reduceMul, Nat.zero_mul, Nat.zero_add, Nat.reduceAdd] at hx43_1)
      (try rw [show ((2 : Int)).toNat = 2 from rfl] at hf43_1)
      (try simp only [Nat.reduceMul, Nat.zero_mul, Nat.zero_add, Nat.reduceAdd] at hf43_1)
      replace p43 := eq_true p43
      replace q43 := eq_true q43
      have HX45 := Aside0.mk (show Kd.R k26 26 w16 w.heap.size (fun _ => True) (.slice (some ⟨go43, 0, none⟩) y529.length co12) y529 from (hR_ HO531.out))
      obtain ⟨ce45, hcl45, hM45, hcc45, hfr45⟩ := Kd.R_elem HX45.out z26 (2 : Int) (by omega) (by have h_ : (2 : Int) < ((y529.length : Int) : Int) := of_decide_eq_true hA_; first | exact h_ | (have e_ := (Kd.R_reads' HO531.out).1; omega) | simpa using h_)
      obtain rfl := k26_openM hM45
      have HP45 := Kd.R_seg HX45.out (2 : Int) (by omega) (by have h_ : (2 : Int) < ((y529.length : Int) : Int) := of_decide_eq_true hA_; first | exact h_ | (have e_ := (Kd.R_reads' HO531.out).1; omega) | simpa using h_) (seg := [.int .i64 (wrap64 (3 + (wrap64 (1 + (Go.bits .and .i64 a1 1023)))))]) (j := 1) hcl45 hcc45 (show 2 ≤ 2 from by decide) (x' := (⟨(rd_T26 y529 2).f0, wrap64 (3 + (wrap64 (1 + (Go.bits .and .i64 a1 1023))))⟩ : S26)) (k26_mkM _ _ _ (⟨(rd_T26 y529 2).f0, wrap64 (3 + (wrap64 (1 + (Go.bits .and .i64 a1 1023))))⟩ : S26) ) (fun _ hk => hk)
      have hx45_1 := hcc45 1 _ rfl
      (try simp only [show (k26).sz = 2 from rfl, Nat.mul_one, Nat.add_zero] at hx45_1)
      (try rw [show ((2 : Int)).toNat = 2 from rfl] at hx45_1)
      (try simp only [Nat.reduceMul, Nat.zero_mul, Nat.zero_add, Nat.reduceAdd] at hx45_1)
      have hf45_1 := hfr45 1
      (try simp only [show (k26).sz = 2 from rfl, Nat.mul_one, Nat.add_zero] at hf45_1)
      (try rw [show ((2 : Int)).toNat = 2 from rfl] at hf45_1)
      (try simp only [Nat.reduceMul, Nat.zero_mul, Nat.zero_add, Nat.reduceAdd] at hf45_1)
      clear hcl45 hcc45 hfr45 hM45
      go_wp2_with (first | ((with_reducible refine gate_store (t := 3) (p := 73) rfl ?_); refine store_event (t := 3) (p := 73) (v := ?vo_w46) (w1 := (w16.setCell ⟨go43, 5, none⟩ (.int .i64 (wrap64 (3 + (wrap64 (1 + (Go.bits .and .i64 a1 1023)))))))) ?hg ?ho ?hn ?hr ?_; (case ho => rfl); (case hg => rfl); (case hn => rfl); (case hr => first | (go_simp; done) | (go_simp; rfl)); intro w46 hw; have hg : w16.grownBy w46 (some go43) := (by rw [hw]; exact HP45.2); have hp_ : Kd.R k26 26 w46 w.heap.size (fun _ => True) (.slice (some ⟨go43, 0, none⟩) y529.length co12) y537 := (by rw [hw, Ny537.out]; exact HP45.1); clear HP45; have n0_ := Aside0.mk (Kd.N_afterv (v := (.slice (some ⟨go43, 0, none⟩) y529.length co12)) (v1 := (.slice (some ⟨go43, 0, none⟩) y529.length co12)) (ok := (fun k_ => k_ ≠ gb532)) (by (with_reducible repeat (first | apply Kd.N_alloc | apply Kd.N_drewN | apply Kd.N_drew)); exact Kd.N_mono HO528.out (fun _ hk => ⟨hk.2, hk.1.2⟩)) hg (.inl rfl)); have n1_ := Aside0.mk (hp_); have n2_ := Aside0.mk (blk_grown (hK_ BK532.out) hg (Kd.R_ne HO531.out BK532.out (by decide))); have n3_ := Aside0.mk ((by rw [hw]; exact below_set (HB.out) GB43.out : Below w.heap.size w w46)); clear HO528 HO531 BK532 HB; have HO528 := n0_; have HO531 := n1_; have BK532 := n2_; have HB := n3_; clear n0_ n1_ n2_ n3_; clear hg hw hp_))
      go_meet
      case rel => exact ⟨_, (t526), (0), (y537), (.slice Ao13 t526.length co13), (.slice (some ⟨go43, 0, none⟩) y529.length co12), H', ⟨by first | omega | exact Nat.le_refl _⟩, ⟨by (with_reducible repeat (first | apply Kd.N_alloc | apply Kd.N_drewN | apply Kd.N_drew)); exact Kd.N_mono HO528.out (fun _ hk => ⟨hk.2, hk.1⟩)⟩, ⟨Kd.Q_of_R (hR_ HO531.out)⟩, ⟨(hK_ BK532.out)⟩, ⟨hC_⟩⟩
    rw [if_neg c41] at H
    have c41b0 : ((Int.tmod (IntKind.u64.wrap (a0)) 10) == 6) = false := beq_eq_false_iff_ne.mpr c41
    have c41b1 : ((Int.tmod (IntKind.u64.wrap (a0)) 10) != 6) = true := bne_iff_ne.mpr c41
    by_cases c47 : (Int.tmod (IntKind.u64.wrap (a0)) 10) = 7
    case pos =>
      rw [if_pos c47] at H
      have c47b0 : ((Int.tmod (IntKind.u64.wrap (a0)) 10) == 7) = true := beq_iff_eq.mpr c47
      have c47b1 : ((Int.tmod (IntKind.u64.wrap (a0)) 10) != 7) = false := bne_eq_false_iff_eq.mpr c47
      clear c47
      replace H := ifI_ H; obtain ⟨c48, H⟩ := H
      have LMc48 := Aside0.mk c48
      clear c48
      obtain ⟨y538, hy538⟩ : ∃ y_ : List (S26), y_ = (y529 ++ [(⟨Go.bits .and .i64 a1 3, 1⟩ : S26)]) := ⟨_, rfl⟩
      replace H : (sleuthlaw21_SessionForms.j0 k a0 t533 t526 0 y538) = some r := by first | (rw [hy538]; with_reducible exact H) | (have H2_ := (Option.bind_some _ _).symm.trans H; rw [hy538]; with_reducible exact H2_) | (have H2_ := (Option.bind_some _ _).symm.trans H; with_reducible exact H2_) | with_reducible exact H | (rw [hy538]; exact H) | exact H
      have Ny538 := Aside0.mk hy538
      clear hy538
      have H' := Aside0.mk H
      clear H
      obtain ⟨hcz49_0, hcz49_1, hcz49_2, hfz49_0, hfz49_1, hfz49_2⟩ := bx3_ BK532.out
      go_wp2_with (first | ((with_reducible refine gate_builtin (b := .append) (xs := #[.tmp 77, .tmp 81]) rfl ?_); at_builtin; refine Kd.R_append k26 (w0 := w) w.heap.size rfl (.tmp 77) (.tmp 81) 27 26 (.agg #[(.int .i64 0), (.int .i64 0)]) 16 rfl Tryd.underlying27 info26 rfl (by decide) (by omega) (.slice Ao12 y529.length co12) y529 (⟨Go.bits .and .i64 a1 3, 1⟩ : S26) [.int .i64 (Go.bits .and .i64 a1 3), .int .i64 1] (fun _ => True) (fun _ => False) rfl rfl ?aP (fun _ hk => hk.elim) ?aF ?aO ?aB ?aS ?aL ?_; (case aP => exact k26_mkM _ _ _ (⟨Go.bits .and .i64 a1 3, 1⟩ : S26)); (case aB => exact hC_); (case aF => exact (fun _ _ => trivial)); (case aO => exact (hR_ HO531.out)); (case aS => exact (below_size hC_)); (case aL => have := LMc48.out; omega); intro v539 w50 ho hb hg hat; rw [← Ny538.out] at ho; have n0_ := Aside0.mk (Kd.N_afterv (ok := (fun k_ => k_ ≠ gb532)) (by (with_reducible repeat (first | apply Kd.N_alloc | apply Kd.N_drewN | apply Kd.N_drew)); exact Kd.N_mono HO528.out (fun _ hk => ⟨hk.2, hk.1.2⟩)) hg hat); have n1_ := Aside0.mk (blk_grown (hK_ BK532.out) hg (Kd.R_ne HO531.out BK532.out (by decide))); have n2_ := Aside0.mk (hb); have n3_ := Aside0.mk (ho); clear HO528 BK532 HB HO531; have HO528 := n0_; have BK532 := n1_; have HB := n2_; have HO540 := n3_; clear n0_ n1_ n2_ n3_; clear ho hb hg hat; obtain ⟨Ao51, co51, eo51⟩ := Kd.R_slice HO540.out; subst eo51; obtain ⟨hcz52_0, hcz52_1, hcz52_2, hfz52_0, hfz52_1, hfz52_2⟩ := bx3_ BK532.out))
      go_meet
      case rel => exact ⟨_, (t526), (0), (y538), (.slice Ao13 t526.length co13), (.slice Ao51 y538.length co51), H', ⟨by first | omega | exact Nat.le_refl _⟩, ⟨by (with_reducible repeat (first | apply Kd.N_alloc | apply Kd.N_drewN | apply Kd.N_drew)); exact Kd.N_mono (nF_ (Kd.N_mono HO528.out (fun k_ hk => (⟨hk, hk.1⟩ : _ ∧ k_ ≠ gb532)))) (fun _ hk => ⟨hk.1.2, hk.1.1⟩)⟩, ⟨Kd.Q_of_R (by (with_reducible repeat (first | apply Kd.R_alloc | apply Kd.R_drewN | apply Kd.R_drew)); exact Kd.R_mono (rF_ (Kd.R_types HO540.out BK532.out (by decide))) (fun _ hk => trivial))⟩, ⟨(bP_ (hK_ BK532.out))⟩, ⟨hC_⟩⟩
    rw [if_neg c47] at H
    have c47b0 : ((Int.tmod (IntKind.u64.wrap (a0)) 10) == 7) = false := beq_eq_false_iff_ne.mpr c47
    have c47b1 : ((Int.tmod (IntKind.u64.wrap (a0)) 10) != 7) = true := bne_iff_ne.mpr c47
    by_cases c53 : (Int.tmod (IntKind.u64.wrap (a0)) 10) = 8
    case neg =>
      rw [if_neg c53] at H
      have c53b0 : ((Int.tmod (IntKind.u64.wrap (a0)) 10) == 8) = false := beq_eq_false_iff_ne.mpr c53
      have c53b1 : ((Int.tmod (IntKind.u64.wrap (a0)) 10) != 8) = true := bne_iff_ne.mpr c53
      replace H := ifI_ H; obtain ⟨c59, H⟩ := H
      have c59b0 := eq_true c59
      have c59b1 : decide (1 ≤ (y529.length : Int)) = true := decide_eq_true c59
      clear c59
      obtain ⟨y542, hy542⟩ : ∃ y_ : List (S26), y_ = (y529.drop (1 : Int).toNat) := ⟨_, rfl⟩
      replace H : (sleuthlaw21_SessionForms.j0 k a0 t533 t526 0 y542) = some r := by first | (rw [hy542]; with_reducible exact H) | (have H2_ := (Option.bind_some _ _).symm.trans H; rw [hy542]; with_reducible exact H2_) | (have H2_ := (Option.bind_some _ _).symm.trans H; with_reducible exact H2_) | with_reducible exact H | (rw [hy542]; exact H) | exact H
      have Ny542 := Aside0.mk hy542
      clear hy542
      have H' := Aside0.mk H
      clear H
      obtain ⟨hcz60_0, hcz60_1, hcz60_2, hfz60_0, hfz60_1, hfz60_2⟩ := bx3_ BK532.out
      have q61 : (1 : Int) ≤ ((y529.length : Int) : Int) := of_decide_eq_true hA_
      obtain ⟨i061, hi061, _, hsz61, _⟩ := info_parts info26
      have hcut61 := cut_from (P := Tryd.prog) 27 26 .i64 Tryd.underlying27 hi061 2 hsz61 Ao12 y529.length co12 1 (by omega) q61
      have hr61 := Kd.Q_drop (k := (1 : Int).toNat) (Kd.Q_of_R HO531.out) (by omega)
      obtain ⟨A61, hA61⟩ : ∃ A1, A1 = (if co12 = (1 : Int).toNat then Ao12 else (Ao12 : Option Addr).map (·.add ((1 : Int).toNat * 2))) := ⟨_, rfl⟩
      obtain ⟨c61, hc61⟩ : ∃ c1, c1 = co12 - (1 : Int).toNat := ⟨_, rfl⟩
      have hy61 : y542.length = y529.length - (1 : Int).toNat := (by rw [Ny542.out, List.length_drop])
      rw [← Ny542.out] at hr61
      rw [← hy61, ← hA61, ← hc61] at hcut61
      replace hr61 : Kd.Q k26 26 w16 w.heap.size (fun _ => True) (.slice A61 y542.length c61) y542 := (by rw [hA61, hc61, hy61]; exact hr61)
      have HE61 : Aside0 ((Value.slice A61 y542.length c61).ownBlock = (.slice Ao12 y529.length co12 : Value).ownBlock) := ⟨by rw [hA61]; split <;> (cases (Ao12 : Option Addr) <;> rfl)⟩
      clear hy61 hi061 hsz61 HO531 hA61 hc61
      have HO544 := Aside0.mk hr61
      clear hr61
      replace q61 := eq_true q61
      have n_ := Aside0.mk (Kd.N_mono (ok' := fun k_ => ((True ∧ some k_ ≠ (.slice A61 y542.length c61 : Value).ownBlock) ∧ k_ ≠ gb532)) HO528.out (fun k_ hk => ⟨⟨trivial, (by rw [HE61.out]; exact hk.1.2)⟩, hk.2⟩))
      clear HO528
      have HO528 := n_
      clear n_
      go_wp2
      go_meet
      case rel => exact ⟨_, (t526), (0), (y542), (.slice Ao13 t526.length co13), (.slice A61 y542.length c61), H', ⟨by first | omega | exact Nat.le_refl _⟩, ⟨by (with_reducible repeat (first | apply Kd.N_alloc | apply Kd.N_drewN | apply Kd.N_drew)); exact Kd.N_mono (nF_ (Kd.N_mono HO528.out (fun k_ hk => (⟨hk, hk.2⟩ : _ ∧ k_ ≠ gb532)))) (fun _ hk => ⟨hk.1.1.2, hk.1.2⟩)⟩, ⟨by (with_reducible repeat (first | apply Kd.Q_alloc | apply Kd.Q_drewN | apply Kd.Q_drew)); exact Kd.Q_mono (Kd.Q_far (p := ⟨gb532, 2, none⟩) (Kd.Q_types HO544.out BK532.out (by decide)) (fun _ hk => hk.2) (.slice A61 y542.length c61)) (fun _ hk => trivial)⟩, ⟨(bP_ (hK_ BK532.out))⟩, ⟨hC_⟩⟩
    rw [if_pos c53] at H
    have c53b0 : ((Int.tmod (IntKind.u64.wrap (a0)) 10) == 8) = true := beq_iff_eq.mpr c53
    have c53b1 : ((Int.tmod (IntKind.u64.wrap (a0)) 10) != 8) = false := bne_eq_false_iff_eq.mpr c53
    clear c53
    replace H := ifI_ H; obtain ⟨c54, H⟩ := H
    have c54b0 : decide (0 < (y529.length : Int)) = true := decide_eq_true c54
    have c54b1 : decide (0 < y529.length) = true := decide_eq_true (by omega)
    clear c54
    obtain ⟨y541, hy541⟩ : ∃ y_ : List (S26), y_ = (y529.set (0 : Int).toNat (⟨(rd_T26 y529 0).f0, 1⟩ : S26)) := ⟨_, rfl⟩
    replace H : (sleuthlaw21_SessionForms.j0 k a0 t533 t526 0 y541) = some r := by first | (rw [hy541]; with_reducible exact H) | (have H2_ := (Option.bind_some _ _).symm.trans H; rw [hy541]; with_reducible exact H2_) | (have H2_ := (Option.bind_some _ _).symm.trans H; with_reducible exact H2_) | with_reducible exact H | (rw [hy541]; exact H) | exact H
    have Ny541 := Aside0.mk hy541
    clear hy541
    have H' := Aside0.mk H
    clear H
    obtain ⟨hcz56_0, hcz56_1, hcz56_2, hfz56_0, hfz56_1, hfz56_2⟩ := bx3_ BK532.out
    have p55 : 0 ≤ (0 : Int) := (by omega)
    have q55 : (0 : Int) < ((y529.length : Int) : Int) := of_decide_eq_true hA_
    have qi55 : (0 < y529.length) = True := eq_true (by omega)
    obtain ⟨go55, co55, eo55, gb55, gl55, cl55, HG55⟩ := Kd.R_form HO531.out (by omega)
    (first | cases eo55 | (injection eo55 with ea_ en_ ec_; (first | subst ea_ | (injection ea_ with ea_; subst ea_)); subst ec_; clear en_))
    have GB55 := Aside0.mk gb55
    have GG55 := Aside0.mk HG55
    clear gb55 gl55 HG55
    obtain ⟨ce55, hcl55, hM55, hcc55, hfr55⟩ := Kd.R_elem HO531.out z26 (0 : Int) p55 q55
    obtain rfl := k26_openM hM55
    have hx55_0 : w16.cell? ⟨go55, (0 : Int).toNat * 2, none⟩ = some (.int .i64 ((rd_T26 y529 0).f0)) := hcc55 0 _ rfl
    have hx55_1 : w16.cell? ⟨go55, (0 : Int).toNat * 2 + 1, none⟩ = some (.int .i64 ((rd_T26 y529 0).f1)) := hcc55 1 _ rfl
    have hf55_0 : w16.frozen? ⟨go55, (0 : Int).toNat * 2, none⟩ = false := hfr55 0
    have hf55_1 : w16.frozen? ⟨go55, (0 : Int).toNat * 2 + 1, none⟩ = false := hfr55 1
    clear hcl55 hcc55 hfr55 hM55
    (try rw [show ((0 : Int)).toNat = 0 from rfl] at hx55_0)
    (try simp only [Nat.reduceMul, Nat.zero_mul, Nat.zero_add, Nat.reduceAdd] at hx55_0)
    (try rw [show ((0 : Int)).toNat = 0 from rfl] at hf55_0)
    (try simp only [Nat.reduceMul, Nat.zero_mul, Nat.zero_add, Nat.reduceAdd] at hf55_0)
    (try rw [show ((0 : Int)).toNat = 0 from rfl] at hx55_1)
    (try simp only [Nat.reduceMul, Nat.zero_mul, Nat.zero_add, Nat.reduceAdd] at hx55_1)
    (try rw [show ((0 : Int)).toNat = 0 from rfl] at hf55_1)
    (try simp only [Nat.reduceMul, Nat.zero_mul, Nat.zero_add, Nat.reduceAdd] at hf55_1)
    replace p55 := eq_true p55
    replace q55 := eq_true q55
    have HX57 := Aside0.mk (show Kd.R k26 26 w16 w.heap.size (fun _ => True) (.slice (some ⟨go55, 0, none⟩) y529.length co12) y529 from (hR_ HO531.out))
    obtain ⟨ce57, hcl57, hM57, hcc57, hfr57⟩ := Kd.R_elem HX57.out z26 (0 : Int) (by omega) (by have h_ : (0 : Int) < ((y529.length : Int) : Int) := of_decide_eq_true hA_; first | exact h_ | (have e_ := (Kd.R_reads' HO531.out).1; omega) | simpa using h_)
    obtain rfl := k26_openM hM57
    have HP57 := Kd.R_seg HX57.out (0 : Int) (by omega) (by have h_ : (0 : Int) < ((y529.length : Int) : Int) := of_decide_eq_true hA_; first | exact h_ | (have e_ := (Kd.R_reads' HO531.out).1; omega) | simpa using h_) (seg := [.int .i64 1]) (j := 1) hcl57 hcc57 (show 2 ≤ 2 from by decide) (x' := (⟨(rd_T26 y529 0).f0, 1⟩ : S26)) (k26_mkM _ _ _ (⟨(rd_T26 y529 0).f0, 1⟩ : S26) ) (fun _ hk => hk)
    have hx57_1 := hcc57 1 _ rfl
    (try simp only [show (k26).sz = 2 from rfl, Nat.mul_one, Nat.add_zero] at hx57_1)
    (try rw [show ((0 : Int)).toNat = 0 from rfl] at hx57_1)
    (try simp only [Nat.reduceMul, Nat.zero_mul, Nat.zero_add, Nat.reduceAdd] at hx57_1)
    have hf57_1 := hfr57 1
    (try simp only [show (k26).sz = 2 from rfl, Nat.mul_one, Nat.add_zero] at hf57_1)
    (try rw [show ((0 : Int)).toNat = 0 from rfl] at hf57_1)
    (try simp only [Nat.reduceMul, Nat.zero_mul, Nat.zero_add, Nat.reduceAdd] at hf57_1)
    clear hcl57 hcc57 hfr57 hM57
    go_wp2_with (first | ((with_reducible refine gate_store (t := 3) (p := 89) rfl ?_); refine store_event (t := 3) (p := 89) (v := ?vo_w58) (w1 := (w16.setCell ⟨go55, 1, none⟩ (.int .i64 1))) ?hg ?ho ?hn ?hr ?_; (case ho => rfl); (case hg => rfl); (case hn => rfl); (case hr => first | (go_simp; done) | (go_simp; rfl)); intro w58 hw; have hg : w16.grownBy w58 (some go55) := (by rw [hw]; exact HP57.2); have hp_ : Kd.R k26 26 w58 w.heap.size (fun _ => True) (.slice (some ⟨go55, 0, none⟩) y529.length co12) y541 := (by rw [hw, Ny541.out]; exact HP57.1); clear HP57; have n0_ := Aside0.mk (Kd.N_afterv (v := (.slice (some ⟨go55, 0, none⟩) y529.length co12)) (v1 := (.slice (some ⟨go55, 0, none⟩) y529.length co12)) (ok := (fun k_ => k_ ≠ gb532)) (by (with_reducible repeat (first | apply Kd.N_alloc | apply Kd.N_drewN | apply Kd.N_drew)); exact Kd.N_mono HO528.out (fun _ hk => ⟨hk.2, hk.1.2⟩)) hg (.inl rfl)); have n1_ := Aside0.mk (hp_); have n2_ := Aside0.mk (blk_grown (hK_ BK532.out) hg (Kd.R_ne HO531.out BK532.out (by decide))); have n3_ := Aside0.mk ((by rw [hw]; exact below_set (HB.out) GB55.out : Below w.heap.size w w58)); clear HO528 HO531 BK532 HB; have HO528 := n0_; have HO531 := n1_; have BK532 := n2_; have HB := n3_; clear n0_ n1_ n2_ n3_; clear hg hw hp_))
    go_meet
    case rel => exact ⟨_, (t526), (0), (y541), (.slice Ao13 t526.length co13), (.slice (some ⟨go55, 0, none⟩) y529.length co12), H', ⟨by first | omega | exact Nat.le_refl _⟩, ⟨by (with_reducible repeat (first | apply Kd.N_alloc | apply Kd.N_drewN | apply Kd.N_drew)); exact Kd.N_mono HO528.out (fun _ hk => ⟨hk.2, hk.1⟩)⟩, ⟨Kd.Q_of_R (hR_ HO531.out)⟩, ⟨(hK_ BK532.out)⟩, ⟨hC_⟩⟩
  case rest =>
    clear HC7
    try clear c1
    try clear c2
    try clear p2
    try clear q2
    try clear hx2
    try clear qi2
    try clear hf2
    try clear c3
    try clear p3
    try clear q3
    try clear hx3
    try clear qi3
    try clear hf3
    try clear c4
    try clear p4
    try clear q4
    try clear hx4
    try clear qi4
    try clear hf4
    try clear c5
    try clear p5
    try clear q5
    try clear hx5
    try clear qi5
    try clear hf5
    try clear c6
    try clear p6
    try clear q6
    try clear c14
    try clear c15
    try clear c16
    try clear c17
    try clear c17b0
    try clear c17b1
    try clear c19
    try clear c19b0
    try clear c19b1
    try clear c20
    try clear c20b0
    try clear c20b1
    try clear c21
    try clear p21
    try clear q21
    try clear hx21
    try clear qi21
    try clear hf21
    try clear c23
    try clear hx23
    try clear hf23
    try clear c25
    try clear c25b0
    try clear c25b1
    try clear c27
    try clear c27b0
    try clear c27b1
    try clear c29
    try clear c29b0
    try clear c29b1
    try clear c30
    try clear c30b0
    try clear c30b1
    try clear c31
    try clear p31
    try clear q31
    try clear hx31
    try clear qi31
    try clear hf31
    try clear c33
    try clear hx33
    try clear hf33
    try clear c35
    try clear c35b0
    try clear c35b1
    try clear c36
    try clear c36b0
    try clear c36b1
    try clear c37
    try clear p37
    try clear q37
    try clear hx37
    try clear qi37
    try clear hf37
    try clear c39
    try clear hx39
    try clear hf39
    try clear c41
    try clear c41b0
    try clear c41b1
    try clear c42
    try clear c42b0
    try clear c42b1
    try clear c43
    try clear p43
    try clear q43
    try clear hx43
    try clear qi43
    try clear hf43
    try clear c45
    try clear hx45
    try clear hf45
    try clear c47
    try clear c47b0
    try clear c47b1
    try clear c48
    try clear c53
    try clear c53b0
    try clear c53b1
    try clear c54
    try clear c54b0
    try clear c54b1
    try clear c55
    try clear p55
    try clear q55
    try clear hx55
    try clear qi55
    try clear hf55
    try clear c57
    try clear hx57
    try clear hf57
    try clear c59
    try clear c59b0
    try clear c59b1
    try clear c61
    try clear q61
    try clear hcz15_0
    try clear hcz15_1
    try clear hcz15_2
    try clear hcz18_0
    try clear hcz18_1
    try clear hcz18_2
    try clear hcz22_0
    try clear hcz22_1
    try clear hcz22_2
    try clear hcz26_0
    try clear hcz26_1
    try clear hcz26_2
    try clear hcz28_0
    try clear hcz28_1
    try clear hcz28_2
    try clear hcz32_0
    try clear hcz32_1
    try clear hcz32_2
    try clear hcz38_0
    try clear hcz38_1
    try clear hcz38_2
    try clear hcz44_0
    try clear hcz44_1
    try clear hcz44_2
    try clear hcz49_0
    try clear hcz49_1
    try clear hcz49_2
    try clear hcz52_0
    try clear hcz52_1
    try clear hcz52_2
    try clear hcz56_0
    try clear hcz56_1
    try clear hcz56_2
    try clear hcz60_0
    try clear hcz60_1
    try clear hcz60_2
    try clear hfz15_0
    try clear hfz15_1
    try clear hfz15_2
    try clear hfz18_0
    try clear hfz18_1
    try clear hfz18_2
    try clear hfz22_0
    try clear hfz22_1
    try clear hfz22_2
    try clear hfz26_0
    try clear hfz26_1
    try clear hfz26_2
    try clear hfz28_0
    try clear hfz28_1
    try clear hfz28_2
    try clear hfz32_0
    try clear hfz32_1
    try clear hfz32_2
    try clear hfz38_0
    try clear hfz38_1
    try clear hfz38_2
    try clear hfz44_0
    try clear hfz44_1
    try clear hfz44_2
    try clear hfz49_0
    try clear hfz49_1
    try clear hfz49_2
    try clear hfz52_0
    try clear hfz52_1
    try clear hfz52_2
    try clear hfz56_0
    try clear hfz56_1
    try clear hfz56_2
    try clear hfz60_0
    try clear hfz60_1
    try clear hfz60_2
    try clear hx21_0
    try clear hx21_1
    try clear hx21_2
    try clear hx21_3
    try clear hx23_3
    try clear hx31_0
    try clear hx31_1
    try clear hx33_0
    try clear hx37_0
    try clear hx37_1
    try clear hx39_1
    try clear hx43_0
    try clear hx43_1
    try clear hx45_1
    try clear hx55_0
    try clear hx55_1
    try clear hx57_1
    try clear p21
    try clear p31
    try clear p37
    try clear p43
    try clear p55
    try clear q21
    try clear q31
    try clear q37
    try clear q43
    try clear q55
    try clear q61
    obtain ⟨kq, x533000_6, x533001_6, x533002_6, u533000, u533002, HA, HJ6, HO_533000, HO_533002, BK532, HB⟩ := hcut
    cases kq with
    | zero => exact absurd HA.out (by simp [sleuthlaw21_SessionForms.j0])
    | succ kj6 =>
      have H := HA.out
      clear HA
      simp only [sleuthlaw21_SessionForms.j0] at H
      replace H := Option.bind_eq_some_iff.mp H
      obtain ⟨⟨t545, t548, t549, t552⟩, A620, H⟩ := H
      replace H : (if t533 = true then ((session_May.f kj6 x533000_6 x533001_6 x533002_6).bind fun t554 => (if t554 = true then (none) else ((sleuthlaw0_Num.f t552).bind fun t555 => (if ((t555 == 2100) == (decide ((Int.tmod (IntKind.u64.wrap (a0)) 10) < 4))) = true then (if (Int.tmod (IntKind.u64.wrap (a0)) 10) < 4 then (some true) else (some (t555 == 0))) else (none))))) else (none)) = some r := H
      have A62 := Aside0.mk A620
      clear A620
      by_cases c63 : t533 = true
      case neg =>
        replace c63 := Bool.eq_false_iff.mpr c63
        subst c63
        have H1 : (none) = some r := by rw [if_neg (show ¬ (false = true) by decide)] at H; exact H
        clear H
        have H := H1
        clear H1
        cases H
      subst c63
      have H1 : ((session_May.f kj6 x533000_6 x533001_6 x533002_6).bind fun t554 => (if t554 = true then (none) else ((sleuthlaw0_Num.f t552).bind fun t555 => (if ((t555 == 2100) == (decide ((Int.tmod (IntKind.u64.wrap (a0)) 10) < 4))) = true then (if (Int.tmod (IntKind.u64.wrap (a0)) 10) < 4 then (some true) else (some (t555 == 0))) else (none))))) = some r := by rw [if_pos rfl] at H; exact H
      clear H
      have H := H1
      clear H1
      replace H := Option.bind_eq_some_iff.mp H
      obtain ⟨t554, A640, H⟩ := H
      replace H : (if t554 = true then (none) else ((sleuthlaw0_Num.f t552).bind fun t555 => (if ((t555 == 2100) == (decide ((Int.tmod (IntKind.u64.wrap (a0)) 10) < 4))) = true then (if (Int.tmod (IntKind.u64.wrap (a0)) 10) < 4 then (some true) else (some (t555 == 0))) else (none)))) = some r := H
      have A64 := Aside0.mk A640
      clear A640
      by_cases c65 : t554 = true
      case pos =>
        subst c65
        have H1 : (none) = some r := by rw [if_pos rfl] at H; exact H
        clear H
        have H := H1
        clear H1
        cases H
      replace c65 := Bool.eq_false_iff.mpr c65
      subst c65
      have H1 : ((sleuthlaw0_Num.f t552).bind fun t555 => (if ((t555 == 2100) == (decide ((Int.tmod (IntKind.u64.wrap (a0)) 10) < 4))) = true then (if (Int.tmod (IntKind.u64.wrap (a0)) 10) < 4 then (some true) else (some (t555 == 0))) else (none))) = some r := by rw [if_neg (show ¬ (false = true) by decide)] at H; exact H
      clear H
      have H := H1
      clear H1
      replace H := Option.bind_eq_some_iff.mp H
      obtain ⟨t555, A770, H⟩ := H
      replace H : (if ((t555 == 2100) == (decide ((Int.tmod (IntKind.u64.wrap (a0)) 10) < 4))) = true then (if (Int.tmod (IntKind.u64.wrap (a0)) 10) < 4 then (some true) else (some (t555 == 0))) else (none)) = some r := H
      have A77 := Aside0.mk A770
      clear A770
      by_cases c78 : ((t555 == 2100) == (decide ((Int.tmod (IntKind.u64.wrap (a0)) 10) < 4))) = true
      case neg =>
        rw [if_neg c78] at H
        have c78b0 : ((t555 == 2100) == (decide ((Int.tmod (IntKind.u64.wrap (a0)) 10) < 4))) = false := by simpa using c78
        (try (have c78b1 : decide ((t555 == 2100) = (decide ((Int.tmod (IntKind.u64.wrap (a0)) 10) < 4))) = false := by simpa using c78))
        (try (have c78b2 : ((t555 == 2100) == (decide ((Int.tmod (IntKind.u64.wrap (a0)) 10) < 4))) = false := by simpa using c78))
        (try (have c78b3 : ¬ ((t555 == 2100) = (decide ((Int.tmod (IntKind.u64.wrap (a0)) 10) < 4))) := by simpa using c78))
        clear c78
        cases H
      rw [if_pos c78] at H
      have c78b0 : ((t555 == 2100) == (decide ((Int.tmod (IntKind.u64.wrap (a0)) 10) < 4))) = true := c78
      (try (have c78b1 : decide ((t555 == 2100) = (decide ((Int.tmod (IntKind.u64.wrap (a0)) 10) < 4))) = true := by simpa using c78))
      (try (have c78b2 : ((t555 == 2100) == (decide ((Int.tmod (IntKind.u64.wrap (a0)) 10) < 4))) = true := by simpa using c78))
      clear c78
      by_cases c79 : (Int.tmod (IntKind.u64.wrap (a0)) 10) < 4
      case pos =>
        rw [if_pos c79] at H
        have c79b0 : decide ((Int.tmod (IntKind.u64.wrap (a0)) 10) < 4) = true := decide_eq_true c79
        have c78x : (t555 == 2100) = true := by rw [c79b0] at c78b0; simpa using c78b0
        clear c79
        obtain rfl := Option.some.inj H
        obtain ⟨hcz80_0, hcz80_1, hcz80_2, hfz80_0, hfz80_1, hfz80_2⟩ := bx3_ BK532.out
        obtain ⟨Ao81, co81, eo81⟩ := Kd.N_slice HO_533000.out
        subst eo81
        go_wp2_with (first | ((with_reducible refine gate_callee (f := 17) rfl ?_); refine goesL_ (some 95) rfl rfl Tryd.func17 (by kernel_rfl) rfl #[.slice Ao81 x533000_6.length co81, .int .i64 x533001_6] rfl hL_ ?_; (with_reducible refine (session_New.calls kj6 _ _ x533000_6 x533001_6 t545 t548 t549 t552 _ ?side1 ?side2 A62.out (by first | exact hG | exact GOK.below hG hC_)).mono ?_); (case side1 => repeat (first | exact (Kd.N_reads' HO_533000.out).2.2 | (with_reducible refine Kd.C_alloc ?_ _) | (with_reducible refine Kd.C_drewN ?_ _) | (with_reducible refine Kd.C_drew ?_))); (case side2 => exact (Kd.N_reads' HO_533000.out).2.1); rintro e w82 ⟨v546, v550, rfl, ho0, ho1, hb⟩; refine ⟨_, rfl, ?_⟩; have n0_ := Aside0.mk (Kd.N_mono (Kd.N_told (Kd.N_told (Kd.N_old (hN_ HO_533000.out) hb) (Kd.N_base (Kd.R_N (Kd.S_R ho0)))) (Kd.R_base ho1)) (fun _ h_ => h_.1)); have n1_ := Aside0.mk (Kd.Q_elder' (by (with_reducible repeat (first | apply Kd.Q_alloc | apply Kd.Q_drewN | apply Kd.Q_drew)); exact HO_533002.out) (Kd.R_base ho1) hb); have n2_ := Aside0.mk (Kd.N_lower (Kd.N_mono (ok' := fun k_ => some k_ ≠ (v550 : Value).ownBlock ∧ some k_ ≠ (.slice Ao81 x533000_6.length co81 : Value).ownBlock ∧ some k_ ≠ (u533002 : Value).ownBlock ∧ k_ ≠ gb532) (Kd.S_N (Kd.S_bound (Kd.S_apart' ho0 (Kd.R_typed ho1) (by decide)))) (fun k_ hk_ => ⟨hk_.1.2, (Kd.fresh' (Kd.N_lt (hN_ HO_533000.out)) k_ hk_.2.1), (Kd.fresh' (Kd.Q_lt (by (with_reducible repeat (first | apply Kd.Q_alloc | apply Kd.Q_drewN | apply Kd.Q_drew)); exact HO_533002.out)) k_ hk_.2.1), (Kd.freshB (g := gb532) (o := .cells #[.slice Ao81 x533000_6.length co81, .int .i64 x533001_6, u533002] 29 (0, 0)) (hK_ BK532.out) k_ hk_.2.1)⟩)) (below_size hC_)); have n3_ := Aside0.mk (Kd.R_lower (Kd.R_new' ho1 (Kd.Q_lt (by (with_reducible repeat (first | apply Kd.Q_alloc | apply Kd.Q_drewN | apply Kd.Q_drew)); exact HO_533002.out))) (below_size hC_)); have n4_ := Aside0.mk (bB_ BK532.out hb); have n5_ := Aside0.mk (below_step hC_ hb); clear HO_533000 HO_533002 BK532 HB; have HO_533000 := n0_; have HO_533002 := n1_; have HO547 := n2_; have HO551 := n3_; have BK532 := n4_; have HB := n5_; clear n0_ n1_ n2_ n3_ n4_ n5_; (try clear hb); (try clear hb2); (try clear hk); (try clear hi); (try clear ho0); (try clear ho1)) | ((with_reducible refine gate_dst (N := 8) rfl ?_); refine boxE_ 8 #[.slice none 0 0, .int .i64 0, .slice none 0 0] 29 ?_; intro gb553 hg w83 hbox hb; have n0_ := Aside0.mk (Kd.N_below (Kd.N_elderB (hN_ HO_533000.out) gb553 (Nat.le_of_eq hg.symm)) hb); have n1_ := Aside0.mk (Kd.Q_below (by (with_reducible repeat (first | apply Kd.Q_alloc | apply Kd.Q_drewN | apply Kd.Q_drew)); exact HO_533002.out) hb); have n2_ := Aside0.mk (Kd.N_below (Kd.N_elderB (hN_ HO547.out) gb553 (Nat.le_of_eq hg.symm)) hb); have n3_ := Aside0.mk (Kd.R_below (hR_ HO551.out) hb); have n4_ := Aside0.mk (bB_ BK532.out hb); have n5_ := Aside0.mk (below_step hC_ hb); have n6_ := Aside0.mk (hbox); have n7_ := Aside0.mk ((gE_ hg : w.heap.size ≤ gb553)); have n8_ := Aside0.mk ((gE_ hg : w.heap.size ≤ gb553)); have n9_ := Aside0.mk ((bL_ BK532.out hg : gb532 ≠ gb553)); have n10_ := Aside0.mk ((bG_ BK532.out hg : gb553 ≠ gb532)); clear HO_533000 HO_533002 HO547 HO551 BK532 HB; have HO_533000 := n0_; have HO_533002 := n1_; have HO547 := n2_; have HO551 := n3_; have BK532 := n4_; have HB := n5_; have BK553 := n6_; have GW553 := n7_; have GE553 := n8_; have NB532_553 := n9_; have NB553_532 := n10_; clear n0_ n1_ n2_ n3_ n4_ n5_ n6_ n7_ n8_ n9_ n10_; clear hb hbox hg; obtain ⟨Ao84, co84, eo84⟩ := Kd.N_slice HO547.out; subst eo84; have hnb85 := NB553_532.out; have hnc85 := NB532_553.out; obtain ⟨hcz86_0, hcz86_1, hcz86_2, hfz86_0, hfz86_1, hfz86_2⟩ := bx3_ BK553.out; obtain ⟨Ao87, co87, eo87⟩ := Kd.R_slice HO551.out; subst eo87; obtain ⟨hcz88_0, hcz88_1, hcz88_2, hfz88_0, hfz88_1, hfz88_2⟩ := bx3_ BK532.out; obtain ⟨Ao89, co89, eo89, _⟩ := Kd.Q_slice HO_533002.out; subst eo89) | (go_at_call 16; (with_reducible refine (session_May.calls kj6 _ _ x533000_6 x533001_6 _ _ x533002_6 false _ ?side1 ?side2 ?side3 ?side4 A64.out (by first | exact hG | exact GOK.below hG hC_)).mono ?_); (case side1 => refine (Kd.N_reads' (e := 33) (base := w.heap.size) (ok := fun k_ => ((((some k_ ≠ (.slice Ao89 x533002_6.length co89 : Value).ownBlock ∧ k_ ≠ gb532) ∧ some k_ ≠ (.slice Ao84 t545.length co84 : Value).ownBlock) ∧ some k_ ≠ (.slice Ao87 t549.length co87 : Value).ownBlock) ∧ k_ ≠ gb553)) (n := x533000_6.length) (c := co81) ?_).2.2; exact (by (with_reducible repeat (first | apply Kd.N_alloc | apply Kd.N_drewN | apply Kd.N_drew)); exact (Kd.N_mono (nF_ (nF_ (nF_ (Kd.N_mono HO_533000.out (fun k_ hk => (⟨hk, hk.2⟩ : _ ∧ k_ ≠ gb553)))))) (fun _ h_ => h_.1)))); (case side2 => exact (Kd.N_reads' HO_533000.out).2.1); (case side3 => refine (Kd.Q_reads' (e := 26) (base := w.heap.size) (ok := fun k_ => (True ∧ some k_ ≠ (.slice Ao87 t549.length co87 : Value).ownBlock)) (n := x533002_6.length) (c := co89) ?_).2.2; exact (by (with_reducible repeat (first | apply Kd.Q_alloc | apply Kd.Q_drewN | apply Kd.Q_drew)); exact (Kd.Q_mono (Kd.Q_far (p := ⟨gb553, 2, none⟩) (Kd.Q_far (p := ⟨gb553, 1, none⟩) (Kd.Q_far (p := ⟨gb553, 0, none⟩) (Kd.Q_types HO_533002.out BK553.out (by decide)) (fun _ hk => hk.2) (.slice Ao84 t545.length co84)) (fun _ hk => hk.2) (.int .i64 t548)) (fun _ hk => hk.2) (.slice Ao87 t549.length co87)) (fun _ h_ => h_.1)))); (case side4 => exact (Kd.Q_reads' HO_533002.out).2.1); rintro e w90 ⟨rfl, hb⟩; have n0_ := Aside0.mk (Kd.N_below (by (with_reducible repeat (first | apply Kd.N_alloc | apply Kd.N_drewN | apply Kd.N_drew)); exact (Kd.N_mono (nF_ (nF_ (nF_ (Kd.N_mono HO_533000.out (fun k_ hk => (⟨hk, hk.2⟩ : _ ∧ k_ ≠ gb553)))))) (fun _ h_ => h_.1))) hb); have n1_ := Aside0.mk (Kd.Q_below (by (with_reducible repeat (first | apply Kd.Q_alloc | apply Kd.Q_drewN | apply Kd.Q_drew)); exact (Kd.Q_mono (Kd.Q_far (p := ⟨gb553, 2, none⟩) (Kd.Q_far (p := ⟨gb553, 1, none⟩) (Kd.Q_far (p := ⟨gb553, 0, none⟩) (Kd.Q_types HO_533002.out BK553.out (by decide)) (fun _ hk => hk.2) (.slice Ao84 t545.length co84)) (fun _ hk => hk.2) (.int .i64 t548)) (fun _ hk => hk.2) (.slice Ao87 t549.length co87)) (fun _ h_ => h_.1))) hb); have n2_ := Aside0.mk (Kd.N_below (by (with_reducible repeat (first | apply Kd.N_alloc | apply Kd.N_drewN | apply Kd.N_drew)); exact (Kd.N_mono (nF_ (nF_ (nF_ (Kd.N_mono HO547.out (fun k_ hk => (⟨hk, hk.2⟩ : _ ∧ k_ ≠ gb553)))))) (fun _ h_ => h_.1))) hb); have n3_ := Aside0.mk (Kd.R_below (by (with_reducible repeat (first | apply Kd.R_alloc | apply Kd.R_drewN | apply Kd.R_drew)); exact (Kd.R_mono (rF_ (rF_ (rF_ (Kd.R_types HO551.out BK553.out (by decide))))) (fun _ h_ => h_.1))) hb); have n4_ := Aside0.mk (blk_below (g := gb532) (o := .cells #[.slice Ao81 x533000_6.length co81, .int .i64 x533001_6, .slice Ao89 x533002_6.length co89] 29 (0, 0)) (bF_ (bF_ (bF_ (hK_ BK532.out) NB532_553.out) NB532_553.out) NB532_553.out) hb); have n5_ := Aside0.mk (blk_below (g := gb553) (o := .cells #[.slice Ao84 t545.length co84, .int .i64 t548, .slice Ao87 t549.length co87] 29 (0, 0)) (bP_ (bP_ (bP_ (hK_ BK553.out)))) hb); have n6_ := Aside0.mk (below_step hC_ hb); clear HO_533000 HO_533002 HO547 HO551 BK532 BK553 HB; have HO_533000 := n0_; have HO_533002 := n1_; have HO547 := n2_; have HO551 := n3_; have BK532 := n4_; have BK553 := n5_; have HB := n6_; clear n0_ n1_ n2_ n3_ n4_ n5_ n6_; (try clear hb); (try clear hb2); (try clear hk); (try clear hi)) | (go_at_call 11; (with_reducible refine (sleuthlaw0_Num.calls t552 t555 _ A77.out).mono ?_); rintro e w' ⟨rfl, ⟨nd, rfl⟩⟩))
        go_ret
        exact ⟨hV_, hC_⟩
      rw [if_neg c79] at H
      have c79b0 : decide ((Int.tmod (IntKind.u64.wrap (a0)) 10) < 4) = false := decide_eq_false c79
      have c78x : (t555 == 2100) = false := by rw [c79b0] at c78b0; simpa using c78b0
      clear c79
      obtain rfl := Option.some.inj H
      obtain ⟨hcz91_0, hcz91_1, hcz91_2, hfz91_0, hfz91_1, hfz91_2⟩ := bx3_ BK532.out
      obtain ⟨Ao92, co92, eo92⟩ := Kd.N_slice HO_533000.out
      subst eo92
      go_wp2_with (first | ((with_reducible refine gate_callee (f := 17) rfl ?_); refine goesL_ (some 95) rfl rfl Tryd.func17 (by kernel_rfl) rfl #[.slice Ao92 x533000_6.length co92, .int .i64 x533001_6] rfl hL_ ?_; (with_reducible refine (session_New.calls kj6 _ _ x533000_6 x533001_6 t545 t548 t549 t552 _ ?side1 ?side2 A62.out (by first | exact hG | exact GOK.below hG hC_)).mono ?_); (case side1 => repeat (first | exact (Kd.N_reads' HO_533000.out).2.2 | (with_reducible refine Kd.C_alloc ?_ _) | (with_reducible refine Kd.C_drewN ?_ _) | (with_reducible refine Kd.C_drew ?_))); (case side2 => exact (Kd.N_reads' HO_533000.out).2.1); rintro e w93 ⟨v546, v550, rfl, ho0, ho1, hb⟩; refine ⟨_, rfl, ?_⟩; have n0_ := Aside0.mk (Kd.N_mono (Kd.N_told (Kd.N_told (Kd.N_old (hN_ HO_533000.out) hb) (Kd.N_base (Kd.R_N (Kd.S_R ho0)))) (Kd.R_base ho1)) (fun _ h_ => h_.1)); have n1_ := Aside0.mk (Kd.Q_elder' (by (with_reducible repeat (first | apply Kd.Q_alloc | apply Kd.Q_drewN | apply Kd.Q_drew)); exact HO_533002.out) (Kd.R_base ho1) hb); have n2_ := Aside0.mk (Kd.N_lower (Kd.N_mono (ok' := fun k_ => some k_ ≠ (v550 : Value).ownBlock ∧ some k_ ≠ (.slice Ao92 x533000_6.length co92 : Value).ownBlock ∧ some k_ ≠ (u533002 : Value).ownBlock ∧ k_ ≠ gb532) (Kd.S_N (Kd.S_bound (Kd.S_apart' ho0 (Kd.R_typed ho1) (by decide)))) (fun k_ hk_ => ⟨hk_.1.2, (Kd.fresh' (Kd.N_lt (hN_ HO_533000.out)) k_ hk_.2.1), (Kd.fresh' (Kd.Q_lt (by (with_reducible repeat (first | apply Kd.Q_alloc | apply Kd.Q_drewN | apply Kd.Q_drew)); exact HO_533002.out)) k_ hk_.2.1), (Kd.freshB (g := gb532) (o := .cells #[.slice Ao92 x533000_6.length co92, .int .i64 x533001_6, u533002] 29 (0, 0)) (hK_ BK532.out) k_ hk_.2.1)⟩)) (below_size hC_)); have n3_ := Aside0.mk (Kd.R_lower (Kd.R_new' ho1 (Kd.Q_lt (by (with_reducible repeat (first | apply Kd.Q_alloc | apply Kd.Q_drewN | apply Kd.Q_drew)); exact HO_533002.out))) (below_size hC_)); have n4_ := Aside0.mk (bB_ BK532.out hb); have n5_ := Aside0.mk (below_step hC_ hb); clear HO_533000 HO_533002 BK532 HB; have HO_533000 := n0_; have HO_533002 := n1_; have HO547 := n2_; have HO551 := n3_; have BK532 := n4_; have HB := n5_; clear n0_ n1_ n2_ n3_ n4_ n5_; (try clear hb); (try clear hb2); (try clear hk); (try clear hi); (try clear ho0); (try clear ho1)) | ((with_reducible refine gate_dst (N := 8) rfl ?_); refine boxE_ 8 #[.slice none 0 0, .int .i64 0, .slice none 0 0] 29 ?_; intro gb553 hg w94 hbox hb; have n0_ := Aside0.mk (Kd.N_below (Kd.N_elderB (hN_ HO_533000.out) gb553 (Nat.le_of_eq hg.symm)) hb); have n1_ := Aside0.mk (Kd.Q_below (by (with_reducible repeat (first | apply Kd.Q_alloc | apply Kd.Q_drewN | apply Kd.Q_drew)); exact HO_533002.out) hb); have n2_ := Aside0.mk (Kd.N_below (Kd.N_elderB (hN_ HO547.out) gb553 (Nat.le_of_eq hg.symm)) hb); have n3_ := Aside0.mk (Kd.R_below (hR_ HO551.out) hb); have n4_ := Aside0.mk (bB_ BK532.out hb); have n5_ := Aside0.mk (below_step hC_ hb); have n6_ := Aside0.mk (hbox); have n7_ := Aside0.mk ((gE_ hg : w.heap.size ≤ gb553)); have n8_ := Aside0.mk ((gE_ hg : w.heap.size ≤ gb553)); have n9_ := Aside0.mk ((bL_ BK532.out hg : gb532 ≠ gb553)); have n10_ := Aside0.mk ((bG_ BK532.out hg : gb553 ≠ gb532)); clear HO_533000 HO_533002 HO547 HO551 BK532 HB; have HO_533000 := n0_; have HO_533002 := n1_; have HO547 := n2_; have HO551 := n3_; have BK532 := n4_; have HB := n5_; have BK553 := n6_; have GW553 := n7_; have GE553 := n8_; have NB532_553 := n9_; have NB553_532 := n10_; clear n0_ n1_ n2_ n3_ n4_ n5_ n6_ n7_ n8_ n9_ n10_; clear hb hbox hg; obtain ⟨Ao95, co95, eo95⟩ := Kd.N_slice HO547.out; subst eo95; have hnb96 := NB553_532.out; have hnc96 := NB532_553.out; obtain ⟨hcz97_0, hcz97_1, hcz97_2, hfz97_0, hfz97_1, hfz97_2⟩ := bx3_ BK553.out; obtain ⟨Ao98, co98, eo98⟩ := Kd.R_slice HO551.out; subst eo98; obtain ⟨hcz99_0, hcz99_1, hcz99_2, hfz99_0, hfz99_1, hfz99_2⟩ := bx3_ BK532.out; obtain ⟨Ao100, co100, eo100, _⟩ := Kd.Q_slice HO_533002.out; subst eo100) | (go_at_call 16; (with_reducible refine (session_May.calls kj6 _ _ x533000_6 x533001_6 _ _ x533002_6 false _ ?side1 ?side2 ?side3 ?side4 A64.out (by first | exact hG | exact GOK.below hG hC_)).mono ?_); (case side1 => refine (Kd.N_reads' (e := 33) (base := w.heap.size) (ok := fun k_ => ((((some k_ ≠ (.slice Ao100 x533002_6.length co100 : Value).ownBlock ∧ k_ ≠ gb532) ∧ some k_ ≠ (.slice Ao95 t545.length co95 : Value).ownBlock) ∧ some k_ ≠ (.slice Ao98 t549.length co98 : Value).ownBlock) ∧ k_ ≠ gb553)) (n := x533000_6.length) (c := co92) ?_).2.2; exact (by (with_reducible repeat (first | apply Kd.N_alloc | apply Kd.N_drewN | apply Kd.N_drew)); exact (Kd.N_mono (nF_ (nF_ (nF_ (Kd.N_mono HO_533000.out (fun k_ hk => (⟨hk, hk.2⟩ : _ ∧ k_ ≠ gb553)))))) (fun _ h_ => h_.1)))); (case side2 => exact (Kd.N_reads' HO_533000.out).2.1); (case side3 => refine (Kd.Q_reads' (e := 26) (base := w.heap.size) (ok := fun k_ => (True ∧ some k_ ≠ (.slice Ao98 t549.length co98 : Value).ownBlock)) (n := x533002_6.length) (c := co100) ?_).2.2; exact (by (with_reducible repeat (first | apply Kd.Q_alloc | apply Kd.Q_drewN | apply Kd.Q_drew)); exact (Kd.Q_mono (Kd.Q_far (p := ⟨gb553, 2, none⟩) (Kd.Q_far (p := ⟨gb553, 1, none⟩) (Kd.Q_far (p := ⟨gb553, 0, none⟩) (Kd.Q_types HO_533002.out BK553.out (by decide)) (fun _ hk => hk.2) (.slice Ao95 t545.length co95)) (fun _ hk => hk.2) (.int .i64 t548)) (fun _ hk => hk.2) (.slice Ao98 t549.length co98)) (fun _ h_ => h_.1)))); (case side4 => exact (Kd.Q_reads' HO_533002.out).2.1); rintro e w101 ⟨rfl, hb⟩; have n0_ := Aside0.mk (Kd.N_below (by (with_reducible repeat (first | apply Kd.N_alloc | apply Kd.N_drewN | apply Kd.N_drew)); exact (Kd.N_mono (nF_ (nF_ (nF_ (Kd.N_mono HO_533000.out (fun k_ hk => (⟨hk, hk.2⟩ : _ ∧ k_ ≠ gb553)))))) (fun _ h_ => h_.1))) hb); have n1_ := Aside0.mk (Kd.Q_below (by (with_reducible repeat (first | apply Kd.Q_alloc | apply Kd.Q_drewN | apply Kd.Q_drew)); exact (Kd.Q_mono (Kd.Q_far (p := ⟨gb553, 2, none⟩) (Kd.Q_far (p := ⟨gb553, 1, none⟩) (Kd.Q_far (p := ⟨gb553, 0, none⟩) (Kd.Q_types HO_533002.out BK553.out (by decide)) (fun _ hk => hk.2) (.slice Ao95 t545.length co95)) (fun _ hk => hk.2) (.int .i64 t548)) (fun _ hk => hk.2) (.slice Ao98 t549.length co98)) (fun _ h_ => h_.1))) hb); have n2_ := Aside0.mk (Kd.N_below (by (with_reducible repeat (first | apply Kd.N_alloc | apply Kd.N_drewN | apply Kd.N_drew)); exact (Kd.N_mono (nF_ (nF_ (nF_ (Kd.N_mono HO547.out (fun k_ hk => (⟨hk, hk.2⟩ : _ ∧ k_ ≠ gb553)))))) (fun _ h_ => h_.1))) hb); have n3_ := Aside0.mk (Kd.R_below (by (with_reducible repeat (first | apply Kd.R_alloc | apply Kd.R_drewN | apply Kd.R_drew)); exact (Kd.R_mono (rF_ (rF_ (rF_ (Kd.R_types HO551.out BK553.out (by decide))))) (fun _ h_ => h_.1))) hb); have n4_ := Aside0.mk (blk_below (g := gb532) (o := .cells #[.slice Ao92 x533000_6.length co92, .int .i64 x533001_6, .slice Ao100 x533002_6.length co100] 29 (0, 0)) (bF_ (bF_ (bF_ (hK_ BK532.out) NB532_553.out) NB532_553.out) NB532_553.out) hb); have n5_ := Aside0.mk (blk_below (g := gb553) (o := .cells #[.slice Ao95 t545.length co95, .int .i64 t548, .slice Ao98 t549.length co98] 29 (0, 0)) (bP_ (bP_ (bP_ (hK_ BK553.out)))) hb); have n6_ := Aside0.mk (below_step hC_ hb); clear HO_533000 HO_533002 HO547 HO551 BK532 BK553 HB; have HO_533000 := n0_; have HO_533002 := n1_; have HO547 := n2_; have HO551 := n3_; have BK532 := n4_; have BK553 := n5_; have HB := n6_; clear n0_ n1_ n2_ n3_ n4_ n5_ n6_; (try clear hb); (try clear hb2); (try clear hk); (try clear hi)) | (go_at_call 11; (with_reducible refine (sleuthlaw0_Num.calls t552 t555 _ A77.out).mono ?_); rintro e w' ⟨rfl, ⟨nd, rfl⟩⟩))
      go_ret
      exact ⟨hV_, hC_⟩
end Go.Proofs.YtgokcaccamfgfaaDoor.G
