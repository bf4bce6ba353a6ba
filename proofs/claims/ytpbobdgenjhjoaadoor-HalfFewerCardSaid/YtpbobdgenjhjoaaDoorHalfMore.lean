/- What is known of the nodes in doubt. -/
import Derived.Test.YtpbobdgenjhjoaaDoorHalfWake
namespace Go.Proofs.YtpbobdgenjhjoaaDoor.G
open Go.RowKit Go.Proofs.YtpbobdgenjhjoaaDoorW.PrintWords Go.Proofs.YtpbobdgenjhjoaaDoorW.PrintLast Go.Proofs.YtpbobdgenjhjoaaDoorW.PrintMore
set_option linter.unusedVariables false
set_option linter.unusedSimpArgs false
theorem lastM_spec (ms : List Int) (h0 : rd ms 0 = 2) : ∀ n : Nat, 0 < n → rd ms (lastM ms n) = 2 ∧ ∀ j : Nat, lastM ms n < (j : Int) → j < n → rd ms (j : Int) ≠ 2
  | 0, h => absurd h (by omega)
  | n + 1, _ => by
    rw [lastM]
    by_cases c : rd ms (n : Int) = 2
    · rw [if_pos c]
      exact ⟨c, fun j h1 h2 => by omega⟩
    · rw [if_neg c]
      rcases Nat.eq_zero_or_pos n with d | d
      · subst d; exact absurd h0 c
      · obtain ⟨h1, h2⟩ := lastM_spec ms h0 n d
        refine ⟨h1, fun j h3 h4 => ?_⟩
        by_cases e : j = n
        · subst e; exact c
        · exact h2 j h3 (by omega)
theorem bestH_spec (sz : List Int) (d : List Bool) (ms : List Int) (m : Int) : ∀ n : Nat, 0 ≤ bestH sz d ms m n → openB d ms (bestH sz d ms m n) = true
  | 0, h => absurd h (by show ¬ (0 : Int) ≤ -1; omega)
  | n + 1, h => by
    rw [bestH] at h ⊢
    by_cases c : openB d ms (n : Int) = true ∧ (bestH sz d ms m n < 0 ∨ offW (rd sz (n : Int)) m < offW (rd sz (bestH sz d ms m n)) m)
    · rw [if_pos c]; exact c.1
    · rw [if_neg c] at h ⊢
      exact bestH_spec sz d ms m n h
theorem rdOf_set (l : List Bool) (i j : Nat) (v : Bool) : rdOf false (l.set i v) (j : Int) = if j = i ∧ i < l.length then v else rdOf false l (j : Int) := by
  show List.getD _ _ _ = if _ then _ else List.getD _ _ _
  rw [Int.toNat_natCast, List.getD_eq_getElem?_getD, List.getD_eq_getElem?_getD, List.getElem?_set]
  by_cases c : i = j
  · subst c
    by_cases d : i < l.length
    · rw [if_pos rfl, if_pos d, if_pos ⟨rfl, d⟩]; rfl
    · rw [if_pos rfl, if_neg d, if_neg (fun h => d h.2), List.getElem?_eq_none (by omega)]
  · rw [if_neg c, if_neg (fun h => c h.1.symm)]
theorem rdOf_rep (n : Nat) (j : Int) : rdOf false (List.replicate n false) j = false := by
  show List.getD _ _ _ = _
  rw [List.getD_eq_getElem?_getD, List.getElem?_replicate]
  split <;> rfl
theorem dbt_spec {ns : List Nd} (hm : mayT ns = true) (ms : List Int) (w : Nat) : ∀ n : Nat, n ≤ ns.length → ∀ j : Nat, rdOf false (dbt ns ms w n) (j : Int) = true → w < j ∧ j < n ∧ rd ms (j : Int) ≠ 1 ∧ (pa ns j = (w : Int) ∨ (0 ≤ pa ns j ∧ rdOf false (dbt ns ms w n) (pa ns j) = true))
  | 0, _, j, h => by rw [dbt, rdOf_rep] at h; cases h
  | n + 1, hn, j, h => by
    rw [dbt] at h
    by_cases c : n ≤ w
    · rw [if_pos c, dbt_low ns ms w n (by omega), rdOf_rep] at h; cases h
    · rw [if_neg c, rdOf_set] at h
      have hp := mayT_pa hm n (by omega)
      by_cases e : j = n ∧ n < (dbt ns ms w n).length
      · rw [if_pos e] at h
        obtain ⟨rfl, he⟩ := e
        rw [Bool.and_eq_true, Bool.or_eq_true, decide_eq_true_iff, bne_iff_ne] at h
        refine ⟨by omega, by omega, h.2, h.1.elim .inl fun hh => .inr ⟨by omega, ?_⟩⟩
        obtain ⟨p, hpp⟩ : ∃ p : Nat, pa ns j = (p : Int) := ⟨(pa ns j).toNat, by omega⟩
        rw [dbt, if_neg c, hpp, rdOf_set, if_neg (by omega), ← hpp]
        exact hh
      · rw [if_neg e] at h
        obtain ⟨h1, h2, h3, h4⟩ := dbt_spec hm ms w n (by omega) j h
        refine ⟨h1, by omega, h3, h4.elim .inl fun hh => .inr ⟨hh.1, ?_⟩⟩
        have hpj := mayT_pa hm j (by omega)
        obtain ⟨p, hpp⟩ : ∃ p : Nat, pa ns j = (p : Int) := ⟨(pa ns j).toNat, by omega⟩
        rw [dbt, if_neg c, hpp, rdOf_set, if_neg (by omega), ← hpp]
        exact hh.2
end Go.Proofs.YtpbobdgenjhjoaaDoor.G
