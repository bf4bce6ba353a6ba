/- The children of a node: which they are, and in which order they stand. -/
import Derived.Test.YtjodjfbhaojhjaaDoorU9
namespace Go.Proofs.YtjodjfbhaojhjaaDoor.G
open Go.RowKit Go.Proofs.YtjodjfbhaojhjaaDoorW.PrintWords Go.Proofs.YtjodjfbhaojhjaaDoorW.PrintLast Go.Proofs.YtjodjfbhaojhjaaDoorW.PrintMore
set_option linter.unusedVariables false
set_option linter.unusedSimpArgs false
theorem kidsTo_mem (ns : List Nd) (a : Int) (x : Int) : ∀ n : Nat, x ∈ kidsTo ns a n ↔ ∃ j : Nat, j < n ∧ x = (j : Int) ∧ a < (j : Int) ∧ pa ns j = a
  | 0 => by rw [kidsTo]; simp
  | n + 1 => by
    rw [kidsTo]
    by_cases c : a < (n : Int) ∧ (rn ns (n : Int)).f1 = a
    · rw [if_pos c, List.mem_append, List.mem_singleton, kidsTo_mem ns a x n]
      constructor
      · rintro (⟨j, h1, h2, h3⟩ | h)
        · exact ⟨j, by omega, h2, h3⟩
        · exact ⟨n, by omega, h, c.1, c.2⟩
      · rintro ⟨j, h1, h2, h3, h4⟩
        rcases Nat.lt_or_ge j n with d | d
        · exact .inl ⟨j, d, h2, h3, h4⟩
        · obtain rfl : j = n := by omega
          exact .inr h2
    · rw [if_neg c, kidsTo_mem ns a x n]
      constructor
      · rintro ⟨j, h1, h2, h3⟩
        exact ⟨j, by omega, h2, h3⟩
      · rintro ⟨j, h1, h2, h3, h4⟩
        rcases Nat.lt_or_ge j n with d | d
        · exact ⟨j, d, h2, h3, h4⟩
        · obtain rfl : j = n := by omega
          exact absurd ⟨h3, h4⟩ c
theorem kidsTo_lt (ns : List Nd) (a : Int) : ∀ n : Nat, (kidsTo ns a n).Pairwise (· < ·)
  | 0 => by rw [kidsTo]; exact List.Pairwise.nil
  | n + 1 => by
    rw [kidsTo]
    split
    · rw [List.pairwise_append]
      refine ⟨kidsTo_lt ns a n, List.pairwise_singleton _ _, fun x hx y hy => ?_⟩
      obtain ⟨j, h1, h2, _⟩ := (kidsTo_mem ns a x n).1 hx
      rw [List.mem_singleton] at hy
      omega
    · exact kidsTo_lt ns a n
theorem sum_one_at (p : Nat) : ∀ n : Nat, sumTo (fun j => if j = p then (1 : Int) else 0) n = if p < n then 1 else 0
  | 0 => by rw [sumTo]; simp
  | n + 1 => by
    rw [sumTo, sum_one_at p n]
    by_cases c : p < n
    · rw [if_pos c, if_neg (by omega), if_pos (by omega)]; rfl
    · by_cases d : n = p
      · rw [if_neg c, if_pos d, if_pos (by omega)]; rfl
      · rw [if_neg c, if_neg d, if_neg (by omega)]; rfl
end Go.Proofs.YtjodjfbhaojhjaaDoor.G
