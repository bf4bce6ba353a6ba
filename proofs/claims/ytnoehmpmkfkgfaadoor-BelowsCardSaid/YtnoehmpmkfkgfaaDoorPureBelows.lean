import Derived.Test.YtnoehmpmkfkgfaaDoorG17
namespace Go.Proofs.YtnoehmpmkfkgfaaDoor.Pure
open Go.RowKit Go.Proofs.YtnoehmpmkfkgfaaDoor.G Go.Proofs.YtnoehmpmkfkgfaaDoorW.PrintWords Go.Proofs.YtnoehmpmkfkgfaaDoorW.PrintLast

/-- YOURS: ∀ (a0 : ByteArray) (a1 : ByteArray), a0.size ≤ 140737488351232 → a1.size ≤ 140737488351232 → ∃ k, sleuthlaw3_Belows.f k a0 a1 = some true
What it reaches (each with k first where it has rounds; `.mono`: more rounds tell the same; `.l0`, ..: its loops, with `.mono_l`): strings_IndexAny.f, term_word.f, term_Number.f, strings_CutPrefix.f, term_Digits.f, term_Tag.f, strings_HasPrefix.f, term_cut.f, term_May.f, term_Cut.f, below_under.f, below_Is.f, sleuthref1_bad.f, sleuthref1_digits.f, sleuthref1_parts.f, sleuthref1_upTo.f, sleuthref1_NumMay.f, sleuthref1_term.f, sleuthref1_Cut.f, sleuthref1_TermMay.f, sleuthref1_less.f, sleuthref1_Below.f, sleuthlaw0_Num.f, sleuthlaw3_awake.f, sleuthlaw3_Belows.f -/
theorem Belows : sleuthlaw3_Belows.Pure := by
  sorry

end Go.Proofs.YtnoehmpmkfkgfaaDoor.Pure
