/- The law Lexes, as a plain statement about what the program and the document compute. -/
import Derived.Test.YtljlmkbcichlpaaDoorLexWake
import Derived.Test.YtljlmkbcichlpaaDoorG6
namespace Go.Proofs.YtljlmkbcichlpaaDoor.G
open Go.RowKit Go.Proofs.YtljlmkbcichlpaaDoorW.PrintWords Go.Proofs.YtljlmkbcichlpaaDoorW.PrintLast Go.Proofs.YtljlmkbcichlpaaDoorW.PrintMore
set_option linter.unusedVariables false
set_option linter.unusedSimpArgs false
theorem lexes_pure (a0 : ByteArray) (h0 : a0.size ≤ 140737488351232) : ∃ k, sleuthlaw4_Lexes.f k a0 = some true := by
  refine Ev.rounds (g := fun k => sleuthlaw4_Lexes.f k a0) ?_
  have hl := answer_len a0
  have hz := answer_size a0
  unfold sleuthlaw4_Lexes.f
  simp only [words_answer, Option.bind_some]
  refine Ev.bind (refWords_ev a0) ?_
  generalize answer a0 (okS a0) = A at hl hz
  refine Ev.bind (sameTexts_ev _ (by omega)) ?_
  obtain ⟨r, hr⟩ := spoilTexts_ev A.1 (by omega) (fun s hs => by have := hz s hs; omega)
  simp only [if_pos, sleuthlaw0_Num.f, Option.bind_some]
  refine Ev.step (f := fun k => (sleuthlaw0_SpoilTexts.f k A.1).bind fun _ => (sleuthlaw4_awake.f k).bind fun t136 => some t136) (fun k => ?_) (Ev.bind hr (Ev.bind awake_ev (Ev.now _)))
  rw [sleuthlaw4_Lexes.j0, if_neg (by simp)]
end Go.Proofs.YtljlmkbcichlpaaDoor.G
