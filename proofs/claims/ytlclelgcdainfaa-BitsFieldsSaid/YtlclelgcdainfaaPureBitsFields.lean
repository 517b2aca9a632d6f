/- The plain functions beside the two Go functions for fields, and for places, agree at all numbers; no condition. -/
import Derived.Test.YtlclelgcdainfaaPAllx4
namespace Go.Proofs.Ytlclelgcdainfaa.Pure
open Go.RowKit Go.Proofs.Ytlclelgcdainfaa.PAll Go.Proofs.YtlclelgcdainfaaW.PrintWords Go.Proofs.YtlclelgcdainfaaW.PrintLast Go.Proofs.Ytlclelgcdainfaa.M
set_option linter.unusedVariables false
set_option linter.unusedSimpArgs false

theorem BitsFields : postbaglaw01_BitsFields.Pure := by
  intro a0 a1 a2 a3 h0 h1 h2 h3
  unfold postbaglaw01_BitsFields.f bits_Field.f postbagref01_Field.f bits_Place.f postbagref01_Place.f postbaglaw01_lives.f
  rw [if_pos (U64.of_wf h0), if_pos ⟨U64.of_wf h0, U64.of_wf h3⟩]
  simp
end Go.Proofs.Ytlclelgcdainfaa.Pure
