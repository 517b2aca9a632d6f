/- The plain functions beside the two Go functions for signs, and for room, agree at all numbers; no condition. -/
import Derived.Test.YtlclelgcdainfaaPAllx3
namespace Go.Proofs.Ytlclelgcdainfaa.Pure
open Go.RowKit Go.Proofs.Ytlclelgcdainfaa.PAll Go.Proofs.YtlclelgcdainfaaW.PrintWords Go.Proofs.YtlclelgcdainfaaW.PrintLast Go.Proofs.Ytlclelgcdainfaa.M
set_option linter.unusedVariables false
set_option linter.unusedSimpArgs false

theorem BitsSigns : postbaglaw01_BitsSigns.Pure := by
  intro a0 a1 h0 h1
  unfold postbaglaw01_BitsSigns.f bits_Sign.f postbagref01_Sign.f bits_Fits.f postbagref01_Fits.f postbaglaw01_lives.f
  rw [if_pos (U64.of_wf h0), if_pos (I64.wrap _)]
  simp
end Go.Proofs.Ytlclelgcdainfaa.Pure
