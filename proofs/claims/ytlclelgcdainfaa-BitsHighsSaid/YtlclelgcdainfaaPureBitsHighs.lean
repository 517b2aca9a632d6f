/- The plain functions beside the two Go functions for the higher half of a product agree at all numbers; no condition. -/
import Derived.Test.YtlclelgcdainfaaPAllx2
namespace Go.Proofs.Ytlclelgcdainfaa.Pure
open Go.RowKit Go.Proofs.Ytlclelgcdainfaa.PAll Go.Proofs.YtlclelgcdainfaaW.PrintWords Go.Proofs.YtlclelgcdainfaaW.PrintLast Go.Proofs.Ytlclelgcdainfaa.M
set_option linter.unusedVariables false
set_option linter.unusedSimpArgs false

theorem BitsHighs : postbaglaw01_BitsHighs.Pure := by
  intro a0 a1 a2 a3 h0 h1
  unfold postbaglaw01_BitsHighs.f bits_High.f postbagref01_High.f postbaglaw01_lives.f
  rw [if_pos ⟨U64.of_wf h0, U64.of_wf h1⟩]
  simp
end Go.Proofs.Ytlclelgcdainfaa.Pure
