/- The plain functions beside the two Go functions for quotients, and for remainders, agree at all numbers; no condition. -/
import Derived.Test.YtlclelgcdainfaaPAllx5
namespace Go.Proofs.Ytlclelgcdainfaa.Pure
open Go.RowKit Go.Proofs.Ytlclelgcdainfaa.PAll Go.Proofs.YtlclelgcdainfaaW.PrintWords Go.Proofs.YtlclelgcdainfaaW.PrintLast Go.Proofs.Ytlclelgcdainfaa.M
set_option linter.unusedVariables false
set_option linter.unusedSimpArgs false

theorem BitsDivides : postbaglaw01_BitsDivides.Pure := by
  intro a0 a1 a2 h0 h1
  unfold postbaglaw01_BitsDivides.f bits_Quo.f postbagref01_Quo.f bits_Rem.f postbagref01_Rem.f postbaglaw01_lives.f
  rw [if_pos ⟨U64.of_wf h0, U64.of_wf h1⟩, if_pos ⟨U64.of_wf h0, U64.of_wf h1⟩]
  simp
end Go.Proofs.Ytlclelgcdainfaa.Pure
