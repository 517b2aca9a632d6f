/- Any word is the instruction that the document says, or none; no condition. -/
import Derived.Test.YteidfegohdilbaaPAllx12
namespace Go.Proofs.Yteidfegohdilbaa.Pure
open Go.RowKit Go.Proofs.Yteidfegohdilbaa.PAll Go.Proofs.YteidfegohdilbaaW.PrintWords Go.Proofs.YteidfegohdilbaaW.PrintLast Go.Proofs.Yteidfegohdilbaa.M
set_option linter.unusedVariables false
set_option linter.unusedSimpArgs false

theorem u32_of_wf {a : Int} (h : (Lit.int .u32 a).wf = true) : 0 ≤ a ∧ a < 4294967296 := by
  simp only [Lit.wf, Bool.and_eq_true, decide_eq_true_eq, IntKind.min, IntKind.max, IntKind.signed, IntKind.bits] at h
  simp at h
  omega
theorem lives_yes : postbaglaw02_lives.f = some true := by
  unfold postbaglaw02_lives.f inst_Encode.f inst_Decode.f
  rw [if_pos (by decide), if_pos (by decide +kernel), if_pos (by decide)]
  have e0 : decOp 115 = 51 := by decide +kernel
  have e1 : decRd 51 115 = 0 := by decide +kernel
  have e2 : decRs1 51 115 = 0 := by decide +kernel
  have e3 : decRs2 51 115 = 0 := by decide +kernel
  have e4 : decImm (formOf 51) 115 = 0 := by decide +kernel
  have e5 : decAq 51 115 = false := by decide +kernel
  have e6 : decRl 51 115 = false := by decide +kernel
  have e : decTup 115 (decOp 115) = (51, 0, 0, 0, 0, false, false, 0) := by
    rw [e0, decTup, if_neg (by decide), e1, e2, e3, e4, e5, e6]
  rw [e]
  have e7 : encOf 22 1 2 0 (-1) false false = 4293984403 := by decide +kernel
  rw [e7]
  decide
theorem InstDecodes : postbaglaw02_InstDecodes.Pure := by
  intro a0 w0
  have hU := u32_of_wf w0
  unfold postbaglaw02_InstDecodes.f
  simp only [inst_Decode.f, postbagref02_Decode.f, if_pos hU, lives_yes, Option.bind_some, beq_self_eq_true, Bool.and_self, if_true]
end Go.Proofs.Yteidfegohdilbaa.Pure
