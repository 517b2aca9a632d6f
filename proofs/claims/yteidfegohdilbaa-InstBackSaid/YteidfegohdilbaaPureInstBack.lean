/- An instruction that may be comes back from its word; no condition. -/
import Derived.Test.YteidfegohdilbaaPAllx13
import Derived.Test.YteidfegohdilbaaMBack
namespace Go.Proofs.Yteidfegohdilbaa.Pure
open Go.RowKit Go.Proofs.Yteidfegohdilbaa.PAll Go.Proofs.YteidfegohdilbaaW.PrintWords Go.Proofs.YteidfegohdilbaaW.PrintLast Go.Proofs.Yteidfegohdilbaa.M
set_option linter.unusedVariables false
set_option linter.unusedSimpArgs false

def postbaglaw02_InstBack.Pure : Prop := ∀ (a0_0 : Int) (a0_1 : Int) (a0_2 : Int) (a0_3 : Int) (a0_4 : Int) (a0_5 : Bool) (a0_6 : Bool), (Lit.int .i64 a0_0).wf = true → (Lit.int .i64 a0_1).wf = true → (Lit.int .i64 a0_2).wf = true → (Lit.int .i64 a0_3).wf = true → (Lit.int .i64 a0_4).wf = true → postbaglaw02_InstBack.f a0_0 a0_1 a0_2 a0_3 a0_4 a0_5 a0_6 = some true
theorem lives_yes : postbaglaw02_lives.f = some true := by
  unfold postbaglaw02_lives.f inst_Encode.f inst_Decode.f
  rw [if_pos (by decide), if_pos (by decide +kernel), if_pos (by decide)]
  have e0 : decOp 115 = 51 := by decide +kernel
  have e1 : decRd 51 115 = 0 := by decide +kernel
  have e2 : decRs1 51 115 = 0 := by decide +kernel
  have e3 : decRs2 51 115 = 0 := by decide +kernel
  have e4 : decImm (formOf 51) 115 = 0 := by decide +kernel
  have e5 : decAq 51 115 = false := by decide +kernel
  have e6 : decRl 51 115 = false := by decide +kernel
  have e : decTup 115 (decOp 115) = (51, 0, 0, 0, 0, false, false, 0) := by
    rw [e0, decTup, if_neg (by decide), e1, e2, e3, e4, e5, e6]
  rw [e]
  have e7 : encOf 22 1 2 0 (-1) false false = 4293984403 := by decide +kernel
  rw [e7]
  decide
theorem InstBack : postbaglaw02_InstBack.Pure := by
  intro a0_0 a0_1 a0_2 a0_3 a0_4 a0_5 a0_6 w0 w1 w2 w3 w4
  have hI := I64.of_wf w4
  unfold postbaglaw02_InstBack.f
  simp only [inst_Encode.f, inst_Good.f, if_pos hI, lives_yes]
  by_cases hg : goodOf a0_0 a0_1 a0_2 a0_3 a0_4 a0_5 a0_6 = true
  · have S := (back _ _ _ _ _ _ _ hg).1
    simp only [if_pos hg, Option.bind_some, if_true, inst_Decode.f]
    rw [if_pos ⟨S.lo, S.hi⟩]
    simp only [Option.bind_some, dec_enc _ _ _ _ _ _ _ hg]
    simp
  · simp [hg]
end Go.Proofs.Yteidfegohdilbaa.Pure
