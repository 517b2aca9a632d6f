/- Unlike instructions that may be have unlike words; no condition. -/
import Derived.Test.YteidfegohdilbaaPAllx13
import Derived.Test.YteidfegohdilbaaMBack
namespace Go.Proofs.Yteidfegohdilbaa.Pure
open Go.RowKit Go.Proofs.Yteidfegohdilbaa.PAll Go.Proofs.YteidfegohdilbaaW.PrintWords Go.Proofs.YteidfegohdilbaaW.PrintLast Go.Proofs.Yteidfegohdilbaa.M
set_option linter.unusedVariables false
set_option linter.unusedSimpArgs false

def postbaglaw02_InstApart.Pure : Prop := ∀ (a0_0 : Int) (a0_1 : Int) (a0_2 : Int) (a0_3 : Int) (a0_4 : Int) (a0_5 : Bool) (a0_6 : Bool) (a1_0 : Int) (a1_1 : Int) (a1_2 : Int) (a1_3 : Int) (a1_4 : Int) (a1_5 : Bool) (a1_6 : Bool), (Lit.int .i64 a0_0).wf = true → (Lit.int .i64 a0_1).wf = true → (Lit.int .i64 a0_2).wf = true → (Lit.int .i64 a0_3).wf = true → (Lit.int .i64 a0_4).wf = true → (Lit.int .i64 a1_0).wf = true → (Lit.int .i64 a1_1).wf = true → (Lit.int .i64 a1_2).wf = true → (Lit.int .i64 a1_3).wf = true → (Lit.int .i64 a1_4).wf = true → postbaglaw02_InstApart.f a0_0 a0_1 a0_2 a0_3 a0_4 a0_5 a0_6 a1_0 a1_1 a1_2 a1_3 a1_4 a1_5 a1_6 = some true
theorem lives_yes : postbaglaw02_lives.f = some true := by
  unfold postbaglaw02_lives.f inst_Encode.f inst_Decode.f
  rw [if_pos (by decide), if_pos (by decide +kernel), if_pos (by decide)]
  have e0 : decOp 115 = 51 := by decide +kernel
  have e1 : decRd 51 115 = 0 := by decide +kernel
  have e2 : decRs1 51 115 = 0 := by decide +kernel
  have e3 : decRs2 51 115 = 0 := by decide +kernel
  have e4 : decImm (formOf 51) 115 = 0 := by decide +kernel
  have e5 : decAq 51 115 = false := by decide +kernel
  have e6 : decRl 51 115 = false := by decide +kernel
  have e : decTup 115 (decOp 115) = (51, 0, 0, 0, 0, false, false, 0) := by
    rw [e0, decTup, if_neg (by decide), e1, e2, e3, e4, e5, e6]
  rw [e]
  have e7 : encOf 22 1 2 0 (-1) false false = 4293984403 := by decide +kernel
  rw [e7]
  decide
theorem InstApart : postbaglaw02_InstApart.Pure := by
  intro a0_0 a0_1 a0_2 a0_3 a0_4 a0_5 a0_6 a1_0 a1_1 a1_2 a1_3 a1_4 a1_5 a1_6 w00 w01 w02 w03 w04 w10 w11 w12 w13 w14
  have hI := I64.of_wf w04
  have hJ := I64.of_wf w14
  unfold postbaglaw02_InstApart.f
  simp only [inst_Encode.f, if_pos hI, if_pos hJ, lives_yes]
  by_cases hg : goodOf a0_0 a0_1 a0_2 a0_3 a0_4 a0_5 a0_6 = true
  · by_cases hh : goodOf a1_0 a1_1 a1_2 a1_3 a1_4 a1_5 a1_6 = true
    · simp only [if_pos hg, if_pos hh, Option.bind_some, if_true]
      have e1 := dec_enc _ _ _ _ _ _ _ hg
      have e2 := dec_enc _ _ _ _ _ _ _ hh
      by_cases e : encOf a0_0 a0_1 a0_2 a0_3 a0_4 a0_5 a0_6 = encOf a1_0 a1_1 a1_2 a1_3 a1_4 a1_5 a1_6
      · rw [e, e2] at e1
        simp only [Prod.mk.injEq] at e1
        obtain ⟨h1, h2, h3, h4, h5, h6, h7, -⟩ := e1
        subst h1 h2 h3 h4 h5 h6 h7
        simp
      · have ne : (encOf a0_0 a0_1 a0_2 a0_3 a0_4 a0_5 a0_6 == encOf a1_0 a1_1 a1_2 a1_3 a1_4 a1_5 a1_6) = false := beq_eq_false_iff_ne.2 e
        have nf : (a0_0 == a1_0 && (a0_1 == a1_1 && (a0_2 == a1_2 && (a0_3 == a1_3 && (a0_4 == a1_4 && (a0_5 == a1_5 && (a0_6 == a1_6))))))) = false := by
          cases h : (a0_0 == a1_0 && (a0_1 == a1_1 && (a0_2 == a1_2 && (a0_3 == a1_3 && (a0_4 == a1_4 && (a0_5 == a1_5 && (a0_6 == a1_6)))))))
          · rfl
          · simp only [Bool.and_eq_true, beq_iff_eq] at h
            obtain ⟨h1, h2, h3, h4, h5, h6, h7⟩ := h
            subst h1 h2 h3 h4 h5 h6 h7
            exact absurd rfl e
        rw [ne, nf]; simp
    · simp [hg, hh]
  · by_cases hh : goodOf a1_0 a1_1 a1_2 a1_3 a1_4 a1_5 a1_6 = true <;> simp [hg, hh]
end Go.Proofs.Yteidfegohdilbaa.Pure
