/- What any operation loads and stores, and which registers any instruction reads and writes, is as the document says; no condition. -/
import Derived.Test.YteidfegohdilbaaPInstTellsx13
namespace Go.Proofs.Yteidfegohdilbaa.Pure
open Go.RowKit Go.Proofs.Yteidfegohdilbaa.PInstTells Go.Proofs.YteidfegohdilbaaW.PrintWords Go.Proofs.YteidfegohdilbaaW.PrintLast Go.Proofs.Yteidfegohdilbaa.M
set_option linter.unusedVariables false
set_option linter.unusedSimpArgs false

def postbaglaw02_InstTells.Pure : Prop := ∀ (a0 : Int) (a1_0 : Int) (a1_1 : Int) (a1_2 : Int) (a1_3 : Int) (a1_4 : Int) (a1_5 : Bool) (a1_6 : Bool), (Lit.int .i64 a0).wf = true → (Lit.int .i64 a1_0).wf = true → (Lit.int .i64 a1_1).wf = true → (Lit.int .i64 a1_2).wf = true → (Lit.int .i64 a1_3).wf = true → (Lit.int .i64 a1_4).wf = true → ∃ k, postbaglaw02_InstTells.f k a0 a1_0 a1_1 a1_2 a1_3 a1_4 a1_5 a1_6 = some true
theorem lives_yes : postbaglaw02_lives.f = some true := by
  unfold postbaglaw02_lives.f inst_Encode.f inst_Decode.f
  rw [if_pos (by decide), if_pos (by decide +kernel), if_pos (by decide)]
  have e0 : decOp 115 = 51 := by decide +kernel
  have e1 : decRd 51 115 = 0 := by decide +kernel
  have e2 : decRs1 51 115 = 0 := by decide +kernel
  have e3 : decRs2 51 115 = 0 := by decide +kernel
  have e4 : decImm (formOf 51) 115 = 0 := by decide +kernel
  have e5 : decAq 51 115 = false := by decide +kernel
  have e6 : decRl 51 115 = false := by decide +kernel
  have e : decTup 115 (decOp 115) = (51, 0, 0, 0, 0, false, false, 0) := by
    rw [e0, decTup, if_neg (by decide), e1, e2, e3, e4, e5, e6]
  rw [e]
  have e7 : encOf 22 1 2 0 (-1) false false = 4293984403 := by decide +kernel
  rw [e7]
  decide
theorem ints_same (l : List Int) (h : l.length ≤ 2) : postbagref02_Ints.f 5 l l = some true := by
  match l, h with
  | [], _ => simp [postbagref02_Ints.f, postbagref02_Ints.l0]
  | [a], _ => simp [postbagref02_Ints.f, postbagref02_Ints.l0, wrap64]
  | [a, b], _ => simp [postbagref02_Ints.f, postbagref02_Ints.l0, wrap64]
theorem InstTells : postbaglaw02_InstTells.Pure := by
  intro a0 a1_0 a1_1 a1_2 a1_3 a1_4 a1_5 a1_6 w0 w1 w2 w3 w4 w5
  have hI := I64.of_wf w5
  refine ⟨5, ?_⟩
  unfold postbaglaw02_InstTells.f
  simp only [inst_Loads.f, postbagref02_Loads.f, inst_Stores.f, postbagref02_Stores.f, inst_Atomic.f, postbagref02_Atomic.f, inst_Size.f, postbagref02_Size.f, inst_Uses.f, postbagref02_Uses.f, inst_Sets.f, postbagref02_Sets.f, inst_Good.f, postbagref02_Good.f, if_pos hI, Option.bind_some, lives_yes]
  have hl : (usesOf a1_0 a1_1 a1_2 a1_3 a1_4 a1_5 a1_6).length ≤ 2 := by
    unfold usesOf
    repeat' split
    all_goals simp
  have e := ints_same _ hl
  unfold usesOf at e ⊢
  rw [e]
  simp only [loadsB, storesB, atomicB, PInstTells.sizeOf, beq_self_eq_true, if_true, Option.bind_some]
  by_cases hg : goodOf a1_0 a1_1 a1_2 a1_3 a1_4 a1_5 a1_6 = true <;> simp [hg]
end Go.Proofs.Yteidfegohdilbaa.Pure
