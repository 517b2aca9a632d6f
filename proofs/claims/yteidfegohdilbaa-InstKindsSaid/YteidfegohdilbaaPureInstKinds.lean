/- What loads or stores has a size, and nothing else has; atomic ones are of 4 or 8 bytes; registers that are read or written are from 1 to 31; no condition. -/
import Derived.Test.YteidfegohdilbaaPInstKindsx9
namespace Go.Proofs.Yteidfegohdilbaa.Pure
open Go.RowKit Go.Proofs.Yteidfegohdilbaa.PInstKinds Go.Proofs.YteidfegohdilbaaW.PrintWords Go.Proofs.YteidfegohdilbaaW.PrintLast Go.Proofs.Yteidfegohdilbaa.M
set_option linter.unusedVariables false
set_option linter.unusedSimpArgs false

def postbaglaw02_InstKinds.Pure : Prop := ∀ (a0_0 : Int) (a0_1 : Int) (a0_2 : Int) (a0_3 : Int) (a0_4 : Int) (a0_5 : Bool) (a0_6 : Bool), (Lit.int .i64 a0_0).wf = true → (Lit.int .i64 a0_1).wf = true → (Lit.int .i64 a0_2).wf = true → (Lit.int .i64 a0_3).wf = true → (Lit.int .i64 a0_4).wf = true → ∃ k, postbaglaw02_InstKinds.f k a0_0 a0_1 a0_2 a0_3 a0_4 a0_5 a0_6 = some true
theorem lives_yes : postbaglaw02_lives.f = some true := by
  unfold postbaglaw02_lives.f inst_Encode.f inst_Decode.f
  rw [if_pos (by decide), if_pos (by decide +kernel), if_pos (by decide)]
  have e0 : decOp 115 = 51 := by decide +kernel
  have e1 : decRd 51 115 = 0 := by decide +kernel
  have e2 : decRs1 51 115 = 0 := by decide +kernel
  have e3 : decRs2 51 115 = 0 := by decide +kernel
  have e4 : decImm (formOf 51) 115 = 0 := by decide +kernel
  have e5 : decAq 51 115 = false := by decide +kernel
  have e6 : decRl 51 115 = false := by decide +kernel
  have e : decTup 115 (decOp 115) = (51, 0, 0, 0, 0, false, false, 0) := by
    rw [e0, decTup, if_neg (by decide), e1, e2, e3, e4, e5, e6]
  rw [e]
  have e7 : encOf 22 1 2 0 (-1) false false = 4293984403 := by decide +kernel
  rw [e7]
  decide
theorem kinds_run (a0_0 a0_1 a0_2 a0_3 a0_4 : Int) (a0_5 a0_6 : Bool) (hI : I64 a0_4) (l : List Int) (hl : l.length ≤ 3) (hr : ∀ x ∈ l, 1 ≤ x ∧ x ≤ 31)
    (ht : (inst_Good.f a0_0 a0_1 a0_2 a0_3 a0_4 a0_5 a0_6 = some true) ∨ (inst_Uses.f a0_0 a0_1 a0_2 a0_3 a0_4 a0_5 a0_6 = some [] ∧ inst_Sets.f a0_0 a0_1 a0_2 a0_3 a0_4 a0_5 a0_6 = some 0 ∧ inst_Good.f a0_0 a0_1 a0_2 a0_3 a0_4 a0_5 a0_6 = some false)) :
    postbaglaw02_InstKinds.l0 5 l (l.length : Int) 0 a0_0 a0_1 a0_2 a0_3 a0_4 a0_5 a0_6 = some true := by
  match l, hl with
  | [], _ => rcases ht with h | ⟨h1, h2, h3⟩ <;> simp [postbaglaw02_InstKinds.l0, lives_yes, *]
  | [a], _ =>
    have := hr a (by simp)
    have r0 : rd [a] 0 = a := rfl
    rcases ht with h | ⟨h1, h2, h3⟩ <;> simp [postbaglaw02_InstKinds.l0, lives_yes, wrap64, show ¬ (a < 1) by omega, show ¬ (31 < a) by omega, *]
  | [a, b], _ =>
    have r0 : rd [a, b] 0 = a := rfl
    have r1 : rd [a, b] 1 = b := rfl
    have := hr a (by simp)
    have := hr b (by simp)
    rcases ht with h | ⟨h1, h2, h3⟩ <;> simp [postbaglaw02_InstKinds.l0, lives_yes, wrap64, show ¬ (a < 1) by omega, show ¬ (31 < a) by omega, show ¬ (b < 1) by omega, show ¬ (31 < b) by omega, *]
  | [a, b, c], _ =>
    have r0 : rd [a, b, c] 0 = a := rfl
    have r1 : rd [a, b, c] 1 = b := rfl
    have r2 : rd [a, b, c] 2 = c := rfl
    have := hr a (by simp)
    have := hr b (by simp)
    have := hr c (by simp)
    rcases ht with h | ⟨h1, h2, h3⟩ <;> simp [postbaglaw02_InstKinds.l0, lives_yes, wrap64, show ¬ (a < 1) by omega, show ¬ (31 < a) by omega, show ¬ (b < 1) by omega, show ¬ (31 < b) by omega, show ¬ (c < 1) by omega, show ¬ (31 < c) by omega, *]
theorem InstKinds : postbaglaw02_InstKinds.Pure := by
  intro a0_0 a0_1 a0_2 a0_3 a0_4 a0_5 a0_6 w0 w1 w2 w3 w4
  have hI := I64.of_wf w4
  refine ⟨6, ?_⟩
  have hj : postbaglaw02_InstKinds.j0 6 false a0_0 a0_1 a0_2 a0_3 a0_4 a0_5 a0_6 = some true := by
    have hR := kinds_run a0_0 a0_1 a0_2 a0_3 a0_4 a0_5 a0_6 hI
    simp only [postbaglaw02_InstKinds.j0, inst_Uses.f, inst_Sets.f, inst_Good.f, if_pos hI, Option.bind_some] at hR ⊢
    by_cases hg : goodOf a0_0 a0_1 a0_2 a0_3 a0_4 a0_5 a0_6 = true
    · have G := goodI hg
      have hu : (usesOf a0_0 a0_1 a0_2 a0_3 a0_4 a0_5 a0_6).length ≤ 2 ∧ ∀ x ∈ usesOf a0_0 a0_1 a0_2 a0_3 a0_4 a0_5 a0_6, 1 ≤ x ∧ x ≤ 31 := by
        have g1 := G.rs11
        have g2 := G.rs21
        unfold usesOf; rw [if_pos hg]
        constructor
        · repeat' split
          all_goals simp
        · intro x hx
          simp only [List.mem_append] at hx
          rcases hx with hx | hx <;> split at hx <;> simp at hx <;> omega
      have hm : 1 ≤ mx 1 a0_1 ∧ mx 1 a0_1 ≤ 31 := by have g1 := G.rd1; unfold mx; split <;> omega
      simp only [hg, if_true, Option.bind_some, Bool.false_eq_true, if_false]
      rw [if_pos (by omega)]
      exact hR _ (by simp; omega) (by intro x hx; simp only [List.mem_append, List.mem_singleton] at hx; rcases hx with hx | rfl; exact hu.2 x hx; exact hm) (.inl (by rw [hg]))
    · have hu : usesOf a0_0 a0_1 a0_2 a0_3 a0_4 a0_5 a0_6 = [] := by unfold usesOf; rw [if_neg hg]
      have hg' : goodOf a0_0 a0_1 a0_2 a0_3 a0_4 a0_5 a0_6 = false := by simpa using hg
      simp only [hg', hu, Option.bind_some, Bool.false_eq_true, if_false]
      exact hR [mx 1 0] (by simp) (by intro x hx; simp at hx; subst hx; decide) (.inr ⟨by rw [hu], by rw [hg']; rfl, by rw [hg']⟩)
  unfold postbaglaw02_InstKinds.f
  simp only [inst_Size.f, inst_Loads.f, inst_Stores.f, inst_Atomic.f, Option.bind_some]
  by_cases hr : 11 ≤ a0_0 ∧ a0_0 ≤ 21
  · have hc : a0_0 = 11 ∨ a0_0 = 12 ∨ a0_0 = 13 ∨ a0_0 = 14 ∨ a0_0 = 15 ∨ a0_0 = 16 ∨ a0_0 = 17 ∨ a0_0 = 18 ∨ a0_0 = 19 ∨ a0_0 = 20 ∨ a0_0 = 21 := by omega
    rcases hc with rfl | rfl | rfl | rfl | rfl | rfl | rfl | rfl | rfl | rfl | rfl <;> simp [PInstKinds.sizeOf, loadsB, storesB, atomicB, hj]
  · have hs : PInstKinds.sizeOf a0_0 = if 66 ≤ a0_0 ∧ a0_0 < 77 then 4 else if 77 ≤ a0_0 ∧ a0_0 ≤ 87 then 8 else 0 := by
      unfold PInstKinds.sizeOf; rw [if_neg (by omega), if_neg (by omega), if_neg (by omega), if_neg (by omega)]
    by_cases h2 : 66 ≤ a0_0 ∧ a0_0 ≤ 87
    · have hat : atomicB a0_0 = true := decide_eq_true h2
      have hp : (0 < PInstKinds.sizeOf a0_0) ∧ (PInstKinds.sizeOf a0_0 = 4 ∨ PInstKinds.sizeOf a0_0 = 8) := by rw [hs]; split; omega; split; omega; omega
      by_cases hl : a0_0 ≠ 67 ∧ a0_0 ≠ 78
      · have e1 : loadsB a0_0 = true := decide_eq_true (.inr ⟨h2.1, h2.2, hl⟩)
        rcases hp.2 with e | e <;> simp [e, e1, hat, hj]
      · have e1 : loadsB a0_0 = false := decide_eq_false (by omega)
        have e2 : storesB a0_0 = true := decide_eq_true (by omega)
        rcases hp.2 with e | e <;> simp [e, e1, e2, hat, hj]
    · have hz : PInstKinds.sizeOf a0_0 = 0 := by rw [hs, if_neg (by omega), if_neg (by omega)]
      have e1 : loadsB a0_0 = false := decide_eq_false (by omega)
      have e2 : storesB a0_0 = false := decide_eq_false (by omega)
      have e3 : atomicB a0_0 = false := decide_eq_false (by omega)
      simp [hz, e1, e2, e3, hj]
end Go.Proofs.Yteidfegohdilbaa.Pure
