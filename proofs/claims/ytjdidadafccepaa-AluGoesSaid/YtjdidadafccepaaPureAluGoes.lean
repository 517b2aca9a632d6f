/- Whether any branch is taken, where any instruction goes, and where it loads or stores, is as the document says; no condition. -/
import Derived.Test.YtjdidadafccepaaPAllx17
namespace Go.Proofs.Ytjdidadafccepaa.Pure
open Go.RowKit Go.Proofs.Ytjdidadafccepaa.PAll Go.Proofs.YtjdidadafccepaaW.PrintWords Go.Proofs.YtjdidadafccepaaW.PrintLast Go.Proofs.Ytjdidadafccepaa.M
set_option linter.unusedVariables false
set_option linter.unusedSimpArgs false

def postbaglaw04_AluGoes.Pure : Prop := ∀ (a0_0 : Int) (a0_1 : Int) (a0_2 : Int) (a0_3 : Int) (a0_4 : Int) (a0_5 : Bool) (a0_6 : Bool) (a1 : Int) (a2 : Int) (a3 : Int), (Lit.int .i64 a0_0).wf = true → (Lit.int .i64 a0_1).wf = true → (Lit.int .i64 a0_2).wf = true → (Lit.int .i64 a0_3).wf = true → (Lit.int .i64 a0_4).wf = true → (Lit.int .u64 a1).wf = true → (Lit.int .u64 a2).wf = true → (Lit.int .u64 a3).wf = true → ∃ k, postbaglaw04_AluGoes.f k a0_0 a0_1 a0_2 a0_3 a0_4 a0_5 a0_6 a1 a2 a3 = some true
theorem less_yes (a b : Int) (ha : U64 a) (hb : U64 b) : postbagref04_less.f a b = some (decide (wrap64 a < wrap64 b)) := by
  have e : ∀ x, U64 x → postbagref04_negative.f x = some (x / 9223372036854775808 == 1) := by
    intro x hx
    unfold postbagref04_negative.f postbagref01_Bit.f
    rw [if_pos hx]
    simp only [Option.bind_some]
    rw [show bitOf x 63 = x / 2 ^ 63 % 2 from bitOf_nat x 63 (by omega), show x / 2 ^ 63 % 2 = x / 9223372036854775808 by unfold U64 at hx; omega]
  unfold postbagref04_less.f
  rw [e a ha, e b hb]
  simp only [Option.bind_some]
  unfold U64 at ha hb
  have ca : a / 9223372036854775808 = 0 ∨ a / 9223372036854775808 = 1 := by omega
  have cb : b / 9223372036854775808 = 0 ∨ b / 9223372036854775808 = 1 := by omega
  unfold wrap64
  rcases ca with ca | ca <;> rcases cb with cb | cb <;> simp [ca, cb] <;> omega
theorem lives_yes (k : Nat) (hk : 1 ≤ k) : postbaglaw04_lives.f k = some true := by
  obtain ⟨k, rfl⟩ : ∃ m, k = m + 1 := ⟨k - 1, by omega⟩
  unfold postbaglaw04_lives.f alu_Value.f
  rw [if_pos ⟨by decide, U64.wrap _, by decide⟩, if_pos (by decide +kernel), if_pos ⟨by decide, by decide, by decide⟩, if_pos (by decide +kernel)]
  have e1 : valueOf 30 1 0 (IntKind.u64.wrap (-8)) 0 = (IntKind.u64.wrap (-4), 0) := by decide +kernel
  have e2 : valueOf 41 1 0 2147483647 0 = (18446744071562067968, 0) := by decide +kernel
  have e3 : Go.bits .andNot .u64 (IntKind.u64.wrap (9 + IntKind.u64.wrap 0)) 1 = 8 := by decide +kernel
  rw [e1, e2]
  simp [alu_Target.f, alu_Target.j0, e3]


theorem clear_one (x : Int) (hx : U64 x) : Go.bits .andNot .u64 x 1 = placeOf x 0 1 0 := by
  obtain ⟨n, rfl, hn⟩ := hx.nat
  rw [show (1 : Int) = ((1 : Nat) : Int) from rfl, andNot_nat n 1 hn (by decide)]
  have h := place_nat n 0 1 0 (by omega) (by omega)
  rw [show ((0 : Nat) : Int) = 0 from rfl, show ((1 : Nat) : Int) = 1 from rfl] at h
  rw [show ((1 : Nat) : Int) = 1 from rfl, h]
  congr 1
  apply Nat.eq_of_testBit_eq
  intro i
  rw [testBit_minus n 1 i hn (by decide), testBit_place]
  by_cases h0 : i = 0
  · subst h0; simp
  · rw [if_neg (by omega)]
    have : (1 : Nat).testBit i = false := by
      cases i with
      | zero => omega
      | succ i => simp [Nat.testBit_succ]
    rw [this]; simp
theorem taken_same (op rd rs1 rs2 imm a b : Int) (aq rl : Bool) (hI : I64 imm) (ha : U64 a) (hb : U64 b) : ∃ t, alu_Taken.f op rd rs1 rs2 imm aq rl a b = some t ∧ postbagref04_Taken.f op rd rs1 rs2 imm aq rl a b = some t := by
  unfold alu_Taken.f postbagref04_Taken.f inst_Good.f postbagref02_Good.f
  rw [if_pos hI, less_yes a b ha hb]
  simp only [Option.bind_some]
  by_cases hg : goodOf op rd rs1 rs2 imm aq rl = true
  · rw [if_pos hg, if_pos hg]
    by_cases h1 : op = 5
    · exact ⟨_, by rw [if_pos h1], by rw [if_pos h1]⟩
    by_cases h2 : op = 6
    · exact ⟨_, by rw [if_neg h1, if_pos h2], by rw [if_neg h1, if_pos h2]⟩
    by_cases h3 : op = 7
    · exact ⟨_, by rw [if_neg h1, if_neg h2, if_pos h3], by rw [if_neg h1, if_neg h2, if_pos h3]⟩
    by_cases h4 : op = 8
    · refine ⟨_, by rw [if_neg h1, if_neg h2, if_neg h3, if_pos h4], ?_⟩
      rw [if_neg h1, if_neg h2, if_neg h3, if_pos h4]
      congr 1
      by_cases q : wrap64 a < wrap64 b
      · rw [decide_eq_true q, decide_eq_false (by omega)]; rfl
      · rw [decide_eq_false q, decide_eq_true (by omega)]; rfl
    by_cases h5 : op = 9
    · exact ⟨_, by rw [if_neg h1, if_neg h2, if_neg h3, if_neg h4, if_pos h5], by rw [if_neg h1, if_neg h2, if_neg h3, if_neg h4, if_pos h5]⟩
    by_cases h6 : op = 10
    · exact ⟨_, by rw [if_neg h1, if_neg h2, if_neg h3, if_neg h4, if_neg h5, if_pos h6], by rw [if_neg h1, if_neg h2, if_neg h3, if_neg h4, if_neg h5, if_pos h6]⟩
    · exact ⟨_, by rw [if_neg h1, if_neg h2, if_neg h3, if_neg h4, if_neg h5, if_neg h6], by rw [if_neg h1, if_neg h2, if_neg h3, if_neg h4, if_neg h5, if_neg h6]⟩
  · exact ⟨false, by rw [if_neg hg], by rw [if_neg hg]⟩
theorem target_same (op rd rs1 rs2 imm pc a : Int) (aq rl : Bool) : ∃ t, alu_Target.f 3 op rd rs1 rs2 imm aq rl pc a = some t ∧ postbagref04_Target.f 3 op rd rs1 rs2 imm aq rl pc a = some t := by
  have hp := clear_one (IntKind.u64.wrap (a + IntKind.u64.wrap imm)) (U64.wrap _)
  have hq : postbagref01_Place.f (IntKind.u64.wrap (a + IntKind.u64.wrap imm)) 0 1 0 = some (placeOf (IntKind.u64.wrap (a + IntKind.u64.wrap imm)) 0 1 0) := by unfold postbagref01_Place.f; rw [if_pos ⟨U64.wrap _, by unfold U64; omega⟩]
  by_cases h1 : op = 3
  · subst h1; exact ⟨_, by simp [alu_Target.f, alu_Target.j0]; rfl, by simp [postbagref04_Target.f, postbagref04_Target.j0]⟩
  by_cases h2 : 5 ≤ op ∧ op ≤ 10
  · exact ⟨_, by simp [alu_Target.f, alu_Target.j0, h1, h2.1, h2.2]; rfl, by simp [postbagref04_Target.f, postbagref04_Target.j0, h1, h2.1, h2.2]⟩
  by_cases h4 : op = 4
  · subst h4; exact ⟨_, by simp [alu_Target.f, alu_Target.j0]; rfl, by simp [postbagref04_Target.f, postbagref04_Target.j0, hq, hp]⟩
  by_cases h5 : 5 ≤ op
  · have h6 : ¬ op ≤ 10 := by omega
    exact ⟨_, by simp [alu_Target.f, alu_Target.j0, h1, h4, h5, h6]; rfl, by simp [postbagref04_Target.f, postbagref04_Target.j0, h1, h4, h5, h6]⟩
  · exact ⟨_, by simp [alu_Target.f, alu_Target.j0, h1, h4, h5]; rfl, by simp [postbagref04_Target.f, postbagref04_Target.j0, h1, h4, h5]⟩
theorem address_same (op rd rs1 rs2 imm a : Int) (aq rl : Bool) : ∃ t, alu_Address.f 3 op rd rs1 rs2 imm aq rl a = some t ∧ postbagref04_Address.f 3 op rd rs1 rs2 imm aq rl a = some t := by
  have e : atomicB op = decide (66 ≤ op ∧ op ≤ 87) := rfl
  by_cases h1 : 11 ≤ op ∧ op ≤ 21
  · exact ⟨_, by simp [alu_Address.f, alu_Address.j0, h1.1, h1.2]; rfl, by simp [postbagref04_Address.f, postbagref04_Address.j0, h1.1, h1.2]⟩
  · have e1 : alu_Address.f 3 op rd rs1 rs2 imm aq rl a = alu_Address.j0 3 a false op rd rs1 rs2 imm aq rl := by
      unfold alu_Address.f; split; rw [decide_eq_false (by omega)]; rfl
    have e2 : postbagref04_Address.f 3 op rd rs1 rs2 imm aq rl a = postbagref04_Address.j0 3 a false op rd rs1 rs2 imm aq rl := by
      unfold postbagref04_Address.f; split; rw [decide_eq_false (by omega)]; rfl
    rw [e1, e2]
    by_cases h2 : 66 ≤ op ∧ op ≤ 87
    · exact ⟨a, by simp [alu_Address.j0, inst_Atomic.f, e, h2], by simp [postbagref04_Address.j0, postbagref02_Atomic.f, h2]⟩
    · have h3 : ¬ (66 ≤ op ∧ op ≤ 87) := h2
      exact ⟨0, by simp only [alu_Address.j0, inst_Atomic.f, e, decide_eq_false h3, Option.bind_some]; simp, by simp only [postbagref04_Address.j0, postbagref02_Atomic.f, decide_eq_false h3, Option.bind_some]; simp⟩
theorem AluGoes : postbaglaw04_AluGoes.Pure := by
  intro a0_0 a0_1 a0_2 a0_3 a0_4 a0_5 a0_6 a1 a2 a3 w0 w1 w2 w3 w4 w5 w6 w7
  have hI := I64.of_wf w4
  have ha := U64.of_wf w6
  have hb := U64.of_wf w7
  obtain ⟨t1, e1, e2⟩ := taken_same a0_0 a0_1 a0_2 a0_3 a0_4 a2 a3 a0_5 a0_6 hI ha hb
  obtain ⟨t2, e3, e4⟩ := target_same a0_0 a0_1 a0_2 a0_3 a0_4 a1 a2 a0_5 a0_6
  obtain ⟨t3, e5, e6⟩ := address_same a0_0 a0_1 a0_2 a0_3 a0_4 a2 a0_5 a0_6
  refine ⟨3, ?_⟩
  unfold postbaglaw04_AluGoes.f
  simp [e1, e2, e3, e4, e5, e6, lives_yes]
end Go.Proofs.Ytjdidadafccepaa.Pure
