/- DERIVED. The search for a word's operation; no program. -/
import Derived.Test.YtcjfafhbohkhlaaGreatMDec
namespace Go.Proofs.YtcjfafhbohkhlaaGreat.M
open Go.RowKit
set_option linter.unusedVariables false
def decTup (w op : Int) : Int × Int × Int × Int × Int × Bool × Bool × Int := if op = 0 then (0, 0, 0, 0, 0, false, false, 21) else (op, decRd op w, decRs1 op w, decRs2 op w, decImm (formOf op) w, decAq op w, decRl op w, 0)
theorem high128 (f x : Int) : highOf f x % 128 = 0 := by
  unfold highOf
  split
  · omega
  split
  · omega
  split
  · omega
  · rfl
theorem imm128 (f n : Int) : immWord f n % 128 = 0 := by
  unfold immWord
  split
  · omega
  split
  · omega
  split
  · omega
  split
  · omega
  split
  · omega
  split
  · omega
  split
  · omega
  split
  · omega
  · rfl
theorem enc_code (op rd rs1 rs2 imm : Int) (aq rl : Bool) : encOf op rd rs1 rs2 imm aq rl % 128 = codeOf op := by
  have n2 := (nums_range op).2.1
  have h1 := high128 (formOf op) (f7Of op)
  have h2 := imm128 (formOf op) imm
  unfold encOf
  generalize highOf (formOf op) (f7Of op) = a at *
  generalize immWord (formOf op) imm = b at *
  cases aq <;> cases rl <;> simp only [if_true, if_false, Bool.false_eq_true] <;> omega
theorem decImm_I64 (f w : Int) : I64 (decImm f w) := by
  unfold decImm
  split
  · exact I64.wrap _
  · have := rawImm_range f w; unfold I64; omega
theorem hit_enc {op w : Int} (h : hit op w = true) : encOf op (decRd op w) (decRs1 op w) (decRs2 op w) (decImm (formOf op) w) (decAq op w) (decRl op w) = w := by
  unfold hit at h; simp only [Bool.and_eq_true, beq_iff_eq] at h; exact h.2
theorem hit_good {op w : Int} (h : hit op w = true) : goodOf op (decRd op w) (decRs1 op w) (decRs2 op w) (decImm (formOf op) w) (decAq op w) (decRl op w) = true := by
  unfold hit at h; simp only [Bool.and_eq_true] at h; exact h.1
theorem hit_near {op w : Int} (h : hit op w = true) : nearOf op (w % 128) = true := by
  have G := goodI (hit_good h)
  have e := hit_enc h
  have c := enc_code op (decRd op w) (decRs1 op w) (decRs2 op w) (decImm (formOf op) w) (decAq op w) (decRl op w)
  rw [e] at c
  exact near_code op _ G.op1 G.op2 c.symm
end Go.Proofs.YtcjfafhbohkhlaaGreat.M
