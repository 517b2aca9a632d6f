/- Higher halves: which number stands first does not matter, and halves by 1 and by 2 to the 32nd are as they should be; no condition. -/
import Derived.Test.YtlclelgcdainfaaPAllx2
namespace Go.Proofs.Ytlclelgcdainfaa.Pure
open Go.RowKit Go.Proofs.Ytlclelgcdainfaa.PAll Go.Proofs.YtlclelgcdainfaaW.PrintWords Go.Proofs.YtlclelgcdainfaaW.PrintLast Go.Proofs.Ytlclelgcdainfaa.M
set_option linter.unusedVariables false
set_option linter.unusedSimpArgs false

theorem hi_comm (a b : Int) (s t : Bool) : hiOf a b s t = hiOf b a t s := by
  unfold hiOf
  rw [Int.mul_comm b a]
  simp only [u64w]
  omega
theorem BitsHalves : postbaglaw01_BitsHalves.Pure := by
  intro a0 a1 h0 h1
  refine ⟨1, ?_⟩
  have u0 := U64.of_wf h0
  have u1 := U64.of_wf h1
  unfold postbaglaw01_BitsHalves.f bits_High.f
  rw [if_pos ⟨u0, u1⟩, if_pos ⟨u1, u0⟩, if_pos ⟨u0, u1⟩, if_pos ⟨u1, u0⟩, if_pos ⟨u0, u1⟩, if_pos ⟨u1, u0⟩]
  simp only [Option.bind_some]
  rw [if_pos (hi_comm _ _ _ _), if_pos (hi_comm _ _ _ _), hi_comm a0 a1 true false, bne_self_eq_false]
  simp only [postbaglaw01_BitsHalves.j0]
  rw [if_neg (by decide)]
  unfold bits_High.f postbaglaw01_lives.f
  rw [if_pos ⟨u0, by decide⟩, if_pos ⟨u0, by decide⟩]
  simp only [Option.bind_some]
  have e1 : hiOf a0 1 false false = 0 := by unfold hiOf; simp only [u64w]; unfold U64 at u0; simp; omega
  have e2 : hiOf a0 4294967296 false false = a0 / 4294967296 := by unfold hiOf; simp only [u64w]; unfold U64 at u0; simp; omega
  rw [if_pos e1, if_pos e2]
end Go.Proofs.Ytlclelgcdainfaa.Pure
