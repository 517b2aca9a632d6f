/- Any of the short operations looks at the low halves alone and gives a number of 32 bits with its sign; no condition. -/
import Derived.Test.YtjdidadafccepaaPAllx14
namespace Go.Proofs.Ytjdidadafccepaa.Pure
open Go.RowKit Go.Proofs.Ytjdidadafccepaa.PAll Go.Proofs.YtjdidadafccepaaW.PrintWords Go.Proofs.YtjdidadafccepaaW.PrintLast Go.Proofs.Ytjdidadafccepaa.M
set_option linter.unusedVariables false
set_option linter.unusedSimpArgs false

def postbaglaw04_AluWide.Pure : Prop := ∀ (a0_0 : Int) (a0_1 : Int) (a0_2 : Int) (a0_3 : Int) (a0_4 : Int) (a0_5 : Bool) (a0_6 : Bool) (a1 : Int) (a2 : Int) (a3 : Int) (a4 : Int) (a5 : Int), (Lit.int .i64 a0_0).wf = true → (Lit.int .i64 a0_1).wf = true → (Lit.int .i64 a0_2).wf = true → (Lit.int .i64 a0_3).wf = true → (Lit.int .i64 a0_4).wf = true → (Lit.int .u64 a1).wf = true → (Lit.int .u64 a2).wf = true → (Lit.int .u64 a3).wf = true → (Lit.int .u64 a4).wf = true → (Lit.int .u64 a5).wf = true → ∃ k, postbaglaw04_AluWide.f k a0_0 a0_1 a0_2 a0_3 a0_4 a0_5 a0_6 a1 a2 a3 a4 a5 = some true
theorem lives_yes (k : Nat) (hk : 1 ≤ k) : postbaglaw04_lives.f k = some true := by
  obtain ⟨k, rfl⟩ : ∃ m, k = m + 1 := ⟨k - 1, by omega⟩
  unfold postbaglaw04_lives.f alu_Value.f
  rw [if_pos ⟨by decide, U64.wrap _, by decide⟩, if_pos (by decide +kernel), if_pos ⟨by decide, by decide, by decide⟩, if_pos (by decide +kernel)]
  have e1 : valueOf 30 1 0 (IntKind.u64.wrap (-8)) 0 = (IntKind.u64.wrap (-4), 0) := by decide +kernel
  have e2 : valueOf 41 1 0 2147483647 0 = (18446744071562067968, 0) := by decide +kernel
  have e3 : Go.bits .andNot .u64 (IntKind.u64.wrap (9 + IntKind.u64.wrap 0)) 1 = 8 := by decide +kernel
  rw [e1, e2]
  simp [alu_Target.f, alu_Target.j0, e3]
theorem low_place (a x : Int) (ha : U64 a) (hx : U64 x) : placeOf a 32 32 x % 4294967296 = a % 4294967296 := by
  obtain ⟨n, rfl, hn⟩ := ha.nat
  obtain ⟨m, rfl, hm⟩ := hx.nat
  have h := place_nat n 32 32 m (by omega) (by omega)
  rw [show ((32 : Nat) : Int) = 32 from rfl] at h
  rw [h]
  unfold place
  generalize 2 ^ min 32 (64 - 32) * (n / 2 ^ (32 + min 32 (64 - 32))) + m % 2 ^ min 32 (64 - 32) = q
  omega
theorem sign32 (x y : Int) (h : x % 4294967296 = y % 4294967296) : signOf x 32 = signOf y 32 := by
  unfold signOf
  simp only [show ¬ ((32 : Int) < 1 ∨ (32 : Int) > 63) by omega, if_false, show (32 : Int).toNat = 32 from rfl, Int.reducePow, h]
theorem field32 (x y : Int) (h : x % 4294967296 = y % 4294967296) : fieldOf x 0 32 = fieldOf y 0 32 := by
  rw [show fieldOf x 0 32 = x / 2 ^ 0 % 2 ^ 32 from field_lit x 0 32 (by omega) (by omega) (by omega), show fieldOf y 0 32 = y / 2 ^ 0 % 2 ^ 32 from field_lit y 0 32 (by omega) (by omega) (by omega)]
  simp
  exact h
theorem cut32 (x y : Int) (s : Bool) (h : x % 4294967296 = y % 4294967296) : cutOf x 32 s = cutOf y 32 s := by
  unfold cutOf; rw [sign32 x y h, field32 x y h]
theorem sign_twice (x : Int) : signOf (signOf x 32) 32 = signOf x 32 := by
  apply sign32
  unfold signOf
  simp only [show ¬ ((32 : Int) < 1 ∨ (32 : Int) > 63) by omega, if_false, show (32 : Int).toNat = 32 from rfl, show ((32 : Int) - 1).toNat = 31 from rfl, Int.reducePow]
  split <;> omega
theorem sign32_range (x : Int) : U64 (signOf x 32) := by
  unfold signOf
  simp only [show ¬ ((32 : Int) < 1 ∨ (32 : Int) > 63) by omega, if_false, show (32 : Int).toNat = 32 from rfl, show ((32 : Int) - 1).toNat = 31 from rfl, Int.reducePow]
  unfold U64
  split <;> omega
theorem mul32 (a b c d : Int) (h : a % 4294967296 = b % 4294967296) (h2 : c % 4294967296 = d % 4294967296) : IntKind.u64.wrap (a * c) % 4294967296 = IntKind.u64.wrap (b * d) % 4294967296 := by
  rw [u64w, u64w, Int.emod_emod_of_dvd _ (by decide), Int.emod_emod_of_dvd _ (by decide), Int.mul_emod, h, h2, ← Int.mul_emod]
theorem sized32 (op a b c d : Int) (h : a % 4294967296 = b % 4294967296) (h2 : c % 4294967296 = d % 4294967296) : signOf (sizedOf op a c 32).1 32 = signOf (sizedOf op b d 32).1 32 := by
  have r : ∀ s, rightOf a c 32 s = rightOf b d 32 s := fun s => by unfold rightOf; rw [cut32 a b s h, show c % 32 = d % 32 by omega]
  unfold sizedOf
  repeat' (split; rotate_left)
  all_goals first
    | rfl
    | (simp only [r]; done)
    | (simp only [cut32 a b _ h, cut32 c d _ h2]; done)
    | (apply sign32; exact mul32 _ _ _ _ h h2)
    | (apply sign32; rw [show c % 32 = d % 32 by omega]; exact mul32 _ _ _ _ h rfl)
    | (apply sign32; rw [u64w, u64w]; omega)
theorem value32 (op imm pc a b x y : Int) (ho : 41 ≤ op ∧ op ≤ 49 ∨ 61 ≤ op ∧ op ≤ 65) (ha : U64 a) (hb : U64 b) (hx : U64 x) (hy : U64 y) :
    valueOf op imm pc a b = valueOf op imm pc (placeOf a 32 32 x) (placeOf b 32 32 y) ∧ U64 (valueOf op imm pc a b).1 ∧ signOf (valueOf op imm pc a b).1 32 = (valueOf op imm pc a b).1 := by
  have hs : shortB op = true := decide_eq_true ho
  have e : ∀ A C, valueAt op imm pc A C = (signOf (sizedOf op A C 32).1 32, 0) := fun A C => by
    unfold valueAt
    rw [if_neg (by omega), if_neg (by omega), if_neg (by omega), if_pos hs]
  unfold valueOf
  rw [e, e]
  refine ⟨?_, sign32_range _, sign_twice _⟩
  rw [sized32 op a (placeOf a 32 32 x) _ (if immB op = true then IntKind.u64.wrap imm else placeOf b 32 32 y) (low_place a x ha hx).symm ?_]
  split
  · rfl
  · exact (low_place b y hb hy).symm
theorem wide_j1 (op rd rs1 rs2 imm pc a b x y : Int) (aq rl : Bool) (ho : 41 ≤ op ∧ op ≤ 49 ∨ 61 ≤ op ∧ op ≤ 65) (hI : I64 imm) (ha : U64 a) (hb : U64 b) (hx : U64 x) (hy : U64 y) :
    postbaglaw04_AluWide.j1 3 pc a b x y op rd rs1 rs2 imm aq rl = some true := by
  have hpa := place_range a 32 32 x ha
  have hpb := place_range b 32 32 y hb
  obtain ⟨e1, e2, e3⟩ := value32 op imm pc a b x y ho ha hb hx hy
  obtain ⟨v, hv, V1, V2, hs⟩ : ∃ v : Int × Int, U64 v.1 ∧ alu_Value.f op rd rs1 rs2 imm aq rl pc a b = some v ∧ alu_Value.f op rd rs1 rs2 imm aq rl pc (placeOf a 32 32 x) (placeOf b 32 32 y) = some v ∧ signOf v.1 32 = v.1 := by
    unfold alu_Value.f
    rw [if_pos (show I64 imm ∧ U64 a ∧ U64 b from ⟨hI, ha, hb⟩), if_pos (show I64 imm ∧ U64 (placeOf a 32 32 x) ∧ U64 (placeOf b 32 32 y) from ⟨hI, hpa, hpb⟩)]
    by_cases hg : goodOf op rd rs1 rs2 imm aq rl = true
    · simp only [if_pos hg]
      exact ⟨_, e2, rfl, by rw [← e1], e3⟩
    · simp only [if_neg hg]
      exact ⟨(0, 20), by unfold U64; omega, rfl, rfl, by decide⟩
  have S : bits_Sign.f v.1 32 = some v.1 := by
    unfold bits_Sign.f
    rw [if_pos hv, hs]
  simp only [postbaglaw04_AluWide.j1, bits_Place.eq ha hx, bits_Place.eq hb hy, Option.bind_some, V1, V2, S, if_true, lives_yes 2 (by omega)]
theorem AluWide : postbaglaw04_AluWide.Pure := by
  intro a0_0 a0_1 a0_2 a0_3 a0_4 a0_5 a0_6 a1 a2 a3 a4 a5 w0 w1 w2 w3 w4 w5 w6 w7 w8 w9
  have hI := I64.of_wf w4
  have h2 := U64.of_wf w6
  have h3 := U64.of_wf w7
  have h4 := U64.of_wf w8
  have h5 := U64.of_wf w9
  refine ⟨4, ?_⟩
  unfold postbaglaw04_AluWide.f
  have T : postbaglaw04_AluWide.j0 4 a1 a2 a3 a4 a5 true a0_0 a0_1 a0_2 a0_3 a0_4 a0_5 a0_6 = some true := by
    simp only [postbaglaw04_AluWide.j0, if_true]
    have hu := U64.wrap a0_0
    generalize IntKind.u64.wrap a0_0 = u at *
    unfold U64 at hu
    rw [show Int.tmod u 5 = u % 5 from Int.tmod_eq_emod_of_nonneg hu.1, show wrap64 (u % 5) = u % 5 by unfold wrap64; omega, show wrap64 (61 + u % 5) = 61 + u % 5 by unfold wrap64; omega]
    exact wide_j1 _ _ _ _ _ _ _ _ _ _ _ _ (by omega) (by unfold I64; omega) h2 h3 h4 h5
  split
  · exact T
  · by_cases h : a0_0 > 49
    · rw [decide_eq_true h]; exact T
    · rw [decide_eq_false h]
      simp only [postbaglaw04_AluWide.j0, Bool.false_eq_true, if_false]
      exact wide_j1 _ _ _ _ _ _ _ _ _ _ _ _ (by omega) hI h2 h3 h4 h5
end Go.Proofs.Ytjdidadafccepaa.Pure
