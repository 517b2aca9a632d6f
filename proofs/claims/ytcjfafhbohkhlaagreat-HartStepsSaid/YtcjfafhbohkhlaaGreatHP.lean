/- DERIVED. DERIVED. The reference's functions of instructions, each by the contract of the program's. -/
import Derived.Test.YtcjfafhbohkhlaaGreatProg
import Derived.Test.YtcjfafhbohkhlaaGreatMBits
import Derived.Test.YtcjfafhbohkhlaaGreatMWalk
import Derived.Test.YtcjfafhbohkhlaaGreatMTab
import Derived.Test.YtcjfafhbohkhlaaGreatMInst
import Derived.Test.YtcjfafhbohkhlaaGreatMDec
import Derived.Test.YtcjfafhbohkhlaaGreatMDec2
import Derived.Test.YtcjfafhbohkhlaaGreatMQTail
import Derived.Test.YtcjfafhbohkhlaaGreatMArg
import Derived.Test.YtcjfafhbohkhlaaGreatMMem
import Derived.Test.YtcjfafhbohkhlaaGreatMMemK
import Derived.Test.YtcjfafhbohkhlaaGreatMMemR
import Derived.Test.YtcjfafhbohkhlaaGreatMHart
import Derived.Test.YtcjfafhbohkhlaaGreatMRow
import Derived.Test.YtcjfafhbohkhlaaGreatMOpen
import Derived.Test.YtcjfafhbohkhlaaGreatMPart
import Derived.Test.YtcjfafhbohkhlaaGreatMReg
import Derived.Test.YtcjfafhbohkhlaaGreatMQHead
import Derived.Test.YtcjfafhbohkhlaaGreatMQTwo
import Derived.Test.YtcjfafhbohkhlaaGreatHO
import Derived.Test.YtcjfafhbohkhlaaGreatPAllx0
import Derived.Test.YtcjfafhbohkhlaaGreatPAllx2
import Derived.Test.YtcjfafhbohkhlaaGreatPAllx4
import Derived.Test.YtcjfafhbohkhlaaGreatPAllx5
import Derived.Test.YtcjfafhbohkhlaaGreatPAllx6
import Derived.Test.YtcjfafhbohkhlaaGreatPAllx9
import Derived.Test.YtcjfafhbohkhlaaGreatPAllx11
import Derived.Test.YtcjfafhbohkhlaaGreatPAllx12
import Derived.Test.YtcjfafhbohkhlaaGreatPAllx14
import Derived.Test.YtcjfafhbohkhlaaGreatPAllx16
import Derived.Test.YtcjfafhbohkhlaaGreatPAllx20
import Derived.Below
import Derived.Deep.Draws
import Derived.Deep.AppendLies
import Derived.Maps.AppendAt
import Derived.OwnWalk
import Derived.Laws.BytesArg
import Derived.Laws.MakeOwn
import Derived.Laws.OwnMore
import Derived.Deep.OwnRows
import Derived.Tactics
import Derived.Lib.ConvBytes
import Derived.Laws.Slices
import Derived.WalkKit
import Derived.KernelRfl
import Derived.RowKit3
import Derived.Deep.LoopGhost
import Derived.Deep.QuietTactic
import Derived.BigQuiet
import Derived.WideLaws
import Derived.Deep.DeepCutAuto
import Derived.Deep.CutBlock
import Derived.Deep.RegionHeld3
import Derived.Laws.Rows
import Derived.Lib.AppendStr
import Derived.ArgAppend
import Derived.Laws.IdiomCopy
import Derived.OrdersHeld
import Derived.Laws.BitsLemmas
import Derived.Laws.Bits64
import Derived.RowKit
import Derived.Outline
import Derived.Handy
import Derived.Lib.Hide
import Derived.Deep.Light
import Derived.Laws.CopyOwn
namespace Go.Proofs.YtcjfafhbohkhlaaGreat.Hand
open Go Go.RowKit Go.Proofs.YtcjfafhbohkhlaaGreat.M Go.Proofs.YtcjfafhbohkhlaaGreat.PAll Go.Proofs.YtcjfafhbohkhlaaGreatW.PrintWords
set_option linter.unusedVariables false
set_option linter.unusedSimpArgs false
theorem less_yes (a b : Int) (ha : U64 a) (hb : U64 b) : postbagref04_less.f a b = some (decide (wrap64 a < wrap64 b)) := by
  have e : ∀ x, U64 x → postbagref04_negative.f x = some (x / 9223372036854775808 == 1) := by
    intro x hx
    unfold postbagref04_negative.f postbagref01_Bit.f
    rw [if_pos hx]
    simp only [Option.bind_some]
    rw [show bitOf x 63 = x / 2 ^ 63 % 2 from bitOf_nat x 63 (by omega), show x / 2 ^ 63 % 2 = x / 9223372036854775808 by unfold U64 at hx; omega]
  unfold postbagref04_less.f
  rw [e a ha, e b hb]
  simp only [Option.bind_some]
  unfold U64 at ha hb
  have ca : a / 9223372036854775808 = 0 ∨ a / 9223372036854775808 = 1 := by omega
  have cb : b / 9223372036854775808 = 0 ∨ b / 9223372036854775808 = 1 := by omega
  unfold wrap64
  rcases ca with ca | ca <;> rcases cb with cb | cb <;> simp [ca, cb] <;> omega
theorem loaded_same (op raw : Int) (hr : U64 raw) : ∃ t, alu_Loaded.f 3 op raw = some t ∧ postbagref04_Loaded.f 3 op raw = some t := by
  have e1 : loadsB op = decide (11 ≤ op ∧ op ≤ 17 ∨ 66 ≤ op ∧ op ≤ 87 ∧ op ≠ 67 ∧ op ≠ 78) := rfl
  have es : postbagref02_Size.f op = some (PAll.sizeOf op) := rfl
  have F : ∀ n, bits_Field.f raw 0 n = some (fieldOf raw 0 n) := fun n => by unfold bits_Field.f; rw [if_pos hr]
  have S : ∀ n, bits_Sign.f raw n = some (signOf raw n) := fun n => by unfold bits_Sign.f; rw [if_pos hr]
  have F' : ∀ n, postbagref01_Field.f raw 0 n = some (fieldOf raw 0 n) := fun n => by unfold postbagref01_Field.f; rw [if_pos hr]
  have S' : ∀ n, postbagref01_Sign.f raw n = some (signOf raw n) := fun n => by unfold postbagref01_Sign.f; rw [if_pos hr]
  unfold alu_Loaded.f postbagref04_Loaded.f
  simp only [inst_Size.f, inst_Loads.f, e1, postbagref02_Loads.f, postbagref02_Atomic.f, Option.bind_some, size8]
  by_cases hl : 11 ≤ op ∧ op ≤ 17 ∨ 66 ≤ op ∧ op ≤ 87 ∧ op ≠ 67 ∧ op ≠ 78
  · have n1 : op ≠ 67 := by omega
    have n2 : op ≠ 78 := by omega
    have hd := decide_eq_true hl
    have nb : (op == 78) = false := beq_eq_false_iff_ne.2 n2
    simp only [hd, if_true, if_neg n1, nb]
    by_cases h15 : op ≥ 15
    · rw [if_pos h15]
      by_cases h17 : op ≤ 17
      · exact ⟨_, by simp only [alu_Loaded.j0, decide_eq_true h17, if_true, F]; rfl, by simp [postbagref04_Loaded.j0, postbagref04_Loaded.j1, h15, h17, es, size8, F']⟩
      · exact ⟨_, by simp only [alu_Loaded.j0, decide_eq_false h17, Bool.false_eq_true, if_false, S]; rfl, by simp [postbagref04_Loaded.j0, postbagref04_Loaded.j1, h15, h17, es, size8, S']⟩
    · rw [if_neg h15]
      exact ⟨_, by simp only [alu_Loaded.j0, Bool.false_eq_true, if_false, S]; rfl, by simp [postbagref04_Loaded.j0, postbagref04_Loaded.j1, h15, es, size8, S']⟩
  · refine ⟨0, by simp only [decide_eq_false hl]; simp, ?_⟩
    simp only [decide_eq_false hl, Bool.false_eq_true, if_false]
    by_cases ha : 66 ≤ op ∧ op ≤ 87
    · have hc : op = 67 ∨ op = 78 := by omega
      rcases hc with rfl | rfl <;> simp [postbagref04_Loaded.j0]
    · simp only [decide_eq_false ha, Bool.false_eq_true, if_false]
      simp [postbagref04_Loaded.j0]
theorem min_same (x y : Int) (hx : U64 x) (hy : U64 y) : IntKind.u64.wrap (mn (wrap64 x) (wrap64 y)) = if wrap64 x < wrap64 y then x else y := by
  have ex : IntKind.u64.wrap (wrap64 x) = x := by rw [wrap_wrap64, U64.wrap_eq hx]
  have ey : IntKind.u64.wrap (wrap64 y) = y := by rw [wrap_wrap64, U64.wrap_eq hy]
  unfold mn
  by_cases h : wrap64 x < wrap64 y
  · rw [if_pos h]; split
    · omega
    · exact ex
  · rw [if_neg h]; split
    · exact ey
    · have : wrap64 x = wrap64 y := by omega
      rw [this]; exact ey
theorem max_same (x y : Int) (hx : U64 x) (hy : U64 y) : IntKind.u64.wrap (mx (wrap64 x) (wrap64 y)) = if wrap64 y < wrap64 x then x else y := by
  have ex : IntKind.u64.wrap (wrap64 x) = x := by rw [wrap_wrap64, U64.wrap_eq hx]
  have ey : IntKind.u64.wrap (wrap64 y) = y := by rw [wrap_wrap64, U64.wrap_eq hy]
  unfold mx
  by_cases h : wrap64 y < wrap64 x
  · rw [if_pos h]; split
    · omega
    · exact ex
  · rw [if_neg h]; split
    · exact ey
    · have : wrap64 x = wrap64 y := by omega
      rw [this]; exact ey
theorem ref_j0 (k : Nat) (kind n old b : Int) (ho : U64 old) (hb : U64 b) : postbagref04_Stored.j0 (k + 1) n (signOf old n) (signOf b n) (fieldOf old 0 n) (fieldOf b 0 n) (signOf b n) kind = some (amoOf kind n old b) := by
  have so := sign_range old n ho
  have sb := sign_range b n hb
  have fo := field_range old 0 n ho
  have fb := field_range b 0 n hb
  have F : ∀ x, U64 x → postbagref01_Field.f x 0 n = some (fieldOf x 0 n) := fun x h => by unfold postbagref01_Field.f; rw [if_pos h]
  simp only [postbagref04_Stored.j0, less_yes _ _ so sb, less_yes _ _ sb so, Option.bind_some, F _ (U64.wrap _), F _ so, F _ (xor_comm' _ _ sb so).2, F _ (and_comm' _ _ sb so).2, F _ (or_comm' _ _ sb so).2, F _ (mn_range _ _ fo fb), F _ (mx_range _ _ fo fb), F _ sb]
  unfold amoOf
  by_cases h1 : kind = 69
  · simp only [if_pos h1, Int.add_comm]
  by_cases h2 : kind = 70
  · simp only [if_neg h1, if_pos h2, (xor_comm' _ _ sb so).1]
  by_cases h3 : kind = 71
  · simp only [if_neg h1, if_neg h2, if_pos h3, (and_comm' _ _ sb so).1]
  by_cases h4 : kind = 72
  · simp only [if_neg h1, if_neg h2, if_neg h3, if_pos h4, (or_comm' _ _ sb so).1]
  by_cases h5 : kind = 73
  · simp only [if_neg h1, if_neg h2, if_neg h3, if_neg h4, if_pos h5, min_same _ _ so sb, decide_eq_true_eq]
    split <;> rfl
  by_cases h6 : kind = 74
  · simp only [if_neg h1, if_neg h2, if_neg h3, if_neg h4, if_neg h5, if_pos h6, max_same _ _ so sb, decide_eq_true_eq]
    split <;> rfl
  by_cases h7 : kind = 75
  · simp only [if_neg h1, if_neg h2, if_neg h3, if_neg h4, if_neg h5, if_neg h6, if_pos h7]
  by_cases h8 : kind = 76
  · simp only [if_neg h1, if_neg h2, if_neg h3, if_neg h4, if_neg h5, if_neg h6, if_neg h7, if_pos h8]
  · simp only [if_neg h1, if_neg h2, if_neg h3, if_neg h4, if_neg h5, if_neg h6, if_neg h7, if_neg h8]
theorem ref_stored (k : Nat) (op old b : Int) (ho : U64 old) (hb : U64 b) : postbagref04_Stored.f (k + 1) op old b = some (storedOf op old b) := by
  have es : postbagref02_Size.f op = some (PAll.sizeOf op) := rfl
  have et : postbagref02_Stores.f op = some (storesB op) := rfl
  have S' : ∀ x, U64 x → ∀ n, postbagref01_Sign.f x n = some (signOf x n) := fun x h n => by unfold postbagref01_Sign.f; rw [if_pos h]
  have F : ∀ x, U64 x → ∀ n, postbagref01_Field.f x 0 n = some (fieldOf x 0 n) := fun x h n => by unfold postbagref01_Field.f; rw [if_pos h]
  unfold postbagref04_Stored.f storedOf
  simp only [et, es, Option.bind_some, size8, S' _ ho, S' _ hb, F _ ho, F _ hb]
  by_cases h : storesB op = true
  · have hr : 18 ≤ op ∧ op ≤ 87 := by unfold storesB at h; have := of_decide_eq_true h; omega
    rw [if_pos h, if_pos h]
    by_cases h7 : 77 ≤ op
    · rw [if_pos h7, if_pos h7, show wrap64 (wrap64 (op - 77) + 66) = op - 11 by unfold wrap64; omega]; exact ref_j0 k _ _ _ _ ho hb
    · rw [if_neg h7, if_neg h7]; exact ref_j0 k _ _ _ _ ho hb
  · rw [if_neg h, if_neg h]
theorem clear_one (x : Int) (hx : U64 x) : Go.bits .andNot .u64 x 1 = placeOf x 0 1 0 := by
  obtain ⟨n, rfl, hn⟩ := hx.nat
  rw [show (1 : Int) = ((1 : Nat) : Int) from rfl, andNot_nat n 1 hn (by decide)]
  have h := place_nat n 0 1 0 (by omega) (by omega)
  rw [show ((0 : Nat) : Int) = 0 from rfl, show ((1 : Nat) : Int) = 1 from rfl] at h
  rw [show ((1 : Nat) : Int) = 1 from rfl, h]
  congr 1
  apply Nat.eq_of_testBit_eq
  intro i
  rw [testBit_minus n 1 i hn (by decide), testBit_place]
  by_cases h0 : i = 0
  · subst h0; simp
  · rw [if_neg (by omega)]
    have : (1 : Nat).testBit i = false := by
      cases i with
      | zero => omega
      | succ i => simp [Nat.testBit_succ]
    rw [this]; simp
theorem taken_same (op rd rs1 rs2 imm a b : Int) (aq rl : Bool) (hI : I64 imm) (ha : U64 a) (hb : U64 b) : ∃ t, alu_Taken.f op rd rs1 rs2 imm aq rl a b = some t ∧ postbagref04_Taken.f op rd rs1 rs2 imm aq rl a b = some t := by
  unfold alu_Taken.f postbagref04_Taken.f inst_Good.f postbagref02_Good.f
  rw [if_pos hI, less_yes a b ha hb]
  simp only [Option.bind_some]
  by_cases hg : goodOf op rd rs1 rs2 imm aq rl = true
  · rw [if_pos hg, if_pos hg]
    by_cases h1 : op = 5
    · exact ⟨_, by rw [if_pos h1], by rw [if_pos h1]⟩
    by_cases h2 : op = 6
    · exact ⟨_, by rw [if_neg h1, if_pos h2], by rw [if_neg h1, if_pos h2]⟩
    by_cases h3 : op = 7
    · exact ⟨_, by rw [if_neg h1, if_neg h2, if_pos h3], by rw [if_neg h1, if_neg h2, if_pos h3]⟩
    by_cases h4 : op = 8
    · refine ⟨_, by rw [if_neg h1, if_neg h2, if_neg h3, if_pos h4], ?_⟩
      rw [if_neg h1, if_neg h2, if_neg h3, if_pos h4]
      congr 1
      by_cases q : wrap64 a < wrap64 b
      · rw [decide_eq_true q, decide_eq_false (by omega)]; rfl
      · rw [decide_eq_false q, decide_eq_true (by omega)]; rfl
    by_cases h5 : op = 9
    · exact ⟨_, by rw [if_neg h1, if_neg h2, if_neg h3, if_neg h4, if_pos h5], by rw [if_neg h1, if_neg h2, if_neg h3, if_neg h4, if_pos h5]⟩
    by_cases h6 : op = 10
    · exact ⟨_, by rw [if_neg h1, if_neg h2, if_neg h3, if_neg h4, if_neg h5, if_pos h6], by rw [if_neg h1, if_neg h2, if_neg h3, if_neg h4, if_neg h5, if_pos h6]⟩
    · exact ⟨_, by rw [if_neg h1, if_neg h2, if_neg h3, if_neg h4, if_neg h5, if_neg h6], by rw [if_neg h1, if_neg h2, if_neg h3, if_neg h4, if_neg h5, if_neg h6]⟩
  · exact ⟨false, by rw [if_neg hg], by rw [if_neg hg]⟩
theorem target_same (op rd rs1 rs2 imm pc a : Int) (aq rl : Bool) : ∃ t, alu_Target.f 3 op rd rs1 rs2 imm aq rl pc a = some t ∧ postbagref04_Target.f 3 op rd rs1 rs2 imm aq rl pc a = some t := by
  have hp := clear_one (IntKind.u64.wrap (a + IntKind.u64.wrap imm)) (U64.wrap _)
  have hq : postbagref01_Place.f (IntKind.u64.wrap (a + IntKind.u64.wrap imm)) 0 1 0 = some (placeOf (IntKind.u64.wrap (a + IntKind.u64.wrap imm)) 0 1 0) := by unfold postbagref01_Place.f; rw [if_pos ⟨U64.wrap _, by unfold U64; omega⟩]
  by_cases h1 : op = 3
  · subst h1; exact ⟨_, by simp [alu_Target.f, alu_Target.j0]; rfl, by simp [postbagref04_Target.f, postbagref04_Target.j0]⟩
  by_cases h2 : 5 ≤ op ∧ op ≤ 10
  · exact ⟨_, by simp [alu_Target.f, alu_Target.j0, h1, h2.1, h2.2]; rfl, by simp [postbagref04_Target.f, postbagref04_Target.j0, h1, h2.1, h2.2]⟩
  by_cases h4 : op = 4
  · subst h4; exact ⟨_, by simp [alu_Target.f, alu_Target.j0]; rfl, by simp [postbagref04_Target.f, postbagref04_Target.j0, hq, hp]⟩
  by_cases h5 : 5 ≤ op
  · have h6 : ¬ op ≤ 10 := by omega
    exact ⟨_, by simp [alu_Target.f, alu_Target.j0, h1, h4, h5, h6]; rfl, by simp [postbagref04_Target.f, postbagref04_Target.j0, h1, h4, h5, h6]⟩
  · exact ⟨_, by simp [alu_Target.f, alu_Target.j0, h1, h4, h5]; rfl, by simp [postbagref04_Target.f, postbagref04_Target.j0, h1, h4, h5]⟩
theorem address_same (op rd rs1 rs2 imm a : Int) (aq rl : Bool) : ∃ t, alu_Address.f 3 op rd rs1 rs2 imm aq rl a = some t ∧ postbagref04_Address.f 3 op rd rs1 rs2 imm aq rl a = some t := by
  have e : atomicB op = decide (66 ≤ op ∧ op ≤ 87) := rfl
  by_cases h1 : 11 ≤ op ∧ op ≤ 21
  · exact ⟨_, by simp [alu_Address.f, alu_Address.j0, h1.1, h1.2]; rfl, by simp [postbagref04_Address.f, postbagref04_Address.j0, h1.1, h1.2]⟩
  · have e1 : alu_Address.f 3 op rd rs1 rs2 imm aq rl a = alu_Address.j0 3 a false op rd rs1 rs2 imm aq rl := by
      unfold alu_Address.f; split; rw [decide_eq_false (by omega)]; rfl
    have e2 : postbagref04_Address.f 3 op rd rs1 rs2 imm aq rl a = postbagref04_Address.j0 3 a false op rd rs1 rs2 imm aq rl := by
      unfold postbagref04_Address.f; split; rw [decide_eq_false (by omega)]; rfl
    rw [e1, e2]
    by_cases h2 : 66 ≤ op ∧ op ≤ 87
    · exact ⟨a, by simp [alu_Address.j0, inst_Atomic.f, e, h2], by simp [postbagref04_Address.j0, postbagref02_Atomic.f, h2]⟩
    · have h3 : ¬ (66 ≤ op ∧ op ≤ 87) := h2
      exact ⟨0, by simp only [alu_Address.j0, inst_Atomic.f, e, decide_eq_false h3, Option.bind_some]; simp, by simp only [postbagref04_Address.j0, postbagref02_Atomic.f, decide_eq_false h3, Option.bind_some]; simp⟩
theorem dbl (x p : Int) : (x + x) % 18446744073709551616 * p % 18446744073709551616 = x * (p * 2) % 18446744073709551616 := by
  rw [show x * (p * 2) = (x + x) * p by rw [Int.add_mul, ← Int.mul_assoc]; omega]
  rw [Int.mul_emod, Int.emod_emod_of_dvd _ (Int.dvd_refl _), ← Int.mul_emod]
theorem left_run (n : Int) : ∀ (d k : Nat) (x i : Int), 0 ≤ i → i + d = n → n ≤ 64 → d < k → U64 x → postbagref04_left.l0 k x n i = some (IntKind.u64.wrap (x * 2 ^ d))
  | 0, k, x, i, h0, h1, h2, hk, hx => by
    obtain ⟨k, rfl⟩ : ∃ m, k = m + 1 := ⟨k - 1, by omega⟩
    simp only [postbagref04_left.l0]
    rw [if_neg (by omega), Int.pow_zero, Int.mul_one, U64.wrap_eq hx]
  | d + 1, k, x, i, h0, h1, h2, hk, hx => by
    obtain ⟨k, rfl⟩ : ∃ m, k = m + 1 := ⟨k - 1, by omega⟩
    simp only [postbagref04_left.l0]
    rw [if_pos (by omega), show wrap64 (i + 1) = i + 1 by unfold wrap64; omega, left_run n d k _ (i + 1) (by omega) (by omega) h2 (by omega) (U64.wrap _)]
    rw [Int.pow_succ, u64w, u64w, u64w, dbl]
theorem left_yes (k : Nat) (x n : Int) (h0 : 0 ≤ n) (h1 : n ≤ 63) (hx : U64 x) (hk : 65 ≤ k) : postbagref04_left.f k x n = some (IntKind.u64.wrap (x * 2 ^ n.toNat)) := by
  unfold postbagref04_left.f
  exact left_run n n.toNat k x 0 (by omega) (by omega) (by omega) (by omega) hx
/-- One place to the right, with a top bit. -/
theorem place_top (x t : Int) (hx : 0 ≤ x ∧ x < 9223372036854775808) (ht : t = 0 ∨ t = 1) : placeOf x 63 1 t = x + t * 9223372036854775808 := by
  have h := (place_put x t 63 1 (by unfold U64; omega) (by simp only [Int.reducePow]; omega) (by omega) (by omega) (by simp only [Int.reducePow]; omega)).2
  have e : Go.bits .or .u64 (x / 2 ^ 63) t = t := by
    rw [show x / 2 ^ 63 = 0 by simp only [Int.reducePow]; omega]
    rcases ht with rfl | rfl <;> decide
  rw [e] at h
  rw [show ((63 : Nat) : Int) = 63 from rfl, show ((1 : Nat) : Int) = 1 from rfl] at h
  rw [h]; rfl
theorem right0_run (n : Int) : ∀ (d k : Nat) (x i : Int), 0 ≤ i → i + d = n → n ≤ 64 → d < k → U64 x → postbagref04_right.l0 k x n 0 i = some (x / 2 ^ d)
  | 0, k, x, i, h0, h1, h2, hk, hx => by
    obtain ⟨k, rfl⟩ : ∃ m, k = m + 1 := ⟨k - 1, by omega⟩
    simp only [postbagref04_right.l0]
    rw [if_neg (by omega), Int.pow_zero, Int.ediv_one]
  | d + 1, k, x, i, h0, h1, h2, hk, hx => by
    obtain ⟨k, rfl⟩ : ∃ m, k = m + 1 := ⟨k - 1, by omega⟩
    have hx' := hx
    unfold U64 at hx'
    have hq : Int.tdiv x 2 = x / 2 := Int.tdiv_eq_ediv_of_nonneg hx'.1
    have hu : U64 (x / 2) := by unfold U64; omega
    simp only [postbagref04_right.l0, hq, U64.wrap_eq hu, postbagref01_Place.f]
    rw [if_pos (by omega), if_pos ⟨hu, by unfold U64; omega⟩]
    simp only [Option.bind_some]
    rw [place_top (x / 2) 0 (by omega) (Or.inl rfl), show x / 2 + 0 * 9223372036854775808 = x / 2 by omega, show wrap64 (i + 1) = i + 1 by unfold wrap64; omega, right0_run n d k _ (i + 1) (by omega) (by omega) h2 (by omega) hu]
    rw [Int.ediv_ediv_of_nonneg (by omega), Int.pow_succ, Int.mul_comm 2]
theorem right1_run (n : Int) : ∀ (d k : Nat) (x i : Int), 0 ≤ i → i + d = n → n ≤ 64 → d < k → U64 x → x / 9223372036854775808 = 1 → postbagref04_right.l0 k x n 1 i = some (IntKind.u64.wrap (wrap64 x / 2 ^ d))
  | 0, k, x, i, h0, h1, h2, hk, hx, ht => by
    obtain ⟨k, rfl⟩ : ∃ m, k = m + 1 := ⟨k - 1, by omega⟩
    simp only [postbagref04_right.l0]
    rw [if_neg (by omega), Int.pow_zero, Int.ediv_one, wrap_wrap64, U64.wrap_eq hx]
  | d + 1, k, x, i, h0, h1, h2, hk, hx, ht => by
    obtain ⟨k, rfl⟩ : ∃ m, k = m + 1 := ⟨k - 1, by omega⟩
    have hx' := hx
    unfold U64 at hx'
    have hq : Int.tdiv x 2 = x / 2 := Int.tdiv_eq_ediv_of_nonneg hx'.1
    have hu : U64 (x / 2) := by unfold U64; omega
    simp only [postbagref04_right.l0, hq, U64.wrap_eq hu, postbagref01_Place.f]
    rw [if_pos (by omega), if_pos ⟨hu, by unfold U64; omega⟩]
    simp only [Option.bind_some]
    have hv : U64 (x / 2 + 1 * 9223372036854775808) := by unfold U64; omega
    rw [place_top (x / 2) 1 (by omega) (Or.inr rfl), show wrap64 (i + 1) = i + 1 by unfold wrap64; omega, right1_run n d k _ (i + 1) (by omega) (by omega) h2 (by omega) hv (by omega)]
    have e : wrap64 (x / 2 + 1 * 9223372036854775808) = wrap64 x / 2 := by unfold wrap64; omega
    rw [e, Int.ediv_ediv_of_nonneg (by omega), Int.pow_succ, Int.mul_comm 2]
theorem right0_yes (k : Nat) (x n : Int) (h0 : 0 ≤ n) (h1 : n ≤ 63) (hx : U64 x) (hk : 65 ≤ k) : postbagref04_right.f k x n 0 = some (x / 2 ^ n.toNat) := by
  unfold postbagref04_right.f
  exact right0_run n n.toNat k x 0 (by omega) (by omega) (by omega) (by omega) hx
theorem right1_yes (k : Nat) (x n : Int) (h0 : 0 ≤ n) (h1 : n ≤ 63) (hx : U64 x) (hk : 65 ≤ k) : postbagref04_right.f k x n (x / 9223372036854775808) = some (IntKind.u64.wrap (wrap64 x / 2 ^ n.toNat)) := by
  have hx' := hx
  unfold U64 at hx'
  have cx : x / 9223372036854775808 = 0 ∨ x / 9223372036854775808 = 1 := by omega
  rcases cx with c | c
  · rw [c, right0_yes k x n h0 h1 hx hk, show wrap64 x = x by unfold wrap64; omega]
    have hp := ipos n.toNat
    rw [U64.wrap_eq ⟨Int.ediv_nonneg hx'.1 (by omega), Int.le_trans (Int.ediv_le_self _ hx'.1) hx'.2⟩]
  · rw [c]; unfold postbagref04_right.f
    exact right1_run n n.toNat k x 0 (by omega) (by omega) (by omega) (by omega) hx c
theorem word_yes (x : Int) (hx : U64 x) : postbagref04_word.f x = some (signOf x 32) := by
  unfold postbagref04_word.f postbagref01_Sign.f; rw [if_pos hx]; rfl
theorem low_yes (x : Int) (hx : U64 x) : postbagref04_low.f x = some (x % 4294967296) := by
  unfold postbagref04_low.f postbagref01_Field.f; rw [if_pos hx]
  simp only [Option.bind_some]
  rw [show fieldOf x 0 32 = x / 2 ^ 0 % 2 ^ 32 from field_lit x 0 32 (by omega) (by omega) (by omega)]
  simp
theorem cut64 (x : Int) (hx : U64 x) (s : Bool) : cutOf x 64 s = x := by
  unfold cutOf
  cases s
  · show fieldOf x 0 64 = x
    rw [show fieldOf x 0 64 = x / 2 ^ 0 % 2 ^ 64 from field_lit x 0 64 (by omega) (by omega) (by omega)]
    unfold U64 at hx; simp; omega
  · show signOf x 64 = x
    unfold signOf; rw [if_pos (by omega)]
theorem cut32 (x : Int) : cutOf x 32 true = signOf x 32 ∧ cutOf x 32 false = x % 4294967296 := by
  refine ⟨rfl, ?_⟩
  show fieldOf x 0 32 = _
  rw [show fieldOf x 0 32 = x / 2 ^ 0 % 2 ^ 32 from field_lit x 0 32 (by omega) (by omega) (by omega)]
  simp
theorem sign32_top (x : Int) (hx : U64 x) : bitOf x 31 = signOf x 32 / 9223372036854775808 ∧ U64 (signOf x 32) := by
  refine ⟨?_, sign_range x 32 hx⟩
  rw [show bitOf x 31 = x / 2 ^ 31 % 2 from bitOf_nat x 31 (by omega)]
  unfold signOf
  rw [if_neg (by omega)]
  unfold U64 at hx
  simp only [show (32 : Int).toNat = 32 from rfl, show ((32 : Int) - 1).toNat = 31 from rfl, Int.reducePow]
  split <;> omega
theorem count6 (c : Int) (hc : U64 c) : wrap64 (fieldOf c 0 6) = c % 64 := by
  rw [show fieldOf c 0 6 = c / 2 ^ 0 % 2 ^ 6 from field_lit c 0 6 (by omega) (by omega) (by omega)]
  simp; unfold wrap64; omega
theorem count5 (c : Int) (hc : U64 c) : wrap64 (fieldOf c 0 5) = c % 32 := by
  rw [show fieldOf c 0 5 = c / 2 ^ 0 % 2 ^ 5 from field_lit c 0 5 (by omega) (by omega) (by omega)]
  simp; unfold wrap64; omega
theorem one_of_bool (b : Bool) : postbagref04_one.f b = some (oneOf b) := by unfold postbagref04_one.f oneOf; cases b <;> rfl
theorem quo_range (x y : Int) (h1 : U64 x) (h2 : U64 y) (s : Bool) : U64 (quoOf x y s) := by
  unfold quoOf
  split
  · exact ⟨by decide, by decide⟩
  split
  · exact U64.wrap _
  · unfold U64 at *; exact ⟨Int.ediv_nonneg h1.1 h2.1, Int.le_trans (Int.ediv_le_self _ h1.1) h1.2⟩
theorem rem_range (x y : Int) (h1 : U64 x) (h2 : U64 y) (s : Bool) : U64 (remOf x y s) := by
  unfold remOf
  split
  · exact h1
  split
  · exact U64.wrap _
  · rename_i h0 _
    unfold U64 at *
    have p : 0 < y := by omega
    exact ⟨Int.emod_nonneg _ h0, by have := Int.emod_lt_of_pos x p; omega⟩
theorem j0_same (op pc a b C c' rd rs1 rs2 imm : Int) (aq rl : Bool) (ha : U64 a) (hb : U64 b) (hC : U64 C) (hc' : U64 c') (h1 : 1 ≤ op) (h2 : op ≤ 87)
    (hR : (op = 31 ∨ op = 32 ∨ op = 33 ∨ op = 34 ∨ op = 35 ∨ op = 36 ∨ op = 37 ∨ op = 38 ∨ op = 39 ∨ op = 40 ∨ op = 45 ∨ op = 46 ∨ op = 47 ∨ op = 48 ∨ op = 49 ∨ op = 53 ∨ op = 54 ∨ op = 55 ∨ op = 56 ∨ op = 57 ∨ op = 58 ∨ op = 59 ∨ op = 60 ∨ op = 61 ∨ op = 62 ∨ op = 63 ∨ op = 64 ∨ op = 65) → C = b ∧ c' = b) (hI : (op = 22 ∨ op = 23 ∨ op = 24 ∨ op = 25 ∨ op = 26 ∨ op = 27 ∨ op = 28 ∨ op = 29 ∨ op = 30 ∨ op = 41 ∨ op = 42 ∨ op = 43 ∨ op = 44) → C = c') (hz : op = 1 ∨ op = 2 → c' = IntKind.u64.wrap imm) :
    postbagref04_Value.j0 80 pc a b c' op rd rs1 rs2 imm aq rl = some (valueAt op imm pc a C) := by
  have n6 := count6 c' hc'
  have n5 := count5 c' hc'
  have b6 : 0 ≤ c' % 64 ∧ c' % 64 ≤ 63 := by omega
  have b5 : 0 ≤ c' % 32 ∧ c' % 32 ≤ 63 := by omega
  have L6 := fun k hk => left_yes k a (c' % 64) b6.1 b6.2 ha hk
  have L5 := fun k hk => left_yes k a (c' % 32) b5.1 b5.2 ha hk
  have R6 := fun k hk => right0_yes k a (c' % 64) b6.1 b6.2 ha hk
  have T6 := fun k hk => right1_yes k a (c' % 64) b6.1 b6.2 ha hk
  have hlow : U64 (a % 4294967296) := by unfold U64 at *; omega
  have R5 := fun k hk => right0_yes k (a % 4294967296) (c' % 32) b5.1 b5.2 hlow hk
  have st := sign32_top a ha
  have T5 := fun k hk => right1_yes k (signOf a 32) (c' % 32) b5.1 b5.2 st.2 hk
  have bt : postbagref01_Bit.f a 63 = some (a / 9223372036854775808) := by
    unfold postbagref01_Bit.f; rw [if_pos ha, show bitOf a 63 = a / 2 ^ 63 % 2 from bitOf_nat a 63 (by omega), show a / 2 ^ 63 % 2 = a / 9223372036854775808 by unfold U64 at ha; omega]
  have bu : postbagref01_Bit.f a 31 = some (signOf a 32 / 9223372036854775808) := by
    unfold postbagref01_Bit.f; rw [if_pos ha, st.1]
  have F6 : postbagref01_Field.f c' 0 6 = some (fieldOf c' 0 6) := by unfold postbagref01_Field.f; rw [if_pos hc']
  have F5 : postbagref01_Field.f c' 0 5 = some (fieldOf c' 0 5) := by unfold postbagref01_Field.f; rw [if_pos hc']
  have wa := word_yes a ha
  have la := low_yes a ha
  have le := less_yes a c' ha hc'
  have ww := fun x => word_yes (IntKind.u64.wrap x) (U64.wrap x)
  have sb := sign_range b 32 hb
  have hlb : U64 (b % 4294967296) := by unfold U64 at *; omega
  have wb := word_yes b hb
  have lb := low_yes b hb
  have rsl : ∀ x : Int, U64 x → ∀ n : Nat, U64 (x / 2 ^ n) := by
    intro x hx n
    have hp := ipos n
    unfold U64 at *
    exact ⟨Int.ediv_nonneg hx.1 (by omega), Int.le_trans (Int.ediv_le_self _ hx.1) hx.2⟩
  have wr := word_yes _ (rsl _ hlow (c' % 32).toNat)
  have cases3 : (op = 31 ∨ op = 32 ∨ op = 33 ∨ op = 34 ∨ op = 35 ∨ op = 36 ∨ op = 37 ∨ op = 38 ∨ op = 39 ∨ op = 40 ∨ op = 45 ∨ op = 46 ∨ op = 47 ∨ op = 48 ∨ op = 49 ∨ op = 53 ∨ op = 54 ∨ op = 55 ∨ op = 56 ∨ op = 57 ∨ op = 58 ∨ op = 59 ∨ op = 60 ∨ op = 61 ∨ op = 62 ∨ op = 63 ∨ op = 64 ∨ op = 65) ∨ (op = 22 ∨ op = 23 ∨ op = 24 ∨ op = 25 ∨ op = 26 ∨ op = 27 ∨ op = 28 ∨ op = 29 ∨ op = 30 ∨ op = 41 ∨ op = 42 ∨ op = 43 ∨ op = 44) ∨ (op = 1 ∨ op = 2 ∨ op = 3 ∨ op = 4 ∨ op = 5 ∨ op = 6 ∨ op = 7 ∨ op = 8 ∨ op = 9 ∨ op = 10 ∨ op = 11 ∨ op = 12 ∨ op = 13 ∨ op = 14 ∨ op = 15 ∨ op = 16 ∨ op = 17 ∨ op = 18 ∨ op = 19 ∨ op = 20 ∨ op = 21 ∨ op = 50 ∨ op = 51 ∨ op = 52 ∨ op = 66 ∨ op = 67 ∨ op = 68 ∨ op = 69 ∨ op = 70 ∨ op = 71 ∨ op = 72 ∨ op = 73 ∨ op = 74 ∨ op = 75 ∨ op = 76 ∨ op = 77 ∨ op = 78 ∨ op = 79 ∨ op = 80 ∨ op = 81 ∨ op = 82 ∨ op = 83 ∨ op = 84 ∨ op = 85 ∨ op = 86 ∨ op = 87) := by omega
  have q64 : ∀ s x, U64 x → cutOf x 64 s = x := fun s x hx => cut64 x hx s
  rcases cases3 with h | h | h
  · obtain ⟨rfl, rfl⟩ := hR h
    clear hR hI hz
    have Q : ∀ s, postbagref01_Quo.f a c' s = some (quoOf a c' s) := fun s => by unfold postbagref01_Quo.f; rw [if_pos ⟨ha, hb⟩]
    have M : ∀ s, postbagref01_Rem.f a c' s = some (remOf a c' s) := fun s => by unfold postbagref01_Rem.f; rw [if_pos ⟨ha, hb⟩]
    have Qs : ∀ s, postbagref01_Quo.f (signOf a 32) (signOf c' 32) s = some (quoOf (signOf a 32) (signOf c' 32) s) := fun s => by unfold postbagref01_Quo.f; rw [if_pos ⟨st.2, sb⟩]
    have Ql : ∀ s, postbagref01_Quo.f (a % 4294967296) (c' % 4294967296) s = some (quoOf (a % 4294967296) (c' % 4294967296) s) := fun s => by unfold postbagref01_Quo.f; rw [if_pos ⟨hlow, hlb⟩]
    have Ms : ∀ s, postbagref01_Rem.f (signOf a 32) (signOf c' 32) s = some (remOf (signOf a 32) (signOf c' 32) s) := fun s => by unfold postbagref01_Rem.f; rw [if_pos ⟨st.2, sb⟩]
    have Ml : ∀ s, postbagref01_Rem.f (a % 4294967296) (c' % 4294967296) s = some (remOf (a % 4294967296) (c' % 4294967296) s) := fun s => by unfold postbagref01_Rem.f; rw [if_pos ⟨hlow, hlb⟩]
    have HH : ∀ s t, postbagref01_High.f a c' s t = some (hiOf a c' s t) := fun s t => by unfold postbagref01_High.f; rw [if_pos ⟨ha, hb⟩]
    have qr := fun s => quo_range (signOf a 32) (signOf c' 32) st.2 sb s
    have ql := fun s => quo_range (a % 4294967296) (c' % 4294967296) hlow hlb s
    have mr := fun s => rem_range (signOf a 32) (signOf c' 32) st.2 sb s
    have ml := fun s => rem_range (a % 4294967296) (c' % 4294967296) hlow hlb s
    have wq1 := word_yes _ (qr true)
    have wq2 := word_yes _ (ql false)
    have wq3 := word_yes _ (mr true)
    have wq4 := word_yes _ (ml false)
    rcases h with rfl | rfl | rfl | rfl | rfl | rfl | rfl | rfl | rfl | rfl | rfl | rfl | rfl | rfl | rfl | rfl | rfl | rfl | rfl | rfl | rfl | rfl | rfl | rfl | rfl | rfl | rfl | rfl
    all_goals simp [postbagref04_Value.j0, postbagref04_plain.f, postbagref04_plain.j0, postbagref04_plain.j1, postbagref04_plain.j2, postbagref04_plain.j3, postbagref04_plain.j4, postbagref04_plain.j5, postbagref04_plain.j6, postbagref04_plain.j7, postbagref04_narrow.f, postbagref04_narrow.j0, postbagref04_narrow.j1, postbagref04_narrow.j2, postbagref04_narrow.j3, postbagref04_many.f, postbagref04_many.j0, valueAt, shortB, sizedOf, othersOf, rightOf, rsh, F6, F5, n6, n5, L6, L5, R6, T6, R5, T5, bt, bu, wa, la, le, ww, wb, lb, wr, one_of_bool, q64, ha, hC, cut32, Q, M, Qs, Ql, Ms, Ml, HH, wq1, wq2, wq3, wq4]
  · obtain rfl := hI h
    clear hR hI hz
    rcases h with rfl | rfl | rfl | rfl | rfl | rfl | rfl | rfl | rfl | rfl | rfl | rfl | rfl
    all_goals simp [postbagref04_Value.j0, postbagref04_plain.f, postbagref04_plain.j0, postbagref04_plain.j1, postbagref04_plain.j2, postbagref04_plain.j3, postbagref04_plain.j4, postbagref04_plain.j5, postbagref04_plain.j6, postbagref04_plain.j7, postbagref04_narrow.f, postbagref04_narrow.j0, postbagref04_narrow.j1, postbagref04_narrow.j2, postbagref04_narrow.j3, postbagref04_many.f, postbagref04_many.j0, valueAt, shortB, sizedOf, othersOf, rightOf, rsh, F6, F5, n6, n5, L6, L5, R6, T6, R5, T5, bt, bu, wa, la, le, ww, wb, lb, wr, one_of_bool, q64, ha, hC, cut32]
  · clear hR hI
    rcases h with rfl | rfl | rfl | rfl | rfl | rfl | rfl | rfl | rfl | rfl | rfl | rfl | rfl | rfl | rfl | rfl | rfl | rfl | rfl | rfl | rfl | rfl | rfl | rfl | rfl | rfl | rfl | rfl | rfl | rfl | rfl | rfl | rfl | rfl | rfl | rfl | rfl | rfl | rfl | rfl | rfl | rfl | rfl | rfl | rfl | rfl
    all_goals simp [postbagref04_Value.j0, postbagref04_plain.f, postbagref04_plain.j0, postbagref04_plain.j1, postbagref04_plain.j2, postbagref04_plain.j3, postbagref04_plain.j4, postbagref04_plain.j5, postbagref04_plain.j6, postbagref04_plain.j7, postbagref04_narrow.f, postbagref04_narrow.j0, postbagref04_narrow.j1, postbagref04_narrow.j2, postbagref04_narrow.j3, postbagref04_many.f, postbagref04_many.j0, valueAt, shortB, sizedOf, othersOf, rightOf, rsh, F6, F5, n6, n5, L6, L5, R6, T6, R5, T5, bt, bu, wa, la, le, ww, wb, lb, wr, one_of_bool, q64, ha, hC, cut32]
    all_goals rw [hz (by omega)]
theorem value_same (op rd rs1 rs2 imm pc a b : Int) (aq rl : Bool) (hI : I64 imm) (ha : U64 a) (hb : U64 b) :
    postbagref04_Value.f 80 op rd rs1 rs2 imm aq rl pc a b = alu_Value.f op rd rs1 rs2 imm aq rl pc a b := by
  unfold postbagref04_Value.f alu_Value.f postbagref02_Good.f
  rw [if_pos hI, if_pos ⟨hI, ha, hb⟩]
  simp only [Option.bind_some]
  by_cases hg : goodOf op rd rs1 rs2 imm aq rl = true
  · have G := goodI hg
    rw [if_pos hg, if_pos hg]
    simp only [postbagref02_Row.f, Option.bind_some]
    have f8 : ∀ n : Nat, n < 87 → ((formOf ((n : Int) + 1) = 8) ↔ ((31 ≤ (n : Int) + 1 ∧ (n : Int) + 1 ≤ 40) ∨ (45 ≤ (n : Int) + 1 ∧ (n : Int) + 1 ≤ 49) ∨ (53 ≤ (n : Int) + 1 ∧ (n : Int) + 1 ≤ 65))) := by decide +kernel
    have f8 := f8 (op - 1).toNat (by have := G.op1; have := G.op2; omega)
    rw [show (((op - 1).toNat : Nat) : Int) + 1 = op by have := G.op1; omega] at f8
    unfold valueOf
    have g1 := G.op1
    have g2 := G.op2
    by_cases h8 : formOf op = 8
    · have h := f8.1 h8
      have hi : immB op = false := decide_eq_false (by omega)
      rw [if_pos h8, hi, if_neg (by simp)]
      exact j0_same op pc a b b b rd rs1 rs2 imm aq rl ha hb hb hb g1 g2 (fun _ => ⟨rfl, rfl⟩) (fun _ => rfl) (fun h => by omega)
    · have h : ¬ _ := fun h => h8 (f8.2 h)
      rw [if_neg h8]
      have hC : U64 (if immB op = true then IntKind.u64.wrap imm else b) := by split; exact U64.wrap _; exact hb
      refine j0_same op pc a b _ (IntKind.u64.wrap imm) rd rs1 rs2 imm aq rl ha hb hC (U64.wrap _) g1 g2 (fun hr => absurd (by omega) h) (fun hi => ?_) (fun _ => rfl)
      have : immB op = true := decide_eq_true (by omega)
      rw [if_pos this]
  · rw [if_neg hg, if_neg hg]
section
variable (op rd rs1 rs2 imm a b : Int) (aq rl : Bool) (W : World)
theorem r_size : Calls Tryz.prog 34 #[.int .i64 op] W fun e w' => e = .returned (.int .i64 (PAll.sizeOf op)) ∧ Below W.heap.size W w' := (postbagref02_Size.calls op _ W rfl).mono fun e w' ⟨h, d⟩ => ⟨h, by first | exact d | exact d.below⟩
theorem r_loads : Calls Tryz.prog 65 #[.int .i64 op] W fun e w' => e = .returned (.bool (loadsB op)) ∧ Below W.heap.size W w' := (postbagref02_Loads.calls op _ W rfl).mono fun e w' ⟨h, d⟩ => ⟨h, by first | exact d | exact d.below⟩
theorem r_stores : Calls Tryz.prog 66 #[.int .i64 op] W fun e w' => e = .returned (.bool (storesB op)) ∧ Below W.heap.size W w' := (postbagref02_Stores.calls op _ W rfl).mono fun e w' ⟨h, d⟩ => ⟨h, by first | exact d | exact d.below⟩
theorem r_addr : Calls Tryz.prog 63 #[.agg #[.int .i64 op, .int .i64 rd, .int .i64 rs1, .int .i64 rs2, .int .i64 imm, .bool aq, .bool rl], .int .u64 a] W fun e w' => e = .returned (.int .u64 (addrOf op imm a)) ∧ Below W.heap.size W w' := by
  obtain ⟨t, h1, h2⟩ := address_same op rd rs1 rs2 imm a aq rl
  rw [addr_eq] at h1
  injection h1 with h1
  subst h1
  exact (postbagref04_Address.calls 3 op rd rs1 rs2 imm aq rl a _ W h2).mono fun e w' ⟨h, d⟩ => ⟨h, by first | exact d | exact d.below⟩
theorem r_loaded (raw : Int) (hr : U64 raw) : Calls Tryz.prog 67 #[.int .i64 op, .int .u64 raw] W fun e w' => e = .returned (.int .u64 (loadedOf op raw)) ∧ Below W.heap.size W w' := by
  obtain ⟨t, h1, h2⟩ := loaded_same op raw hr
  rw [loaded_eq _ _ hr] at h1
  injection h1 with h1
  subst h1
  exact (postbagref04_Loaded.calls 3 op raw _ W h2).mono fun e w' ⟨h, d⟩ => ⟨h, by first | exact d | exact d.below⟩
theorem r_stored (old : Int) (ho : U64 old) (hb : U64 b) : Calls Tryz.prog 64 #[.int .i64 op, .int .u64 old, .int .u64 b] W fun e w' => e = .returned (.int .u64 (storedOf op old b)) ∧ Below W.heap.size W w' := (postbagref04_Stored.calls 3 op old b _ W (ref_stored 2 op old b ho hb)).mono fun e w' ⟨h, d⟩ => ⟨h, by first | exact d | exact d.below⟩
theorem r_target (pc : Int) : Calls Tryz.prog 38 #[.agg #[.int .i64 op, .int .i64 rd, .int .i64 rs1, .int .i64 rs2, .int .i64 imm, .bool aq, .bool rl], .int .u64 pc, .int .u64 a] W fun e w' => e = .returned (.int .u64 (targetOf op imm pc a)) ∧ Below W.heap.size W w' := by
  obtain ⟨t, h1, h2⟩ := target_same op rd rs1 rs2 imm pc a aq rl
  rw [target_eq] at h1
  injection h1 with h1
  subst h1
  exact (postbagref04_Target.calls 3 op rd rs1 rs2 imm aq rl pc a _ W h2).mono fun e w' ⟨h, d⟩ => ⟨h, by first | exact d | exact d.below⟩
theorem r_taken (hI : I64 imm) (hg : goodOf op rd rs1 rs2 imm aq rl = true) (ha : U64 a) (hb : U64 b) : Calls Tryz.prog 37 #[.agg #[.int .i64 op, .int .i64 rd, .int .i64 rs1, .int .i64 rs2, .int .i64 imm, .bool aq, .bool rl], .int .u64 a, .int .u64 b] W fun e w' => e = .returned (.bool (takenOf op a b)) ∧ Below W.heap.size W w' := by
  obtain ⟨t, h1, h2⟩ := taken_same op rd rs1 rs2 imm a b aq rl hI ha hb
  rw [taken_eq _ _ _ _ _ _ _ _ _ hI hg] at h1
  injection h1 with h1
  subst h1
  exact (postbagref04_Taken.calls op rd rs1 rs2 imm aq rl a b _ W h2).mono fun e w' ⟨h, d⟩ => ⟨h, by first | exact d | exact d.below⟩
theorem r_value (hI : I64 imm) (hg : goodOf op rd rs1 rs2 imm aq rl = true) (pc : Int) (ha : U64 a) (hb : U64 b) : Calls Tryz.prog 36 #[.agg #[.int .i64 op, .int .i64 rd, .int .i64 rs1, .int .i64 rs2, .int .i64 imm, .bool aq, .bool rl], .int .u64 pc, .int .u64 a, .int .u64 b] W fun e w' => e = .returned (.tuple #[.int .u64 (valueOf op imm pc a b).1, .int .i64 (valueOf op imm pc a b).2]) ∧ Below W.heap.size W w' :=
  (postbagref04_Value.calls 80 op rd rs1 rs2 imm aq rl pc a b _ _ W (by rw [value_same _ _ _ _ _ _ _ _ _ _ hI ha hb]; unfold alu_Value.f; rw [if_pos ⟨hI, ha, hb⟩, if_pos hg])).mono fun e w' ⟨h, d⟩ => ⟨h, by first | exact d | exact d.below⟩
theorem r_decode (wd : Int) (h : 0 ≤ wd ∧ wd < 4294967296) (W : World) : Calls Tryz.prog 32 #[.int .u32 wd] W fun e w' => e = .returned (.tuple #[.agg (insC (decTup wd (decOp wd)).1 (decTup wd (decOp wd)).2.1 (decTup wd (decOp wd)).2.2.1 (decTup wd (decOp wd)).2.2.2.1 (decTup wd (decOp wd)).2.2.2.2.1 (decTup wd (decOp wd)).2.2.2.2.2.1 (decTup wd (decOp wd)).2.2.2.2.2.2.1), .int .i64 (decTup wd (decOp wd)).2.2.2.2.2.2.2]) ∧ Below W.heap.size W w' :=
  (postbagref02_Decode.calls wd _ _ _ _ _ _ _ _ W (by unfold postbagref02_Decode.f; rw [if_pos h])).mono fun e w' ⟨h, d⟩ => ⟨h, by first | exact d | exact d.below⟩
end
end Go.Proofs.YtcjfafhbohkhlaaGreat.Hand
