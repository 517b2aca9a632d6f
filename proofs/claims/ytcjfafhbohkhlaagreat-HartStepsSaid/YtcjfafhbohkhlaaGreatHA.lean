/- DERIVED. DERIVED. What an instruction does with a register's and the memory's numbers: the program's functions, each by a plain contract. -/
import Derived.Test.YtcjfafhbohkhlaaGreatProg
import Derived.Test.YtcjfafhbohkhlaaGreatMBits
import Derived.Test.YtcjfafhbohkhlaaGreatMWalk
import Derived.Test.YtcjfafhbohkhlaaGreatMTab
import Derived.Test.YtcjfafhbohkhlaaGreatMInst
import Derived.Test.YtcjfafhbohkhlaaGreatMDec
import Derived.Test.YtcjfafhbohkhlaaGreatMDec2
import Derived.Test.YtcjfafhbohkhlaaGreatMQTail
import Derived.Test.YtcjfafhbohkhlaaGreatMArg
import Derived.Test.YtcjfafhbohkhlaaGreatMMem
import Derived.Test.YtcjfafhbohkhlaaGreatMMemK
import Derived.Test.YtcjfafhbohkhlaaGreatMMemR
import Derived.Test.YtcjfafhbohkhlaaGreatMHart
import Derived.Test.YtcjfafhbohkhlaaGreatMRow
import Derived.Test.YtcjfafhbohkhlaaGreatMOpen
import Derived.Test.YtcjfafhbohkhlaaGreatMPart
import Derived.Test.YtcjfafhbohkhlaaGreatMReg
import Derived.Test.YtcjfafhbohkhlaaGreatMQHead
import Derived.Test.YtcjfafhbohkhlaaGreatPAllx0
import Derived.Test.YtcjfafhbohkhlaaGreatPAllx2
import Derived.Test.YtcjfafhbohkhlaaGreatPAllx4
import Derived.Test.YtcjfafhbohkhlaaGreatPAllx5
import Derived.Test.YtcjfafhbohkhlaaGreatPAllx6
import Derived.Test.YtcjfafhbohkhlaaGreatPAllx9
import Derived.Test.YtcjfafhbohkhlaaGreatPAllx11
import Derived.Test.YtcjfafhbohkhlaaGreatPAllx12
import Derived.Test.YtcjfafhbohkhlaaGreatPAllx14
import Derived.Test.YtcjfafhbohkhlaaGreatPAllx16
import Derived.Test.YtcjfafhbohkhlaaGreatPAllx20
import Derived.Below
import Derived.Deep.Draws
import Derived.Deep.AppendLies
import Derived.Maps.AppendAt
import Derived.OwnWalk
import Derived.Laws.BytesArg
import Derived.Laws.MakeOwn
import Derived.Laws.OwnMore
import Derived.Deep.OwnRows
import Derived.Tactics
import Derived.Lib.ConvBytes
import Derived.Laws.Slices
import Derived.WalkKit
import Derived.KernelRfl
import Derived.RowKit3
import Derived.Deep.LoopGhost
import Derived.Deep.QuietTactic
import Derived.BigQuiet
import Derived.WideLaws
import Derived.Deep.DeepCutAuto
import Derived.Deep.CutBlock
import Derived.Deep.RegionHeld3
import Derived.Laws.Rows
import Derived.Lib.AppendStr
import Derived.ArgAppend
import Derived.Laws.IdiomCopy
import Derived.OrdersHeld
import Derived.Laws.BitsLemmas
import Derived.Laws.Bits64
import Derived.RowKit
import Derived.Outline
import Derived.Handy
import Derived.Lib.Hide
import Derived.Deep.Light
import Derived.Laws.CopyOwn
namespace Go.Proofs.YtcjfafhbohkhlaaGreat.Hand
open Go Go.RowKit Go.Proofs.YtcjfafhbohkhlaaGreat.M Go.Proofs.YtcjfafhbohkhlaaGreat.PAll Go.Proofs.YtcjfafhbohkhlaaGreatW.PrintWords
set_option linter.unusedVariables false
set_option linter.unusedSimpArgs false
theorem size_range (op : Int) : 0 ≤ PAll.sizeOf op ∧ PAll.sizeOf op ≤ 8 := by
  unfold PAll.sizeOf
  repeat' split
  all_goals omega
theorem size8 (op : Int) : wrap64 (8 * PAll.sizeOf op) = 8 * PAll.sizeOf op := by have := size_range op; unfold wrap64; omega
theorem xor_comm' (x y : Int) (hx : U64 x) (hy : U64 y) : Go.bits .xor .u64 x y = Go.bits .xor .u64 y x ∧ U64 (Go.bits .xor .u64 y x) := by
  obtain ⟨a, rfl, ha⟩ := hx.nat
  obtain ⟨b, rfl, hb⟩ := hy.nat
  rw [xor_nat a b ha hb, xor_nat b a hb ha, Nat.xor_comm]
  exact ⟨rfl, U64.mk (by rw [Nat.xor_comm]; exact Nat.xor_lt_two_pow ha hb)⟩
theorem and_comm' (x y : Int) (hx : U64 x) (hy : U64 y) : Go.bits .and .u64 x y = Go.bits .and .u64 y x ∧ U64 (Go.bits .and .u64 y x) := by
  obtain ⟨a, rfl, ha⟩ := hx.nat
  obtain ⟨b, rfl, hb⟩ := hy.nat
  rw [and_nat a b ha hb, and_nat b a hb ha, Nat.and_comm]
  exact ⟨rfl, U64.mk (Nat.lt_of_le_of_lt Nat.and_le_left hb)⟩
theorem or_comm' (x y : Int) (hx : U64 x) (hy : U64 y) : Go.bits .or .u64 x y = Go.bits .or .u64 y x ∧ U64 (Go.bits .or .u64 y x) := by
  obtain ⟨a, rfl, ha⟩ := hx.nat
  obtain ⟨b, rfl, hb⟩ := hy.nat
  rw [or_nat a b ha hb, or_nat b a hb ha, Nat.or_comm]
  exact ⟨rfl, U64.mk (by rw [Nat.or_comm]; exact Nat.or_lt_two_pow ha hb)⟩
theorem mn_range (x y : Int) (hx : U64 x) (hy : U64 y) : U64 (mn x y) := by unfold mn; split; exact hy; exact hx
theorem mx_range (x y : Int) (hx : U64 x) (hy : U64 y) : U64 (mx x y) := by unfold mx; split; exact hy; exact hx
/-- What is stored, of so many bits. -/
def amoOf (kind n old b : Int) : Int :=
  if kind = 69 then fieldOf (IntKind.u64.wrap (signOf b n + signOf old n)) 0 n else if kind = 70 then fieldOf (Go.bits .xor .u64 (signOf b n) (signOf old n)) 0 n
  else if kind = 71 then fieldOf (Go.bits .and .u64 (signOf b n) (signOf old n)) 0 n else if kind = 72 then fieldOf (Go.bits .or .u64 (signOf b n) (signOf old n)) 0 n
  else if kind = 73 then fieldOf (IntKind.u64.wrap (mn (wrap64 (signOf old n)) (wrap64 (signOf b n)))) 0 n else if kind = 74 then fieldOf (IntKind.u64.wrap (mx (wrap64 (signOf old n)) (wrap64 (signOf b n)))) 0 n
  else if kind = 75 then fieldOf (mn (fieldOf old 0 n) (fieldOf b 0 n)) 0 n else if kind = 76 then fieldOf (mx (fieldOf old 0 n) (fieldOf b 0 n)) 0 n else fieldOf (signOf b n) 0 n
theorem alu_j0 (k : Nat) (kind n old b : Int) (ho : U64 old) (hb : U64 b) : alu_Stored.j0 (k + 1) old b n kind = some (amoOf kind n old b) := by
  have so := sign_range old n ho
  have sb := sign_range b n hb
  have fo := field_range old 0 n ho
  have fb := field_range b 0 n hb
  have S : ∀ x, U64 x → bits_Sign.f x n = some (signOf x n) := fun x h => by unfold bits_Sign.f; rw [if_pos h]
  have F : ∀ x, U64 x → bits_Field.f x 0 n = some (fieldOf x 0 n) := fun x h => by unfold bits_Field.f; rw [if_pos h]
  simp only [alu_Stored.j0, S _ ho, S _ hb, F _ ho, F _ hb, Option.bind_some, F _ (U64.wrap _), F _ (xor_comm' _ _ so sb).2, F _ (and_comm' _ _ so sb).2, F _ (or_comm' _ _ so sb).2, F _ (mn_range _ _ fo fb), F _ (mx_range _ _ fo fb), F _ sb]
  unfold amoOf
  by_cases h1 : kind = 69
  · simp only [if_pos h1]
  by_cases h2 : kind = 70
  · simp only [if_neg h1, if_pos h2]
  by_cases h3 : kind = 71
  · simp only [if_neg h1, if_neg h2, if_pos h3]
  by_cases h4 : kind = 72
  · simp only [if_neg h1, if_neg h2, if_neg h3, if_pos h4]
  by_cases h5 : kind = 73
  · simp only [if_neg h1, if_neg h2, if_neg h3, if_neg h4, if_pos h5]
  by_cases h6 : kind = 74
  · simp only [if_neg h1, if_neg h2, if_neg h3, if_neg h4, if_neg h5, if_pos h6]
  by_cases h7 : kind = 75
  · simp only [if_neg h1, if_neg h2, if_neg h3, if_neg h4, if_neg h5, if_neg h6, if_pos h7]
  by_cases h8 : kind = 76
  · simp only [if_neg h1, if_neg h2, if_neg h3, if_neg h4, if_neg h5, if_neg h6, if_neg h7, if_pos h8]
  · simp only [if_neg h1, if_neg h2, if_neg h3, if_neg h4, if_neg h5, if_neg h6, if_neg h7, if_neg h8]
def storedOf (op old b : Int) : Int := if storesB op = true then amoOf (if 77 ≤ op then op - 11 else op) (8 * PAll.sizeOf op) old b else 0
theorem alu_stored (k : Nat) (op old b : Int) (ho : U64 old) (hb : U64 b) : alu_Stored.f (k + 1) op old b = some (storedOf op old b) := by
  unfold alu_Stored.f storedOf
  simp only [inst_Stores.f, inst_Size.f, Option.bind_some, size8]
  by_cases h : storesB op = true
  · have hr : 18 ≤ op ∧ op ≤ 87 := by unfold storesB at h; have := of_decide_eq_true h; omega
    rw [if_pos h, if_pos h]
    by_cases h7 : 77 ≤ op
    · rw [if_pos h7, if_pos h7, show wrap64 (op - 11) = op - 11 by unfold wrap64; omega]; exact alu_j0 k _ _ _ _ ho hb
    · rw [if_neg h7, if_neg h7]; exact alu_j0 k _ _ _ _ ho hb
  · rw [if_neg h, if_neg h]

def addrOf (op imm a : Int) : Int := if 11 ≤ op ∧ op ≤ 21 then IntKind.u64.wrap (a + IntKind.u64.wrap imm) else if atomicB op = true then a else 0
def loadedOf (op raw : Int) : Int := if loadsB op = true then (if 15 ≤ op ∧ op ≤ 17 then fieldOf raw 0 (8 * PAll.sizeOf op) else signOf raw (8 * PAll.sizeOf op)) else 0
def targetOf (op imm pc a : Int) : Int := if op = 3 ∨ 5 ≤ op ∧ op ≤ 10 then IntKind.u64.wrap (pc + IntKind.u64.wrap imm) else if op = 4 then Go.bits .andNot .u64 (IntKind.u64.wrap (a + IntKind.u64.wrap imm)) 1 else IntKind.u64.wrap (pc + 4)
def takenOf (op a b : Int) : Bool := if op = 5 then a == b else if op = 6 then a != b else if op = 7 then decide (wrap64 a < wrap64 b) else if op = 8 then decide (wrap64 a ≥ wrap64 b) else if op = 9 then decide (a < b) else if op = 10 then decide (a ≥ b) else false
theorem addr_eq (op rd rs1 rs2 imm a : Int) (aq rl : Bool) : alu_Address.f 3 op rd rs1 rs2 imm aq rl a = some (addrOf op imm a) := by
  have e : alu_Address.f 3 op rd rs1 rs2 imm aq rl a = alu_Address.j0 3 a (decide (11 ≤ op ∧ op ≤ 21)) op rd rs1 rs2 imm aq rl := by
    unfold alu_Address.f
    by_cases h : op ≥ 11
    · rw [if_pos h]; congr 1; rw [Bool.eq_iff_iff]; simp; omega
    · rw [if_neg h, decide_eq_false (by omega)]
  rw [e]
  unfold addrOf
  by_cases h1 : 11 ≤ op ∧ op ≤ 21
  · rw [decide_eq_true h1, if_pos h1]; simp [alu_Address.j0]
  · rw [decide_eq_false h1, if_neg h1]
    simp only [alu_Address.j0, inst_Atomic.f, Option.bind_some, Bool.false_eq_true, if_false]
    split <;> rfl
theorem loaded_eq (op raw : Int) (hr : U64 raw) : alu_Loaded.f 3 op raw = some (loadedOf op raw) := by
  have F : ∀ n, bits_Field.f raw 0 n = some (fieldOf raw 0 n) := fun n => by unfold bits_Field.f; rw [if_pos hr]
  have S : ∀ n, bits_Sign.f raw n = some (signOf raw n) := fun n => by unfold bits_Sign.f; rw [if_pos hr]
  unfold alu_Loaded.f loadedOf
  simp only [inst_Size.f, inst_Loads.f, Option.bind_some, size8]
  by_cases hl : loadsB op = true
  · rw [if_pos hl, if_pos hl]
    by_cases h15 : op ≥ 15
    · rw [if_pos h15]
      by_cases h17 : op ≤ 17
      · rw [if_pos ⟨h15, h17⟩]; simp [alu_Loaded.j0, h17, F]
      · rw [if_neg (by omega)]; simp [alu_Loaded.j0, h17, S]
    · rw [if_neg h15, if_neg (by omega)]; simp [alu_Loaded.j0, S]
  · rw [if_neg hl, if_neg hl]
theorem target_eq (op rd rs1 rs2 imm pc a : Int) (aq rl : Bool) : alu_Target.f 3 op rd rs1 rs2 imm aq rl pc a = some (targetOf op imm pc a) := by
  unfold alu_Target.f targetOf
  by_cases h1 : op = 3
  · subst h1; simp [alu_Target.j0]
  by_cases h5 : op ≥ 5
  · by_cases h10 : op ≤ 10
    · simp [alu_Target.j0, h1, h5, h10]
    · have h4 : op ≠ 4 := by omega
      simp [alu_Target.j0, h1, h4, h5, h10]
  · by_cases h4 : op = 4
    · subst h4; simp [alu_Target.j0]
    · simp [alu_Target.j0, h1, h4, h5]
theorem taken_eq (op rd rs1 rs2 imm a b : Int) (aq rl : Bool) (hI : I64 imm) (hg : goodOf op rd rs1 rs2 imm aq rl = true) : alu_Taken.f op rd rs1 rs2 imm aq rl a b = some (takenOf op a b) := by
  unfold alu_Taken.f inst_Good.f takenOf
  rw [if_pos hI]
  simp only [Option.bind_some, hg, if_true]
  repeat' split
  all_goals rfl
section
variable (op rd rs1 rs2 imm a b : Int) (aq rl : Bool) (W : World)
theorem c_size : Calls Tryz.prog 26 #[.int .i64 op] W fun e w' => e = .returned (.int .i64 (PAll.sizeOf op)) ∧ Below W.heap.size W w' := (inst_Size.calls op _ W rfl).mono fun e w' ⟨h, d⟩ => ⟨h, d.below⟩
theorem c_loads : Calls Tryz.prog 52 #[.int .i64 op] W fun e w' => e = .returned (.bool (loadsB op)) ∧ Below W.heap.size W w' := (inst_Loads.calls op _ W rfl).mono fun e w' ⟨h, d⟩ => ⟨h, d.below⟩
theorem c_stores : Calls Tryz.prog 53 #[.int .i64 op] W fun e w' => e = .returned (.bool (storesB op)) ∧ Below W.heap.size W w' := (inst_Stores.calls op _ W rfl).mono fun e w' ⟨h, d⟩ => ⟨h, d.below⟩
theorem c_addr : Calls Tryz.prog 50 #[.agg #[.int .i64 op, .int .i64 rd, .int .i64 rs1, .int .i64 rs2, .int .i64 imm, .bool aq, .bool rl], .int .u64 a] W fun e w' => e = .returned (.int .u64 (addrOf op imm a)) ∧ Below W.heap.size W w' := alu_Address.calls 3 op rd rs1 rs2 imm aq rl a _ W (addr_eq _ _ _ _ _ _ _ _)
theorem c_loaded (raw : Int) (hr : U64 raw) : Calls Tryz.prog 54 #[.int .i64 op, .int .u64 raw] W fun e w' => e = .returned (.int .u64 (loadedOf op raw)) ∧ Below W.heap.size W w' := (alu_Loaded.calls 3 op raw _ W (loaded_eq _ _ hr)).mono fun e w' ⟨h, d⟩ => ⟨h, d.below⟩
theorem c_stored (old : Int) (ho : U64 old) (hb : U64 b) : Calls Tryz.prog 51 #[.int .i64 op, .int .u64 old, .int .u64 b] W fun e w' => e = .returned (.int .u64 (storedOf op old b)) ∧ Below W.heap.size W w' := alu_Stored.calls 3 op old b _ W (alu_stored 2 op old b ho hb)
theorem c_target (pc : Int) : Calls Tryz.prog 29 #[.agg #[.int .i64 op, .int .i64 rd, .int .i64 rs1, .int .i64 rs2, .int .i64 imm, .bool aq, .bool rl], .int .u64 pc, .int .u64 a] W fun e w' => e = .returned (.int .u64 (targetOf op imm pc a)) ∧ Below W.heap.size W w' := alu_Target.calls 3 op rd rs1 rs2 imm aq rl pc a _ W (target_eq _ _ _ _ _ _ _ _ _)
theorem c_taken (hI : I64 imm) (hg : goodOf op rd rs1 rs2 imm aq rl = true) : Calls Tryz.prog 30 #[.agg #[.int .i64 op, .int .i64 rd, .int .i64 rs1, .int .i64 rs2, .int .i64 imm, .bool aq, .bool rl], .int .u64 a, .int .u64 b] W fun e w' => e = .returned (.bool (takenOf op a b)) ∧ Below W.heap.size W w' := alu_Taken.calls op rd rs1 rs2 imm aq rl a b _ W (taken_eq _ _ _ _ _ _ _ _ _ hI hg)
end
end Go.Proofs.YtcjfafhbohkhlaaGreat.Hand
