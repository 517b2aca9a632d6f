/- What any load gives, and what any operation stores, of any bytes, is as the document says; no condition. -/
import Derived.Test.YtjdidadafccepaaPAluLoadsx11
namespace Go.Proofs.Ytjdidadafccepaa.Pure
open Go.RowKit Go.Proofs.Ytjdidadafccepaa.PAluLoads Go.Proofs.YtjdidadafccepaaW.PrintWords Go.Proofs.YtjdidadafccepaaW.PrintLast Go.Proofs.Ytjdidadafccepaa.M
set_option linter.unusedVariables false
set_option linter.unusedSimpArgs false

theorem less_yes (a b : Int) (ha : U64 a) (hb : U64 b) : postbagref04_less.f a b = some (decide (wrap64 a < wrap64 b)) := by
  have e : ∀ x, U64 x → postbagref04_negative.f x = some (x / 9223372036854775808 == 1) := by
    intro x hx
    unfold postbagref04_negative.f postbagref01_Bit.f
    rw [if_pos hx]
    simp only [Option.bind_some]
    rw [show bitOf x 63 = x / 2 ^ 63 % 2 from bitOf_nat x 63 (by omega), show x / 2 ^ 63 % 2 = x / 9223372036854775808 by unfold U64 at hx; omega]
  unfold postbagref04_less.f
  rw [e a ha, e b hb]
  simp only [Option.bind_some]
  unfold U64 at ha hb
  have ca : a / 9223372036854775808 = 0 ∨ a / 9223372036854775808 = 1 := by omega
  have cb : b / 9223372036854775808 = 0 ∨ b / 9223372036854775808 = 1 := by omega
  unfold wrap64
  rcases ca with ca | ca <;> rcases cb with cb | cb <;> simp [ca, cb] <;> omega
theorem lives_yes (k : Nat) (hk : 1 ≤ k) : postbaglaw04_lives.f k = some true := by
  obtain ⟨k, rfl⟩ : ∃ m, k = m + 1 := ⟨k - 1, by omega⟩
  unfold postbaglaw04_lives.f alu_Value.f
  rw [if_pos ⟨by decide, U64.wrap _, by decide⟩, if_pos (by decide +kernel), if_pos ⟨by decide, by decide, by decide⟩, if_pos (by decide +kernel)]
  have e1 : valueOf 30 1 0 (IntKind.u64.wrap (-8)) 0 = (IntKind.u64.wrap (-4), 0) := by decide +kernel
  have e2 : valueOf 41 1 0 2147483647 0 = (18446744071562067968, 0) := by decide +kernel
  have e3 : Go.bits .andNot .u64 (IntKind.u64.wrap (9 + IntKind.u64.wrap 0)) 1 = 8 := by decide +kernel
  rw [e1, e2]
  simp [alu_Target.f, alu_Target.j0, e3]


theorem size_range (op : Int) : 0 ≤ PAluLoads.sizeOf op ∧ PAluLoads.sizeOf op ≤ 8 := by
  unfold PAluLoads.sizeOf
  repeat' split
  all_goals omega
theorem size8 (op : Int) : wrap64 (8 * PAluLoads.sizeOf op) = 8 * PAluLoads.sizeOf op := by have := size_range op; unfold wrap64; omega
theorem loaded_same (op raw : Int) (hr : U64 raw) : ∃ t, alu_Loaded.f 3 op raw = some t ∧ postbagref04_Loaded.f 3 op raw = some t := by
  have e1 : loadsB op = decide (11 ≤ op ∧ op ≤ 17 ∨ 66 ≤ op ∧ op ≤ 87 ∧ op ≠ 67 ∧ op ≠ 78) := rfl
  have es : postbagref02_Size.f op = some (PAluLoads.sizeOf op) := rfl
  have F : ∀ n, bits_Field.f raw 0 n = some (fieldOf raw 0 n) := fun n => by unfold bits_Field.f; rw [if_pos hr]
  have S : ∀ n, bits_Sign.f raw n = some (signOf raw n) := fun n => by unfold bits_Sign.f; rw [if_pos hr]
  have F' : ∀ n, postbagref01_Field.f raw 0 n = some (fieldOf raw 0 n) := fun n => by unfold postbagref01_Field.f; rw [if_pos hr]
  have S' : ∀ n, postbagref01_Sign.f raw n = some (signOf raw n) := fun n => by unfold postbagref01_Sign.f; rw [if_pos hr]
  unfold alu_Loaded.f postbagref04_Loaded.f
  simp only [inst_Size.f, inst_Loads.f, e1, postbagref02_Loads.f, postbagref02_Atomic.f, Option.bind_some, size8]
  by_cases hl : 11 ≤ op ∧ op ≤ 17 ∨ 66 ≤ op ∧ op ≤ 87 ∧ op ≠ 67 ∧ op ≠ 78
  · have n1 : op ≠ 67 := by omega
    have n2 : op ≠ 78 := by omega
    have hd := decide_eq_true hl
    have nb : (op == 78) = false := beq_eq_false_iff_ne.2 n2
    simp only [hd, if_true, if_neg n1, nb]
    by_cases h15 : op ≥ 15
    · rw [if_pos h15]
      by_cases h17 : op ≤ 17
      · exact ⟨_, by simp only [alu_Loaded.j0, decide_eq_true h17, if_true, F]; rfl, by simp [postbagref04_Loaded.j0, postbagref04_Loaded.j1, h15, h17, es, size8, F']⟩
      · exact ⟨_, by simp only [alu_Loaded.j0, decide_eq_false h17, Bool.false_eq_true, if_false, S]; rfl, by simp [postbagref04_Loaded.j0, postbagref04_Loaded.j1, h15, h17, es, size8, S']⟩
    · rw [if_neg h15]
      exact ⟨_, by simp only [alu_Loaded.j0, Bool.false_eq_true, if_false, S]; rfl, by simp [postbagref04_Loaded.j0, postbagref04_Loaded.j1, h15, es, size8, S']⟩
  · refine ⟨0, by simp only [decide_eq_false hl]; simp, ?_⟩
    simp only [decide_eq_false hl, Bool.false_eq_true, if_false]
    by_cases ha : 66 ≤ op ∧ op ≤ 87
    · have hc : op = 67 ∨ op = 78 := by omega
      rcases hc with rfl | rfl <;> simp [postbagref04_Loaded.j0]
    · simp only [decide_eq_false ha, Bool.false_eq_true, if_false]
      simp [postbagref04_Loaded.j0]
theorem min_same (x y : Int) (hx : U64 x) (hy : U64 y) : IntKind.u64.wrap (mn (wrap64 x) (wrap64 y)) = if wrap64 x < wrap64 y then x else y := by
  have ex : IntKind.u64.wrap (wrap64 x) = x := by rw [wrap_wrap64, U64.wrap_eq hx]
  have ey : IntKind.u64.wrap (wrap64 y) = y := by rw [wrap_wrap64, U64.wrap_eq hy]
  unfold mn
  by_cases h : wrap64 x < wrap64 y
  · rw [if_pos h]; split
    · omega
    · exact ex
  · rw [if_neg h]; split
    · exact ey
    · have : wrap64 x = wrap64 y := by omega
      rw [this]; exact ey
theorem max_same (x y : Int) (hx : U64 x) (hy : U64 y) : IntKind.u64.wrap (mx (wrap64 x) (wrap64 y)) = if wrap64 y < wrap64 x then x else y := by
  have ex : IntKind.u64.wrap (wrap64 x) = x := by rw [wrap_wrap64, U64.wrap_eq hx]
  have ey : IntKind.u64.wrap (wrap64 y) = y := by rw [wrap_wrap64, U64.wrap_eq hy]
  unfold mx
  by_cases h : wrap64 y < wrap64 x
  · rw [if_pos h]; split
    · omega
    · exact ex
  · rw [if_neg h]; split
    · exact ey
    · have : wrap64 x = wrap64 y := by omega
      rw [this]; exact ey
theorem xor_comm' (x y : Int) (hx : U64 x) (hy : U64 y) : Go.bits .xor .u64 x y = Go.bits .xor .u64 y x ∧ U64 (Go.bits .xor .u64 y x) := by
  obtain ⟨a, rfl, ha⟩ := hx.nat
  obtain ⟨b, rfl, hb⟩ := hy.nat
  rw [xor_nat a b ha hb, xor_nat b a hb ha, Nat.xor_comm]
  exact ⟨rfl, U64.mk (by rw [Nat.xor_comm]; exact Nat.xor_lt_two_pow ha hb)⟩
theorem and_comm' (x y : Int) (hx : U64 x) (hy : U64 y) : Go.bits .and .u64 x y = Go.bits .and .u64 y x ∧ U64 (Go.bits .and .u64 y x) := by
  obtain ⟨a, rfl, ha⟩ := hx.nat
  obtain ⟨b, rfl, hb⟩ := hy.nat
  rw [and_nat a b ha hb, and_nat b a hb ha, Nat.and_comm]
  exact ⟨rfl, U64.mk (Nat.lt_of_le_of_lt Nat.and_le_left hb)⟩
theorem or_comm' (x y : Int) (hx : U64 x) (hy : U64 y) : Go.bits .or .u64 x y = Go.bits .or .u64 y x ∧ U64 (Go.bits .or .u64 y x) := by
  obtain ⟨a, rfl, ha⟩ := hx.nat
  obtain ⟨b, rfl, hb⟩ := hy.nat
  rw [or_nat a b ha hb, or_nat b a hb ha, Nat.or_comm]
  exact ⟨rfl, U64.mk (by rw [Nat.or_comm]; exact Nat.or_lt_two_pow ha hb)⟩
theorem mn_range (x y : Int) (hx : U64 x) (hy : U64 y) : U64 (mn x y) := by unfold mn; split; exact hy; exact hx
theorem mx_range (x y : Int) (hx : U64 x) (hy : U64 y) : U64 (mx x y) := by unfold mx; split; exact hy; exact hx
/-- What is stored, of so many bits. -/
def storeOf (kind n old b : Int) : Int :=
  if kind = 69 then fieldOf (IntKind.u64.wrap (signOf b n + signOf old n)) 0 n else if kind = 70 then fieldOf (Go.bits .xor .u64 (signOf b n) (signOf old n)) 0 n
  else if kind = 71 then fieldOf (Go.bits .and .u64 (signOf b n) (signOf old n)) 0 n else if kind = 72 then fieldOf (Go.bits .or .u64 (signOf b n) (signOf old n)) 0 n
  else if kind = 73 then fieldOf (IntKind.u64.wrap (mn (wrap64 (signOf old n)) (wrap64 (signOf b n)))) 0 n else if kind = 74 then fieldOf (IntKind.u64.wrap (mx (wrap64 (signOf old n)) (wrap64 (signOf b n)))) 0 n
  else if kind = 75 then fieldOf (mn (fieldOf old 0 n) (fieldOf b 0 n)) 0 n else if kind = 76 then fieldOf (mx (fieldOf old 0 n) (fieldOf b 0 n)) 0 n else fieldOf (signOf b n) 0 n
theorem alu_j0 (k : Nat) (kind n old b : Int) (ho : U64 old) (hb : U64 b) : alu_Stored.j0 (k + 1) old b n kind = some (storeOf kind n old b) := by
  have so := sign_range old n ho
  have sb := sign_range b n hb
  have fo := field_range old 0 n ho
  have fb := field_range b 0 n hb
  have S : ∀ x, U64 x → bits_Sign.f x n = some (signOf x n) := fun x h => by unfold bits_Sign.f; rw [if_pos h]
  have F : ∀ x, U64 x → bits_Field.f x 0 n = some (fieldOf x 0 n) := fun x h => by unfold bits_Field.f; rw [if_pos h]
  simp only [alu_Stored.j0, S _ ho, S _ hb, F _ ho, F _ hb, Option.bind_some, F _ (U64.wrap _), F _ (xor_comm' _ _ so sb).2, F _ (and_comm' _ _ so sb).2, F _ (or_comm' _ _ so sb).2, F _ (mn_range _ _ fo fb), F _ (mx_range _ _ fo fb), F _ sb]
  unfold storeOf
  by_cases h1 : kind = 69
  · simp only [if_pos h1]
  by_cases h2 : kind = 70
  · simp only [if_neg h1, if_pos h2]
  by_cases h3 : kind = 71
  · simp only [if_neg h1, if_neg h2, if_pos h3]
  by_cases h4 : kind = 72
  · simp only [if_neg h1, if_neg h2, if_neg h3, if_pos h4]
  by_cases h5 : kind = 73
  · simp only [if_neg h1, if_neg h2, if_neg h3, if_neg h4, if_pos h5]
  by_cases h6 : kind = 74
  · simp only [if_neg h1, if_neg h2, if_neg h3, if_neg h4, if_neg h5, if_pos h6]
  by_cases h7 : kind = 75
  · simp only [if_neg h1, if_neg h2, if_neg h3, if_neg h4, if_neg h5, if_neg h6, if_pos h7]
  by_cases h8 : kind = 76
  · simp only [if_neg h1, if_neg h2, if_neg h3, if_neg h4, if_neg h5, if_neg h6, if_neg h7, if_pos h8]
  · simp only [if_neg h1, if_neg h2, if_neg h3, if_neg h4, if_neg h5, if_neg h6, if_neg h7, if_neg h8]
theorem ref_j0 (k : Nat) (kind n old b : Int) (ho : U64 old) (hb : U64 b) : postbagref04_Stored.j0 (k + 1) n (signOf old n) (signOf b n) (fieldOf old 0 n) (fieldOf b 0 n) (signOf b n) kind = some (storeOf kind n old b) := by
  have so := sign_range old n ho
  have sb := sign_range b n hb
  have fo := field_range old 0 n ho
  have fb := field_range b 0 n hb
  have F : ∀ x, U64 x → postbagref01_Field.f x 0 n = some (fieldOf x 0 n) := fun x h => by unfold postbagref01_Field.f; rw [if_pos h]
  simp only [postbagref04_Stored.j0, less_yes _ _ so sb, less_yes _ _ sb so, Option.bind_some, F _ (U64.wrap _), F _ so, F _ (xor_comm' _ _ sb so).2, F _ (and_comm' _ _ sb so).2, F _ (or_comm' _ _ sb so).2, F _ (mn_range _ _ fo fb), F _ (mx_range _ _ fo fb), F _ sb]
  unfold storeOf
  by_cases h1 : kind = 69
  · simp only [if_pos h1, Int.add_comm]
  by_cases h2 : kind = 70
  · simp only [if_neg h1, if_pos h2, (xor_comm' _ _ sb so).1]
  by_cases h3 : kind = 71
  · simp only [if_neg h1, if_neg h2, if_pos h3, (and_comm' _ _ sb so).1]
  by_cases h4 : kind = 72
  · simp only [if_neg h1, if_neg h2, if_neg h3, if_pos h4, (or_comm' _ _ sb so).1]
  by_cases h5 : kind = 73
  · simp only [if_neg h1, if_neg h2, if_neg h3, if_neg h4, if_pos h5, min_same _ _ so sb, decide_eq_true_eq]
    split <;> rfl
  by_cases h6 : kind = 74
  · simp only [if_neg h1, if_neg h2, if_neg h3, if_neg h4, if_neg h5, if_pos h6, max_same _ _ so sb, decide_eq_true_eq]
    split <;> rfl
  by_cases h7 : kind = 75
  · simp only [if_neg h1, if_neg h2, if_neg h3, if_neg h4, if_neg h5, if_neg h6, if_pos h7]
  by_cases h8 : kind = 76
  · simp only [if_neg h1, if_neg h2, if_neg h3, if_neg h4, if_neg h5, if_neg h6, if_neg h7, if_pos h8]
  · simp only [if_neg h1, if_neg h2, if_neg h3, if_neg h4, if_neg h5, if_neg h6, if_neg h7, if_neg h8]
def storedOf (op old b : Int) : Int := if storesB op = true then storeOf (if 77 ≤ op then op - 11 else op) (8 * PAluLoads.sizeOf op) old b else 0
theorem alu_stored (k : Nat) (op old b : Int) (ho : U64 old) (hb : U64 b) : alu_Stored.f (k + 1) op old b = some (storedOf op old b) := by
  unfold alu_Stored.f storedOf
  simp only [inst_Stores.f, inst_Size.f, Option.bind_some, size8]
  by_cases h : storesB op = true
  · have hr : 18 ≤ op ∧ op ≤ 87 := by unfold storesB at h; have := of_decide_eq_true h; omega
    rw [if_pos h, if_pos h]
    by_cases h7 : 77 ≤ op
    · rw [if_pos h7, if_pos h7, show wrap64 (op - 11) = op - 11 by unfold wrap64; omega]; exact alu_j0 k _ _ _ _ ho hb
    · rw [if_neg h7, if_neg h7]; exact alu_j0 k _ _ _ _ ho hb
  · rw [if_neg h, if_neg h]
theorem ref_stored (k : Nat) (op old b : Int) (ho : U64 old) (hb : U64 b) : postbagref04_Stored.f (k + 1) op old b = some (storedOf op old b) := by
  have es : postbagref02_Size.f op = some (PAluLoads.sizeOf op) := rfl
  have et : postbagref02_Stores.f op = some (storesB op) := rfl
  have S' : ∀ x, U64 x → ∀ n, postbagref01_Sign.f x n = some (signOf x n) := fun x h n => by unfold postbagref01_Sign.f; rw [if_pos h]
  have F : ∀ x, U64 x → ∀ n, postbagref01_Field.f x 0 n = some (fieldOf x 0 n) := fun x h n => by unfold postbagref01_Field.f; rw [if_pos h]
  unfold postbagref04_Stored.f storedOf
  simp only [et, es, Option.bind_some, size8, S' _ ho, S' _ hb, F _ ho, F _ hb]
  by_cases h : storesB op = true
  · have hr : 18 ≤ op ∧ op ≤ 87 := by unfold storesB at h; have := of_decide_eq_true h; omega
    rw [if_pos h, if_pos h]
    by_cases h7 : 77 ≤ op
    · rw [if_pos h7, if_pos h7, show wrap64 (wrap64 (op - 77) + 66) = op - 11 by unfold wrap64; omega]; exact ref_j0 k _ _ _ _ ho hb
    · rw [if_neg h7, if_neg h7]; exact ref_j0 k _ _ _ _ ho hb
  · rw [if_neg h, if_neg h]
theorem AluLoads : postbaglaw04_AluLoads.Pure := by
  intro a0 a1 a2 a3 w0 w1 w2 w3
  have h1 := U64.of_wf w1
  have h2 := U64.of_wf w2
  have h3 := U64.of_wf w3
  obtain ⟨t, e1, e2⟩ := loaded_same a0 a1 h1
  refine ⟨3, ?_⟩
  unfold postbaglaw04_AluLoads.f
  simp [e1, e2, alu_stored 2 a0 a2 a3 h2 h3, ref_stored 2 a0 a2 a3 h2 h3, lives_yes]
end Go.Proofs.Ytjdidadafccepaa.Pure
