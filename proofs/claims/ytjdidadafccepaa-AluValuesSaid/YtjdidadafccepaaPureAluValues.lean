/- What any instruction gives its register, of any numbers, is as the document says; no condition. -/
import Derived.Test.YtjdidadafccepaaPAllx13
namespace Go.Proofs.Ytjdidadafccepaa.Pure
open Go.RowKit Go.Proofs.Ytjdidadafccepaa.PAll Go.Proofs.YtjdidadafccepaaW.PrintWords Go.Proofs.YtjdidadafccepaaW.PrintLast Go.Proofs.Ytjdidadafccepaa.M
set_option linter.unusedVariables false
set_option linter.unusedSimpArgs false

def postbaglaw04_AluValues.Pure : Prop := ∀ (a0_0 : Int) (a0_1 : Int) (a0_2 : Int) (a0_3 : Int) (a0_4 : Int) (a0_5 : Bool) (a0_6 : Bool) (a1 : Int) (a2 : Int) (a3 : Int), (Lit.int .i64 a0_0).wf = true → (Lit.int .i64 a0_1).wf = true → (Lit.int .i64 a0_2).wf = true → (Lit.int .i64 a0_3).wf = true → (Lit.int .i64 a0_4).wf = true → (Lit.int .u64 a1).wf = true → (Lit.int .u64 a2).wf = true → (Lit.int .u64 a3).wf = true → ∃ k, postbaglaw04_AluValues.f k a0_0 a0_1 a0_2 a0_3 a0_4 a0_5 a0_6 a1 a2 a3 = some true
theorem dbl (x p : Int) : (x + x) % 18446744073709551616 * p % 18446744073709551616 = x * (p * 2) % 18446744073709551616 := by
  rw [show x * (p * 2) = (x + x) * p by rw [Int.add_mul, ← Int.mul_assoc]; omega]
  rw [Int.mul_emod, Int.emod_emod_of_dvd _ (Int.dvd_refl _), ← Int.mul_emod]
theorem left_run (n : Int) : ∀ (d k : Nat) (x i : Int), 0 ≤ i → i + d = n → n ≤ 64 → d < k → U64 x → postbagref04_left.l0 k x n i = some (IntKind.u64.wrap (x * 2 ^ d))
  | 0, k, x, i, h0, h1, h2, hk, hx => by
    obtain ⟨k, rfl⟩ : ∃ m, k = m + 1 := ⟨k - 1, by omega⟩
    simp only [postbagref04_left.l0]
    rw [if_neg (by omega), Int.pow_zero, Int.mul_one, U64.wrap_eq hx]
  | d + 1, k, x, i, h0, h1, h2, hk, hx => by
    obtain ⟨k, rfl⟩ : ∃ m, k = m + 1 := ⟨k - 1, by omega⟩
    simp only [postbagref04_left.l0]
    rw [if_pos (by omega), show wrap64 (i + 1) = i + 1 by unfold wrap64; omega, left_run n d k _ (i + 1) (by omega) (by omega) h2 (by omega) (U64.wrap _)]
    rw [Int.pow_succ, u64w, u64w, u64w, dbl]
theorem left_yes (k : Nat) (x n : Int) (h0 : 0 ≤ n) (h1 : n ≤ 63) (hx : U64 x) (hk : 65 ≤ k) : postbagref04_left.f k x n = some (IntKind.u64.wrap (x * 2 ^ n.toNat)) := by
  unfold postbagref04_left.f
  exact left_run n n.toNat k x 0 (by omega) (by omega) (by omega) (by omega) hx
theorem less_yes (a b : Int) (ha : U64 a) (hb : U64 b) : postbagref04_less.f a b = some (decide (wrap64 a < wrap64 b)) := by
  have e : ∀ x, U64 x → postbagref04_negative.f x = some (x / 9223372036854775808 == 1) := by
    intro x hx
    unfold postbagref04_negative.f postbagref01_Bit.f
    rw [if_pos hx]
    simp only [Option.bind_some]
    rw [show bitOf x 63 = x / 2 ^ 63 % 2 from bitOf_nat x 63 (by omega), show x / 2 ^ 63 % 2 = x / 9223372036854775808 by unfold U64 at hx; omega]
  unfold postbagref04_less.f
  rw [e a ha, e b hb]
  simp only [Option.bind_some]
  unfold U64 at ha hb
  have ca : a / 9223372036854775808 = 0 ∨ a / 9223372036854775808 = 1 := by omega
  have cb : b / 9223372036854775808 = 0 ∨ b / 9223372036854775808 = 1 := by omega
  unfold wrap64
  rcases ca with ca | ca <;> rcases cb with cb | cb <;> simp [ca, cb] <;> omega
/-- One place to the right, with a top bit. -/
theorem place_top (x t : Int) (hx : 0 ≤ x ∧ x < 9223372036854775808) (ht : t = 0 ∨ t = 1) : placeOf x 63 1 t = x + t * 9223372036854775808 := by
  have h := (place_put x t 63 1 (by unfold U64; omega) (by simp only [Int.reducePow]; omega) (by omega) (by omega) (by simp only [Int.reducePow]; omega)).2
  have e : Go.bits .or .u64 (x / 2 ^ 63) t = t := by
    rw [show x / 2 ^ 63 = 0 by simp only [Int.reducePow]; omega]
    rcases ht with rfl | rfl <;> decide
  rw [e] at h
  rw [show ((63 : Nat) : Int) = 63 from rfl, show ((1 : Nat) : Int) = 1 from rfl] at h
  rw [h]; rfl
theorem right0_run (n : Int) : ∀ (d k : Nat) (x i : Int), 0 ≤ i → i + d = n → n ≤ 64 → d < k → U64 x → postbagref04_right.l0 k x n 0 i = some (x / 2 ^ d)
  | 0, k, x, i, h0, h1, h2, hk, hx => by
    obtain ⟨k, rfl⟩ : ∃ m, k = m + 1 := ⟨k - 1, by omega⟩
    simp only [postbagref04_right.l0]
    rw [if_neg (by omega), Int.pow_zero, Int.ediv_one]
  | d + 1, k, x, i, h0, h1, h2, hk, hx => by
    obtain ⟨k, rfl⟩ : ∃ m, k = m + 1 := ⟨k - 1, by omega⟩
    have hx' := hx
    unfold U64 at hx'
    have hq : Int.tdiv x 2 = x / 2 := Int.tdiv_eq_ediv_of_nonneg hx'.1
    have hu : U64 (x / 2) := by unfold U64; omega
    simp only [postbagref04_right.l0, hq, U64.wrap_eq hu, postbagref01_Place.f]
    rw [if_pos (by omega), if_pos ⟨hu, by unfold U64; omega⟩]
    simp only [Option.bind_some]
    rw [place_top (x / 2) 0 (by omega) (Or.inl rfl), show x / 2 + 0 * 9223372036854775808 = x / 2 by omega, show wrap64 (i + 1) = i + 1 by unfold wrap64; omega, right0_run n d k _ (i + 1) (by omega) (by omega) h2 (by omega) hu]
    rw [Int.ediv_ediv_of_nonneg (by omega), Int.pow_succ, Int.mul_comm 2]
theorem right1_run (n : Int) : ∀ (d k : Nat) (x i : Int), 0 ≤ i → i + d = n → n ≤ 64 → d < k → U64 x → x / 9223372036854775808 = 1 → postbagref04_right.l0 k x n 1 i = some (IntKind.u64.wrap (wrap64 x / 2 ^ d))
  | 0, k, x, i, h0, h1, h2, hk, hx, ht => by
    obtain ⟨k, rfl⟩ : ∃ m, k = m + 1 := ⟨k - 1, by omega⟩
    simp only [postbagref04_right.l0]
    rw [if_neg (by omega), Int.pow_zero, Int.ediv_one, wrap_wrap64, U64.wrap_eq hx]
  | d + 1, k, x, i, h0, h1, h2, hk, hx, ht => by
    obtain ⟨k, rfl⟩ : ∃ m, k = m + 1 := ⟨k - 1, by omega⟩
    have hx' := hx
    unfold U64 at hx'
    have hq : Int.tdiv x 2 = x / 2 := Int.tdiv_eq_ediv_of_nonneg hx'.1
    have hu : U64 (x / 2) := by unfold U64; omega
    simp only [postbagref04_right.l0, hq, U64.wrap_eq hu, postbagref01_Place.f]
    rw [if_pos (by omega), if_pos ⟨hu, by unfold U64; omega⟩]
    simp only [Option.bind_some]
    have hv : U64 (x / 2 + 1 * 9223372036854775808) := by unfold U64; omega
    rw [place_top (x / 2) 1 (by omega) (Or.inr rfl), show wrap64 (i + 1) = i + 1 by unfold wrap64; omega, right1_run n d k _ (i + 1) (by omega) (by omega) h2 (by omega) hv (by omega)]
    have e : wrap64 (x / 2 + 1 * 9223372036854775808) = wrap64 x / 2 := by unfold wrap64; omega
    rw [e, Int.ediv_ediv_of_nonneg (by omega), Int.pow_succ, Int.mul_comm 2]

theorem right0_yes (k : Nat) (x n : Int) (h0 : 0 ≤ n) (h1 : n ≤ 63) (hx : U64 x) (hk : 65 ≤ k) : postbagref04_right.f k x n 0 = some (x / 2 ^ n.toNat) := by
  unfold postbagref04_right.f
  exact right0_run n n.toNat k x 0 (by omega) (by omega) (by omega) (by omega) hx
theorem right1_yes (k : Nat) (x n : Int) (h0 : 0 ≤ n) (h1 : n ≤ 63) (hx : U64 x) (hk : 65 ≤ k) : postbagref04_right.f k x n (x / 9223372036854775808) = some (IntKind.u64.wrap (wrap64 x / 2 ^ n.toNat)) := by
  have hx' := hx
  unfold U64 at hx'
  have cx : x / 9223372036854775808 = 0 ∨ x / 9223372036854775808 = 1 := by omega
  rcases cx with c | c
  · rw [c, right0_yes k x n h0 h1 hx hk, show wrap64 x = x by unfold wrap64; omega]
    have hp := ipos n.toNat
    rw [U64.wrap_eq ⟨Int.ediv_nonneg hx'.1 (by omega), Int.le_trans (Int.ediv_le_self _ hx'.1) hx'.2⟩]
  · rw [c]; unfold postbagref04_right.f
    exact right1_run n n.toNat k x 0 (by omega) (by omega) (by omega) (by omega) hx c
theorem word_yes (x : Int) (hx : U64 x) : postbagref04_word.f x = some (signOf x 32) := by
  unfold postbagref04_word.f postbagref01_Sign.f; rw [if_pos hx]; rfl
theorem low_yes (x : Int) (hx : U64 x) : postbagref04_low.f x = some (x % 4294967296) := by
  unfold postbagref04_low.f postbagref01_Field.f; rw [if_pos hx]
  simp only [Option.bind_some]
  rw [show fieldOf x 0 32 = x / 2 ^ 0 % 2 ^ 32 from field_lit x 0 32 (by omega) (by omega) (by omega)]
  simp
theorem cut64 (x : Int) (hx : U64 x) (s : Bool) : cutOf x 64 s = x := by
  unfold cutOf
  cases s
  · show fieldOf x 0 64 = x
    rw [show fieldOf x 0 64 = x / 2 ^ 0 % 2 ^ 64 from field_lit x 0 64 (by omega) (by omega) (by omega)]
    unfold U64 at hx; simp; omega
  · show signOf x 64 = x
    unfold signOf; rw [if_pos (by omega)]
theorem cut32 (x : Int) : cutOf x 32 true = signOf x 32 ∧ cutOf x 32 false = x % 4294967296 := by
  refine ⟨rfl, ?_⟩
  show fieldOf x 0 32 = _
  rw [show fieldOf x 0 32 = x / 2 ^ 0 % 2 ^ 32 from field_lit x 0 32 (by omega) (by omega) (by omega)]
  simp
theorem sign32_top (x : Int) (hx : U64 x) : bitOf x 31 = signOf x 32 / 9223372036854775808 ∧ U64 (signOf x 32) := by
  refine ⟨?_, sign_range x 32 hx⟩
  rw [show bitOf x 31 = x / 2 ^ 31 % 2 from bitOf_nat x 31 (by omega)]
  unfold signOf
  rw [if_neg (by omega)]
  unfold U64 at hx
  simp only [show (32 : Int).toNat = 32 from rfl, show ((32 : Int) - 1).toNat = 31 from rfl, Int.reducePow]
  split <;> omega
theorem count6 (c : Int) (hc : U64 c) : wrap64 (fieldOf c 0 6) = c % 64 := by
  rw [show fieldOf c 0 6 = c / 2 ^ 0 % 2 ^ 6 from field_lit c 0 6 (by omega) (by omega) (by omega)]
  simp; unfold wrap64; omega
theorem count5 (c : Int) (hc : U64 c) : wrap64 (fieldOf c 0 5) = c % 32 := by
  rw [show fieldOf c 0 5 = c / 2 ^ 0 % 2 ^ 5 from field_lit c 0 5 (by omega) (by omega) (by omega)]
  simp; unfold wrap64; omega
theorem one_of_bool (b : Bool) : postbagref04_one.f b = some (oneOf b) := by unfold postbagref04_one.f oneOf; cases b <;> rfl

theorem quo_range (x y : Int) (h1 : U64 x) (h2 : U64 y) (s : Bool) : U64 (quoOf x y s) := by
  unfold quoOf
  split
  · exact ⟨by decide, by decide⟩
  split
  · exact U64.wrap _
  · unfold U64 at *; exact ⟨Int.ediv_nonneg h1.1 h2.1, Int.le_trans (Int.ediv_le_self _ h1.1) h1.2⟩
theorem rem_range (x y : Int) (h1 : U64 x) (h2 : U64 y) (s : Bool) : U64 (remOf x y s) := by
  unfold remOf
  split
  · exact h1
  split
  · exact U64.wrap _
  · rename_i h0 _
    unfold U64 at *
    have p : 0 < y := by omega
    exact ⟨Int.emod_nonneg _ h0, by have := Int.emod_lt_of_pos x p; omega⟩

theorem j0_same (op pc a b C c' rd rs1 rs2 imm : Int) (aq rl : Bool) (ha : U64 a) (hb : U64 b) (hC : U64 C) (hc' : U64 c') (h1 : 1 ≤ op) (h2 : op ≤ 87)
    (hR : (op = 31 ∨ op = 32 ∨ op = 33 ∨ op = 34 ∨ op = 35 ∨ op = 36 ∨ op = 37 ∨ op = 38 ∨ op = 39 ∨ op = 40 ∨ op = 45 ∨ op = 46 ∨ op = 47 ∨ op = 48 ∨ op = 49 ∨ op = 53 ∨ op = 54 ∨ op = 55 ∨ op = 56 ∨ op = 57 ∨ op = 58 ∨ op = 59 ∨ op = 60 ∨ op = 61 ∨ op = 62 ∨ op = 63 ∨ op = 64 ∨ op = 65) → C = b ∧ c' = b) (hI : (op = 22 ∨ op = 23 ∨ op = 24 ∨ op = 25 ∨ op = 26 ∨ op = 27 ∨ op = 28 ∨ op = 29 ∨ op = 30 ∨ op = 41 ∨ op = 42 ∨ op = 43 ∨ op = 44) → C = c') (hz : op = 1 ∨ op = 2 → c' = IntKind.u64.wrap imm) :
    postbagref04_Value.j0 80 pc a b c' op rd rs1 rs2 imm aq rl = some (valueAt op imm pc a C) := by
  have n6 := count6 c' hc'
  have n5 := count5 c' hc'
  have b6 : 0 ≤ c' % 64 ∧ c' % 64 ≤ 63 := by omega
  have b5 : 0 ≤ c' % 32 ∧ c' % 32 ≤ 63 := by omega
  have L6 := fun k hk => left_yes k a (c' % 64) b6.1 b6.2 ha hk
  have L5 := fun k hk => left_yes k a (c' % 32) b5.1 b5.2 ha hk
  have R6 := fun k hk => right0_yes k a (c' % 64) b6.1 b6.2 ha hk
  have T6 := fun k hk => right1_yes k a (c' % 64) b6.1 b6.2 ha hk
  have hlow : U64 (a % 4294967296) := by unfold U64 at *; omega
  have R5 := fun k hk => right0_yes k (a % 4294967296) (c' % 32) b5.1 b5.2 hlow hk
  have st := sign32_top a ha
  have T5 := fun k hk => right1_yes k (signOf a 32) (c' % 32) b5.1 b5.2 st.2 hk
  have bt : postbagref01_Bit.f a 63 = some (a / 9223372036854775808) := by
    unfold postbagref01_Bit.f; rw [if_pos ha, show bitOf a 63 = a / 2 ^ 63 % 2 from bitOf_nat a 63 (by omega), show a / 2 ^ 63 % 2 = a / 9223372036854775808 by unfold U64 at ha; omega]
  have bu : postbagref01_Bit.f a 31 = some (signOf a 32 / 9223372036854775808) := by
    unfold postbagref01_Bit.f; rw [if_pos ha, st.1]
  have F6 : postbagref01_Field.f c' 0 6 = some (fieldOf c' 0 6) := by unfold postbagref01_Field.f; rw [if_pos hc']
  have F5 : postbagref01_Field.f c' 0 5 = some (fieldOf c' 0 5) := by unfold postbagref01_Field.f; rw [if_pos hc']
  have wa := word_yes a ha
  have la := low_yes a ha
  have le := less_yes a c' ha hc'
  have ww := fun x => word_yes (IntKind.u64.wrap x) (U64.wrap x)
  have sb := sign_range b 32 hb
  have hlb : U64 (b % 4294967296) := by unfold U64 at *; omega
  have wb := word_yes b hb
  have lb := low_yes b hb
  have rsl : ∀ x : Int, U64 x → ∀ n : Nat, U64 (x / 2 ^ n) := by
    intro x hx n
    have hp := ipos n
    unfold U64 at *
    exact ⟨Int.ediv_nonneg hx.1 (by omega), Int.le_trans (Int.ediv_le_self _ hx.1) hx.2⟩
  have wr := word_yes _ (rsl _ hlow (c' % 32).toNat)
  have cases3 : (op = 31 ∨ op = 32 ∨ op = 33 ∨ op = 34 ∨ op = 35 ∨ op = 36 ∨ op = 37 ∨ op = 38 ∨ op = 39 ∨ op = 40 ∨ op = 45 ∨ op = 46 ∨ op = 47 ∨ op = 48 ∨ op = 49 ∨ op = 53 ∨ op = 54 ∨ op = 55 ∨ op = 56 ∨ op = 57 ∨ op = 58 ∨ op = 59 ∨ op = 60 ∨ op = 61 ∨ op = 62 ∨ op = 63 ∨ op = 64 ∨ op = 65) ∨ (op = 22 ∨ op = 23 ∨ op = 24 ∨ op = 25 ∨ op = 26 ∨ op = 27 ∨ op = 28 ∨ op = 29 ∨ op = 30 ∨ op = 41 ∨ op = 42 ∨ op = 43 ∨ op = 44) ∨ (op = 1 ∨ op = 2 ∨ op = 3 ∨ op = 4 ∨ op = 5 ∨ op = 6 ∨ op = 7 ∨ op = 8 ∨ op = 9 ∨ op = 10 ∨ op = 11 ∨ op = 12 ∨ op = 13 ∨ op = 14 ∨ op = 15 ∨ op = 16 ∨ op = 17 ∨ op = 18 ∨ op = 19 ∨ op = 20 ∨ op = 21 ∨ op = 50 ∨ op = 51 ∨ op = 52 ∨ op = 66 ∨ op = 67 ∨ op = 68 ∨ op = 69 ∨ op = 70 ∨ op = 71 ∨ op = 72 ∨ op = 73 ∨ op = 74 ∨ op = 75 ∨ op = 76 ∨ op = 77 ∨ op = 78 ∨ op = 79 ∨ op = 80 ∨ op = 81 ∨ op = 82 ∨ op = 83 ∨ op = 84 ∨ op = 85 ∨ op = 86 ∨ op = 87) := by omega
  have q64 : ∀ s x, U64 x → cutOf x 64 s = x := fun s x hx => cut64 x hx s
  rcases cases3 with h | h | h
  · obtain ⟨rfl, rfl⟩ := hR h
    clear hR hI hz
    have Q : ∀ s, postbagref01_Quo.f a c' s = some (quoOf a c' s) := fun s => by unfold postbagref01_Quo.f; rw [if_pos ⟨ha, hb⟩]
    have M : ∀ s, postbagref01_Rem.f a c' s = some (remOf a c' s) := fun s => by unfold postbagref01_Rem.f; rw [if_pos ⟨ha, hb⟩]
    have Qs : ∀ s, postbagref01_Quo.f (signOf a 32) (signOf c' 32) s = some (quoOf (signOf a 32) (signOf c' 32) s) := fun s => by unfold postbagref01_Quo.f; rw [if_pos ⟨st.2, sb⟩]
    have Ql : ∀ s, postbagref01_Quo.f (a % 4294967296) (c' % 4294967296) s = some (quoOf (a % 4294967296) (c' % 4294967296) s) := fun s => by unfold postbagref01_Quo.f; rw [if_pos ⟨hlow, hlb⟩]
    have Ms : ∀ s, postbagref01_Rem.f (signOf a 32) (signOf c' 32) s = some (remOf (signOf a 32) (signOf c' 32) s) := fun s => by unfold postbagref01_Rem.f; rw [if_pos ⟨st.2, sb⟩]
    have Ml : ∀ s, postbagref01_Rem.f (a % 4294967296) (c' % 4294967296) s = some (remOf (a % 4294967296) (c' % 4294967296) s) := fun s => by unfold postbagref01_Rem.f; rw [if_pos ⟨hlow, hlb⟩]
    have HH : ∀ s t, postbagref01_High.f a c' s t = some (hiOf a c' s t) := fun s t => by unfold postbagref01_High.f; rw [if_pos ⟨ha, hb⟩]
    have qr := fun s => quo_range (signOf a 32) (signOf c' 32) st.2 sb s
    have ql := fun s => quo_range (a % 4294967296) (c' % 4294967296) hlow hlb s
    have mr := fun s => rem_range (signOf a 32) (signOf c' 32) st.2 sb s
    have ml := fun s => rem_range (a % 4294967296) (c' % 4294967296) hlow hlb s
    have wq1 := word_yes _ (qr true)
    have wq2 := word_yes _ (ql false)
    have wq3 := word_yes _ (mr true)
    have wq4 := word_yes _ (ml false)
    rcases h with rfl | rfl | rfl | rfl | rfl | rfl | rfl | rfl | rfl | rfl | rfl | rfl | rfl | rfl | rfl | rfl | rfl | rfl | rfl | rfl | rfl | rfl | rfl | rfl | rfl | rfl | rfl | rfl
    all_goals simp [postbagref04_Value.j0, postbagref04_plain.f, postbagref04_plain.j0, postbagref04_plain.j1, postbagref04_plain.j2, postbagref04_plain.j3, postbagref04_plain.j4, postbagref04_plain.j5, postbagref04_plain.j6, postbagref04_plain.j7, postbagref04_narrow.f, postbagref04_narrow.j0, postbagref04_narrow.j1, postbagref04_narrow.j2, postbagref04_narrow.j3, postbagref04_many.f, postbagref04_many.j0, valueAt, shortB, sizedOf, othersOf, rightOf, rsh, F6, F5, n6, n5, L6, L5, R6, T6, R5, T5, bt, bu, wa, la, le, ww, wb, lb, wr, one_of_bool, q64, ha, hC, cut32, Q, M, Qs, Ql, Ms, Ml, HH, wq1, wq2, wq3, wq4]
  · obtain rfl := hI h
    clear hR hI hz
    rcases h with rfl | rfl | rfl | rfl | rfl | rfl | rfl | rfl | rfl | rfl | rfl | rfl | rfl
    all_goals simp [postbagref04_Value.j0, postbagref04_plain.f, postbagref04_plain.j0, postbagref04_plain.j1, postbagref04_plain.j2, postbagref04_plain.j3, postbagref04_plain.j4, postbagref04_plain.j5, postbagref04_plain.j6, postbagref04_plain.j7, postbagref04_narrow.f, postbagref04_narrow.j0, postbagref04_narrow.j1, postbagref04_narrow.j2, postbagref04_narrow.j3, postbagref04_many.f, postbagref04_many.j0, valueAt, shortB, sizedOf, othersOf, rightOf, rsh, F6, F5, n6, n5, L6, L5, R6, T6, R5, T5, bt, bu, wa, la, le, ww, wb, lb, wr, one_of_bool, q64, ha, hC, cut32]
  · clear hR hI
    rcases h with rfl | rfl | rfl | rfl | rfl | rfl | rfl | rfl | rfl | rfl | rfl | rfl | rfl | rfl | rfl | rfl | rfl | rfl | rfl | rfl | rfl | rfl | rfl | rfl | rfl | rfl | rfl | rfl | rfl | rfl | rfl | rfl | rfl | rfl | rfl | rfl | rfl | rfl | rfl | rfl | rfl | rfl | rfl | rfl | rfl | rfl
    all_goals simp [postbagref04_Value.j0, postbagref04_plain.f, postbagref04_plain.j0, postbagref04_plain.j1, postbagref04_plain.j2, postbagref04_plain.j3, postbagref04_plain.j4, postbagref04_plain.j5, postbagref04_plain.j6, postbagref04_plain.j7, postbagref04_narrow.f, postbagref04_narrow.j0, postbagref04_narrow.j1, postbagref04_narrow.j2, postbagref04_narrow.j3, postbagref04_many.f, postbagref04_many.j0, valueAt, shortB, sizedOf, othersOf, rightOf, rsh, F6, F5, n6, n5, L6, L5, R6, T6, R5, T5, bt, bu, wa, la, le, ww, wb, lb, wr, one_of_bool, q64, ha, hC, cut32]
    all_goals rw [hz (by omega)]

theorem lives_yes (k : Nat) (hk : 1 ≤ k) : postbaglaw04_lives.f k = some true := by
  obtain ⟨k, rfl⟩ : ∃ m, k = m + 1 := ⟨k - 1, by omega⟩
  unfold postbaglaw04_lives.f alu_Value.f
  rw [if_pos ⟨by decide, U64.wrap _, by decide⟩, if_pos (by decide +kernel), if_pos ⟨by decide, by decide, by decide⟩, if_pos (by decide +kernel)]
  have e1 : valueOf 30 1 0 (IntKind.u64.wrap (-8)) 0 = (IntKind.u64.wrap (-4), 0) := by decide +kernel
  have e2 : valueOf 41 1 0 2147483647 0 = (18446744071562067968, 0) := by decide +kernel
  have e3 : Go.bits .andNot .u64 (IntKind.u64.wrap (9 + IntKind.u64.wrap 0)) 1 = 8 := by decide +kernel
  rw [e1, e2]
  simp [alu_Target.f, alu_Target.j0, e3]

theorem value_same (op rd rs1 rs2 imm pc a b : Int) (aq rl : Bool) (hI : I64 imm) (ha : U64 a) (hb : U64 b) :
    postbagref04_Value.f 80 op rd rs1 rs2 imm aq rl pc a b = alu_Value.f op rd rs1 rs2 imm aq rl pc a b := by
  unfold postbagref04_Value.f alu_Value.f postbagref02_Good.f
  rw [if_pos hI, if_pos ⟨hI, ha, hb⟩]
  simp only [Option.bind_some]
  by_cases hg : goodOf op rd rs1 rs2 imm aq rl = true
  · have G := goodI hg
    rw [if_pos hg, if_pos hg]
    simp only [postbagref02_Row.f, Option.bind_some]
    have f8 : ∀ n : Nat, n < 87 → ((formOf ((n : Int) + 1) = 8) ↔ ((31 ≤ (n : Int) + 1 ∧ (n : Int) + 1 ≤ 40) ∨ (45 ≤ (n : Int) + 1 ∧ (n : Int) + 1 ≤ 49) ∨ (53 ≤ (n : Int) + 1 ∧ (n : Int) + 1 ≤ 65))) := by decide +kernel
    have f8 := f8 (op - 1).toNat (by have := G.op1; have := G.op2; omega)
    rw [show (((op - 1).toNat : Nat) : Int) + 1 = op by have := G.op1; omega] at f8
    unfold valueOf
    have g1 := G.op1
    have g2 := G.op2
    by_cases h8 : formOf op = 8
    · have h := f8.1 h8
      have hi : immB op = false := decide_eq_false (by omega)
      rw [if_pos h8, hi, if_neg (by simp)]
      exact j0_same op pc a b b b rd rs1 rs2 imm aq rl ha hb hb hb g1 g2 (fun _ => ⟨rfl, rfl⟩) (fun _ => rfl) (fun h => by omega)
    · have h : ¬ _ := fun h => h8 (f8.2 h)
      rw [if_neg h8]
      have hC : U64 (if immB op = true then IntKind.u64.wrap imm else b) := by split; exact U64.wrap _; exact hb
      refine j0_same op pc a b _ (IntKind.u64.wrap imm) rd rs1 rs2 imm aq rl ha hb hC (U64.wrap _) g1 g2 (fun hr => absurd (by omega) h) (fun hi => ?_) (fun _ => rfl)
      have : immB op = true := decide_eq_true (by omega)
      rw [if_pos this]
  · rw [if_neg hg, if_neg hg]
theorem AluValues : postbaglaw04_AluValues.Pure := by
  intro a0_0 a0_1 a0_2 a0_3 a0_4 a0_5 a0_6 a1 a2 a3 w0 w1 w2 w3 w4 w5 w6 w7
  have hI := I64.of_wf w4
  have ha := U64.of_wf w6
  have hb := U64.of_wf w7
  refine ⟨80, ?_⟩
  unfold postbaglaw04_AluValues.f
  rw [value_same _ _ _ _ _ _ _ _ _ _ hI ha hb]
  unfold alu_Value.f
  rw [if_pos ⟨hI, ha, hb⟩]
  by_cases hg : goodOf a0_0 a0_1 a0_2 a0_3 a0_4 a0_5 a0_6 = true
  · simp [hg, lives_yes]
  · simp [hg, lives_yes]
end Go.Proofs.Ytjdidadafccepaa.Pure
