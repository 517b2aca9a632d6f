/- DERIVED. The operations' rows; no program. -/
import Derived.Laws.Tables
import Derived.WalkKit
import Derived.Test.YtcjfafhbohkhlaaGreatMBits
namespace Go.Proofs.YtcjfafhbohkhlaaGreat.M
open Go.RowKit
set_option linter.unusedVariables false
/-- Form, opcode, f3, f7 of each operation, one behind the other. -/
def instNums : List Int := [1, 55, 0, 0, 1, 23, 0, 0, 2, 111, 0, 0, 3, 103, 0, 0, 4, 99, 0, 0, 4, 99, 1, 0, 4, 99, 4, 0, 4, 99, 5, 0, 4, 99, 6, 0, 4, 99, 7, 0, 3, 3, 0, 0, 3, 3, 1, 0, 3, 3, 2, 0, 3, 3, 3, 0, 3, 3, 4, 0, 3, 3, 5, 0, 3, 3, 6, 0, 5, 35, 0, 0, 5, 35, 1, 0, 5, 35, 2, 0, 5, 35, 3, 0, 3, 19, 0, 0, 3, 19, 2, 0, 3, 19, 3, 0, 3, 19, 4, 0, 3, 19, 6, 0, 3, 19, 7, 0, 6, 19, 1, 0, 6, 19, 5, 0, 6, 19, 5, 32, 8, 51, 0, 0, 8, 51, 0, 32, 8, 51, 1, 0, 8, 51, 2, 0, 8, 51, 3, 0, 8, 51, 4, 0, 8, 51, 5, 0, 8, 51, 5, 32, 8, 51, 6, 0, 8, 51, 7, 0, 3, 27, 0, 0, 7, 27, 1, 0, 7, 27, 5, 0, 7, 27, 5, 32, 8, 59, 0, 0, 8, 59, 0, 32, 8, 59, 1, 0, 8, 59, 5, 0, 8, 59, 5, 32, 9, 15, 0, 0, 10, 115, 0, 0, 10, 115, 0, 1, 8, 51, 0, 1, 8, 51, 1, 1, 8, 51, 2, 1, 8, 51, 3, 1, 8, 51, 4, 1, 8, 51, 5, 1, 8, 51, 6, 1, 8, 51, 7, 1, 8, 59, 0, 1, 8, 59, 4, 1, 8, 59, 5, 1, 8, 59, 6, 1, 8, 59, 7, 1, 11, 47, 2, 2, 12, 47, 2, 3, 12, 47, 2, 1, 12, 47, 2, 0, 12, 47, 2, 4, 12, 47, 2, 12, 12, 47, 2, 8, 12, 47, 2, 16, 12, 47, 2, 20, 12, 47, 2, 24, 12, 47, 2, 28, 11, 47, 3, 2, 12, 47, 3, 3, 12, 47, 3, 1, 12, 47, 3, 0, 12, 47, 3, 4, 12, 47, 3, 12, 12, 47, 3, 8, 12, 47, 3, 16, 12, 47, 3, 20, 12, 47, 3, 24, 12, 47, 3, 28]
def instCells : Array Value := (instNums.map (Value.int .i64)).toArray
def instRow (i : Nat) : Value := .agg ((instNums.drop (4 * i)).take 4 |>.map (Value.int .i64)).toArray
def formOf (op : Int) : Int := if 1 ≤ op ∧ op ≤ 87 then instNums.getD (4 * (op - 1).toNat) 0 else 0
def codeOf (op : Int) : Int := if 1 ≤ op ∧ op ≤ 87 then instNums.getD (4 * (op - 1).toNat + 1) 0 else 0
def f3Of (op : Int) : Int := if 1 ≤ op ∧ op ≤ 87 then instNums.getD (4 * (op - 1).toNat + 2) 0 else 0
def f7Of (op : Int) : Int := if 1 ≤ op ∧ op ≤ 87 then instNums.getD (4 * (op - 1).toNat + 3) 0 else 0
/-- Which of Rd, Rs1, Rs2, Imm, Aq and Rl a form has. -/
def hasRd (f : Int) : Bool := decide (f = 1 ∨ f = 2 ∨ f = 3 ∨ f = 6 ∨ f = 7 ∨ f = 8 ∨ f = 11 ∨ f = 12)
def hasRs1 (f : Int) : Bool := decide (f = 3 ∨ f = 6 ∨ f = 7 ∨ f = 4 ∨ f = 5 ∨ f = 8 ∨ f = 11 ∨ f = 12)
def hasRs2 (f : Int) : Bool := decide (f = 4 ∨ f = 5 ∨ f = 8 ∨ f = 12)
def hasImm (f : Int) : Bool := decide (f = 1 ∨ f = 2 ∨ f = 3 ∨ f = 6 ∨ f = 7 ∨ f = 4 ∨ f = 5 ∨ f = 9)
def hasAq (f : Int) : Bool := decide (f = 11 ∨ f = 12)
theorem tmod0 (n m : Int) : (Int.tmod n m = 0) = (n % m = 0) := propext ⟨fun h => Int.emod_eq_zero_of_dvd (Int.dvd_of_tmod_eq_zero h), fun h => Int.tmod_eq_zero_of_dvd (Int.dvd_of_emod_eq_zero h)⟩
/-- May a form have this Imm? -/
def immOf (f n : Int) : Bool :=
  if f = 1 then decide (n % 4096 = 0) && fitsOf n 32 else if f = 2 then decide (n % 2 = 0) && fitsOf n 21 else if f = 4 then decide (n % 2 = 0) && fitsOf n 13
  else if f = 3 ∨ f = 5 then fitsOf n 12 else if f = 6 then decide (0 ≤ n ∧ n ≤ 63) else if f = 7 then decide (0 ≤ n ∧ n ≤ 31) else if f = 9 then decide (0 ≤ n ∧ n ≤ 255) else n == 0
/-- A form's fields as a number. -/
def fieldsOf (f : Int) : Int :=
  if f = 1 ∨ f = 2 then 9 else if f = 3 ∨ f = 6 ∨ f = 7 then 11 else if f = 4 ∨ f = 5 then 14 else if f = 8 then 7 else if f = 9 then 8 else if f = 12 then 23 else if f = 11 then 19 else 0
def keep (b : Bool) (x : Int) : Int := if b then x else 0
def regOf (r : Int) (is : Bool) : Bool := if is then decide (0 ≤ r ∧ r ≤ 31) else r == 0
def goodOf (op rd rs1 rs2 imm : Int) (aq rl : Bool) : Bool :=
  decide (0 < formOf op) && (regOf rd (hasRd (formOf op)) && (regOf rs1 (hasRs1 (formOf op)) && (regOf rs2 (hasRs2 (formOf op)) && (immOf (formOf op) imm && (hasAq (formOf op) || (!aq && !rl))))))
theorem nums_get (p : Int → Int → Int → Int → Prop) (h0 : p 0 0 0 0) (h : ∀ i < 87, p (instNums.getD (4 * i) 0) (instNums.getD (4 * i + 1) 0) (instNums.getD (4 * i + 2) 0) (instNums.getD (4 * i + 3) 0)) (op : Int) : p (formOf op) (codeOf op) (f3Of op) (f7Of op) := by
  by_cases hr : 1 ≤ op ∧ op ≤ 87
  · simp only [formOf, codeOf, f3Of, f7Of, if_pos hr]; exact h _ (by omega)
  · simp only [formOf, codeOf, f3Of, f7Of, if_neg hr]; exact h0
theorem nums_range (op : Int) : (0 ≤ formOf op ∧ formOf op ≤ 12) ∧ (0 ≤ codeOf op ∧ codeOf op < 128) ∧ (0 ≤ f3Of op ∧ f3Of op < 8) ∧ (0 ≤ f7Of op ∧ f7Of op < 64) ∧ ((formOf op = 11 ∨ formOf op = 12) → f7Of op < 32) ∧ ((formOf op = 1 ∨ formOf op = 2) → f3Of op = 0) ∧ (formOf op = 6 ∨ formOf op = 7 → f7Of op = 0 ∨ f7Of op = 32) ∧ (formOf op = 10 → f7Of op < 4096) :=
  nums_get (fun f c x y => (0 ≤ f ∧ f ≤ 12) ∧ (0 ≤ c ∧ c < 128) ∧ (0 ≤ x ∧ x < 8) ∧ (0 ≤ y ∧ y < 64) ∧ ((f = 11 ∨ f = 12) → y < 32) ∧ ((f = 1 ∨ f = 2) → x = 0) ∧ (f = 6 ∨ f = 7 → y = 0 ∨ y = 32) ∧ (f = 10 → y < 4096)) (by decide) (by decide +kernel) op
theorem form_cases (op : Int) : formOf op = 0 ∨ formOf op = 1 ∨ formOf op = 2 ∨ formOf op = 3 ∨ formOf op = 4 ∨ formOf op = 5 ∨ formOf op = 6 ∨ formOf op = 7 ∨ formOf op = 8 ∨ formOf op = 9 ∨ formOf op = 10 ∨ formOf op = 11 ∨ formOf op = 12 := by
  have := (nums_range op).1; omega
def nearOf (op c : Int) : Bool :=
  if c = 3 then decide (11 ≤ op ∧ op ≤ 17) else if c = 19 then decide (22 ≤ op ∧ op ≤ 30) else if c = 51 then decide ((31 ≤ op ∧ op ≤ 40) ∨ (53 ≤ op ∧ op ≤ 60)) else if c = 47 then decide (66 ≤ op ∧ op ≤ 87) else codeOf op == c
theorem near_code (op c : Int) (h1 : 1 ≤ op) (h2 : op ≤ 87) (h : codeOf op = c) : nearOf op c = true := by
  subst h
  have : ∀ n : Nat, n < 87 → nearOf ((n : Int) + 1) (codeOf ((n : Int) + 1)) = true := by decide +kernel
  have h := this (op - 1).toNat (by omega)
  rwa [show (((op - 1).toNat : Nat) : Int) + 1 = op by omega] at h
/-- A row's number above. -/
def highOf (f x : Int) : Int := if f = 6 ∨ f = 7 ∨ f = 8 then x * 33554432 else if f = 10 then x * 1048576 else if f = 11 ∨ f = 12 then x * 134217728 else 0
/-- Where a form's Imm stands in a word. -/
def immWord (f n : Int) : Int :=
  if f = 1 then n / 4096 % 1048576 * 4096
  else if f = 2 then n / 1048576 % 2 * 2147483648 + n / 2 % 1024 * 2097152 + n / 2048 % 2 * 1048576 + n / 4096 % 256 * 4096
  else if f = 3 then n % 4096 * 1048576
  else if f = 4 then n / 4096 % 2 * 2147483648 + n / 32 % 64 * 33554432 + n / 2 % 16 * 256 + n / 2048 % 2 * 128
  else if f = 5 then n / 32 % 128 * 33554432 + n % 32 * 128
  else if f = 6 then n % 64 * 1048576 else if f = 7 then n % 32 * 1048576 else if f = 9 then n % 256 * 1048576 else 0
/-- The word of an instruction that may be. -/
def encOf (op rd rs1 rs2 imm : Int) (aq rl : Bool) : Int :=
  codeOf op + f3Of op * 4096 + rd * 128 + rs1 * 32768 + rs2 * 1048576 + highOf (formOf op) (f7Of op) + immWord (formOf op) imm + (if aq then 67108864 else 0) + (if rl then 33554432 else 0)
/-- To lay bits where there are none is to add them. -/
theorem or_field (a b k n : Nat) (h : a / 2 ^ k % 2 ^ n = 0) (hb : b < 2 ^ n) : a ||| b * 2 ^ k = a + b * 2 ^ k := by
  have hz : ∀ i, k ≤ i → i < k + n → a.testBit i = false := by
    intro i h1 h2
    have := congrArg (fun x => x.testBit (i - k)) h
    simp only [Nat.testBit_mod_two_pow, Nat.testBit_div_two_pow, Nat.zero_testBit, show i - k < n by omega, decide_true, Bool.true_and, show i - k + k = i by omega] at this
    exact this
  have e : a ||| b * 2 ^ k = place a k n b := by
    apply Nat.eq_of_testBit_eq
    intro i
    rw [Nat.testBit_or, testBit_place, Nat.testBit_mul_two_pow]
    by_cases h1 : k ≤ i
    · by_cases h2 : i < k + n
      · rw [hz i h1 h2, if_pos ⟨h1, h2⟩]; simp [h1]
      · have : b.testBit (i - k) = false := Nat.testBit_lt_two_pow (Nat.lt_of_lt_of_le hb (Nat.pow_le_pow_right (by decide) (by omega)))
        rw [this, Bool.and_false, Bool.or_false, if_neg (by omega)]
    · rw [if_neg (by omega)]; simp [h1]
  have h1 := Nat.div_add_mod a (2 ^ k)
  have h2 := Nat.div_add_mod (a / 2 ^ k) (2 ^ n)
  rw [h, Nat.add_zero, Nat.div_div_eq_div_mul, ← Nat.pow_add] at h2
  rw [e, place, Nat.mod_eq_of_lt hb, h2, Nat.mul_add, Nat.mul_comm (2 ^ k) b]
  omega
theorem or_add (a b : Int) (k n : Nat) (ha : U64 a) (hb : 0 ≤ b ∧ b < 2 ^ n) (hkn : k + n ≤ 64) (h : a / 2 ^ k % 2 ^ n = 0) : Go.bits .or .u64 a (b * 2 ^ k) = a + b * 2 ^ k := by
  obtain ⟨x, rfl, hx⟩ := ha.nat
  obtain ⟨y, rfl⟩ := Int.eq_ofNat_of_zero_le hb.1
  have hy : y < 2 ^ n := by have := hb.2; rw [ipow] at this; omega
  have h2 : x / 2 ^ k % 2 ^ n = 0 := by rw [ipow, ipow] at h; exact_mod_cast h
  have hlt : y * 2 ^ k < 2 ^ 64 := by
    have h1 : y * 2 ^ k < 2 ^ n * 2 ^ k := Nat.mul_lt_mul_of_pos_right hy (Nat.two_pow_pos k)
    rw [← Nat.pow_add] at h1
    exact Nat.lt_of_lt_of_le h1 (Nat.pow_le_pow_right (by decide) (by omega))
  have e : ((y : Int) * 2 ^ k) = ((y * 2 ^ k : Nat) : Int) := by rw [ipow]; simp
  rw [e, or_nat _ _ hx hlt, or_field x y k n h2 hy]
  simp
theorem place_put (x v : Int) (k n : Nat) (hx : U64 x) (hv : 0 ≤ v ∧ v < 2 ^ n) (hk : k + n ≤ 64) (h1 : 1 ≤ n) (hz : x / 2 ^ k % 2 ^ n = 0) :
    U64 (Go.bits .or .u64 (x / 2 ^ k) v) ∧ placeOf x k n (Go.bits .or .u64 (x / 2 ^ k) v) = x + v * 2 ^ k := by
  obtain ⟨x, rfl, hxl⟩ := hx.nat
  obtain ⟨v, rfl⟩ := Int.eq_ofNat_of_zero_le hv.1
  have hy : v < 2 ^ n := by have := hv.2; rw [ipow] at this; omega
  have h2 : x / 2 ^ k % 2 ^ n = 0 := by rw [ipow, ipow] at hz; exact_mod_cast hz
  have hv64 : v < 2 ^ 64 := Nat.lt_of_lt_of_le hy (Nat.pow_le_pow_right (by decide) (by omega))
  have hxk : x / 2 ^ k < 2 ^ 64 := Nat.lt_of_le_of_lt (Nat.div_le_self _ _) hxl
  have e0 : ((x : Int) / 2 ^ k) = ((x / 2 ^ k : Nat) : Int) := by rw [ipow]; simp
  rw [e0, or_nat _ _ hxk hv64]
  refine ⟨U64.mk (Nat.or_lt_two_pow hxk hv64), ?_⟩
  rw [place_nat x k n _ (by omega) h1, show min n (64 - k) = n by omega]
  have e1 : (x / 2 ^ k ||| v) % 2 ^ n = v := by
    rw [Nat.or_mod_two_pow, h2, Nat.zero_or, Nat.mod_eq_of_lt hy]
  have h3 := Nat.div_add_mod x (2 ^ k)
  have h4 := Nat.div_add_mod (x / 2 ^ k) (2 ^ n)
  rw [h2, Nat.add_zero, Nat.div_div_eq_div_mul, ← Nat.pow_add] at h4
  have e2 : place x k n (x / 2 ^ k ||| v) = x + v * 2 ^ k := by
    rw [place, e1, h4, Nat.mul_add, Nat.mul_comm (2 ^ k) v]
    omega
  rw [e2]; simp
theorem or_add_i64 (a b : Int) (k n : Nat) (ha : 0 ≤ a ∧ a < 2 ^ 63) (hb : 0 ≤ b ∧ b < 2 ^ n) (hkn : k + n ≤ 63) (h : a / 2 ^ k % 2 ^ n = 0) : Go.bits .or .i64 a (b * 2 ^ k) = a + b * 2 ^ k := by
  obtain ⟨x, rfl⟩ := Int.eq_ofNat_of_zero_le ha.1
  have hx : x < 2 ^ 63 := by have := ha.2; omega
  obtain ⟨y, rfl⟩ := Int.eq_ofNat_of_zero_le hb.1
  have hy : y < 2 ^ n := by have := hb.2; rw [ipow] at this; omega
  have h2 : x / 2 ^ k % 2 ^ n = 0 := by rw [ipow, ipow] at h; exact_mod_cast h
  have hlt : y * 2 ^ k < 2 ^ 63 := by
    have h1 : y * 2 ^ k < 2 ^ n * 2 ^ k := Nat.mul_lt_mul_of_pos_right hy (Nat.two_pow_pos k)
    rw [← Nat.pow_add] at h1
    exact Nat.lt_of_lt_of_le h1 (Nat.pow_le_pow_right (by decide) (by omega))
  have e : ((y : Int) * 2 ^ k) = ((y * 2 ^ k : Nat) : Int) := by rw [ipow]; simp
  rw [e, (bits_nat .i64 63 (by decide) (fun n h0 h1 => by rw [IntKind.wrap_i64]; omega) x (y * 2 ^ k) hx hlt).2, or_field x y k n h2 hy]
  simp
theorem enc_put (x imm : Int) (k n low : Nat) (hx : U64 x) (hk : k + n ≤ 64) (h1 : 1 ≤ n) (h2 : n ≤ 63) (hl : low + n ≤ 64) (hz : x / 2 ^ k % 2 ^ n = 0) :
    U64 (Go.bits .or .u64 (x / 2 ^ k) (Go.bits .and .u64 (IntKind.u64.wrap imm / 2 ^ low) (2 ^ n - 1))) ∧
    placeOf x k n (Go.bits .or .u64 (x / 2 ^ k) (Go.bits .and .u64 (IntKind.u64.wrap imm / 2 ^ low) (2 ^ n - 1))) = x + imm / 2 ^ low % 2 ^ n * 2 ^ k := by
  have hw : U64 (IntKind.u64.wrap imm / 2 ^ low) := by
    have := U64.wrap imm
    have hp := ipos low
    refine ⟨Int.ediv_nonneg this.1 (by omega), Int.le_trans (Int.ediv_le_self _ this.1) this.2⟩
  have e4 : IntKind.u64.wrap imm / 2 ^ low % 2 ^ n = imm / 2 ^ low % 2 ^ n := by
    have hs : (18446744073709551616 : Int) = 2 ^ low * (2 ^ n * 2 ^ (64 - low - n)) := by
      rw [← Int.pow_add, ← Int.pow_add, show low + (n + (64 - low - n)) = 64 by omega]; rfl
    have hd := Int.emod_add_mul_ediv imm (2 ^ low * (2 ^ n * 2 ^ (64 - low - n)))
    rw [u64w, hs]
    generalize imm % (2 ^ low * (2 ^ n * 2 ^ (64 - low - n))) = r at *
    generalize imm / (2 ^ low * (2 ^ n * 2 ^ (64 - low - n))) = q at *
    rw [← hd, Int.mul_assoc, Int.add_mul_ediv_left _ _ (Int.ne_of_gt (ipos low)), Int.mul_assoc, Int.add_mul_emod_self_left]
  rw [and_mask _ hw n (by omega), e4]
  exact place_put x _ k n hx ⟨Int.emod_nonneg _ (Int.ne_of_gt (ipos n)), Int.emod_lt_of_pos _ (ipos n)⟩ hk h1 hz
end Go.Proofs.YtcjfafhbohkhlaaGreat.M
