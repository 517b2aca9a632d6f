/- DERIVED. Plain facts about numbers of 64 bits: what fields, places, signs, products and quotients are; no condition, no program. -/
import Derived.Laws.Bits64
import Derived.Laws.BitsLemmas
import Derived.RowKit
namespace Go.Proofs.YtcjfafhbohkhlaaGreat.M
open Go.RowKit
set_option linter.unusedVariables false

def U64 (a : Int) : Prop := 0 ≤ a ∧ a ≤ 18446744073709551615
instance (a : Int) : Decidable (U64 a) := inferInstanceAs (Decidable (_ ∧ _))
theorem U64.of_wf {a : Int} (h : (Lit.int .u64 a).wf = true) : U64 a := by
  simp [Lit.wf, IntKind.min, IntKind.max, IntKind.signed, IntKind.bits] at h
  exact ⟨h.1, by omega⟩
theorem U64.nat {a : Int} (h : U64 a) : ∃ n : Nat, a = n ∧ n < 2 ^ 64 := by
  obtain ⟨h0, h1⟩ := h
  exact ⟨a.toNat, by omega, by omega⟩
theorem U64.mk {n : Nat} (h : n < 2 ^ 64) : U64 (n : Int) := ⟨by omega, by omega⟩
theorem u64w (n : Int) : IntKind.u64.wrap n = n % 18446744073709551616 := IntKind.wrap_u64 n
theorem U64.wrap (n : Int) : U64 (IntKind.u64.wrap n) := by rw [u64w]; unfold U64; omega
theorem U64.wrap_eq {n : Int} (h : U64 n) : IntKind.u64.wrap n = n := by rw [u64w]; unfold U64 at h; omega
def I64 (a : Int) : Prop := -9223372036854775808 ≤ a ∧ a ≤ 9223372036854775807
instance (a : Int) : Decidable (I64 a) := inferInstanceAs (Decidable (_ ∧ _))
theorem I64.of_wf {a : Int} (h : (Lit.int .i64 a).wf = true) : I64 a := by
  simp [Lit.wf, IntKind.min, IntKind.max, IntKind.signed, IntKind.bits] at h
  exact ⟨h.1, by omega⟩
theorem I64.wrap (n : Int) : I64 (wrap64 n) := by unfold wrap64 I64; omega
theorem I64.wrap_eq {n : Int} (h : I64 n) : wrap64 n = n := by unfold wrap64; unfold I64 at h; omega

/-! The operators, of natural numbers. -/
theorem and_nat (a b : Nat) (ha : a < 2 ^ 64) (hb : b < 2 ^ 64) : Go.bits .and .u64 (a : Int) (b : Int) = ((a &&& b : Nat) : Int) :=
  (bits_nat .u64 64 (by decide) (fun n h0 h1 => by rw [IntKind.wrap_u64]; omega) a b ha hb).1
theorem or_nat (a b : Nat) (ha : a < 2 ^ 64) (hb : b < 2 ^ 64) : Go.bits .or .u64 (a : Int) (b : Int) = ((a ||| b : Nat) : Int) :=
  (bits_nat .u64 64 (by decide) (fun n h0 h1 => by rw [IntKind.wrap_u64]; omega) a b ha hb).2
theorem ofInt_toNat (a : Nat) (ha : a < 2 ^ 64) : (BitVec.ofInt 64 (a : Int)).toNat = a := by
  simp [BitVec.ofInt_natCast, BitVec.toNat_ofNat]; simpa using ha
theorem wrap_nat (a : Nat) (ha : a < 2 ^ 64) : IntKind.u64.wrap (a : Int) = (a : Int) := by rw [u64w]; omega
theorem xor_nat (a b : Nat) (ha : a < 2 ^ 64) (hb : b < 2 ^ 64) : Go.bits .xor .u64 (a : Int) (b : Int) = ((a ^^^ b : Nat) : Int) := by
  show IntKind.u64.wrap ((BitVec.ofInt 64 (a : Int) ^^^ BitVec.ofInt 64 (b : Int)).toNat : Int) = _
  rw [BitVec.toNat_xor, ofInt_toNat a ha, ofInt_toNat b hb]
  exact wrap_nat _ (Nat.xor_lt_two_pow ha hb)
/-- Bits of the one that the other one lacks. -/
def minus (a b : Nat) : Nat := a &&& (18446744073709551615 - b)
theorem testBit_minus (a b i : Nat) (ha : a < 2 ^ 64) (hb : b < 2 ^ 64) : (minus a b).testBit i = (a.testBit i && !b.testBit i) := by
  unfold minus
  rw [Nat.testBit_and]
  by_cases hi : i < 64
  · have : (18446744073709551615 - b) = 2 ^ 64 - (b + 1) := by omega
    rw [this, Nat.testBit_two_pow_sub_succ hb]; simp [hi]
  · have : a.testBit i = false := Nat.testBit_lt_two_pow (Nat.lt_of_lt_of_le ha (Nat.pow_le_pow_right (by decide) (by omega)))
    simp [this]
theorem minus_lt (a b : Nat) (ha : a < 2 ^ 64) : minus a b < 2 ^ 64 := Nat.lt_of_le_of_lt Nat.and_le_left ha
theorem andNot_nat (a b : Nat) (ha : a < 2 ^ 64) (hb : b < 2 ^ 64) : Go.bits .andNot .u64 (a : Int) (b : Int) = ((minus a b : Nat) : Int) := by
  show IntKind.u64.wrap ((BitVec.ofInt 64 (a : Int) &&& ~~~ BitVec.ofInt 64 (b : Int)).toNat : Int) = _
  rw [BitVec.toNat_and, BitVec.toNat_not, ofInt_toNat a ha, ofInt_toNat b hb]
  exact wrap_nat _ (Nat.lt_of_le_of_lt Nat.and_le_left ha)
theorem and_mask (a : Int) (h : U64 a) (m : Nat) (hm : m ≤ 64) : Go.bits .and .u64 a (2 ^ m - 1) = a % 2 ^ m :=
  bits_mask .u64 64 (by decide) (fun n h0 h1 => by rw [IntKind.wrap_u64]; omega) m hm a h.1 (by have := h.2; omega)
theorem ipow (k : Nat) : (2 : Int) ^ k = ((2 ^ k : Nat) : Int) := by simp
theorem ipos (k : Nat) : (0 : Int) < 2 ^ k := by rw [ipow]; have := Nat.two_pow_pos k; omega
theorem ipow_le (k m : Nat) (h : k ≤ m) : (2 : Int) ^ k ≤ 2 ^ m := by rw [ipow, ipow]; have := Nat.pow_le_pow_right (n := 2) (by decide) h; omega

/-! One bit; powers. -/
def bitOf (x : Int) (i : Int) : Int := if i < 0 ∨ i > 63 then 0 else x / 2 ^ i.toNat % 2
def powOf (i : Int) : Int := if i < 0 then 1 else if i ≥ 64 then 0 else 2 ^ i.toNat
theorem bit_nat (x i : Nat) (hi : i < 64) : bitOf (x : Int) (i : Int) = ((x.testBit i).toNat : Int) := by
  unfold bitOf
  rw [if_neg (by omega), Int.toNat_natCast, ipow, Nat.testBit_eq_decide_div_mod_eq]
  have : ((x : Int) / ((2 ^ i : Nat) : Int) % 2) = ((x / 2 ^ i % 2 : Nat) : Int) := by simp
  rw [this]
  rcases Nat.mod_two_eq_zero_or_one (x / 2 ^ i) with h | h <;> simp [h]

/-! Fields. -/
def fieldOf (x low n : Int) : Int := if low < 0 ∨ low > 63 ∨ n < 1 then 0 else x / 2 ^ low.toNat % 2 ^ (min n 64).toNat
theorem field_nat (x low n : Nat) (h0 : low ≤ 63) (h1 : 1 ≤ n) : fieldOf (x : Int) (low : Int) (n : Int) = ((x / 2 ^ low % 2 ^ (min n 64) : Nat) : Int) := by
  unfold fieldOf
  rw [if_neg (by omega), Int.toNat_natCast, show (min (n : Int) 64).toNat = min n 64 from by omega]
  simp
theorem field_range (x low n : Int) (hx : U64 x) : U64 (fieldOf x low n) := by
  by_cases h : low < 0 ∨ low > 63 ∨ n < 1
  · unfold fieldOf; rw [if_pos h]; decide
  · obtain ⟨X, rfl, hX⟩ := hx.nat
    obtain ⟨L, rfl⟩ : ∃ L : Nat, low = L := ⟨low.toNat, by omega⟩
    obtain ⟨M, rfl⟩ : ∃ M : Nat, n = M := ⟨n.toNat, by omega⟩
    rw [field_nat X L M (by omega) (by omega)]
    exact U64.mk (Nat.lt_of_le_of_lt (Nat.le_trans (Nat.mod_le _ _) (Nat.div_le_self _ _)) hX)
/-- A field's first i bits, and one more. -/
theorem field_step (x low i : Nat) : x / 2 ^ low % 2 ^ (i + 1) = x / 2 ^ low % 2 ^ i + x / 2 ^ (low + i) % 2 * 2 ^ i := by
  rw [Nat.mod_pow_succ, Nat.div_div_eq_div_mul, ← Nat.pow_add, Nat.mul_comm]
theorem field_all (x low n : Nat) (hx : x < 2 ^ 64) (hl : low ≤ 63) : x / 2 ^ low % 2 ^ (min n (64 - low)) = x / 2 ^ low % 2 ^ (min n 64) := by
  by_cases h : n ≤ 64 - low
  · rw [show min n (64 - low) = min n 64 from by omega]
  · have hd : x / 2 ^ low < 2 ^ (64 - low) := by
      rw [Nat.div_lt_iff_lt_mul (Nat.two_pow_pos _), ← Nat.pow_add, show 64 - low + low = 64 from by omega]; exact hx
    rw [Nat.mod_eq_of_lt (by rw [show min n (64 - low) = 64 - low from by omega]; exact hd), Nat.mod_eq_of_lt (Nat.lt_of_lt_of_le hd (Nat.pow_le_pow_right (by decide) (by omega)))]

/-! Places. -/
def place (x low m v : Nat) : Nat := 2 ^ low * (2 ^ m * (x / 2 ^ (low + m)) + v % 2 ^ m) + x % 2 ^ low
theorem testBit_place (x low m v i : Nat) : (place x low m v).testBit i = if low ≤ i ∧ i < low + m then v.testBit (i - low) else x.testBit i := by
  unfold place
  rw [Nat.testBit_two_pow_mul_add _ (Nat.mod_lt _ (Nat.two_pow_pos _))]
  by_cases h : i < low
  · rw [if_pos h, if_neg (by omega), Nat.testBit_mod_two_pow]; simp [h]
  · rw [if_neg h, Nat.testBit_two_pow_mul_add _ (Nat.mod_lt _ (Nat.two_pow_pos _))]
    by_cases h2 : i - low < m
    · rw [if_pos h2, if_pos (by omega), Nat.testBit_mod_two_pow]; simp [h2]
    · rw [if_neg h2, if_neg (by omega), Nat.testBit_div_two_pow]; congr 1; omega
theorem lt_of_bits (y : Nat) (h : ∀ i, 64 ≤ i → y.testBit i = false) : y < 2 ^ 64 := Nat.lt_pow_two_of_testBit y h
theorem bits_of_lt {x i : Nat} (hx : x < 2 ^ 64) (hi : 64 ≤ i) : x.testBit i = false := Nat.testBit_lt_two_pow (Nat.lt_of_lt_of_le hx (Nat.pow_le_pow_right (by decide) hi))
theorem place_lt (x low m v : Nat) (hx : x < 2 ^ 64) (h : low + m ≤ 64) : place x low m v < 2 ^ 64 := by
  refine lt_of_bits _ fun i hi => ?_
  rw [testBit_place, if_neg (by omega)]
  exact bits_of_lt hx hi
def placeOf (x low n v : Int) : Int := if low < 0 ∨ low > 63 ∨ n < 1 then x else ((place x.toNat low.toNat (min n (64 - low)).toNat v.toNat : Nat) : Int)
theorem place_nat (x low n v : Nat) (h0 : low ≤ 63) (h1 : 1 ≤ n) : placeOf (x : Int) low n v = ((place x low (min n (64 - low)) v : Nat) : Int) := by
  unfold placeOf
  rw [if_neg (by omega), show (min (n : Int) (64 - (low : Int))).toNat = min n (64 - low) from by omega]
  rfl
theorem place_range (x low n v : Int) (hx : U64 x) : U64 (placeOf x low n v) := by
  by_cases h : low < 0 ∨ low > 63 ∨ n < 1
  · unfold placeOf; rw [if_pos h]; exact hx
  · unfold placeOf; rw [if_neg h]
    obtain ⟨X, rfl, hX⟩ := hx.nat
    exact U64.mk (place_lt _ _ _ _ (by simpa using hX) (by omega))
theorem place_zero (x low v : Nat) : place x low 0 v = x := by
  apply Nat.eq_of_testBit_eq; intro i; rw [testBit_place, if_neg (by omega)]
/-- One bit is taken away, and another one put. -/
theorem put_bit (y k : Nat) (c : Bool) : y - (y.testBit k).toNat * 2 ^ k + c.toNat * 2 ^ k = place y k 1 c.toNat := by
  have e : y = 2 ^ k * (2 * (y / 2 ^ (k + 1)) + (y.testBit k).toNat) + y % 2 ^ k := by
    have h1 := Nat.div_add_mod y (2 ^ k)
    have h2 := Nat.div_add_mod (y / 2 ^ k) 2
    rw [Nat.div_div_eq_div_mul, ← Nat.pow_succ] at h2
    have h3 : (y.testBit k).toNat = y / 2 ^ k % 2 := by
      rw [Nat.testBit_eq_decide_div_mod_eq]; rcases Nat.mod_two_eq_zero_or_one (y / 2 ^ k) with h | h <;> simp [h]
    rw [h3, h2, h1]
  unfold place
  have hc : c.toNat % 2 ^ 1 = c.toNat := by cases c <;> rfl
  rw [hc, Nat.pow_one]
  generalize hb : (y.testBit k).toNat = b at *
  generalize y / 2 ^ (k + 1) = q at *
  generalize y % 2 ^ k = r at *
  subst e
  rw [Nat.mul_add, Nat.mul_add, Nat.mul_comm b, Nat.mul_comm c.toNat]
  omega
theorem place_succ (x low i v : Nat) : place (place x low i v) (low + i) 1 (v.testBit i).toNat = place x low (i + 1) v := by
  apply Nat.eq_of_testBit_eq; intro j
  rw [testBit_place, testBit_place, testBit_place]
  by_cases h : j = low + i
  · subst h
    rw [if_pos (by omega), if_pos (by omega), show low + i - (low + i) = 0 from by omega, show low + i - low = i from by omega]
    cases v.testBit i <;> rfl
  · rw [if_neg (by omega)]
    by_cases h2 : low ≤ j ∧ j < low + i
    · rw [if_pos h2, if_pos (by omega)]
    · rw [if_neg h2, if_neg (by omega)]

/-! Signs. -/
def signOf (x n : Int) : Int := if n < 1 ∨ n > 63 then x else if x % 2 ^ n.toNat < 2 ^ (n - 1).toNat then x % 2 ^ n.toNat else x % 2 ^ n.toNat + (18446744073709551616 - 2 ^ n.toNat)
def fitsOf (v n : Int) : Bool := decide (1 ≤ n ∧ (n ≤ 63 → -(2 ^ (n - 1).toNat) ≤ v ∧ v < 2 ^ (n - 1).toNat))
theorem sign_range (x n : Int) (hx : U64 x) : U64 (signOf x n) := by
  unfold signOf
  split
  · exact hx
  · have h1 := Int.emod_nonneg x (Int.ne_of_gt (ipos n.toNat))
    have h2 := Int.emod_lt_of_pos x (ipos n.toNat)
    have h3 : (2 : Int) ^ n.toNat ≤ 2 ^ 63 := ipow_le _ _ (by omega)
    have h4 := ipos n.toNat
    split <;> unfold U64 <;> omega
theorem pow_split (n : Nat) (h : n ≤ 64) : (2 : Int) ^ (64 - n) * 2 ^ n = 18446744073709551616 := by
  rw [← Int.pow_add, show 64 - n + n = 64 from by omega]; rfl
/-- Shifted to the left, and back with its sign. -/
theorem sign_shift (x : Int) (hx : U64 x) (n : Nat) (h1 : 1 ≤ n) (h2 : n ≤ 63) :
    IntKind.u64.wrap (wrap64 (IntKind.u64.wrap (x * 2 ^ (64 - n))) / 2 ^ (64 - n)) = signOf x n := by
  unfold signOf
  rw [if_neg (by omega), Int.toNat_natCast, show ((n : Int) - 1).toNat = n - 1 from by omega]
  have hp := ipos (64 - n)
  have hq := ipos n
  have hh := ipos (n - 1)
  have e1 := pow_split n (by omega)
  have e2 : (2 : Int) ^ n = 2 * 2 ^ (n - 1) := by rw [show n = (n - 1) + 1 from by omega, Int.pow_succ]; simp; omega
  have hd := Int.emod_add_mul_ediv x (2 ^ n)
  have hr0 := Int.emod_nonneg x (Int.ne_of_gt hq)
  have hr1 := Int.emod_lt_of_pos x hq
  generalize x % 2 ^ n = r at *
  generalize x / 2 ^ n = q at *
  generalize hP : (2 : Int) ^ (64 - n) = P at *
  generalize hQ : (2 : Int) ^ n = Q at *
  generalize (2 : Int) ^ (n - 1) = H at *
  subst e2
  have e3 : x * P = r * P + q * 18446744073709551616 := by
    rw [← hd, Int.add_mul, show 2 * H * q * P = q * (P * (2 * H)) from by ac_rfl, e1]
  have e4 : P * H = 9223372036854775808 := by have : P * (2 * H) = 2 * (P * H) := by rw [Int.mul_left_comm]
                                              omega
  have e6 : H ≤ 9223372036854775808 := by have := Int.mul_le_mul_of_nonneg_right (show 1 ≤ P by omega) (show 0 ≤ H by omega); simp only [Int.one_mul] at this; rw [e4] at this; exact this
  have b0 : 0 ≤ r * P := Int.mul_nonneg hr0 (by omega)
  rw [u64w, u64w, e3]
  by_cases hc : r < H
  · rw [if_pos hc]
    have b1 : r * P < 9223372036854775808 := by rw [← e4, Int.mul_comm P]; exact Int.mul_lt_mul_of_pos_right hc hp
    have e5 : wrap64 ((r * P + q * 18446744073709551616) % 18446744073709551616) = r * P := by unfold wrap64; omega
    rw [e5, Int.mul_ediv_cancel _ (by omega)]
    omega
  · rw [if_neg hc]
    have b1 : 9223372036854775808 ≤ r * P := by rw [← e4, Int.mul_comm P]; exact Int.mul_le_mul_of_nonneg_right (by omega) (by omega)
    have b2 : r * P < 18446744073709551616 := by rw [← e1, Int.mul_comm P]; exact Int.mul_lt_mul_of_pos_right hr1 hp
    have e5 : wrap64 ((r * P + q * 18446744073709551616) % 18446744073709551616) = (r - 2 * H) * P := by rw [Int.sub_mul, Int.mul_comm (2 * H), e1]; unfold wrap64; omega
    rw [e5, Int.mul_ediv_cancel _ (by omega)]
    omega
theorem fits_sign (v : Int) (hv : I64 v) (n : Nat) (h1 : 1 ≤ n) (h2 : n ≤ 63) : (signOf (IntKind.u64.wrap v) n == IntKind.u64.wrap v) = fitsOf v n := by
  unfold signOf fitsOf
  rw [if_neg (by omega), Int.toNat_natCast, show ((n : Int) - 1).toNat = n - 1 from by omega]
  have hq := ipos n
  have hh := ipos (n - 1)
  have e2 : (2 : Int) ^ n = 2 * 2 ^ (n - 1) := by rw [show n = (n - 1) + 1 from by omega, Int.pow_succ]; simp; omega
  have e4 : (2 : Int) ^ n ≤ 9223372036854775808 := ipow_le n 63 (by omega)
  have e5 : (18446744073709551616 : Int) % 2 ^ n = 0 := by
    rw [← pow_split n (by omega)]; exact Int.mul_emod_left _ _
  have e6 : IntKind.u64.wrap v % 2 ^ n = v % 2 ^ n := by
    rw [u64w]; exact Int.emod_emod_of_dvd v (Int.dvd_of_emod_eq_zero e5)
  rw [e6]
  have hr0 := Int.emod_nonneg v (Int.ne_of_gt hq)
  have hr1 := Int.emod_lt_of_pos v hq
  have c1 : 0 ≤ v → v < 2 ^ (n - 1) → v % 2 ^ n = v := fun p q => Int.emod_eq_of_lt p (by omega)
  have c2 : v < 0 → -(2 ^ (n - 1)) ≤ v → v % 2 ^ n = v + 2 ^ n := fun p q => by
    rw [← Int.add_emod_right]; exact Int.emod_eq_of_lt (by omega) (by omega)
  unfold I64 at hv
  rw [u64w, Bool.eq_iff_iff, beq_iff_eq, decide_eq_true_iff]
  generalize v % 2 ^ n = r at *
  generalize (2 : Int) ^ n = Q at *
  generalize (2 : Int) ^ (n - 1) = H at *
  constructor
  · intro h; refine ⟨by omega, fun _ => ?_⟩; split at h <;> omega
  · rintro ⟨-, h⟩
    have h := h (by omega)
    by_cases hv0 : 0 ≤ v
    · rw [c1 hv0 h.2, if_pos h.2]; omega
    · rw [c2 (by omega) h.1, if_neg (by omega)]; omega
/-- The bits of a sign that is repeated, one by one. -/
def signTo (x : Int) (n i : Nat) : Int := if i ≤ n then x % 2 ^ i else x % 2 ^ n + bitOf x ((n : Int) - 1) * (2 ^ i - 2 ^ n)
theorem emod_succ (x : Int) (i : Nat) : x % 2 ^ (i + 1) = x % 2 ^ i + x / 2 ^ i % 2 * 2 ^ i := by
  have h := Int.emod_add_mul_ediv x (2 ^ (i + 1))
  have h1 := Int.emod_add_mul_ediv x (2 ^ i)
  have h2 := Int.emod_add_mul_ediv (x / 2 ^ i) 2
  have h3 : x / 2 ^ i / 2 = x / 2 ^ (i + 1) := by rw [Int.pow_succ, Int.ediv_ediv_of_nonneg (Int.le_of_lt (ipos i))]
  rw [h3] at h2
  have e : (2 : Int) ^ (i + 1) = 2 ^ i * 2 := Int.pow_succ 2 i
  rw [e] at h ⊢
  rw [e] at h2
  have : 2 ^ i * 2 * (x / (2 ^ i * 2)) = 2 ^ i * (2 * (x / (2 ^ i * 2))) := by rw [Int.mul_assoc]
  have h4 : 2 ^ i * (x / 2 ^ i) = 2 ^ i * (2 * (x / (2 ^ i * 2))) + x / 2 ^ i % 2 * 2 ^ i := by
    rw [Int.mul_comm (x / 2 ^ i % 2), ← Int.mul_add]; congr 1; omega
  omega
theorem bitOf_nat (x : Int) (i : Nat) (h : i ≤ 63) : bitOf x i = x / 2 ^ i % 2 := by unfold bitOf; rw [if_neg (by omega), Int.toNat_natCast]
theorem signTo_step (x : Int) (n i : Nat) (hn : 1 ≤ n) (hn2 : n ≤ 63) (hi : i ≤ 63) : signTo x n (i + 1) = signTo x n i + (if i < n then bitOf x i else bitOf x ((n : Int) - 1)) * 2 ^ i := by
  unfold signTo
  by_cases h : i < n
  · rw [if_pos (by omega), if_pos (by omega), if_pos h, bitOf_nat x i (by omega), emod_succ]
  · rw [if_neg h, if_neg (by omega)]
    have e : (2 : Int) ^ (i + 1) = 2 ^ i * 2 := Int.pow_succ 2 i
    by_cases h2 : i = n
    · subst h2
      rw [if_pos (Nat.le_refl _), e]; congr 1; congr 1; omega
    · rw [if_neg (by omega), e, Int.add_assoc, ← Int.mul_add]; congr 1; congr 1; omega
theorem bitOf_bool (x i : Int) : bitOf x i = 0 ∨ bitOf x i = 1 := by unfold bitOf; split <;> omega
theorem signTo_range (x : Int) (n i : Nat) (hx : U64 x) (hi : i ≤ 64) (hn : n ≤ 63) : U64 (signTo x n i) := by
  unfold signTo
  have p1 : (2 : Int) ^ i ≤ 2 ^ 64 := ipow_le _ _ hi
  have p2 := ipos n
  split
  · have h1 := Int.emod_nonneg x (Int.ne_of_gt (ipos i))
    have h2 := Int.emod_lt_of_pos x (ipos i)
    unfold U64; omega
  · have h1 := Int.emod_nonneg x (Int.ne_of_gt (ipos n))
    have h2 := Int.emod_lt_of_pos x (ipos n)
    have p3 : (2 : Int) ^ n ≤ 2 ^ i := ipow_le _ _ (by omega)
    rcases bitOf_bool x ((n : Int) - 1) with h | h <;> rw [h] <;> unfold U64 <;> omega
theorem signTo_all (x : Int) (n : Nat) (h1 : 1 ≤ n) (h2 : n ≤ 63) : signTo x n 64 = signOf x n := by
  unfold signTo signOf
  rw [if_neg (by omega), if_neg (by omega), Int.toNat_natCast, show ((n : Int) - 1).toNat = n - 1 from by omega, show ((n : Int) - 1) = ((n - 1 : Nat) : Int) from by omega, bitOf_nat x _ (by omega)]
  have hs := emod_succ x (n - 1)
  rw [show n - 1 + 1 = n from by omega] at hs
  have r0 := Int.emod_nonneg x (Int.ne_of_gt (ipos (n - 1)))
  have r1 := Int.emod_lt_of_pos x (ipos (n - 1))
  have p := ipos (n - 1)
  rw [hs]
  have hb : x / 2 ^ (n - 1) % 2 = 0 ∨ x / 2 ^ (n - 1) % 2 = 1 := by omega
  rcases hb with hb | hb <;> rw [hb]
  · rw [if_pos (by omega)]; omega
  · rw [if_neg (by omega)]; omega

/-! The higher half. -/
def hiOf (a b : Int) (sa sb : Bool) : Int := IntKind.u64.wrap (a * b / 18446744073709551616 - (if sa = true ∧ a / 9223372036854775808 = 1 then b else 0) - (if sb = true ∧ b / 9223372036854775808 = 1 then a else 0))
theorem hi_range (a b : Int) (ha : U64 a) (hb : U64 b) : U64 (a * b / 18446744073709551616) := by
  have h0 := Int.mul_nonneg ha.1 hb.1
  have h1 := Int.mul_le_mul ha.2 hb.2 hb.1 (by decide : (0 : Int) ≤ 18446744073709551615)
  unfold U64; omega

/-! Quotients and remainders. -/
def quoOf (a b : Int) (s : Bool) : Int := if b = 0 then 18446744073709551615 else if s = true then IntKind.u64.wrap (Int.tdiv (wrap64 a) (wrap64 b)) else a / b
def remOf (a b : Int) (s : Bool) : Int := if b = 0 then a else if s = true then IntKind.u64.wrap (Int.tmod (wrap64 a) (wrap64 b)) else a % b
theorem s_of (a : Int) (h : U64 a) : (a / 9223372036854775808 = 0 → wrap64 a = a) ∧ (a / 9223372036854775808 = 1 → wrap64 a = -(IntKind.u64.wrap (-a)) ∧ IntKind.u64.wrap (-a) = 18446744073709551616 - a) := by
  unfold U64 at h
  refine ⟨fun c => by unfold wrap64; omega, fun c => ?_⟩
  rw [u64w]; unfold wrap64; omega
theorem quo_signs (a b : Int) (ha : U64 a) (hb : U64 b) (h0 : b ≠ 0) :
    (a / 9223372036854775808 = 1 → b / 9223372036854775808 = 1 → IntKind.u64.wrap (Int.tdiv (IntKind.u64.wrap (-a)) (IntKind.u64.wrap (-b))) = quoOf a b true) ∧
    (a / 9223372036854775808 = 1 → b / 9223372036854775808 = 0 → IntKind.u64.wrap (-(IntKind.u64.wrap (Int.tdiv (IntKind.u64.wrap (-a)) b))) = quoOf a b true) ∧
    (a / 9223372036854775808 = 0 → b / 9223372036854775808 = 1 → IntKind.u64.wrap (-(IntKind.u64.wrap (Int.tdiv a (IntKind.u64.wrap (-b))))) = quoOf a b true) ∧
    (a / 9223372036854775808 = 0 → b / 9223372036854775808 = 0 → IntKind.u64.wrap (Int.tdiv a b) = quoOf a b true) := by
  unfold quoOf
  rw [if_neg h0, if_pos rfl]
  have neg : ∀ x : Int, IntKind.u64.wrap (-(IntKind.u64.wrap x)) = IntKind.u64.wrap (-x) := fun x => by simp only [u64w]; omega
  refine ⟨fun ca cb => ?_, fun ca cb => ?_, fun ca cb => ?_, fun ca cb => ?_⟩
  · rw [((s_of a ha).2 ca).1, ((s_of b hb).2 cb).1, Int.neg_tdiv, Int.tdiv_neg, Int.neg_neg]
  · rw [((s_of a ha).2 ca).1, (s_of b hb).1 cb, Int.neg_tdiv, neg]
  · rw [(s_of a ha).1 ca, ((s_of b hb).2 cb).1, Int.tdiv_neg, neg]
  · rw [(s_of a ha).1 ca, (s_of b hb).1 cb]
theorem wrap_wrap64 (a : Int) : IntKind.u64.wrap (wrap64 a) = IntKind.u64.wrap a := by simp only [u64w]; unfold wrap64; omega
theorem wrap_mul (q b q' b' : Int) (hq : IntKind.u64.wrap q = IntKind.u64.wrap q') (hb : IntKind.u64.wrap b = IntKind.u64.wrap b') : IntKind.u64.wrap (q * b) = IntKind.u64.wrap (q' * b') := by
  simp only [u64w] at *
  rw [Int.mul_emod, hq, hb, ← Int.mul_emod]
theorem wrap_sub (a c a' c' : Int) (ha : IntKind.u64.wrap a = IntKind.u64.wrap a') (hc : IntKind.u64.wrap c = IntKind.u64.wrap c') : IntKind.u64.wrap (a - c) = IntKind.u64.wrap (a' - c') := by
  simp only [u64w] at *; omega
theorem wrap_wrap (a : Int) : IntKind.u64.wrap (IntKind.u64.wrap a) = IntKind.u64.wrap a := by simp only [u64w]; omega
theorem rem_quo (a b : Int) (s : Bool) (ha : U64 a) (hb : U64 b) (h0 : b ≠ 0) : IntKind.u64.wrap (a - IntKind.u64.wrap (quoOf a b s * b)) = remOf a b s := by
  unfold quoOf remOf
  rw [if_neg h0, if_neg h0]
  cases s
  · rw [if_neg (by decide), if_neg (by decide)]
    have h := Int.emod_add_mul_ediv a b
    have h1 := Int.emod_nonneg a h0
    have h2 : a % b < b := Int.emod_lt_of_pos a (by unfold U64 at hb; omega)
    have h3 := Int.ediv_nonneg ha.1 hb.1
    have h4 : a / b * b = a - a % b := by rw [Int.mul_comm]; omega
    unfold U64 at *
    rw [h4]; simp only [u64w]; omega
  · rw [if_pos rfl, if_pos rfl, Int.tmod_def]
    refine wrap_sub _ _ _ _ (wrap_wrap64 a).symm ?_
    rw [wrap_wrap, Int.mul_comm (wrap64 b)]
    exact wrap_mul _ _ _ _ (wrap_wrap _) (wrap_wrap64 b).symm
end Go.Proofs.YtcjfafhbohkhlaaGreat.M
