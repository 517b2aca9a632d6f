/- DERIVED. Instructions out of words: fields, the search for an operation, that a word tells its operation; no program. -/
import Derived.Test.YtcjfafhbohkhlaaGreatMInst
namespace Go.Proofs.YtcjfafhbohkhlaaGreat.M
open Go.RowKit
set_option linter.unusedVariables false
/-- The bits of a word that a form's Imm has. -/
def rawImm (f w : Int) : Int :=
  if f = 1 then w / 4096 % 1048576 * 4096
  else if f = 2 then w / 2147483648 % 2 * 1048576 + w / 4096 % 256 * 4096 + w / 1048576 % 2 * 2048 + w / 2097152 % 1024 * 2
  else if f = 3 then w / 1048576 % 4096
  else if f = 4 then w / 2147483648 % 2 * 4096 + w / 128 % 2 * 2048 + w / 33554432 % 64 * 32 + w / 256 % 16 * 2
  else if f = 5 then w / 33554432 % 128 * 32 + w / 128 % 32
  else if f = 6 then w / 1048576 % 64 else if f = 7 then w / 1048576 % 32 else if f = 9 then w / 1048576 % 256 else 0
def widthOf (f : Int) : Int := if f = 1 then 32 else if f = 2 then 21 else if f = 3 ∨ f = 5 then 12 else if f = 4 then 13 else 0
def decImm (f w : Int) : Int := if 0 < widthOf f then wrap64 (signOf (rawImm f w) (widthOf f)) else rawImm f w
def decRd (op w : Int) : Int := keep (hasRd (formOf op)) (w / 128 % 32)
def decRs1 (op w : Int) : Int := keep (hasRs1 (formOf op)) (w / 32768 % 32)
def decRs2 (op w : Int) : Int := keep (hasRs2 (formOf op)) (w / 1048576 % 32)
def decAq (op w : Int) : Bool := hasAq (formOf op) && w / 67108864 % 2 == 1
def decRl (op w : Int) : Bool := hasAq (formOf op) && w / 33554432 % 2 == 1
/-- Is a word this operation's? -/
def hit (op w : Int) : Bool :=
  goodOf op (decRd op w) (decRs1 op w) (decRs2 op w) (decImm (formOf op) w) (decAq op w) (decRl op w) && encOf op (decRd op w) (decRs1 op w) (decRs2 op w) (decImm (formOf op) w) (decAq op w) (decRl op w) == w
def decFrom (w : Int) : Nat → Int → Int
  | 0, _ => 0
  | k + 1, op => if hit op w then op else decFrom w k (op + 1)
/-- The first operation whose a word is; 0: none's. -/
def decOp (w : Int) : Int := decFrom w 87 1
theorem decFrom_spec (w : Int) : ∀ (k : Nat) (op : Int), (decFrom w k op = 0 ∧ ∀ x, op ≤ x → x < op + k → hit x w = false) ∨ (op ≤ decFrom w k op ∧ decFrom w k op < op + k ∧ hit (decFrom w k op) w = true ∧ ∀ x, op ≤ x → x < decFrom w k op → hit x w = false)
  | 0, op => .inl ⟨rfl, fun x h1 h2 => by omega⟩
  | k + 1, op => by
    unfold decFrom
    by_cases h : hit op w = true
    · rw [if_pos h]; exact .inr ⟨by omega, by omega, h, fun x h1 h2 => by omega⟩
    · rw [if_neg h]
      have h0 : hit op w = false := by simpa using h
      rcases decFrom_spec w k (op + 1) with ⟨h1, h2⟩ | ⟨h1, h2, h3, h4⟩
      · refine .inl ⟨h1, fun x hx1 hx2 => ?_⟩
        by_cases e : x = op
        · rw [e]; exact h0
        · exact h2 x (by omega) (by omega)
      · refine .inr ⟨by omega, by omega, h3, fun x hx1 hx2 => ?_⟩
        by_cases e : x = op
        · rw [e]; exact h0
        · exact h4 x (by omega) hx2
theorem decOp_range (w : Int) : 0 ≤ decOp w ∧ decOp w ≤ 87 := by
  unfold decOp; rcases decFrom_spec w 87 1 with ⟨h, _⟩ | ⟨h1, h2, _⟩ <;> omega
theorem decOp_hit (w : Int) (h : decOp w ≠ 0) : hit (decOp w) w = true := by
  unfold decOp at *; rcases decFrom_spec w 87 1 with ⟨h1, _⟩ | ⟨_, _, h1, _⟩
  · exact absurd h1 h
  · exact h1
theorem decOp_none (w : Int) (h : decOp w = 0) (x : Int) (h1 : 1 ≤ x) (h2 : x ≤ 87) : hit x w = false := by
  unfold decOp at *; rcases decFrom_spec w 87 1 with ⟨_, h3⟩ | ⟨h3, _⟩
  · exact h3 x h1 (by omega)
  · omega
/-- What a good instruction's parts are. -/
structure GoodI (op rd rs1 rs2 imm : Int) (aq rl : Bool) : Prop where
  op1 : 1 ≤ op
  op2 : op ≤ 87
  rd0 : 0 ≤ rd
  rd1 : rd ≤ 31
  rs10 : 0 ≤ rs1
  rs11 : rs1 ≤ 31
  rs20 : 0 ≤ rs2
  rs21 : rs2 ≤ 31
  rdh : hasRd (formOf op) = false → rd = 0
  rs1h : hasRs1 (formOf op) = false → rs1 = 0
  rs2h : hasRs2 (formOf op) = false → rs2 = 0
  aqh : hasAq (formOf op) = false → aq = false ∧ rl = false
  immh : immOf (formOf op) imm = true
theorem regOf_spec (r : Int) (b : Bool) (h : regOf r b = true) : 0 ≤ r ∧ r ≤ 31 ∧ (b = false → r = 0) := by
  unfold regOf at h
  cases b
  · simp at h; omega
  · simp at h; exact ⟨h.1, h.2, fun e => by simp at e⟩
theorem goodI {op rd rs1 rs2 imm : Int} {aq rl : Bool} (h : goodOf op rd rs1 rs2 imm aq rl = true) : GoodI op rd rs1 rs2 imm aq rl := by
  unfold goodOf at h
  simp only [Bool.and_eq_true, decide_eq_true_eq, Bool.or_eq_true] at h
  obtain ⟨h0, h1, h2, h3, h4, h5⟩ := h
  have hop : 1 ≤ op ∧ op ≤ 87 := by
    by_cases e : 1 ≤ op ∧ op ≤ 87
    · exact e
    · unfold formOf at h0; rw [if_neg e] at h0; omega
  have r1 := regOf_spec _ _ h1
  have r2 := regOf_spec _ _ h2
  have r3 := regOf_spec _ _ h3
  refine ⟨hop.1, hop.2, r1.1, r1.2.1, r2.1, r2.2.1, r3.1, r3.2.1, r1.2.2, r2.2.2, r3.2.2, fun e => ?_, h4⟩
  rcases h5 with h5 | h5
  · rw [h5] at e; simp at e
  · simpa using h5
/-- Where a form's Imm stands: from, how many, to. -/
def placesOf (f : Int) : List Int := if f = 1 then [12, 20, 12] else if f = 2 then [20, 1, 31, 1, 10, 21, 11, 1, 20, 12, 8, 12] else if f = 3 then [0, 12, 20] else if f = 4 then [12, 1, 31, 5, 6, 25, 1, 4, 8, 11, 1, 7] else if f = 5 then [5, 7, 25, 0, 5, 7] else if f = 6 then [0, 6, 20] else if f = 7 then [0, 5, 20] else if f = 9 then [0, 8, 20] else []
/-- What the loop over the places makes of an Imm. -/
def orImm (w : Int) : List Int → Int → Int
  | lo :: n :: a :: r, acc => orImm w r (Go.bits .or .i64 acc (wrap64 (wrap64 (fieldOf w a n) * 2 ^ min lo.toNat 64)))
  | _, acc => acc
theorem places_small (f : Int) : (∀ x ∈ placesOf f, 0 ≤ x ∧ x ≤ 31) ∧ (placesOf f).length ≤ 12 := by
  unfold placesOf; repeat' split
  all_goals decide
theorem drop3 (l : List Int) (j : Nat) (h : 3 * j + 3 ≤ l.length) : l.drop (3 * j) = l.getD (3 * j) 0 :: l.getD (3 * j + 1) 0 :: l.getD (3 * j + 2) 0 :: l.drop (3 * (j + 1)) := by
  rw [List.drop_eq_getElem_cons (by omega), List.drop_eq_getElem_cons (by omega), List.drop_eq_getElem_cons (by omega)]
  simp only [List.getD_eq_getElem?_getD, List.getElem?_eq_getElem (show 3 * j < l.length by omega), List.getElem?_eq_getElem (show 3 * j + 1 < l.length by omega), List.getElem?_eq_getElem (show 3 * j + 2 < l.length by omega), Option.getD_some]
  rfl
theorem getD_mem_all {p : Int → Prop} {l : List Int} (h : ∀ x ∈ l, p x) (i : Nat) (hi : i < l.length) : p (l.getD i 0) := by
  rw [List.getD_eq_getElem?_getD, List.getElem?_eq_getElem hi]; exact h _ (List.getElem_mem _)
theorem field_lit (w : Int) (a n : Nat) (ha : a ≤ 63) (h1 : 1 ≤ n) (h2 : n ≤ 64) : fieldOf w a n = w / 2 ^ a % 2 ^ n := by
  unfold fieldOf; rw [if_neg (by omega)]; rw [show (min (n : Int) 64).toNat = n by omega, Int.toNat_natCast]
theorem or_step (w acc : Int) (lo n a : Nat) (h0 : 0 ≤ acc ∧ acc < 4294967296) (ha : a ≤ 31) (h1 : 1 ≤ n) (hl : lo + n ≤ 32) (hz : acc / 2 ^ lo % 2 ^ n = 0) :
    Go.bits .or .i64 acc (wrap64 (wrap64 (fieldOf w a n) * 2 ^ min (lo : Int).toNat 64)) = acc + w / 2 ^ a % 2 ^ n * 2 ^ lo := by
  have p1 := ipos n
  have p2 := ipos lo
  have p3 := ipow_le n 32 (by omega)
  have p4 := ipow_le (n + lo) 32 (by omega)
  have b0 : 0 ≤ w / 2 ^ a % 2 ^ n := Int.emod_nonneg _ (Int.ne_of_gt p1)
  have b1 : w / 2 ^ a % 2 ^ n < 2 ^ n := Int.emod_lt_of_pos _ p1
  rw [field_lit w a n (by omega) h1 (by omega), show min (lo : Int).toNat 64 = lo by omega]
  generalize w / 2 ^ a % 2 ^ n = x at *
  rw [I64.wrap_eq (show I64 x by unfold I64; omega)]
  have b2 : 0 ≤ x * 2 ^ lo := Int.mul_nonneg b0 (by omega)
  have b3 : x * 2 ^ lo < 4294967296 := by
    have h := Int.mul_lt_mul_of_pos_right b1 p2
    rw [← Int.pow_add] at h
    exact Int.lt_of_lt_of_le h (by simpa using p4)
  rw [I64.wrap_eq (show I64 (x * 2 ^ lo) by unfold I64; omega)]
  exact or_add_i64 acc x lo n ⟨h0.1, by omega⟩ ⟨b0, b1⟩ (by omega) hz
theorem places_two (x y z : Int) (hx : 0 ≤ x ∧ x < 2) (hy : 0 ≤ y ∧ y < 1024) (hz : 0 ≤ z ∧ z < 2) : (x * 1048576 + y * 2 + z * 2048) / 2 ^ 12 % 2 ^ 8 = 0 := by
  have h : (x * 1048576 + y * 2 + z * 2048) / 4096 = 256 * x := by omega
  simp only [Int.reducePow]; rw [h]; omega
theorem places_four (x y z : Int) (hx : 0 ≤ x ∧ x < 2) (hy : 0 ≤ y ∧ y < 64) (hz : 0 ≤ z ∧ z < 16) : (x * 4096 + y * 32 + z * 2) / 2 ^ 11 % 2 ^ 1 = 0 := by
  have h : (x * 4096 + y * 32 + z * 2) / 2048 = 2 * x := by omega
  simp only [Int.reducePow]; rw [h]; omega
theorem orImm_raw (f w : Int) : orImm w (placesOf f) 0 = rawImm f w := by
  have s := fun (acc : Int) (lo n a : Nat) h0 ha h1 hl hz => or_step w acc lo n a h0 ha h1 hl hz
  unfold placesOf rawImm
  split
  · have s1 := s 0 12 20 12 (by omega) (by omega) (by omega) (by omega) (by decide)
    simp only [Int.reducePow, Int.zero_add] at s1
    simp only [orImm]; exact s1
  split
  · have s1 := s 0 20 1 31 (by omega) (by omega) (by omega) (by omega) (by decide)
    have s2 := s (w / 2147483648 % 2 * 1048576) 1 10 21 (by omega) (by omega) (by omega) (by omega) (by simp only [Int.reducePow]; omega)
    have s3 := s (w / 2147483648 % 2 * 1048576 + w / 2097152 % 1024 * 2) 11 1 20 (by omega) (by omega) (by omega) (by omega) (by simp only [Int.reducePow]; omega)
    have s4 := s (w / 2147483648 % 2 * 1048576 + w / 2097152 % 1024 * 2 + w / 1048576 % 2 * 2048) 12 8 12 (by omega) (by omega) (by omega) (by omega) (places_two _ _ _ (by omega) (by omega) (by omega))
    simp only [Int.reducePow, Int.zero_add] at s1 s2 s3 s4
    simp only [orImm]; erw [s1, s2, s3, s4]; omega
  split
  · have s1 := s 0 0 12 20 (by omega) (by omega) (by omega) (by omega) (by decide)
    simp only [Int.reducePow, Int.zero_add, Int.mul_one] at s1
    simp only [orImm]; exact s1
  split
  · have s1 := s 0 12 1 31 (by omega) (by omega) (by omega) (by omega) (by decide)
    have s2 := s (w / 2147483648 % 2 * 4096) 5 6 25 (by omega) (by omega) (by omega) (by omega) (by simp only [Int.reducePow]; omega)
    have s3 := s (w / 2147483648 % 2 * 4096 + w / 33554432 % 64 * 32) 1 4 8 (by omega) (by omega) (by omega) (by omega) (by simp only [Int.reducePow]; omega)
    have s4 := s (w / 2147483648 % 2 * 4096 + w / 33554432 % 64 * 32 + w / 256 % 16 * 2) 11 1 7 (by omega) (by omega) (by omega) (by omega) (places_four _ _ _ (by omega) (by omega) (by omega))
    simp only [Int.reducePow, Int.zero_add] at s1 s2 s3 s4
    simp only [orImm]; erw [s1, s2, s3, s4]; omega
  split
  · have s1 := s 0 5 7 25 (by omega) (by omega) (by omega) (by omega) (by decide)
    have s2 := s (w / 33554432 % 128 * 32) 0 5 7 (by omega) (by omega) (by omega) (by omega) (by simp only [Int.reducePow]; omega)
    simp only [Int.reducePow, Int.zero_add, Int.mul_one] at s1 s2
    simp only [orImm]; erw [s1, s2]
  split
  · have s1 := s 0 0 6 20 (by omega) (by omega) (by omega) (by omega) (by decide)
    simp only [Int.reducePow, Int.zero_add, Int.mul_one] at s1
    simp only [orImm]; exact s1
  split
  · have s1 := s 0 0 5 20 (by omega) (by omega) (by omega) (by omega) (by decide)
    simp only [Int.reducePow, Int.zero_add, Int.mul_one] at s1
    simp only [orImm]; exact s1
  split
  · have s1 := s 0 0 8 20 (by omega) (by omega) (by omega) (by omega) (by decide)
    simp only [Int.reducePow, Int.zero_add, Int.mul_one] at s1
    simp only [orImm]; exact s1
  · rfl
theorem rawImm_range (f w : Int) : 0 ≤ rawImm f w ∧ rawImm f w < 4294967296 := by
  unfold rawImm
  repeat' split
  all_goals omega
theorem fields_has (f : Int) : (fieldsOf f % 2 == 1) = hasRd f ∧ (fieldsOf f / 2 % 2 == 1) = hasRs1 f ∧ (fieldsOf f / 4 % 2 == 1) = hasRs2 f ∧ (fieldsOf f / 16 % 2 == 1) = hasAq f ∧ 0 ≤ fieldsOf f ∧ fieldsOf f < 32 := by
  unfold fieldsOf hasRd hasRs1 hasRs2 hasAq
  repeat' split
  all_goals (refine ⟨?_, ?_, ?_, ?_, by decide, by decide⟩ <;> simp <;> omega)
end Go.Proofs.YtcjfafhbohkhlaaGreat.M
