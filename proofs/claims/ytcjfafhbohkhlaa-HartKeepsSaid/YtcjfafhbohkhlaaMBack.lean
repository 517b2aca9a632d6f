/- DERIVED. An instruction that may be comes back from its word; a word is one operation's at most; no program. -/
import Derived.Test.YtcjfafhbohkhlaaMDec2
namespace Go.Proofs.Ytcjfafhbohkhlaa.M
open Go.RowKit
set_option linter.unusedVariables false
theorem sign_back (imm : Int) (n : Nat) (h1 : 1 ≤ n) (h2 : n ≤ 63) (hf : fitsOf imm n = true) : wrap64 (signOf (imm % 2 ^ n) n) = imm := by
  unfold fitsOf at hf
  simp only [decide_eq_true_eq] at hf
  obtain ⟨h3, h4⟩ := hf.2 (by omega)
  have e : ((n : Int) - 1).toNat = n - 1 := by omega
  rw [e] at h3 h4
  have hp : (2 : Int) ^ n = 2 * 2 ^ (n - 1) := by rw [show n = (n - 1) + 1 by omega, Int.pow_succ]; simp; omega
  have hq := ipow_le (n - 1) 62 (by omega)
  have hq0 := ipos (n - 1)
  unfold signOf
  rw [if_neg (by omega), Int.toNat_natCast, e]
  have hm : imm % 2 ^ n % 2 ^ n = imm % 2 ^ n := Int.emod_emod_of_dvd _ (Int.dvd_refl _)
  rw [hm]
  by_cases h0 : 0 ≤ imm
  · rw [Int.emod_eq_of_lt h0 (by omega), if_pos h4]
    exact I64.wrap_eq ⟨by omega, by omega⟩
  · have e2 : imm % 2 ^ n = imm + 2 ^ n := by
      rw [← Int.add_emod_right]
      exact Int.emod_eq_of_lt (by omega) (by omega)
    rw [e2, if_neg (by omega)]
    unfold wrap64
    omega
theorem f2_sum (imm : Int) (h : imm % 2 = 0) : imm / 1048576 % 2 * 1048576 + imm / 4096 % 256 * 4096 + imm / 2048 % 2 * 2048 + imm / 2 % 1024 * 2 = imm % 2 ^ 21 := by
  have e1 : imm / 2048 = imm / 2 / 1024 := by omega
  have e2 : imm / 4096 = imm / 2 / 1024 / 2 := by omega
  have e3 : imm / 1048576 = imm / 2 / 1024 / 2 / 256 := by omega
  rw [e1, e2, e3, show (2 : Int) ^ 21 = 2097152 from rfl]
  obtain ⟨k, rfl⟩ : ∃ k, imm = 2 * k := ⟨imm / 2, by omega⟩
  rw [show 2 * k / 2 = k by omega]
  clear e1 e2 e3 h
  omega
theorem f4_parts (X Y Z V : Int) (hX : 0 ≤ X ∧ X < 2) (hY : 0 ≤ Y ∧ Y < 64) (hZ : 0 ≤ Z ∧ Z < 16) (hV : 0 ≤ V ∧ V < 2) : (X * 64 + Y) / 64 * 4096 + (Z * 2 + V) % 2 * 2048 + (X * 64 + Y) % 64 * 32 + (Z * 2 + V) / 2 * 2 = X * 4096 + V * 2048 + Y * 32 + Z * 2 := by omega
theorem f4_sum (imm : Int) (h : imm % 2 = 0) : imm / 4096 % 2 * 4096 + imm / 2048 % 2 * 2048 + imm / 32 % 64 * 32 + imm / 2 % 16 * 2 = imm % 2 ^ 13 := by
  have e1 : imm / 32 = imm / 2 / 16 := by omega
  have e2 : imm / 2048 = imm / 2 / 16 / 64 := by omega
  have e3 : imm / 4096 = imm / 2 / 16 / 64 / 2 := by omega
  rw [e1, e2, e3, show (2 : Int) ^ 13 = 8192 from rfl]
  obtain ⟨k, rfl⟩ : ∃ k, imm = 2 * k := ⟨imm / 2, by omega⟩
  rw [show 2 * k / 2 = k by omega]
  clear e1 e2 e3 h
  omega
theorem f1_raw (c rd A : Int) (hc : 0 ≤ c ∧ c < 128) (hr : 0 ≤ rd ∧ rd ≤ 31) (hA : 0 ≤ A ∧ A < 1048576) (w : Int) (hw : w = c + rd * 128 + A * 4096) : w / 4096 % 1048576 = A ∧ w / 128 % 32 = rd ∧ 0 ≤ w ∧ w < 4294967296 := by omega
theorem f2_raw (c rd A B C D : Int) (hc : 0 ≤ c ∧ c < 128) (hr : 0 ≤ rd ∧ rd ≤ 31) (hA : 0 ≤ A ∧ A < 2) (hB : 0 ≤ B ∧ B < 1024) (hC : 0 ≤ C ∧ C < 2) (hD : 0 ≤ D ∧ D < 256) (w : Int) (hw : w = c + rd * 128 + (A * 2147483648 + B * 2097152 + C * 1048576 + D * 4096)) :
    w / 2147483648 % 2 = A ∧ w / 2097152 % 1024 = B ∧ w / 1048576 % 2 = C ∧ w / 4096 % 256 = D ∧ w / 128 % 32 = rd ∧ 0 ≤ w ∧ w < 4294967296 := by
  have e1 : w / 128 = rd + 32 * (D + 256 * (C + 2 * (B + 1024 * A))) := by omega
  have e2 : w / 4096 = D + 256 * (C + 2 * (B + 1024 * A)) := by omega
  have e3 : w / 1048576 = C + 2 * (B + 1024 * A) := by omega
  have e4 : w / 2097152 = B + 1024 * A := by omega
  have e5 : w / 2147483648 = A := by omega
  rw [e1, e2, e3, e4, e5]
  omega
theorem f3_raw (c x3 rd rs1 A : Int) (hc : 0 ≤ c ∧ c < 128) (hx : 0 ≤ x3 ∧ x3 < 8) (hr : 0 ≤ rd ∧ rd ≤ 31) (hs : 0 ≤ rs1 ∧ rs1 ≤ 31) (hA : 0 ≤ A ∧ A < 4096) (w : Int) (hw : w = c + x3 * 4096 + rd * 128 + rs1 * 32768 + A * 1048576) :
    w / 1048576 = A ∧ w / 128 % 32 = rd ∧ w / 32768 % 32 = rs1 ∧ w / 4096 % 8 = x3 ∧ 0 ≤ w ∧ w < 4294967296 := by
  have e1 : w / 128 = rd + 32 * (x3 + 8 * (rs1 + 32 * A)) := by omega
  have e2 : w / 4096 = x3 + 8 * (rs1 + 32 * A) := by omega
  have e3 : w / 32768 = rs1 + 32 * A := by omega
  have e4 : w / 1048576 = A := by omega
  rw [e1, e2, e3, e4]
  omega
/-- The forms with two registers read: what stands at 7, at 25 on. -/
theorem f4_raw (c x3 d rs1 rs2 A : Int) (hc : 0 ≤ c ∧ c < 128) (hx : 0 ≤ x3 ∧ x3 < 8) (hr : 0 ≤ d ∧ d ≤ 31) (hs : 0 ≤ rs1 ∧ rs1 ≤ 31) (ht : 0 ≤ rs2 ∧ rs2 ≤ 31) (hA : 0 ≤ A ∧ A < 128) (w : Int) (hw : w = c + x3 * 4096 + d * 128 + rs1 * 32768 + rs2 * 1048576 + A * 33554432) :
    w / 33554432 = A ∧ w / 128 % 32 = d ∧ w / 32768 % 32 = rs1 ∧ w / 1048576 % 32 = rs2 ∧ w / 4096 % 8 = x3 ∧ w / 128 % 2 = d % 2 ∧ w / 256 % 16 = d / 2 ∧ w / 33554432 % 64 = A % 64 ∧ w / 2147483648 % 2 = A / 64 ∧ w / 67108864 % 2 = A / 2 % 2 ∧ w / 33554432 % 2 = A % 2 ∧ w / 134217728 = A / 4 ∧ w / 67108864 = A / 2 ∧ 0 ≤ w ∧ w < 4294967296 := by
  have e1 : w / 128 = d + 32 * (x3 + 8 * (rs1 + 32 * (rs2 + 32 * A))) := by omega
  have e2 : w / 4096 = x3 + 8 * (rs1 + 32 * (rs2 + 32 * A)) := by omega
  have e3 : w / 32768 = rs1 + 32 * (rs2 + 32 * A) := by omega
  have e4 : w / 1048576 = rs2 + 32 * A := by omega
  have e5 : w / 33554432 = A := by omega
  have e6 : w / 256 = w / 128 / 2 := by omega
  have e7 : w / 2147483648 = w / 33554432 / 64 := by omega
  have e8 : w / 67108864 = w / 33554432 / 2 := by omega
  have e9 : w / 134217728 = w / 33554432 / 4 := by omega
  rw [e6, e7, e8, e9, e1, e2, e3, e4, e5]
  omega
/-- What is seen of an operation in a word. -/
structure Seen (op w : Int) : Prop where
  lo : 0 ≤ w
  hi : w < 4294967296
  f3 : formOf op ≠ 1 → formOf op ≠ 2 → w / 4096 % 8 = f3Of op
  a6 : formOf op = 6 → w / 67108864 = f7Of op / 2
  a7 : formOf op = 7 ∨ formOf op = 8 → w / 33554432 = f7Of op
  a10 : formOf op = 10 → w / 1048576 = f7Of op
  a11 : formOf op = 11 ∨ formOf op = 12 → w / 134217728 = f7Of op
structure Backs (op rd rs1 rs2 imm : Int) (aq rl : Bool) (w : Int) : Prop where
  rd : decRd op w = rd
  rs1 : decRs1 op w = rs1
  rs2 : decRs2 op w = rs2
  imm : decImm (formOf op) w = imm
  aq : decAq op w = aq
  rl : decRl op w = rl
theorem back (op rd rs1 rs2 imm : Int) (aq rl : Bool) (hg : goodOf op rd rs1 rs2 imm aq rl = true) : Seen op (encOf op rd rs1 rs2 imm aq rl) ∧ Backs op rd rs1 rs2 imm aq rl (encOf op rd rs1 rs2 imm aq rl) := by
  have G := goodI hg
  have hp : 0 < formOf op := by
    have h := hg
    simp only [goodOf, Bool.and_eq_true, decide_eq_true_eq] at h
    exact h.1
  obtain ⟨n1, n2, n3, n4, n5, n6, n7, n8⟩ := nums_range op
  have b1 := G.rd0
  have b2 := G.rd1
  have b3 := G.rs10
  have b4 := G.rs11
  have b5 := G.rs20
  have b6 := G.rs21
  have bA := G.aqh
  have d1 := G.rdh
  have d2 := G.rs1h
  have d3 := G.rs2h
  have hi := G.immh
  have hc := form_cases op
  clear G hg
  generalize hw : encOf op rd rs1 rs2 imm aq rl = w
  unfold encOf at hw
  suffices H : (0 ≤ w ∧ w < 4294967296 ∧ (formOf op ≠ 1 → formOf op ≠ 2 → w / 4096 % 8 = f3Of op) ∧ (formOf op = 6 → w / 67108864 = f7Of op / 2) ∧ (formOf op = 7 ∨ formOf op = 8 → w / 33554432 = f7Of op) ∧ (formOf op = 10 → w / 1048576 = f7Of op) ∧ (formOf op = 11 ∨ formOf op = 12 → w / 134217728 = f7Of op)) ∧
      (keep (hasRd (formOf op)) (w / 128 % 32) = rd ∧ keep (hasRs1 (formOf op)) (w / 32768 % 32) = rs1 ∧ keep (hasRs2 (formOf op)) (w / 1048576 % 32) = rs2 ∧ decImm (formOf op) w = imm ∧ (hasAq (formOf op) && w / 67108864 % 2 == 1) = aq ∧ (hasAq (formOf op) && w / 33554432 % 2 == 1) = rl) by
    obtain ⟨⟨h1, h2, h3, h4, h5, h6, h7⟩, h8, h9, h10, h11, h12, h13⟩ := H
    exact ⟨⟨h1, h2, h3, h4, h5, h6, h7⟩, ⟨h8, h9, h10, h11, h12, h13⟩⟩
  generalize codeOf op = c at *
  generalize f3Of op = x3 at *
  generalize f7Of op = x7 at *
  generalize formOf op = f at *
  have sb := fun (n : Nat) h1 h2 hf => sign_back imm n h1 h2 hf
  rcases hc with rfl | rfl | rfl | rfl | rfl | rfl | rfl | rfl | rfl | rfl | rfl | rfl | rfl
  · omega
  all_goals (try (have hz := bA; simp [hasAq] at hz; obtain ⟨hz1, hz2⟩ := hz; subst hz1 hz2))
  all_goals (try (have hz := d1; simp [hasRd] at hz; subst hz))
  all_goals (try (have hz := d2; simp [hasRs1] at hz; subst hz))
  all_goals (try (have hz := d3; simp [hasRs2] at hz; subst hz))
  all_goals simp [highOf, immWord] at hw
  all_goals simp [immOf] at hi
  all_goals simp [hasRd, hasRs1, hasRs2, hasAq, keep]
  · -- 1
    have hx : x3 = 0 := n6 (Or.inl rfl)
    subst hx
    obtain ⟨e1, e2, e3, e4⟩ := f1_raw c rd (imm / 4096 % 1048576) n2 ⟨b1, b2⟩ (by omega) w (by omega)
    refine ⟨⟨e3, e4⟩, e2, ?_⟩
    have s := sb 32 (by omega) (by omega) hi.2
    simp only [decImm, widthOf, rawImm, if_true, e1]
    rw [show imm / 4096 % 1048576 * 4096 = imm % 2 ^ 32 by omega]
    exact s
  · -- 2
    have hx : x3 = 0 := n6 (Or.inr rfl)
    subst hx
    obtain ⟨e1, e2, e3, e4, e5, e6, e7⟩ := f2_raw c rd (imm / 1048576 % 2) (imm / 2 % 1024) (imm / 2048 % 2) (imm / 4096 % 256) n2 ⟨b1, b2⟩ (by omega) (by omega) (by omega) (by omega) w (by omega)
    refine ⟨⟨e6, e7⟩, e5, ?_⟩
    have s := sb 21 (by omega) (by omega) hi.2
    simp [decImm, widthOf, rawImm, e1, e2, e3, e4]
    rw [f2_sum imm hi.1]
    exact s
  · -- 3
    obtain ⟨e1, e2, e3, e4, e5, e6⟩ := f3_raw c x3 rd rs1 (imm % 4096) n2 n3 ⟨b1, b2⟩ ⟨b3, b4⟩ (by omega) w (by omega)
    refine ⟨⟨e5, e6, e4⟩, e2, e3, ?_⟩
    have s := sb 12 (by omega) (by omega) hi
    simp [decImm, widthOf, rawImm, e1]
    exact s
  · -- 4
    obtain ⟨e1, e2, e3, e4, e5, e6, e7, e8, e9, e10, e11, e12, e13, e14, e15⟩ := f4_raw c x3 (imm / 2 % 16 * 2 + imm / 2048 % 2) rs1 rs2 (imm / 4096 % 2 * 64 + imm / 32 % 64) n2 n3 (by omega) ⟨b3, b4⟩ ⟨b5, b6⟩ (by omega) w (by omega)
    refine ⟨⟨e14, e15, e5⟩, e3, e4, ?_⟩
    have s := sb 13 (by omega) (by omega) hi.2
    have hr : rawImm 4 w = (imm / 4096 % 2 * 64 + imm / 32 % 64) / 64 * 4096 + (imm / 2 % 16 * 2 + imm / 2048 % 2) % 2 * 2048 + (imm / 4096 % 2 * 64 + imm / 32 % 64) % 64 * 32 + (imm / 2 % 16 * 2 + imm / 2048 % 2) / 2 * 2 := by
      show w / 2147483648 % 2 * 4096 + w / 128 % 2 * 2048 + w / 33554432 % 64 * 32 + w / 256 % 16 * 2 = _
      rw [e6, e7, e8, e9]
    unfold decImm
    rw [if_pos (by decide), hr]
    rw [f4_parts _ _ _ _ (by omega) (by omega) (by omega) (by omega), f4_sum imm hi.1]
    exact s
  · -- 5
    obtain ⟨e1, e2, e3, e4, e5, e6, e7, e8, e9, e10, e11, e12, e13, e14, e15⟩ := f4_raw c x3 (imm % 32) rs1 rs2 (imm / 32 % 128) n2 n3 (by omega) ⟨b3, b4⟩ ⟨b5, b6⟩ (by omega) w (by omega)
    refine ⟨⟨e14, e15, e5⟩, e3, e4, ?_⟩
    have s := sb 12 (by omega) (by omega) hi
    simp [decImm, widthOf, rawImm, e1, e2]
    rw [show imm / 32 % 128 * 32 + imm % 32 = imm % 2 ^ 12 by omega]
    exact s
  · -- 6
    obtain ⟨e1, e2, e3, e4, e5, e6⟩ := f3_raw c x3 rd rs1 (x7 * 32 + imm % 64) n2 n3 ⟨b1, b2⟩ ⟨b3, b4⟩ (by omega) w (by omega)
    refine ⟨⟨e5, e6, e4, by omega⟩, e2, e3, ?_⟩
    simp [decImm, widthOf, rawImm, e1]; omega
  · -- 7
    obtain ⟨e1, e2, e3, e4, e5, e6⟩ := f3_raw c x3 rd rs1 (x7 * 32 + imm % 32) n2 n3 ⟨b1, b2⟩ ⟨b3, b4⟩ (by omega) w (by omega)
    refine ⟨⟨e5, e6, e4, by omega⟩, e2, e3, ?_⟩
    simp [decImm, widthOf, rawImm, e1]; omega
  · -- 8
    obtain ⟨e1, e2, e3, e4, e5, e6, e7, e8, e9, e10, e11, e12, e13, e14, e15⟩ := f4_raw c x3 rd rs1 rs2 x7 n2 n3 ⟨b1, b2⟩ ⟨b3, b4⟩ ⟨b5, b6⟩ (by omega) w (by omega)
    refine ⟨⟨e14, e15, e5, e1⟩, e2, e3, e4, ?_⟩
    simp [decImm, widthOf, rawImm]; omega
  · -- 9
    obtain ⟨e1, e2, e3, e4, e5, e6⟩ := f3_raw c x3 0 0 (imm % 256) n2 n3 (by omega) (by omega) (by omega) w (by omega)
    refine ⟨⟨e5, e6, e4⟩, ?_⟩
    simp [decImm, widthOf, rawImm, e1]; omega
  · -- 10
    obtain ⟨e1, e2, e3, e4, e5, e6⟩ := f3_raw c x3 0 0 x7 n2 n3 (by omega) (by omega) (by omega) w (by omega)
    refine ⟨⟨e5, e6, e4, e1⟩, ?_⟩
    simp [decImm, widthOf, rawImm]; omega
  all_goals (
    have q1 : 0 ≤ (if aq = true then (1 : Int) else 0) ∧ (if aq = true then (1 : Int) else 0) < 2 := by split <;> omega
    have q2 : 0 ≤ (if rl = true then (1 : Int) else 0) ∧ (if rl = true then (1 : Int) else 0) < 2 := by split <;> omega
    have q3 : (if aq = true then (67108864 : Int) else 0) = (if aq = true then (1 : Int) else 0) * 67108864 := by split <;> rfl
    have q4 : (if rl = true then (33554432 : Int) else 0) = (if rl = true then (1 : Int) else 0) * 33554432 := by split <;> rfl
    have q5 : ((if aq = true then (1 : Int) else 0) == 1) = aq := by cases aq <;> rfl
    have q6 : ((if rl = true then (1 : Int) else 0) == 1) = rl := by cases rl <;> rfl
    rw [q3, q4] at hw
    have hx7 : x7 < 32 := n5 (by omega))
  · -- 11
    generalize (if aq = true then (1 : Int) else 0) = A at *
    generalize (if rl = true then (1 : Int) else 0) = B at *
    obtain ⟨e1, e2, e3, e4, e5, e6, e7, e8, e9, e10, e11, e12, e13, e14, e15⟩ := f4_raw c x3 rd rs1 0 (x7 * 4 + A * 2 + B) n2 n3 ⟨b1, b2⟩ ⟨b3, b4⟩ (by omega) (by omega) w (by omega)
    refine ⟨⟨e14, e15, e5, by omega⟩, e2, e3, ?_, ?_, ?_⟩
    · simp [decImm, widthOf, rawImm]; omega
    · rw [e10, ← q5]; congr 1; omega
    · rw [e11, ← q6]; congr 1; omega
  · -- 12
    generalize (if aq = true then (1 : Int) else 0) = A at *
    generalize (if rl = true then (1 : Int) else 0) = B at *
    obtain ⟨e1, e2, e3, e4, e5, e6, e7, e8, e9, e10, e11, e12, e13, e14, e15⟩ := f4_raw c x3 rd rs1 rs2 (x7 * 4 + A * 2 + B) n2 n3 ⟨b1, b2⟩ ⟨b3, b4⟩ ⟨b5, b6⟩ (by omega) w (by omega)
    refine ⟨⟨e14, e15, e5, by omega⟩, e2, e3, e4, ?_, ?_, ?_⟩
    · simp [decImm, widthOf, rawImm]; omega
    · rw [e10, ← q5]; congr 1; omega
    · rw [e11, ← q6]; congr 1; omega
def rows4 : List Int → List (Int × Int × Int × Int)
  | a :: b :: c :: d :: r => (a, b, c, d) :: rows4 r
  | _ => []
theorem rows4_get : ∀ (n : Nat) (l : List Int) (i : Nat), l.length = 4 * n → i < n → (rows4 l).getD i (0, 0, 0, 0) = (l.getD (4 * i) 0, l.getD (4 * i + 1) 0, l.getD (4 * i + 2) 0, l.getD (4 * i + 3) 0)
  | 0, _, i, _, h => by omega
  | n + 1, a :: b :: c :: d :: r, i, hl, hi => by
    cases i with
    | zero => rfl
    | succ i =>
      have h := rows4_get n r i (by simp only [List.length_cons] at hl; omega) (by omega)
      rw [show 4 * (i + 1) = 4 * i + 1 + 1 + 1 + 1 by omega]
      simp only [rows4, List.getD_cons_succ] at h ⊢
      exact h
  | n + 1, [], i, hl, _ => by simp at hl <;> omega
  | n + 1, [_], i, hl, _ => by simp at hl <;> omega
  | n + 1, [_, _], i, hl, _ => by simp at hl <;> omega
  | n + 1, [_, _, _], i, hl, _ => by simp at hl <;> omega
def Apart (p q : Int × Int × Int × Int) : Prop := p.2.1 = q.2.1 →
    ((p.2.2.1 ≠ q.2.2.1 ∧ p.1 ≠ 1 ∧ p.1 ≠ 2 ∧ q.1 ≠ 1 ∧ q.1 ≠ 2) ∨ (p.2.2.2 / 2 ≠ q.2.2.2 / 2 ∧ p.1 = 6 ∧ q.1 = 6) ∨
    (p.2.2.2 ≠ q.2.2.2 ∧ ((p.1 = 7 ∨ p.1 = 8) ∧ (q.1 = 7 ∨ q.1 = 8) ∨ p.1 = 10 ∧ q.1 = 10 ∨ (p.1 = 11 ∨ p.1 = 12) ∧ (q.1 = 11 ∨ q.1 = 12))))
instance (p q) : Decidable (Apart p q) := by unfold Apart; infer_instance
def apartFrom (p : Int × Int × Int × Int) : List (Int × Int × Int × Int) → Bool
  | [] => true
  | q :: r => decide (Apart p q) && apartFrom p r
def apartAll : List (Int × Int × Int × Int) → Bool
  | [] => true
  | p :: r => apartFrom p r && apartAll r
theorem apartFrom_spec (p : Int × Int × Int × Int) : ∀ (l : List (Int × Int × Int × Int)) (j : Nat), apartFrom p l = true → j < l.length → Apart p (l.getD j (0, 0, 0, 0))
  | q :: r, 0, h, _ => by simp only [apartFrom, Bool.and_eq_true, decide_eq_true_eq] at h; exact h.1
  | q :: r, j + 1, h, hj => by
    simp only [apartFrom, Bool.and_eq_true] at h
    simp only [List.getD_cons_succ]
    exact apartFrom_spec p r j h.2 (by simpa using hj)
theorem apartAll_spec : ∀ (l : List (Int × Int × Int × Int)) (i j : Nat), apartAll l = true → i < j → j < l.length → Apart (l.getD i (0, 0, 0, 0)) (l.getD j (0, 0, 0, 0))
  | p :: r, 0, j + 1, h, _, hj => by
    simp only [apartAll, Bool.and_eq_true] at h
    exact apartFrom_spec p r j h.1 (by simpa using hj)
  | p :: r, i + 1, j + 1, h, hij, hj => by
    simp only [apartAll, Bool.and_eq_true] at h
    simp only [List.getD_cons_succ]
    exact apartAll_spec r i j h.2 (by omega) (by simpa using hj)
theorem nums_len : instNums.length = 4 * 87 := by decide +kernel
theorem rows_apart : apartAll (rows4 instNums) = true := by decide +kernel
theorem rows_len : (rows4 instNums).length = 87 := by decide +kernel
theorem Apart.symm {p q : Int × Int × Int × Int} (h : Apart p q) : Apart q p := by
  intro e
  rcases h e.symm with ⟨h1, h2, h3, h4, h5⟩ | ⟨h1, h2, h3⟩ | ⟨h1, ⟨h2, h3⟩ | ⟨h2, h3⟩ | ⟨h2, h3⟩⟩
  · exact .inl ⟨Ne.symm h1, h4, h5, h2, h3⟩
  · exact .inr (.inl ⟨Ne.symm h1, h3, h2⟩)
  · exact .inr (.inr ⟨Ne.symm h1, .inl ⟨h3, h2⟩⟩)
  · exact .inr (.inr ⟨Ne.symm h1, .inr (.inl ⟨h3, h2⟩)⟩)
  · exact .inr (.inr ⟨Ne.symm h1, .inr (.inr ⟨h3, h2⟩)⟩)
theorem sep (a b : Int) (ha : 1 ≤ a ∧ a ≤ 87) (hb : 1 ≤ b ∧ b ≤ 87) (h : codeOf a = codeOf b) : a = b ∨
    (f3Of a ≠ f3Of b ∧ formOf a ≠ 1 ∧ formOf a ≠ 2 ∧ formOf b ≠ 1 ∧ formOf b ≠ 2) ∨ (f7Of a / 2 ≠ f7Of b / 2 ∧ formOf a = 6 ∧ formOf b = 6) ∨
    (f7Of a ≠ f7Of b ∧ ((formOf a = 7 ∨ formOf a = 8) ∧ (formOf b = 7 ∨ formOf b = 8) ∨ formOf a = 10 ∧ formOf b = 10 ∨ (formOf a = 11 ∨ formOf a = 12) ∧ (formOf b = 11 ∨ formOf b = 12))) := by
  have ga := rows4_get 87 instNums (a - 1).toNat nums_len (by omega)
  have gb := rows4_get 87 instNums (b - 1).toNat nums_len (by omega)
  have H : (a - 1).toNat ≠ (b - 1).toNat → Apart ((rows4 instNums).getD (a - 1).toNat (0, 0, 0, 0)) ((rows4 instNums).getD (b - 1).toNat (0, 0, 0, 0)) := by
    intro hne
    rcases Nat.lt_or_gt_of_ne hne with hl | hl
    · exact apartAll_spec _ _ _ rows_apart hl (by rw [rows_len]; omega)
    · exact (apartAll_spec _ _ _ rows_apart hl (by rw [rows_len]; omega)).symm
  by_cases e : (a - 1).toNat = (b - 1).toNat
  · exact .inl (by omega)
  · have H := H e
    rw [ga, gb] at H
    simp only [codeOf, if_pos ha, if_pos hb] at h
    simp only [formOf, f3Of, f7Of, if_pos ha, if_pos hb]
    exact .inr (H h)
theorem hit_one (a b w : Int) (ha : hit a w = true) (hb : hit b w = true) : a = b := by
  have Ga := goodI (hit_good ha)
  have Gb := goodI (hit_good hb)
  have ca := enc_code a (decRd a w) (decRs1 a w) (decRs2 a w) (decImm (formOf a) w) (decAq a w) (decRl a w)
  have cb := enc_code b (decRd b w) (decRs1 b w) (decRs2 b w) (decImm (formOf b) w) (decAq b w) (decRl b w)
  have Sa := (back _ _ _ _ _ _ _ (hit_good ha)).1
  have Sb := (back _ _ _ _ _ _ _ (hit_good hb)).1
  rw [hit_enc ha] at ca Sa
  rw [hit_enc hb] at cb Sb
  rcases sep a b ⟨Ga.op1, Ga.op2⟩ ⟨Gb.op1, Gb.op2⟩ (by omega) with h | ⟨h, h1, h2, h3, h4⟩ | ⟨h, h1, h2⟩ | ⟨h, ⟨h1, h2⟩ | ⟨h1, h2⟩ | ⟨h1, h2⟩⟩
  · exact h
  · have := Sa.f3 h1 h2; have := Sb.f3 h3 h4; omega
  · have := Sa.a6 h1; have := Sb.a6 h2; omega
  · have := Sa.a7 h1; have := Sb.a7 h2; omega
  · have := Sa.a10 h1; have := Sb.a10 h2; omega
  · have := Sa.a11 h1; have := Sb.a11 h2; omega
theorem enc_hit (op rd rs1 rs2 imm : Int) (aq rl : Bool) (hg : goodOf op rd rs1 rs2 imm aq rl = true) : hit op (encOf op rd rs1 rs2 imm aq rl) = true ∧ decOp (encOf op rd rs1 rs2 imm aq rl) = op := by
  have B := (back op rd rs1 rs2 imm aq rl hg).2
  have h : hit op (encOf op rd rs1 rs2 imm aq rl) = true := by
    unfold hit
    rw [B.rd, B.rs1, B.rs2, B.imm, B.aq, B.rl, hg]; simp
  refine ⟨h, ?_⟩
  by_cases h0 : decOp (encOf op rd rs1 rs2 imm aq rl) = 0
  · have := decOp_none _ h0 op (goodI hg).op1 (goodI hg).op2
    rw [h] at this; simp at this
  · exact hit_one _ _ _ (decOp_hit _ h0) h
/-- The word of a good instruction tells it. -/
theorem dec_enc (op rd rs1 rs2 imm : Int) (aq rl : Bool) (hg : goodOf op rd rs1 rs2 imm aq rl = true) : decTup (encOf op rd rs1 rs2 imm aq rl) (decOp (encOf op rd rs1 rs2 imm aq rl)) = (op, rd, rs1, rs2, imm, aq, rl, 0) := by
  have B := (back op rd rs1 rs2 imm aq rl hg).2
  have G := goodI hg
  rw [(enc_hit op rd rs1 rs2 imm aq rl hg).2, decTup, if_neg (by have := G.op1; omega), B.rd, B.rs1, B.rs2, B.imm, B.aq, B.rl]
end Go.Proofs.Ytcjfafhbohkhlaa.M
