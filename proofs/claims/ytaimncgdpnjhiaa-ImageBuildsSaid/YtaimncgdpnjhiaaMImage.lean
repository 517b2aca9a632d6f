/- DERIVED. Plain words of layouts: which configs may be, and where all stands; no condition, no program. -/
import Derived.Test.YtaimncgdpnjhiaaMBits
namespace Go.Proofs.Ytaimncgdpnjhiaa.M
open Go.RowKit
set_option linter.unusedVariables false
def goodOf (h a b w g : Int) : Bool := decide ((1 ≤ h ∧ h ≤ 8) ∧ (1 ≤ a ∧ a ≤ 64) ∧ (1 ≤ b ∧ b ≤ 256) ∧ (8 ≤ w ∧ w ≤ 1024) ∧ (1 ≤ g ∧ g ≤ 1000))
def glOf (code : Int) : Int := (4 * code + 63) / 64 * 64
def szOf (slots w : Int) : Int := 8 * (12 + slots + 2 * w)
def bkOf (a w code slots : Int) : Int := glOf code + 64 + a * szOf slots w
def endOf (a b w code slots : Int) : Int := bkOf a w code slots + b * 256
def layOf (h a b w g code slots : Int) : Int × Int × Int × Int × Int × Int × Int × Int × Int :=
  if goodOf h a b w g = true ∧ 0 ≤ code ∧ code ≤ 65536 ∧ 1 ≤ slots ∧ slots ≤ 256 then
    if endOf a b w code slots > 16777216 then (0, 0, 0, 0, 0, 0, 0, 0, 200)
    else (0, glOf code, glOf code + 64, szOf slots w, bkOf a w code slots, 256, endOf a b w code slots, slots, 0)
  else (0, 0, 0, 0, 0, 0, 0, 0, 2)
theorem goodOf_yes {h a b w g : Int} (hg : goodOf h a b w g = true) : (1 ≤ h ∧ h ≤ 8) ∧ (1 ≤ a ∧ a ≤ 64) ∧ (1 ≤ b ∧ b ≤ 256) ∧ (8 ≤ w ∧ w ≤ 1024) ∧ (1 ≤ g ∧ g ≤ 1000) := of_decide_eq_true hg
theorem lay_bad {h a b w g c s r1 r2 r3 r4 r5 r6 r7 r8 r9 : Int} (hn : ¬ (goodOf h a b w g = true ∧ 0 ≤ c ∧ c ≤ 65536 ∧ 1 ≤ s ∧ s ≤ 256)) (e : layOf h a b w g c s = (r1, r2, r3, r4, r5, r6, r7, r8, r9)) :
    0 = r1 ∧ 0 = r2 ∧ 0 = r3 ∧ 0 = r4 ∧ 0 = r5 ∧ 0 = r6 ∧ 0 = r7 ∧ 0 = r8 ∧ 2 = r9 := by
  unfold layOf at e
  rw [if_neg hn] at e
  simpa only [Prod.mk.injEq] using e
theorem lay_big {h a b w g c s r1 r2 r3 r4 r5 r6 r7 r8 r9 : Int} (hg : goodOf h a b w g = true) (v1 : 0 ≤ c) (v2 : c ≤ 65536) (v3 : 1 ≤ s) (v4 : s ≤ 256) (hb : 16777216 < endOf a b w c s) (e : layOf h a b w g c s = (r1, r2, r3, r4, r5, r6, r7, r8, r9)) :
    0 = r1 ∧ 0 = r2 ∧ 0 = r3 ∧ 0 = r4 ∧ 0 = r5 ∧ 0 = r6 ∧ 0 = r7 ∧ 0 = r8 ∧ 200 = r9 := by
  unfold layOf at e
  rw [if_pos ⟨hg, v1, v2, v3, v4⟩, if_pos hb] at e
  simpa only [Prod.mk.injEq] using e
theorem lay_fit {h a b w g c s r1 r2 r3 r4 r5 r6 r7 r8 r9 : Int} (hg : goodOf h a b w g = true) (v1 : 0 ≤ c) (v2 : c ≤ 65536) (v3 : 1 ≤ s) (v4 : s ≤ 256) (hb : endOf a b w c s ≤ 16777216) (e : layOf h a b w g c s = (r1, r2, r3, r4, r5, r6, r7, r8, r9)) :
    0 = r1 ∧ (4 * c + 64 - 1) / 64 * 64 = r2 ∧ (4 * c + 64 - 1) / 64 * 64 + 64 = r3 ∧ 8 * (12 + s + 2 * w) = r4 ∧ bkOf a w c s = r5 ∧ 256 = r6 ∧ endOf a b w c s = r7 ∧ s = r8 ∧ 0 = r9 := by
  unfold layOf at e
  rw [if_pos ⟨hg, v1, v2, v3, v4⟩, if_neg (by omega)] at e
  simp only [Prod.mk.injEq] at e
  obtain ⟨e1, e2, e3, e4, e5, e6, e7, e8, e9⟩ := e
  unfold glOf at e2 e3
  unfold szOf at e4
  exact ⟨e1, by omega, by omega, e4, e5, e6, e7, e8, e9⟩
theorem sz_le (a s w : Int) (g1 : 1 ≤ a) (g2 : a ≤ 64) (g5 : 8 ≤ w) (g6 : w ≤ 1024) (v3 : 1 ≤ s) (v4 : s ≤ 256) : 0 ≤ a * (8 * (12 + s + 2 * w)) ∧ a * (8 * (12 + s + 2 * w)) ≤ 1185792 := by
  refine ⟨Int.mul_nonneg (by omega) (by omega), ?_⟩
  have := Int.mul_le_mul g2 (show 8 * (12 + s + 2 * w) ≤ 18528 by omega) (by omega) (by decide : (0 : Int) ≤ 64)
  omega
theorem lay_w1 (a w c s : Int) (g1 : 1 ≤ a) (g2 : a ≤ 64) (g5 : 8 ≤ w) (g6 : w ≤ 1024) (v1 : 0 ≤ c) (v2 : c ≤ 65536) (v3 : 1 ≤ s) (v4 : s ≤ 256) :
    IntKind.u64.wrap ((4 * c + 64 - 1) / 64 * 64 + 64 + IntKind.u64.wrap (a * (8 * (12 + s + 2 * w)))) = bkOf a w c s := by
  have hs := sz_le a s w g1 g2 g5 g6 v3 v4
  unfold bkOf glOf szOf
  generalize a * (8 * (12 + s + 2 * w)) = p at *
  simp only [u64w]; omega
theorem lay_w2 (a b w c s : Int) (g1 : 1 ≤ a) (g2 : a ≤ 64) (g3 : 1 ≤ b) (g4 : b ≤ 256) (g5 : 8 ≤ w) (g6 : w ≤ 1024) (v1 : 0 ≤ c) (v2 : c ≤ 65536) (v3 : 1 ≤ s) (v4 : s ≤ 256) :
    IntKind.u64.wrap (IntKind.u64.wrap ((4 * c + 64 - 1) / 64 * 64 + 64 + IntKind.u64.wrap (a * (8 * (12 + s + 2 * w)))) + b * 256) = endOf a b w c s := by
  rw [lay_w1 a w c s g1 g2 g5 g6 v1 v2 v3 v4]
  have hs := sz_le a s w g1 g2 g5 g6 v3 v4
  unfold endOf bkOf glOf szOf
  generalize a * (8 * (12 + s + 2 * w)) = p at *
  simp only [u64w]; omega
theorem lay_v1 (a w c s : Int) (g1 : 1 ≤ a) (g2 : a ≤ 64) (g5 : 8 ≤ w) (g6 : w ≤ 1024) (v1 : 0 ≤ c) (v2 : c ≤ 65536) (v3 : 1 ≤ s) (v4 : s ≤ 256) :
    IntKind.u64.wrap (glOf c + 64 + IntKind.u64.wrap (a * (8 * (12 + s + 2 * w)))) = bkOf a w c s := by
  rw [← lay_w1 a w c s g1 g2 g5 g6 v1 v2 v3 v4, show glOf c = (4 * c + 64 - 1) / 64 * 64 from by unfold glOf; omega]
theorem lay_v2 (a b w c s : Int) (g1 : 1 ≤ a) (g2 : a ≤ 64) (g3 : 1 ≤ b) (g4 : b ≤ 256) (g5 : 8 ≤ w) (g6 : w ≤ 1024) (v1 : 0 ≤ c) (v2 : c ≤ 65536) (v3 : 1 ≤ s) (v4 : s ≤ 256) :
    IntKind.u64.wrap (IntKind.u64.wrap (glOf c + 64 + IntKind.u64.wrap (a * (8 * (12 + s + 2 * w)))) + 256 * b) = endOf a b w c s := by
  rw [← lay_w2 a b w c s g1 g2 g3 g4 g5 g6 v1 v2 v3 v4, show glOf c = (4 * c + 64 - 1) / 64 * 64 from by unfold glOf; omega, Int.mul_comm 256 b]
theorem lay_cases (h a b w g c s : Int) : (goodOf h a b w g = true ∧ 0 ≤ c ∧ c ≤ 65536 ∧ 1 ≤ s ∧ s ≤ 256 ∧ endOf a b w c s ≤ 16777216 ∧ layOf h a b w g c s = (0, glOf c, glOf c + 64, szOf s w, bkOf a w c s, 256, endOf a b w c s, s, 0)) ∨
    layOf h a b w g c s = (0, 0, 0, 0, 0, 0, 0, 0, 2) ∨ layOf h a b w g c s = (0, 0, 0, 0, 0, 0, 0, 0, 200) := by
  by_cases hg : goodOf h a b w g = true ∧ 0 ≤ c ∧ c ≤ 65536 ∧ 1 ≤ s ∧ s ≤ 256
  · by_cases hb : endOf a b w c s > 16777216
    · right; right; unfold layOf; rw [if_pos hg, if_pos hb]
    · left; refine ⟨hg.1, hg.2.1, hg.2.2.1, hg.2.2.2.1, hg.2.2.2.2, by omega, ?_⟩; unfold layOf; rw [if_pos hg, if_neg hb]
  · right; left; unfold layOf; rw [if_neg hg]
/-- Where record i and block k stand. -/
theorem lay_apart (h a b w g c s i k : Int) (hg : goodOf h a b w g = true) (v1 : 0 ≤ c) (v2 : c ≤ 65536) (v3 : 1 ≤ s) (v4 : s ≤ 256) (he : endOf a b w c s ≤ 16777216) (i0 : 0 ≤ i) (i1 : i < a) (k0 : 0 ≤ k) (k1 : k < b) :
    ∃ x y r2 r4 r5 r7 : Int, IntKind.u64.wrap (glOf c + 64 + IntKind.u64.wrap (IntKind.u64.wrap i * szOf s w)) = x ∧ IntKind.u64.wrap (bkOf a w c s + IntKind.u64.wrap (IntKind.u64.wrap k * 256)) = y ∧
      glOf c = r2 ∧ szOf s w = r4 ∧ bkOf a w c s = r5 ∧ endOf a b w c s = r7 ∧
      0 ≤ r2 ∧ 4 * c ≤ r2 ∧ r2 % 64 = 0 ∧ r2 + 64 ≤ x ∧ 0 ≤ r4 ∧ x + r4 ≤ r5 ∧ r5 ≤ y ∧ y + 256 ≤ r7 ∧ r7 ≤ 16777216 ∧ x % 8 = 0 ∧ y % 8 = 0 := by
  obtain ⟨-, ⟨g1, g2⟩, ⟨g3, g4⟩, ⟨g5, g6⟩, -⟩ := goodOf_yes hg
  have hs := sz_le a s w g1 g2 g5 g6 v3 v4
  have hz : szOf s w = 8 * (12 + s + 2 * w) := rfl
  have hi : i * szOf s w + szOf s w ≤ a * szOf s w := by
    have := Int.mul_le_mul_of_nonneg_right (show i + 1 ≤ a by omega) (show 0 ≤ szOf s w by omega)
    rw [Int.add_mul, Int.one_mul] at this; exact this
  have hi0 : 0 ≤ i * szOf s w := Int.mul_nonneg i0 (by omega)
  have hm8 : (i * szOf s w) % 8 = 0 := by rw [hz, Int.mul_left_comm]; exact Int.mul_emod_right _ _
  have ha8 : (a * szOf s w) % 8 = 0 := by rw [hz, Int.mul_left_comm]; exact Int.mul_emod_right _ _
  have hg8 : glOf c % 64 = 0 ∧ 0 ≤ glOf c ∧ glOf c ≤ 262144 ∧ 4 * c ≤ glOf c := by unfold glOf; omega
  have hb : bkOf a w c s = glOf c + 64 + a * szOf s w := rfl
  have hend : endOf a b w c s = bkOf a w c s + b * 256 := rfl
  rw [← hz] at hs
  have ex : IntKind.u64.wrap (glOf c + 64 + IntKind.u64.wrap (IntKind.u64.wrap i * szOf s w)) = glOf c + 64 + i * szOf s w := by
    rw [show IntKind.u64.wrap i = i from by simp only [u64w]; omega]; simp only [u64w]; omega
  have ey : IntKind.u64.wrap (bkOf a w c s + IntKind.u64.wrap (IntKind.u64.wrap k * 256)) = bkOf a w c s + k * 256 := by simp only [u64w]; omega
  exact ⟨_, _, _, _, _, _, ex, ey, rfl, rfl, rfl, rfl, by omega, by omega, by omega, by omega, by omega, by omega, by omega, by omega, by omega, by omega, by omega⟩
theorem index_in (x n : Int) (h1 : 1 ≤ n) (h2 : n ≤ 256) : 0 ≤ wrap64 ((IntKind.u64.wrap x).tmod n) ∧ wrap64 ((IntKind.u64.wrap x).tmod n) < n := by
  have hu := U64.wrap x
  generalize IntKind.u64.wrap x = y at *
  rw [Int.tmod_eq_emod_of_nonneg hu.1]
  have := Int.emod_nonneg y (show n ≠ 0 by omega)
  have := Int.emod_lt_of_pos y (show 0 < n by omega)
  unfold wrap64; omega
theorem more_grows (a b w c s : Int) (g1 : 1 ≤ a) (g3 : 1 ≤ b) (g5 : 8 ≤ w) (v1 : 0 ≤ c) (v3 : 1 ≤ s) :
    endOf a b w c s ≤ endOf (a + 1) b w c s ∧ endOf a b w c s ≤ endOf a (b + 1) w c s ∧ endOf a b w c s ≤ endOf a b (w + 1) c s ∧ endOf a b w c s ≤ endOf a b w (c + 1) s ∧ endOf a b w c s ≤ endOf a b w c (s + 1) ∧ glOf c ≤ glOf (c + 1) := by
  have e1 : (a + 1) * szOf s w = a * szOf s w + szOf s w := by rw [Int.add_mul, Int.one_mul]
  have e2 : a * szOf s (w + 1) = a * szOf s w + a * 16 := by rw [← Int.mul_add]; congr 1; unfold szOf; omega
  have e3 : a * szOf (s + 1) w = a * szOf s w + a * 8 := by rw [← Int.mul_add]; congr 1; unfold szOf; omega
  have e4 : 0 ≤ szOf s w := by unfold szOf; omega
  have e5 : glOf c ≤ glOf (c + 1) := by unfold glOf; omega
  unfold endOf bkOf
  rw [e1, e2, e3]
  omega
end Go.Proofs.Ytaimncgdpnjhiaa.M
