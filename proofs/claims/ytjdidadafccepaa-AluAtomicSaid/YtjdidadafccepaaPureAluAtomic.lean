/- Two atomic additions, or others of those, come to the same in either order; no condition. -/
import Derived.Test.YtjdidadafccepaaPAluAtomicx8
namespace Go.Proofs.Ytjdidadafccepaa.Pure
open Go.RowKit Go.Proofs.Ytjdidadafccepaa.PAluAtomic Go.Proofs.YtjdidadafccepaaW.PrintWords Go.Proofs.YtjdidadafccepaaW.PrintLast Go.Proofs.Ytjdidadafccepaa.M
set_option linter.unusedVariables false
set_option linter.unusedSimpArgs false

theorem lives_yes (k : Nat) (hk : 1 ≤ k) : postbaglaw04_lives.f k = some true := by
  obtain ⟨k, rfl⟩ : ∃ m, k = m + 1 := ⟨k - 1, by omega⟩
  unfold postbaglaw04_lives.f alu_Value.f
  rw [if_pos ⟨by decide, U64.wrap _, by decide⟩, if_pos (by decide +kernel), if_pos ⟨by decide, by decide, by decide⟩, if_pos (by decide +kernel)]
  have e1 : valueOf 30 1 0 (IntKind.u64.wrap (-8)) 0 = (IntKind.u64.wrap (-4), 0) := by decide +kernel
  have e2 : valueOf 41 1 0 2147483647 0 = (18446744071562067968, 0) := by decide +kernel
  have e3 : Go.bits .andNot .u64 (IntKind.u64.wrap (9 + IntKind.u64.wrap 0)) 1 = 8 := by decide +kernel
  rw [e1, e2]
  simp [alu_Target.f, alu_Target.j0, e3]


theorem size_range (op : Int) : 0 ≤ PAluAtomic.sizeOf op ∧ PAluAtomic.sizeOf op ≤ 8 := by
  unfold PAluAtomic.sizeOf
  repeat' split
  all_goals omega
theorem size8 (op : Int) : wrap64 (8 * PAluAtomic.sizeOf op) = 8 * PAluAtomic.sizeOf op := by have := size_range op; unfold wrap64; omega
theorem xor_comm' (x y : Int) (hx : U64 x) (hy : U64 y) : Go.bits .xor .u64 x y = Go.bits .xor .u64 y x ∧ U64 (Go.bits .xor .u64 y x) := by
  obtain ⟨a, rfl, ha⟩ := hx.nat
  obtain ⟨b, rfl, hb⟩ := hy.nat
  rw [xor_nat a b ha hb, xor_nat b a hb ha, Nat.xor_comm]
  exact ⟨rfl, U64.mk (by rw [Nat.xor_comm]; exact Nat.xor_lt_two_pow ha hb)⟩
theorem and_comm' (x y : Int) (hx : U64 x) (hy : U64 y) : Go.bits .and .u64 x y = Go.bits .and .u64 y x ∧ U64 (Go.bits .and .u64 y x) := by
  obtain ⟨a, rfl, ha⟩ := hx.nat
  obtain ⟨b, rfl, hb⟩ := hy.nat
  rw [and_nat a b ha hb, and_nat b a hb ha, Nat.and_comm]
  exact ⟨rfl, U64.mk (Nat.lt_of_le_of_lt Nat.and_le_left hb)⟩
theorem or_comm' (x y : Int) (hx : U64 x) (hy : U64 y) : Go.bits .or .u64 x y = Go.bits .or .u64 y x ∧ U64 (Go.bits .or .u64 y x) := by
  obtain ⟨a, rfl, ha⟩ := hx.nat
  obtain ⟨b, rfl, hb⟩ := hy.nat
  rw [or_nat a b ha hb, or_nat b a hb ha, Nat.or_comm]
  exact ⟨rfl, U64.mk (by rw [Nat.or_comm]; exact Nat.or_lt_two_pow ha hb)⟩
theorem mn_range (x y : Int) (hx : U64 x) (hy : U64 y) : U64 (mn x y) := by unfold mn; split; exact hy; exact hx
theorem mx_range (x y : Int) (hx : U64 x) (hy : U64 y) : U64 (mx x y) := by unfold mx; split; exact hy; exact hx
/-- What is stored, of so many bits. -/
def storeOf (kind n old b : Int) : Int :=
  if kind = 69 then fieldOf (IntKind.u64.wrap (signOf b n + signOf old n)) 0 n else if kind = 70 then fieldOf (Go.bits .xor .u64 (signOf b n) (signOf old n)) 0 n
  else if kind = 71 then fieldOf (Go.bits .and .u64 (signOf b n) (signOf old n)) 0 n else if kind = 72 then fieldOf (Go.bits .or .u64 (signOf b n) (signOf old n)) 0 n
  else if kind = 73 then fieldOf (IntKind.u64.wrap (mn (wrap64 (signOf old n)) (wrap64 (signOf b n)))) 0 n else if kind = 74 then fieldOf (IntKind.u64.wrap (mx (wrap64 (signOf old n)) (wrap64 (signOf b n)))) 0 n
  else if kind = 75 then fieldOf (mn (fieldOf old 0 n) (fieldOf b 0 n)) 0 n else if kind = 76 then fieldOf (mx (fieldOf old 0 n) (fieldOf b 0 n)) 0 n else fieldOf (signOf b n) 0 n
theorem alu_j0 (k : Nat) (kind n old b : Int) (ho : U64 old) (hb : U64 b) : alu_Stored.j0 (k + 1) old b n kind = some (storeOf kind n old b) := by
  have so := sign_range old n ho
  have sb := sign_range b n hb
  have fo := field_range old 0 n ho
  have fb := field_range b 0 n hb
  have S : ∀ x, U64 x → bits_Sign.f x n = some (signOf x n) := fun x h => by unfold bits_Sign.f; rw [if_pos h]
  have F : ∀ x, U64 x → bits_Field.f x 0 n = some (fieldOf x 0 n) := fun x h => by unfold bits_Field.f; rw [if_pos h]
  simp only [alu_Stored.j0, S _ ho, S _ hb, F _ ho, F _ hb, Option.bind_some, F _ (U64.wrap _), F _ (xor_comm' _ _ so sb).2, F _ (and_comm' _ _ so sb).2, F _ (or_comm' _ _ so sb).2, F _ (mn_range _ _ fo fb), F _ (mx_range _ _ fo fb), F _ sb]
  unfold storeOf
  by_cases h1 : kind = 69
  · simp only [if_pos h1]
  by_cases h2 : kind = 70
  · simp only [if_neg h1, if_pos h2]
  by_cases h3 : kind = 71
  · simp only [if_neg h1, if_neg h2, if_pos h3]
  by_cases h4 : kind = 72
  · simp only [if_neg h1, if_neg h2, if_neg h3, if_pos h4]
  by_cases h5 : kind = 73
  · simp only [if_neg h1, if_neg h2, if_neg h3, if_neg h4, if_pos h5]
  by_cases h6 : kind = 74
  · simp only [if_neg h1, if_neg h2, if_neg h3, if_neg h4, if_neg h5, if_pos h6]
  by_cases h7 : kind = 75
  · simp only [if_neg h1, if_neg h2, if_neg h3, if_neg h4, if_neg h5, if_neg h6, if_pos h7]
  by_cases h8 : kind = 76
  · simp only [if_neg h1, if_neg h2, if_neg h3, if_neg h4, if_neg h5, if_neg h6, if_neg h7, if_pos h8]
  · simp only [if_neg h1, if_neg h2, if_neg h3, if_neg h4, if_neg h5, if_neg h6, if_neg h7, if_neg h8]
def storedOf (op old b : Int) : Int := if storesB op = true then storeOf (if 77 ≤ op then op - 11 else op) (8 * PAluAtomic.sizeOf op) old b else 0
theorem alu_stored (k : Nat) (op old b : Int) (ho : U64 old) (hb : U64 b) : alu_Stored.f (k + 1) op old b = some (storedOf op old b) := by
  unfold alu_Stored.f storedOf
  simp only [inst_Stores.f, inst_Size.f, Option.bind_some, size8]
  by_cases h : storesB op = true
  · have hr : 18 ≤ op ∧ op ≤ 87 := by unfold storesB at h; have := of_decide_eq_true h; omega
    rw [if_pos h, if_pos h]
    by_cases h7 : 77 ≤ op
    · rw [if_pos h7, if_pos h7, show wrap64 (op - 11) = op - 11 by unfold wrap64; omega]; exact alu_j0 k _ _ _ _ ho hb
    · rw [if_neg h7, if_neg h7]; exact alu_j0 k _ _ _ _ ho hb
  · rw [if_neg h, if_neg h]
structure Width (n M : Int) : Prop where
  h : (n = 32 ∧ M = 4294967296) ∨ (n = 64 ∧ M = 18446744073709551616)
theorem Width.field {n M : Int} (W : Width n M) (x : Int) (hx : U64 x) : fieldOf x 0 n = x % M := by
  rcases W.h with ⟨rfl, rfl⟩ | ⟨rfl, rfl⟩
  · rw [show fieldOf x 0 32 = x / 2 ^ 0 % 2 ^ 32 from field_lit x 0 32 (by omega) (by omega) (by omega)]; simp
  · rw [show fieldOf x 0 64 = x / 2 ^ 0 % 2 ^ 64 from field_lit x 0 64 (by omega) (by omega) (by omega)]; simp
theorem Width.sign {n M : Int} (W : Width n M) (x : Int) (hx : U64 x) : signOf x n % M = x % M ∧ signOf (x % M) n = signOf x n ∧ -(M / 2) ≤ wrap64 (signOf x n) ∧ wrap64 (signOf x n) < M / 2 ∧ wrap64 (signOf x n) % M = x % M := by
  have hx' := hx
  unfold U64 at hx'
  rcases W.h with ⟨rfl, rfl⟩ | ⟨rfl, rfl⟩
  · unfold signOf
    simp only [show ¬ ((32 : Int) < 1 ∨ (32 : Int) > 63) by omega, if_false, show (32 : Int).toNat = 32 from rfl, show ((32 : Int) - 1).toNat = 31 from rfl, Int.reducePow, Int.emod_emod_of_dvd _ (Int.dvd_refl _)]
    unfold wrap64
    refine ⟨?_, trivial, ?_, ?_, ?_⟩ <;> split <;> omega
  · unfold signOf
    simp only [show ((64 : Int) < 1 ∨ (64 : Int) > 63) by omega, if_true]
    unfold wrap64
    refine ⟨trivial, ?_, ?_, ?_, ?_⟩ <;> omega
theorem Width.back {n M : Int} (W : Width n M) (v : Int) (h1 : -(M / 2) ≤ v) (h2 : v < M / 2) : wrap64 (signOf (v % M) n) = v := by
  rcases W.h with ⟨rfl, rfl⟩ | ⟨rfl, rfl⟩
  · unfold signOf
    simp only [show ¬ ((32 : Int) < 1 ∨ (32 : Int) > 63) by omega, if_false, show (32 : Int).toNat = 32 from rfl, show ((32 : Int) - 1).toNat = 31 from rfl, Int.reducePow, Int.emod_emod_of_dvd _ (Int.dvd_refl _)]
    unfold wrap64
    split <;> omega
  · unfold signOf
    simp only [show ((64 : Int) < 1 ∨ (64 : Int) > 63) by omega, if_true]
    unfold wrap64
    omega
theorem Width.rng {n M : Int} (W : Width n M) (x : Int) : 0 ≤ x % M ∧ x % M < M ∧ U64 (x % M) := by
  rcases W.h with ⟨rfl, rfl⟩ | ⟨rfl, rfl⟩ <;> (refine ⟨by omega, by omega, ?_⟩; unfold U64; omega)
theorem Width.wrap {n M : Int} (W : Width n M) (x : Int) : IntKind.u64.wrap x % M = x % M := by
  rw [u64w]; rcases W.h with ⟨rfl, rfl⟩ | ⟨rfl, rfl⟩ <;> omega
theorem Width.pow {n M : Int} (W : Width n M) : ∃ m : Nat, m ≤ 64 ∧ M = ((2 ^ m : Nat) : Int) := by
  rcases W.h with ⟨rfl, rfl⟩ | ⟨rfl, rfl⟩
  · exact ⟨32, by omega, rfl⟩
  · exact ⟨64, by omega, rfl⟩
theorem Width.bits {n M : Int} (W : Width n M) (x y : Int) (hx : U64 x) (hy : U64 y) :
    Go.bits .xor .u64 x y % M = Go.bits .xor .u64 (x % M) (y % M) ∧ Go.bits .and .u64 x y % M = Go.bits .and .u64 (x % M) (y % M) ∧ Go.bits .or .u64 x y % M = Go.bits .or .u64 (x % M) (y % M) := by
  obtain ⟨a, rfl, ha⟩ := hx.nat
  obtain ⟨b, rfl, hb⟩ := hy.nat
  obtain ⟨m, hm, rfl⟩ := W.pow
  have la : a % 2 ^ m < 2 ^ 64 := Nat.lt_of_le_of_lt (Nat.mod_le _ _) ha
  have lb : b % 2 ^ m < 2 ^ 64 := Nat.lt_of_le_of_lt (Nat.mod_le _ _) hb
  rw [← Int.natCast_emod, ← Int.natCast_emod, xor_nat a b ha hb, and_nat a b ha hb, or_nat a b ha hb, xor_nat _ _ la lb, and_nat _ _ la lb, or_nat _ _ la lb]
  refine ⟨?_, ?_, ?_⟩
  · rw [← Int.natCast_emod, Nat.xor_mod_two_pow]
  · rw [← Int.natCast_emod, Nat.and_mod_two_pow]
  · rw [← Int.natCast_emod, Nat.or_mod_two_pow]
/-- Three numbers by one of the three. -/
theorem bits_turn (x y z : Int) (hx : U64 x) (hy : U64 y) (hz : U64 z) :
    Go.bits .xor .u64 y (Go.bits .xor .u64 x z) = Go.bits .xor .u64 x (Go.bits .xor .u64 y z) ∧ Go.bits .and .u64 y (Go.bits .and .u64 x z) = Go.bits .and .u64 x (Go.bits .and .u64 y z) ∧ Go.bits .or .u64 y (Go.bits .or .u64 x z) = Go.bits .or .u64 x (Go.bits .or .u64 y z) := by
  obtain ⟨a, rfl, ha⟩ := hx.nat
  obtain ⟨b, rfl, hb⟩ := hy.nat
  obtain ⟨c, rfl, hc⟩ := hz.nat
  rw [xor_nat a c ha hc, xor_nat b c hb hc, and_nat a c ha hc, and_nat b c hb hc, or_nat a c ha hc, or_nat b c hb hc]
  rw [xor_nat b _ hb (Nat.xor_lt_two_pow ha hc), xor_nat a _ ha (Nat.xor_lt_two_pow hb hc), and_nat b _ hb (Nat.lt_of_le_of_lt Nat.and_le_left ha), and_nat a _ ha (Nat.lt_of_le_of_lt Nat.and_le_left hb), or_nat b _ hb (Nat.or_lt_two_pow ha hc), or_nat a _ ha (Nat.or_lt_two_pow hb hc)]
  refine ⟨?_, ?_, ?_⟩
  · rw [← Nat.xor_assoc, Nat.xor_comm b a, Nat.xor_assoc]
  · rw [← Nat.and_assoc, Nat.and_comm b a, Nat.and_assoc]
  · rw [← Nat.or_assoc, Nat.or_comm b a, Nat.or_assoc]
theorem mn3 (o x y : Int) : mn (mn o x) y = mn (mn o y) x := by unfold mn; repeat' split
                                                                all_goals omega
theorem mx3 (o x y : Int) : mx (mx o x) y = mx (mx o y) x := by unfold mx; repeat' split
                                                                all_goals omega
theorem mn_two (x y l h : Int) (a : l ≤ x) (b : x < h) (c : l ≤ y) (d : y < h) : l ≤ mn x y ∧ mn x y < h := by unfold mn; split <;> omega
theorem mx_two (x y l h : Int) (a : l ≤ x) (b : x < h) (c : l ≤ y) (d : y < h) : l ≤ mx x y ∧ mx x y < h := by unfold mx; split <;> omega
theorem store_turn (kind n M old a b : Int) (W : Width n M) (hk : 69 ≤ kind ∧ kind ≤ 76) (ho : U64 old) (ha : U64 a) (hb : U64 b) : storeOf kind n (storeOf kind n old a) b = storeOf kind n (storeOf kind n old b) a := by
  have So := sign_range old n ho
  have Sa := sign_range a n ha
  have Sb := sign_range b n hb
  have hc : kind = 69 ∨ kind = 70 ∨ kind = 71 ∨ kind = 72 ∨ kind = 73 ∨ kind = 74 ∨ kind = 75 ∨ kind = 76 := by omega
  have m3 : ∀ x y z : Int, (x + (y + z)) % M = (y + (x + z)) % M := by intro x y z; congr 1; omega
  have addm : ∀ x y, U64 x → U64 y → fieldOf (IntKind.u64.wrap (signOf x n + signOf y n)) 0 n = (x + y) % M := by
    intro x y hx hy
    rw [W.field _ (U64.wrap _), W.wrap, Int.add_emod, (W.sign x hx).1, (W.sign y hy).1, ← Int.add_emod]
  rcases hc with rfl | rfl | rfl | rfl | rfl | rfl | rfl | rfl
  · simp only [storeOf, if_true]
    rw [addm a old ha ho, addm b old hb ho, addm b _ hb (W.rng _).2.2, addm a _ ha (W.rng _).2.2]
    rw [Int.add_emod b, Int.emod_emod_of_dvd _ (Int.dvd_refl _), ← Int.add_emod, Int.add_emod a, Int.emod_emod_of_dvd _ (Int.dvd_refl _), ← Int.add_emod]
    exact m3 _ _ _
  · have f : ∀ x y, U64 x → U64 y → fieldOf (Go.bits .xor .u64 (signOf x n) (signOf y n)) 0 n = Go.bits .xor .u64 (x % M) (y % M) := by
      intro x y hx hy
      rw [W.field _ (xor_comm' _ _ (sign_range y n hy) (sign_range x n hx)).2, (W.bits _ _ (sign_range x n hx) (sign_range y n hy)).1, (W.sign x hx).1, (W.sign y hy).1]
    have u : ∀ x y, U64 (Go.bits .xor .u64 (x % M) (y % M)) := fun x y => (xor_comm' _ _ (W.rng y).2.2 (W.rng x).2.2).2
    have mm : ∀ x y, Go.bits .xor .u64 (x % M) (y % M) % M = Go.bits .xor .u64 (x % M) (y % M) := by
      intro x y
      rw [(W.bits _ _ (W.rng x).2.2 (W.rng y).2.2).1, Int.emod_emod_of_dvd _ (Int.dvd_refl _), Int.emod_emod_of_dvd _ (Int.dvd_refl _)]
    simp only [storeOf, if_true, show ¬ ((70 : Int) = 69) by omega, if_false]
    rw [f a old ha ho, f b old hb ho, f b _ hb (u _ _), f a _ ha (u _ _), mm, mm]
    exact (bits_turn _ _ _ (W.rng a).2.2 (W.rng b).2.2 (W.rng old).2.2).1
  · have f : ∀ x y, U64 x → U64 y → fieldOf (Go.bits .and .u64 (signOf x n) (signOf y n)) 0 n = Go.bits .and .u64 (x % M) (y % M) := by
      intro x y hx hy
      rw [W.field _ (and_comm' _ _ (sign_range y n hy) (sign_range x n hx)).2, (W.bits _ _ (sign_range x n hx) (sign_range y n hy)).2.1, (W.sign x hx).1, (W.sign y hy).1]
    have u : ∀ x y, U64 (Go.bits .and .u64 (x % M) (y % M)) := fun x y => (and_comm' _ _ (W.rng y).2.2 (W.rng x).2.2).2
    have mm : ∀ x y, Go.bits .and .u64 (x % M) (y % M) % M = Go.bits .and .u64 (x % M) (y % M) := by
      intro x y
      rw [(W.bits _ _ (W.rng x).2.2 (W.rng y).2.2).2.1, Int.emod_emod_of_dvd _ (Int.dvd_refl _), Int.emod_emod_of_dvd _ (Int.dvd_refl _)]
    simp only [storeOf, if_true, show ¬ ((71 : Int) = 69) by omega, show ¬ ((71 : Int) = 70) by omega, if_false]
    rw [f a old ha ho, f b old hb ho, f b _ hb (u _ _), f a _ ha (u _ _), mm, mm]
    exact (bits_turn _ _ _ (W.rng a).2.2 (W.rng b).2.2 (W.rng old).2.2).2.1
  · have f : ∀ x y, U64 x → U64 y → fieldOf (Go.bits .or .u64 (signOf x n) (signOf y n)) 0 n = Go.bits .or .u64 (x % M) (y % M) := by
      intro x y hx hy
      rw [W.field _ (or_comm' _ _ (sign_range y n hy) (sign_range x n hx)).2, (W.bits _ _ (sign_range x n hx) (sign_range y n hy)).2.2, (W.sign x hx).1, (W.sign y hy).1]
    have u : ∀ x y, U64 (Go.bits .or .u64 (x % M) (y % M)) := fun x y => (or_comm' _ _ (W.rng y).2.2 (W.rng x).2.2).2
    have mm : ∀ x y, Go.bits .or .u64 (x % M) (y % M) % M = Go.bits .or .u64 (x % M) (y % M) := by
      intro x y
      rw [(W.bits _ _ (W.rng x).2.2 (W.rng y).2.2).2.2, Int.emod_emod_of_dvd _ (Int.dvd_refl _), Int.emod_emod_of_dvd _ (Int.dvd_refl _)]
    simp only [storeOf, if_true, show ¬ ((72 : Int) = 69) by omega, show ¬ ((72 : Int) = 70) by omega, show ¬ ((72 : Int) = 71) by omega, if_false]
    rw [f a old ha ho, f b old hb ho, f b _ hb (u _ _), f a _ ha (u _ _), mm, mm]
    exact (bits_turn _ _ _ (W.rng a).2.2 (W.rng b).2.2 (W.rng old).2.2).2.2
  · simp only [storeOf, show ¬ ((73 : Int) = 69) by omega, show ¬ ((73 : Int) = 70) by omega, show ¬ ((73 : Int) = 71) by omega, show ¬ ((73 : Int) = 72) by omega, if_false, if_true]
    obtain ⟨-, -, o1, o2, -⟩ := W.sign old ho
    obtain ⟨-, -, a1, a2, -⟩ := W.sign a ha
    obtain ⟨-, -, b1, b2, -⟩ := W.sign b hb
    have q1 := mn_two _ _ _ _ o1 o2 a1 a2
    have q2 := mn_two _ _ _ _ o1 o2 b1 b2
    rw [W.field _ (U64.wrap _), W.field _ (U64.wrap _), W.field _ (U64.wrap _), W.field _ (U64.wrap _), W.wrap, W.wrap, W.wrap, W.wrap, W.back _ q1.1 q1.2, W.back _ q2.1 q2.2, mn3]
  · simp only [storeOf, show ¬ ((74 : Int) = 69) by omega, show ¬ ((74 : Int) = 70) by omega, show ¬ ((74 : Int) = 71) by omega, show ¬ ((74 : Int) = 72) by omega, show ¬ ((74 : Int) = 73) by omega, if_false, if_true]
    obtain ⟨-, -, o1, o2, -⟩ := W.sign old ho
    obtain ⟨-, -, a1, a2, -⟩ := W.sign a ha
    obtain ⟨-, -, b1, b2, -⟩ := W.sign b hb
    have q1 := mx_two _ _ _ _ o1 o2 a1 a2
    have q2 := mx_two _ _ _ _ o1 o2 b1 b2
    rw [W.field _ (U64.wrap _), W.field _ (U64.wrap _), W.field _ (U64.wrap _), W.field _ (U64.wrap _), W.wrap, W.wrap, W.wrap, W.wrap, W.back _ q1.1 q1.2, W.back _ q2.1 q2.2, mx3]
  · simp only [storeOf, show ¬ ((75 : Int) = 69) by omega, show ¬ ((75 : Int) = 70) by omega, show ¬ ((75 : Int) = 71) by omega, show ¬ ((75 : Int) = 72) by omega, show ¬ ((75 : Int) = 73) by omega, show ¬ ((75 : Int) = 74) by omega, if_false, if_true]
    have e : ∀ x y, U64 x → U64 y → fieldOf (mn (fieldOf x 0 n) (fieldOf y 0 n)) 0 n = mn (x % M) (y % M) ∧ U64 (mn (x % M) (y % M)) ∧ mn (x % M) (y % M) % M = mn (x % M) (y % M) := by
      intro x y hx hy
      have p := W.rng x
      have q := W.rng y
      have t := mn_two _ _ _ _ p.1 p.2.1 q.1 q.2.1
      have ur : U64 (mn (x % M) (y % M)) := mn_range _ _ p.2.2 q.2.2
      rw [W.field x hx, W.field y hy, W.field _ ur, Int.emod_eq_of_lt t.1 t.2]
      exact ⟨rfl, ur, rfl⟩
    rw [(e old a ho ha).1, (e old b ho hb).1, (e _ b (e old a ho ha).2.1 hb).1, (e _ a (e old b ho hb).2.1 ha).1, (e old a ho ha).2.2, (e old b ho hb).2.2, mn3]
  · simp only [storeOf, show ¬ ((76 : Int) = 69) by omega, show ¬ ((76 : Int) = 70) by omega, show ¬ ((76 : Int) = 71) by omega, show ¬ ((76 : Int) = 72) by omega, show ¬ ((76 : Int) = 73) by omega, show ¬ ((76 : Int) = 74) by omega, show ¬ ((76 : Int) = 75) by omega, if_false, if_true]
    have e : ∀ x y, U64 x → U64 y → fieldOf (mx (fieldOf x 0 n) (fieldOf y 0 n)) 0 n = mx (x % M) (y % M) ∧ U64 (mx (x % M) (y % M)) ∧ mx (x % M) (y % M) % M = mx (x % M) (y % M) := by
      intro x y hx hy
      have p := W.rng x
      have q := W.rng y
      have t := mx_two _ _ _ _ p.1 p.2.1 q.1 q.2.1
      have ur : U64 (mx (x % M) (y % M)) := mx_range _ _ p.2.2 q.2.2
      rw [W.field x hx, W.field y hy, W.field _ ur, Int.emod_eq_of_lt t.1 t.2]
      exact ⟨rfl, ur, rfl⟩
    rw [(e old a ho ha).1, (e old b ho hb).1, (e _ b (e old a ho ha).2.1 hb).1, (e _ a (e old b ho hb).2.1 ha).1, (e old a ho ha).2.2, (e old b ho hb).2.2, mx3]

theorem stored_eq (op old b : Int) (h : 69 ≤ op ∧ op ≤ 76 ∨ 80 ≤ op ∧ op ≤ 87) : ∃ kind n M, Width n M ∧ 69 ≤ kind ∧ kind ≤ 76 ∧ ∀ o b, storedOf op o b = storeOf kind n o b := by
  have hs : storesB op = true := by unfold storesB; apply decide_eq_true; omega
  rcases h with h | h
  · refine ⟨op, 32, 4294967296, ⟨Or.inl ⟨rfl, rfl⟩⟩, h.1, h.2, fun o b => ?_⟩
    have hz : PAluAtomic.sizeOf op = 4 := by
      unfold PAluAtomic.sizeOf
      repeat' split
      all_goals omega
    unfold storedOf
    rw [if_pos hs, if_neg (by omega), hz]; rfl
  · refine ⟨op - 11, 64, 18446744073709551616, ⟨Or.inr ⟨rfl, rfl⟩⟩, by omega, by omega, fun o b => ?_⟩
    have hz : PAluAtomic.sizeOf op = 8 := by
      unfold PAluAtomic.sizeOf
      repeat' split
      all_goals omega
    unfold storedOf
    rw [if_pos hs, if_pos (by omega), hz]; rfl
theorem stored_range (op old b : Int) (ho : U64 old) (hb : U64 b) : U64 (storedOf op old b) := by
  unfold storedOf
  split
  case isFalse => unfold U64; omega
  generalize 8 * PAluAtomic.sizeOf op = n
  have so := sign_range old n ho
  have sb := sign_range b n hb
  have fo := field_range old 0 n ho
  have fb := field_range b 0 n hb
  unfold storeOf
  repeat' split
  all_goals apply field_range
  all_goals first | exact U64.wrap _ | exact (xor_comm' _ _ so sb).2 | exact (and_comm' _ _ so sb).2 | exact (or_comm' _ _ so sb).2 | exact mn_range _ _ fo fb | exact mx_range _ _ fo fb | exact sb
theorem atomic_j0 (op a1 a2 a3 : Int) (h : 69 ≤ op ∧ op ≤ 76 ∨ 80 ≤ op ∧ op ≤ 87) (h1 : U64 a1) (h2 : U64 a2) (h3 : U64 a3) : postbaglaw04_AluAtomic.j0 3 a1 a2 a3 op = some true := by
  obtain ⟨kind, n, M, W, k1, k2, e⟩ := stored_eq op a1 a2 h
  simp only [postbaglaw04_AluAtomic.j0]
  rw [alu_stored 1 op a1 a2 h1 h2, alu_stored 1 op a1 a3 h1 h3]
  simp only [Option.bind_some]
  rw [alu_stored 1 op _ a3 (stored_range _ _ _ h1 h2) h3, alu_stored 1 op _ a2 (stored_range _ _ _ h1 h3) h2]
  simp only [Option.bind_some]
  rw [if_pos (by rw [e, e, e, e]; exact store_turn kind n M a1 a2 a3 W ⟨k1, k2⟩ h1 h2 h3), lives_yes 2 (by omega)]
  rfl
theorem AluAtomic : postbaglaw04_AluAtomic.Pure := by
  intro a0 a1 a2 a3 w0 w1 w2 w3
  have h1 := U64.of_wf w1
  have h2 := U64.of_wf w2
  have h3 := U64.of_wf w3
  refine ⟨3, ?_⟩
  unfold postbaglaw04_AluAtomic.f
  have hu := U64.wrap a0
  generalize IntKind.u64.wrap a0 = u at *
  unfold U64 at hu
  rw [show Int.tmod u 16 = u % 16 from Int.tmod_eq_emod_of_nonneg hu.1, show Int.tmod u 8 = u % 8 from Int.tmod_eq_emod_of_nonneg hu.1]
  rw [show wrap64 (u % 16) = u % 16 by unfold wrap64; omega, show wrap64 (u % 8) = u % 8 by unfold wrap64; omega, show wrap64 (69 + u % 8) = 69 + u % 8 by unfold wrap64; omega, show wrap64 (69 + u % 8 + 11) = 69 + u % 8 + 11 by unfold wrap64; omega]
  split
  · exact atomic_j0 _ _ _ _ (by omega) h1 h2 h3
  · exact atomic_j0 _ _ _ _ (by omega) h1 h2 h3
end Go.Proofs.Ytjdidadafccepaa.Pure
