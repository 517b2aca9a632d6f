/- DERIVED. DERIVED. Arguments that are slices of bytes; what digits spell. -/
import Derived.Test.YtbakfpoejoajeaaDoorProg
import Derived.Test.YtbakfpoejoajeaaDoorMBits
import Derived.Test.YtbakfpoejoajeaaDoorMWalk
import Derived.Test.YtbakfpoejoajeaaDoorMArg
import Derived.Test.YtbakfpoejoajeaaDoorMRow
import Derived.Test.YtbakfpoejoajeaaDoorMOpen
import Derived.Test.YtbakfpoejoajeaaDoorMPart
import Derived.Test.YtbakfpoejoajeaaDoorMMem
import Derived.Test.YtbakfpoejoajeaaDoorHG
import Derived.Below
import Derived.Deep.Draws
import Derived.Deep.AppendLies
import Derived.Maps.AppendAt
import Derived.OwnWalk
import Derived.Laws.BytesArg
import Derived.Laws.MakeOwn
import Derived.Laws.OwnMore
import Derived.Deep.OwnRows
import Derived.Tactics
import Derived.Lib.ConvBytes
import Derived.Laws.Slices
import Derived.WalkKit
import Derived.KernelRfl
import Derived.RowKit3
import Derived.Deep.LoopGhost
import Derived.Deep.QuietTactic
import Derived.BigQuiet
import Derived.WideLaws
import Derived.Deep.DeepCutAuto
import Derived.Deep.CutBlock
import Derived.Deep.RegionHeld3
import Derived.Laws.Rows
import Derived.Lib.AppendStr
import Derived.ArgAppend
import Derived.Laws.IdiomCopy
import Derived.OrdersHeld
import Derived.Laws.BitsLemmas
import Derived.Laws.Bits64
import Derived.RowKit
import Derived.Outline
import Derived.Handy
import Derived.Lib.Hide
import Derived.Deep.Light
import Derived.Laws.CopyOwn
import Derived.Lib.QuietBelow
import Derived.Shelf.Strings.Prefix
import Derived.Shelf.Small.Strs
import Derived.Shelf.Strconv.AtoiAll
import Derived.Ground.NamesProg
import Derived.Lib.AtoiErrMem
namespace Go.Proofs.YtbakfpoejoajeaaDoor.Hand
open Go Go.RowKit Go.Proofs.YtbakfpoejoajeaaDoor.M
set_option linter.unusedVariables false
set_option linter.unusedSimpArgs false
attribute [local go_sem] Oper.semAt_some
/-- A string's bytes as numbers. -/
def numsB (b : ByteArray) : List Int := b.toList.map fun x => (x.toNat : Int)
theorem numsB_len (b : ByteArray) : (numsB b).length = b.size := by unfold numsB; rw [List.length_map, str_len]
theorem strOfNums_numsB (b : ByteArray) : strOfNums (numsB b) = b := by
  have e : strOfNums (numsB b) = ⟨(b.toList.map fun x => UInt8.ofNat x.toNat).toArray⟩ := by unfold strOfNums numsB; rw [List.map_map]; rfl
  have e2 : (b.toList.map fun x => UInt8.ofNat x.toNat) = b.toList := by
    conv => rhs; rw [← List.map_id b.toList]
    exact List.map_congr_left fun x _ => by simp
  rw [e, e2, ByteArray.toList_eq]
theorem numsB_get (b : ByteArray) (i : Nat) (h : i < b.size) : (numsB b)[i]? = some (b[i].toNat : Int) := by
  unfold numsB
  rw [List.getElem?_map, List.getElem?_eq_getElem (by rw [str_len]; exact h), str_get b i h]; rfl
/-- A slice of bytes that reads b. -/
structure ArgB (W : World) (A : Option Addr) (n c : Nat) (b : ByteArray) : Prop where
  hn : b.size = n
  le : n ≤ c
  s : Src W A (numsB b)
theorem ArgB.below {W V : World} {A : Option Addr} {n c : Nat} {b : ByteArray} (h : ArgB W A n c b) (d : Below W.heap.size W V) : ArgB V A n c b := ⟨h.hn, h.le, h.s.below d⟩
theorem ArgB.conv {W : World} {A : Option Addr} {n c : Nat} {b : ByteArray} (h : ArgB W A n c b) : (convert 22 9 (.slice A n c)).run Tryd.prog W = .ok (.string b) W := by
  have := run_convert_src W 22 5 9 Tryd.underlying22 Tryd.underlying5 Tryd.underlying9 A (numsB b) n c (by rw [numsB_len]; exact h.hn) h.s
  rwa [strOfNums_numsB] at this
theorem ArgB.cell {W : World} {A : Option Addr} {n c : Nat} {b : ByteArray} (h : ArgB W A n c b) (i : Nat) (hi : i < b.size) : ∃ ad, A = some ad ∧ W.cell? (ad.add i) = some (.int .u8 (b[i].toNat : Int)) := by
  obtain ⟨ad, e, _, h2⟩ := h.s (fun e => by have := numsB_len b; rw [e] at this; simp at this; omega)
  exact ⟨ad, e, h2 i _ (numsB_get b i hi)⟩
theorem ArgB.of_row {W : World} {A : Option Addr} {n c : Nat} {z : List Int} (h : IsRow .u8 W A n c z) : ∃ b, ArgB W A n c b := by
  obtain ⟨h1, h2, h3⟩ := h.src n (Nat.le_refl _)
  refine ⟨strOfNums (z.take n), by rw [strOfNums_size]; exact h2, ?_, ?_⟩
  · rcases h with ⟨_, rfl, rfl, _⟩ | ⟨x, _, h, _⟩
    · exact Nat.le_refl _
    · exact h
  · have e : numsB (strOfNums (z.take n)) = z.take n := by
      unfold numsB
      rw [ByteArray.toList_eq, strOfNums_data, List.map_map]
      conv => rhs; rw [← List.map_id (z.take n)]
      refine List.map_congr_left fun x hx => ?_
      have := h3 x hx
      simp
      omega
    rw [e]; exact h1
theorem addr_add_add (a : Addr) (i j : Nat) : (a.add i).add j = a.add (i + j) := by
  unfold Addr.add
  by_cases hi : i = 0
  · subst hi; simp
  · by_cases hj : j = 0
    · subst hj; simp
    · rw [if_neg hi, if_neg hj, if_neg (show ¬ i + j = 0 by omega)]; simp [Nat.add_assoc]
/-- A part of it. -/
def partA (A : Option Addr) (c i : Nat) : Option Addr := if c = i then A else A.map (·.add (i * 1))
theorem ArgB.sub {W : World} {A : Option Addr} {n c : Nat} {b : ByteArray} (h : ArgB W A n c b) (i j : Nat) (hij : i ≤ j) (hj : j ≤ n) : ArgB W (partA A c i) (j - i) (c - i) (b.extract i j) := by
  have hn := h.hn
  have hle := h.le
  have hs : (b.extract i j).size = j - i := by rw [ByteArray.size_extract]; omega
  refine ⟨hs, by omega, fun hne => ?_⟩
  have hlt : i < j := by
    rw [← List.length_pos_iff, numsB_len, hs] at hne; omega
  obtain ⟨ad, e, h1, h2⟩ := h.s (fun e => by have := numsB_len b; rw [e] at this; simp at this; omega)
  refine ⟨ad.add i, ?_, by rw [block_add]; exact h1, fun k x hk => ?_⟩
  · unfold partA
    rw [if_neg (by omega), e, Nat.mul_one]; rfl
  · have hk2 : k < (b.extract i j).size := by rw [← numsB_len]; exact (List.getElem?_eq_some_iff.1 hk).1
    rw [numsB_get _ k hk2] at hk
    injection hk with hk
    subst hk
    rw [addr_add_add, h2 (i + k) _ (numsB_get b (i + k) (by omega))]
    rw [ByteArray.getElem_extract]
/-- What Tokens gives of bytes however many. -/
def ArgPost (w : World) (b : ByteArray) : Ending → World → Prop := fun e w' => if b.size ≤ 65536 then TokPost w (tokensOf b) e w' else e = .returned (.tuple #[.slice none 0 0, .int .i64 65536, .int .i64 110]) ∧ w' = w
set_option maxHeartbeats 4000000 in
theorem Tokens_arg {A : Option Addr} {n c : Nat} {b : ByteArray} (w : World) (h : ArgB w A n c b) (hV : ErrVars w) : Calls Tryd.prog 9 #[.slice A n c] w (ArgPost w b) := by
  unfold ArgPost
  obtain ⟨hn, hle, hs⟩ := h
  subst hn
  by_cases h0 : b.size ≤ 65536
  · simp only [if_pos h0]
    exact Tokens_any A c b w h0 (ArgB.conv ⟨rfl, hle, hs⟩) hV
  · simp only [if_neg h0]
    have h1 : (65536 : Int) < b.size := by omega
    go_enter Tryd.func9, Tryd.ntmps9
    go_wp2_with fail
    go_ret3
    exact ⟨rfl, rfl⟩
/-! What digits spell. -/
def valOf : Nat → List UInt8 → Nat
  | acc, [] => acc
  | acc, c :: r => valOf (acc * 10 + (c.toNat - 48)) r
theorem valOf_le : ∀ (l : List UInt8) (acc : Nat), acc ≤ valOf acc l
  | [], acc => Nat.le_refl _
  | c :: r, acc => Nat.le_trans (by omega) (valOf_le r (acc * 10 + (c.toNat - 48)))
theorem digitU_iff (c : UInt8) : digitU c = true ↔ 48 ≤ c.toNat ∧ c.toNat ≤ 57 := by
  unfold digitU digitB
  rw [Bool.and_eq_true, decide_eq_true_eq, decide_eq_true_eq]
  omega
theorem parse_digits : ∀ (l : List UInt8) (acc : Nat), acc < 18446744073709551616 → l.all digitU = true → Lib.parseUint10 acc l = if valOf acc l < 18446744073709551616 then .ok (valOf acc l) else .range
  | [], acc, h, _ => by
    show Lib.NumEnd.ok acc = if acc < 18446744073709551616 then .ok acc else .range
    rw [if_pos h]
  | c :: r, acc, h, hl => by
    rw [List.all_cons, Bool.and_eq_true] at hl
    have hd := (digitU_iff c).1 hl.1
    unfold Lib.parseUint10
    rw [if_pos hd]
    have hm := valOf_le r (acc * 10 + (c.toNat - 48))
    have e : valOf acc (c :: r) = valOf (acc * 10 + (c.toNat - 48)) r := rfl
    rw [e]
    by_cases h1 : 1844674407370955162 ≤ acc
    · rw [if_pos h1, if_neg (by omega)]
    · rw [if_neg h1]
      by_cases h2 : 18446744073709551616 ≤ acc * 10 + (c.toNat - 48)
      · rw [if_pos h2, if_neg (by omega)]
      · rw [if_neg h2]
        exact parse_digits r _ (by omega) hl.2
theorem atoiV_digits (l : List UInt8) (h0 : l ≠ []) (hl : l.all digitU = true) : atoiV l = if valOf 0 l < 9223372036854775808 then some (valOf 0 l : Int) else none := by
  rcases l with _ | ⟨c, r⟩
  · exact absurd rfl h0
  · have hd := (digitU_iff c).1 (by rw [List.all_cons, Bool.and_eq_true] at hl; exact hl.1)
    unfold atoiV
    rw [Lib.atoiAll_plain c r (by omega) (by omega)]
    unfold Lib.parseMag
    rw [if_neg h0, parse_digits _ 0 (by decide) hl]
    generalize valOf 0 (c :: r) = v
    by_cases h1 : v < 18446744073709551616
    · rw [if_pos h1]
      by_cases h2 : v < 9223372036854775808
      · rw [if_pos h2]
        show (match (if 9223372036854775808 ≤ v then Lib.NumEnd.range else Lib.NumEnd.ok (v : Int)) with | .ok v => some v | _ => none) = _
        rw [if_neg (by omega)]
      · rw [if_neg h2]
        show (match (if 9223372036854775808 ≤ v then Lib.NumEnd.range else Lib.NumEnd.ok (v : Int)) with | .ok v => some v | _ => none) = _
        rw [if_pos (by omega)]
    · rw [if_neg h1, if_neg (by omega)]; rfl
theorem valOf_split : ∀ (l : List UInt8) (acc : Nat), valOf acc l = acc * 10 ^ l.length + valOf 0 l
  | [], acc => by show acc = acc * 10 ^ 0 + 0; simp
  | c :: r, acc => by
    have h1 := valOf_split r (acc * 10 + (c.toNat - 48))
    have h2 := valOf_split r (0 * 10 + (c.toNat - 48))
    show valOf (acc * 10 + (c.toNat - 48)) r = acc * 10 ^ (r.length + 1) + valOf (0 * 10 + (c.toNat - 48)) r
    rw [h1, h2, Nat.add_mul, Nat.pow_succ, Nat.zero_mul, Nat.zero_add, Nat.mul_comm (10 ^ r.length) 10, Nat.mul_assoc, Nat.add_assoc]
theorem takeN_all (P : UInt8 → Bool) (l : List UInt8) (h : l.all P = true) : takeN P l = l.length := by
  unfold takeN
  induction l with
  | nil => rfl
  | cons c r ih =>
    rw [List.all_cons, Bool.and_eq_true] at h
    rw [List.takeWhile_cons, if_pos h.1, List.length_cons, List.length_cons, ih h.2]
end Go.Proofs.YtbakfpoejoajeaaDoor.Hand
