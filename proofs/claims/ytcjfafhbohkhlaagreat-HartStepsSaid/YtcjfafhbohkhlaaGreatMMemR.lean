/- DERIVED. Each call of the reference's memory returns, and leaves, what plain lists of bytes say. -/
import Derived.Test.YtcjfafhbohkhlaaGreatProg
import Derived.Test.YtcjfafhbohkhlaaGreatMMemK
import Derived.Below
import Derived.Deep.Draws
import Derived.Deep.AppendLies
import Derived.Maps.AppendAt
import Derived.OwnWalk
import Derived.Laws.BytesArg
import Derived.Laws.MakeOwn
import Derived.Laws.OwnMore
import Derived.Deep.OwnRows
import Derived.Tactics
import Derived.Lib.ConvBytes
import Derived.Laws.Slices
import Derived.WalkKit
import Derived.KernelRfl
import Derived.RowKit3
import Derived.Deep.LoopGhost
import Derived.Deep.QuietTactic
import Derived.BigQuiet
import Derived.WideLaws
import Derived.Deep.DeepCutAuto
import Derived.Deep.CutBlock
import Derived.Deep.RegionHeld3
import Derived.Laws.Rows
import Derived.Lib.AppendStr
import Derived.ArgAppend
import Derived.Laws.IdiomCopy
import Derived.OrdersHeld
import Derived.Laws.BitsLemmas
import Derived.Laws.Bits64
import Derived.RowKit
import Derived.Outline
import Derived.Handy
import Derived.Lib.Hide
import Derived.Deep.Light
import Derived.Laws.CopyOwn
namespace Go.Proofs.YtcjfafhbohkhlaaGreat.M
open Go Go.RowKit
set_option linter.unusedVariables false
set_option linter.unusedSimpArgs false
/-- The reference's memory: its struct in block g, its bytes in block b. -/
def RefAt (w : World) (g b : Nat) (bs : List Int) : Prop := Blk w g #[.slice (some ⟨b, 0, none⟩) bs.length bs.length] 62 ∧ Blk w b (bs.map (Value.int .u8)).toArray 5 ∧ Bytes bs ∧ bs.length ≤ 16777216
theorem RefAt.ne {w : World} {g b : Nat} {bs : List Int} (h : RefAt w g b bs) : g ≠ b := by
  rintro rfl
  have h1 := h.1
  have h2 := h.2.1
  unfold Blk at h1 h2
  rw [h1] at h2
  injection h2 with h2
  injection h2 with _ h3
  exact absurd h3 (by decide)
theorem RefAt.stored {w w' : World} {g b : Nat} {bs bs' : List Int} (h : RefAt w g b bs) (hl : bs'.length = bs.length) (hb : Bytes bs') (h2 : Blk w' b (bs'.map (Value.int .u8)).toArray 5) (hg : w.grownBy w' (some b)) : RefAt w' g b bs' :=
  ⟨by rw [hl]; exact (hg.block g h.1.lt (fun e => h.ne (by injection e))).trans h.1, h2, hb, by rw [hl]; exact h.2.2.2⟩
theorem RefAt.below {w w' : World} {g b : Nat} {bs : List Int} (h : RefAt w g b bs) (hb : Below w.heap.size w w') : RefAt w' g b bs := ⟨h.1.below hb, h.2.1.below hb, h.2.2⟩
theorem RefAt.far {w w' : World} {g b d : Nat} {bs : List Int} (h : RefAt w g b bs) (hg : w.grownBy w' (some d)) (h1 : g ≠ d) (h2 : b ≠ d) : RefAt w' g b bs :=
  ⟨(hg.block g h.1.lt (fun e => h1 (by injection e))).trans h.1, (hg.block b h.2.1.lt (fun e => h2 (by injection e))).trans h.2.1, h.2.2⟩
def NewRef (w : World) (bs : List Int) (e : Ending) (w' : World) : Prop := ∃ g b, e = .returned (.pointer (some ⟨g, 0, none⟩)) ∧ RefAt w' g b bs ∧ w.heap.size ≤ g ∧ w.heap.size ≤ b ∧ Below w.heap.size w w'
def faultE (L : Nat) (at_ n : Int) : Int := if (L : Int) < at_ ∨ (L : Int) - at_ < n then 50 else 0
theorem faultE_part {L : Nat} {at_ n : Int} (h : 0 ≤ n) : faultE L at_ n = partE L at_ n := by unfold faultE partE; rw [if_neg (show ¬ n < 0 by omega)]
set_option maxHeartbeats 1000000 in
theorem NewRef_ok (w : World) (n : Nat) (x : Int) (hx : x = n) (h : n ≤ 16777216) : Calls Tryz.prog 15 #[.int .i64 x] w (NewRef w (List.replicate n 0)) := by
  subst hx
  have hmk := make_u8 n (by omega)
  have hl : (List.replicate n (0 : Int)).length = n := by simp
  have hb := bytes_zero n
  generalize List.replicate n (0 : Int) = zs at *
  replace hl := Lib.hid hl
  replace hb := Lib.hid hb
  go_enter Tryz.func15, Tryz.ntmps15
  go_wp2
  go_ret
  refine ⟨w.heap.size + 1, w.heap.size, rfl, ⟨?_, ?_, hb.out, by rw [hl.out]; exact h⟩, by omega, by omega, by go_grown⟩
  · rw [hl.out]; exact new2b _ _ _ _ _
  · exact (Blk.new _ _ _).alloc _
set_option maxHeartbeats 1000000 in
theorem fault_any (w : World) (g b : Nat) (bs : List Int) (at_ n : Int) (h : RefAt w g b bs) (h0 : U64 at_) (hn : I64 n) : Calls Tryz.prog 22 #[.pointer (some ⟨g, 0, none⟩), .int .u64 at_, .int .i64 n] w fun e w' => e = .returned (.int .i64 (faultE bs.length at_ n)) ∧ w = w' := by
  have c := h.1.cell
  have hL := h.2.2.2
  clear h
  generalize bs.length = L at *
  unfold U64 at h0
  unfold I64 at hn
  unfold faultE
  by_cases c1 : (L : Int) < at_
  · rw [if_pos (.inl c1)]
    go_enter Tryz.func22, Tryz.ntmps22
    go_wp2
    go_ret
    exact ⟨rfl, rfl⟩
  · have d1 : decide ((L : Int) < at_) = false := decide_eq_false c1
    by_cases c2 : (L : Int) - at_ < n
    · rw [if_pos (.inr c2)]
      go_enter Tryz.func22, Tryz.ntmps22
      go_wp2
      go_ret
      exact ⟨rfl, rfl⟩
    · rw [if_neg (by omega)]
      have d2 : decide ((L : Int) - at_ < n) = false := decide_eq_false c2
      go_enter Tryz.func22, Tryz.ntmps22
      go_wp2
      go_ret
      exact ⟨rfl, rfl⟩
set_option maxHeartbeats 1000000 in
theorem Fault_any (w : World) (g b : Nat) (bs : List Int) (at_ n : Int) (h : RefAt w g b bs) (h0 : U64 at_) (hn : I64 n) : Calls Tryz.prog 45 #[.pointer (some ⟨g, 0, none⟩), .int .u64 at_, .int .i64 n] w fun e w' => e = .returned (.int .i64 (numE bs.length at_ n)) ∧ w = w' := by
  have H := Lib.hid (fault_any w g b bs at_ n h h0 hn)
  clear h
  generalize bs.length = L at *
  unfold U64 at h0
  unfold I64 at hn
  by_cases hm : n = 1 ∨ n = 2 ∨ n = 4 ∨ n = 8
  · have e : numE L at_ n = if at_ % n = 0 then faultE L at_ n else 51 := by unfold numE sizeB; rw [decide_eq_true hm, faultE_part (by omega)]; simp
    rw [e]
    by_cases ha : at_ % n = 0
    · rw [if_pos ha]
      generalize faultE L at_ n = E at *
      rcases hm with rfl | rfl | rfl | rfl
      all_goals (
        have ha := Lib.hid ha
        go_enter Tryz.func45, Tryz.ntmps45
        have ha := ha.out
        go_wp2_with (go_at_call 22; refine H.out.mono ?_; rintro e w' ⟨rfl, rfl⟩)
        go_ret
        exact ⟨rfl, rfl⟩)
    · rw [if_neg ha]
      clear H e
      rcases hm with rfl | rfl | rfl | rfl
      · omega
      all_goals (
        have ha := Lib.hid ha
        go_enter Tryz.func45, Tryz.ntmps45
        have ha := ha.out
        go_wp2
        go_ret
        exact ⟨rfl, rfl⟩)
  · have e : numE L at_ n = 2 := by unfold numE sizeB; rw [decide_eq_false hm]; simp
    rw [e]
    clear H e
    have d1 : (n != 1) = true := by simp; omega
    have d2 : (n != 2) = true := by simp; omega
    have d4 : (n != 4) = true := by simp; omega
    have d8 : (n != 8) = true := by simp; omega
    clear hm
    go_enter Tryz.func45, Tryz.ntmps45
    go_wp2
    go_ret
    exact ⟨rfl, rfl⟩
set_option maxHeartbeats 2000000 in
theorem StoreRef_ok (w : World) (g b : Nat) (bs : List Int) (k m : Nat) (n v : Int) (hv : U64 v) (hn : n = m) (h : RefAt w g b bs) (hE : numE bs.length k n = 0) : Calls Tryz.prog 18 #[.pointer (some ⟨g, 0, none⟩), .int .u64 k, .int .i64 n, .int .u64 v] w fun e w' => e = .returned (.int .i64 0) ∧ Blk w' b ((splice bs k (lowBytes v m)).map (Value.int .u8)).toArray 5 ∧ w.grownBy w' (some b) := by
  have hE' := numE_ok.1 hE
  have H := Fault_any w g b bs k n h ⟨by omega, by have := h.2.2.2; omega⟩ ⟨by omega, by omega⟩
  rw [hE] at H
  replace H := Lib.hid H
  obtain ⟨hm, ha, h1, h2⟩ := hE'
  clear ha hE
  have hgb := h.ne
  have hl := h.2.2.2
  have C := Lib.hid h.1
  have hgl := h.1.lt
  have B := Lib.hid h.2.1
  clear h
  have hmm : m ≤ 8 := by omega
  have hkm : k + m ≤ bs.length := by omega
  have hkl : k ≤ 16777216 := by omega
  have e3 : ∀ j, lowBytes v (j + 1) = lowBytes v j ++ [v / 2 ^ (8 * j) % 256] := lowBytes_succ v
  replace hm := Lib.hid hm
  subst hn
  unfold U64 at hv
  clear h1 h2
  go_enter Tryz.func18, Tryz.ntmps18
  go_wp2_with (go_at_call 45; refine H.out.mono ?_; rintro e w' ⟨rfl, rfl⟩)
  go_loopw [3, 10] (fun x i wr => ∃ j : Nat, j ≤ m ∧ i = .int .i64 j ∧ x = .int .u64 (v / 2 ^ (8 * j)) ∧ Hid (Blk wr b ((splice bs k (lowBytes v j)).map (Value.int .u8)).toArray 5) ∧ Hid (w.grownBy wr (some b))) (fun _ i _ => m - (intOf i).toNat)
  case atStart => exact ⟨0, by omega, rfl, by simp, Lib.hid (by rw [lowBytes, splice_nil]; exact B.out), Lib.hid (World.grownBy.refl _ _)⟩
  case round =>
    obtain ⟨j, hj, rfl, rfl, hB, hG⟩ := hrel
    by_cases hlt : j < m
    · have hsl : (splice bs k (lowBytes v j)).length = bs.length := length_splice _ _ _ (by rw [lowBytes_length]; omega)
      have c1 := hB.out.cell (k + j)
      rw [List.getElem?_toArray, List.getElem?_map, List.getElem?_eq_getElem (by rw [hsl]; omega), Option.map_some] at c1
      generalize (splice bs k (lowBytes v j))[k + j]'_ = old at c1
      have f1 := hB.out.frozen (k + j)
      have c0 := (show Blk wr g _ _ from (hG.out.block g hgl (fun e => hgb (by injection e))).trans C.out).cell
      have hs := hB.out.set (k + j) (.int .u8 (v / 2 ^ (8 * j) % 256))
      rw [List.setIfInBounds_toArray, ← List.map_set] at hs
      have e := splice_snoc bs k (lowBytes v j) (v / 2 ^ (8 * j) % 256) (by rw [lowBytes_length]; omega)
      rw [lowBytes_length, ← e3] at e
      rw [e] at hs
      replace hs := Lib.hid hs
      have hq : 0 ≤ v / 2 ^ (8 * j) ∧ v / 2 ^ (8 * j) ≤ 18446744073709551615 := ⟨Int.ediv_nonneg hv.1 (Int.le_of_lt (ipos _)), Int.le_trans (Int.ediv_le_self _ hv.1) hv.2⟩
      have hq2 := Lib.hid (show v / 2 ^ (8 * (j + 1)) = v / 2 ^ (8 * j) / 256 by rw [show (256 : Int) = 2 ^ 8 from rfl, ediv_pow]; congr 2)
      clear hsl e e3
      generalize v / 2 ^ (8 * j) = q at *
      go_wp2
      go_roundw
      case rel => exact ⟨j + 1, by omega, by go_num, by rw [hq2.out], hs, Lib.hid (grown_set hG.out _ _)⟩
      case measure => simp [intOf]; omega
    · obtain rfl : j = m := by omega
      go_wp2
      go_ret
      exact ⟨rfl, hB.out, hG.out⟩
set_option maxHeartbeats 2000000 in
theorem StoreRef_err (w : World) (g b : Nat) (bs : List Int) (at_ n v : Int) (h : RefAt w g b bs) (h0 : U64 at_) (hn : I64 n) (hE : numE bs.length at_ n ≠ 0) : Calls Tryz.prog 18 #[.pointer (some ⟨g, 0, none⟩), .int .u64 at_, .int .i64 n, .int .u64 v] w fun e w' => e = .returned (.int .i64 (numE bs.length at_ n)) ∧ w = w' := by
  have H := Lib.hid (Fault_any w g b bs at_ n h h0 hn)
  generalize numE bs.length at_ n = E at *
  have d0 : (E != 0) = true := by simpa using hE
  clear h h0 hn hE
  go_enter Tryz.func18, Tryz.ntmps18
  go_wp2_with (go_at_call 45; refine H.out.mono ?_; rintro e w' ⟨rfl, rfl⟩)
  go_ret
  exact ⟨rfl, rfl⟩
/-- The reference's Store, of any place and size: only the bytes' block turns. -/
theorem StoreRef_any (w : World) (g b : Nat) (bs : List Int) (at_ n v : Int) (h : RefAt w g b bs) (h0 : U64 at_) (hn : I64 n) (hv : U64 v) : Calls Tryz.prog 18 #[.pointer (some ⟨g, 0, none⟩), .int .u64 at_, .int .i64 n, .int .u64 v] w fun e w' => e = .returned (.int .i64 (numE bs.length at_ n)) ∧ RefAt w' g b (storeOf bs at_ n v) ∧ w.grownBy w' (some b) := by
  by_cases hE : numE bs.length at_ n = 0
  · obtain ⟨k, rfl⟩ : ∃ k : Nat, at_ = k := ⟨at_.toNat, by have := h0.1; omega⟩
    obtain ⟨m, hm⟩ : ∃ m : Nat, n = m := ⟨n.toNat, by have := numE_ok.1 hE; omega⟩
    refine (StoreRef_ok w g b bs k m n v hv hm h hE).mono ?_
    rintro e w' ⟨rfl, hB, hG⟩
    rw [hE]
    exact ⟨rfl, h.stored (storeOf_length _ _ _ _ (by omega)) (storeOf_bytes h.2.2.1) (by rw [storeOf_ok hm hE]; exact hB) hG, hG⟩
  · have e : storeOf bs at_ n v = bs := by unfold storeOf; rw [if_neg hE]
    rw [e]
    refine (StoreRef_err w g b bs at_ n v h h0 hn hE).mono ?_
    rintro e w' ⟨rfl, rfl⟩
    exact ⟨rfl, h, World.grownBy.refl _ _⟩
set_option maxHeartbeats 2000000 in
theorem LoadRef_ok (w : World) (g b : Nat) (bs : List Int) (k m : Nat) (n : Int) (hn : n = m) (h : RefAt w g b bs) (hE : numE bs.length k n = 0) : Calls Tryz.prog 31 #[.pointer (some ⟨g, 0, none⟩), .int .u64 k, .int .i64 n] w fun e w' => e = .returned (.tuple #[.int .u64 (leOf ((bs.drop k).take m)), .int .i64 0]) ∧ w = w' := by
  have hE' := numE_ok.1 hE
  have H := Fault_any w g b bs k n h ⟨by omega, by have := h.2.2.2; omega⟩ ⟨by omega, by omega⟩
  rw [hE] at H
  replace H := Lib.hid H
  obtain ⟨hm, ha, h1, h2⟩ := hE'
  clear ha hE
  have hb := h.2.2.1
  have hl := h.2.2.2
  have c0 := h.1.cell
  have cb := h.2.1.cell
  have hc : ∀ i, i < m → w.cell? ⟨b, k + i, none⟩ = some (.int .u8 (((bs.drop k).take m).getD i 0)) := by
    intro i hi
    rw [cb, List.getElem?_toArray, List.getElem?_map, List.getElem?_eq_getElem (show k + i < bs.length by omega), Option.map_some, List.getD_eq_getElem?_getD, List.getElem?_take_of_lt hi, List.getElem?_drop, List.getElem?_eq_getElem (show k + i < bs.length by omega)]
    rfl
  have hr : ∀ x ∈ (bs.drop k).take m, 0 ≤ x ∧ x < 256 := fun x hx => hb x (List.mem_of_mem_drop (List.mem_of_mem_take hx))
  have hlen : ((bs.drop k).take m).length = m := by simp; omega
  clear cb hb h
  have hkm : k + m ≤ bs.length := by omega
  generalize (bs.drop k).take m = l at *
  generalize bs.length = L at *
  have hmm : m ≤ 8 := by omega
  clear h1 h2
  subst hn
  replace hlen := Lib.hid hlen
  replace hc := Lib.hid hc
  replace hr := Lib.hid hr
  replace hm := Lib.hid hm
  go_enter Tryz.func31, Tryz.ntmps31
  go_wp2_with (go_at_call 45; refine H.out.mono ?_; rintro e w' ⟨rfl, rfl⟩)
  go_loop [9, 10] (fun v i => ∃ j : Nat, j ≤ m ∧ i = .int .i64 ((j : Int) - 1) ∧ v = .int .u64 (leOf (l.drop j))) (fun _ i => (intOf i + 1).toNat)
  case atStart => exact ⟨m, Nat.le_refl _, by go_num, by rw [List.drop_of_length_le (by rw [hlen.out]; exact Nat.le_refl _)]; rfl⟩
  case round =>
    obtain ⟨j, hj, rfl, rfl⟩ := hrel
    cases j with
    | zero =>
      go_wp2
      go_ret2
      exact ⟨rfl, rfl⟩
    | succ j =>
      rw [show (((j + 1 : Nat) : Int) - 1) = (j : Int) by omega]
      have c1 := hc.out j (by omega)
      have hx : 0 ≤ l.getD j 0 ∧ l.getD j 0 < 256 := hr.out _ (by rw [List.getD_eq_getElem?_getD, List.getElem?_eq_getElem (by rw [hlen.out]; omega)]; exact List.getElem_mem _)
      have hs : leOf (l.drop j) = l.getD j 0 + 256 * leOf (l.drop (j + 1)) := by
        rw [List.drop_eq_getElem_cons (show j < l.length by rw [hlen.out]; omega), leOf, List.getD_eq_getElem?_getD, List.getElem?_eq_getElem (show j < l.length by rw [hlen.out]; omega)]
        rfl
      have hv := leOf_range (l.drop j) (fun x hx' => hr.out x (List.mem_of_mem_drop hx'))
      have hv1 := leOf_range (l.drop (j + 1)) (fun x hx' => hr.out x (List.mem_of_mem_drop hx'))
      have h2 := ipow_le (8 * (l.drop j).length) 64 (by rw [List.length_drop, hlen.out]; omega)
      have e64 : (2 : Int) ^ 64 = 18446744073709551616 := rfl
      have hs2 : leOf (l.drop j) = 256 * leOf (l.drop (j + 1)) + l.getD j 0 := by omega
      have hlt : 256 * leOf (l.drop (j + 1)) + l.getD j 0 < 18446744073709551616 := by omega
      have hge : 0 ≤ leOf (l.drop (j + 1)) := hv1.1
      clear hs hv hv1 h2 e64
      generalize leOf (l.drop (j + 1)) = y at *
      generalize l.getD j 0 = x at *
      replace hs2 := Lib.hid hs2
      go_wp2
      go_round
      case rel => exact ⟨j, by omega, by go_num, by rw [hs2.out]⟩
      case measure => simp [intOf]
set_option maxHeartbeats 2000000 in
theorem LoadRef_err (w : World) (g b : Nat) (bs : List Int) (at_ n : Int) (h : RefAt w g b bs) (h0 : U64 at_) (hn : I64 n) (hE : numE bs.length at_ n ≠ 0) : Calls Tryz.prog 31 #[.pointer (some ⟨g, 0, none⟩), .int .u64 at_, .int .i64 n] w fun e w' => e = .returned (.tuple #[.int .u64 0, .int .i64 (numE bs.length at_ n)]) ∧ w = w' := by
  have H := Lib.hid (Fault_any w g b bs at_ n h h0 hn)
  generalize numE bs.length at_ n = E at *
  have d0 : (E != 0) = true := by simpa using hE
  clear h h0 hn hE
  go_enter Tryz.func31, Tryz.ntmps31
  go_wp2_with (go_at_call 45; refine H.out.mono ?_; rintro e w' ⟨rfl, rfl⟩)
  go_ret2
  exact ⟨rfl, rfl⟩
/-- The reference's Load, of any place and size. -/
theorem LoadRef_any (w : World) (g b : Nat) (bs : List Int) (at_ n : Int) (h : RefAt w g b bs) (h0 : U64 at_) (hn : I64 n) : Calls Tryz.prog 31 #[.pointer (some ⟨g, 0, none⟩), .int .u64 at_, .int .i64 n] w fun e w' => e = .returned (.tuple #[.int .u64 (loadOf bs at_ n), .int .i64 (numE bs.length at_ n)]) ∧ w = w' := by
  by_cases hE : numE bs.length at_ n = 0
  · obtain ⟨k, rfl⟩ : ∃ k : Nat, at_ = k := ⟨at_.toNat, by have := h0.1; omega⟩
    obtain ⟨m, hm⟩ : ∃ m : Nat, n = m := ⟨n.toNat, by have := numE_ok.1 hE; omega⟩
    rw [hE, loadOf_ok hm hE]
    exact LoadRef_ok w g b bs k m n hm h hE
  · have e : loadOf bs at_ n = 0 := by unfold loadOf; rw [if_neg hE]
    rw [e]
    exact LoadRef_err w g b bs at_ n h h0 hn hE
set_option maxHeartbeats 2000000 in
theorem PutRef_err (w : World) (g b : Nat) (bs : List Int) (at_ : Int) (n c : Nat) (A : Option Addr) (h : RefAt w g b bs) (h0 : U64 at_) (hn : n ≤ 9223372036854775807) (hE : partE bs.length at_ n ≠ 0) : Calls Tryz.prog 11 #[.pointer (some ⟨g, 0, none⟩), .int .u64 at_, .slice A n c] w fun e w' => e = .returned (.int .i64 (partE bs.length at_ n)) ∧ w = w' := by
  have H := fault_any w g b bs at_ n h h0 ⟨by omega, by omega⟩
  rw [faultE_part (by omega)] at H
  replace H := Lib.hid H
  generalize partE bs.length at_ n = E at *
  have d0 : (E != 0) = true := by simpa using hE
  clear h h0 hE
  go_enter Tryz.func11, Tryz.ntmps11
  go_wp2_with (go_at_call 22; refine H.out.mono ?_; rintro e w' ⟨rfl, rfl⟩)
  go_ret
  exact ⟨rfl, rfl⟩
end Go.Proofs.YtcjfafhbohkhlaaGreat.M
