/- DERIVED. Each call of a memory that New or Clone made returns, and leaves, what plain lists of bytes say. -/
import Derived.Test.YtcjfafhbohkhlaaGreatProg
import Derived.Test.YtcjfafhbohkhlaaGreatMMem
import Derived.Below
import Derived.Deep.Draws
import Derived.Deep.AppendLies
import Derived.Maps.AppendAt
import Derived.OwnWalk
import Derived.Laws.BytesArg
import Derived.Laws.MakeOwn
import Derived.Laws.OwnMore
import Derived.Deep.OwnRows
import Derived.Tactics
import Derived.Lib.ConvBytes
import Derived.Laws.Slices
import Derived.WalkKit
import Derived.KernelRfl
import Derived.RowKit3
import Derived.Deep.LoopGhost
import Derived.Deep.QuietTactic
import Derived.BigQuiet
import Derived.WideLaws
import Derived.Deep.DeepCutAuto
import Derived.Deep.CutBlock
import Derived.Deep.RegionHeld3
import Derived.Laws.Rows
import Derived.Lib.AppendStr
import Derived.ArgAppend
import Derived.Laws.IdiomCopy
import Derived.OrdersHeld
import Derived.Laws.BitsLemmas
import Derived.Laws.Bits64
import Derived.RowKit
import Derived.Outline
import Derived.Handy
import Derived.Lib.Hide
import Derived.Deep.Light
import Derived.Laws.CopyOwn
namespace Go.Proofs.YtcjfafhbohkhlaaGreat.M
open Go Go.RowKit
set_option linter.unusedVariables false
set_option linter.unusedSimpArgs false
theorem u8_size : (Tryz.prog.info? 5).map (·.size) = some 1 := by kernel_rfl
/-- A memory that New or Clone made: its struct in block g, its bytes in block b. -/
def MemAt (w : World) (g b : Nat) (bs : List Int) : Prop := Blk w g #[.slice (some ⟨b, 0, none⟩) bs.length bs.length, .bool true] 84 ∧ Blk w b (bs.map (Value.int .u8)).toArray 5 ∧ Bytes bs ∧ bs.length ≤ 16777216
def PartOk (b L k m : Nat) (w : World) (e : Ending) (w' : World) : Prop := ∃ o c : Nat, (m = 0 ∨ o = k) ∧ m ≤ c ∧ o + m ≤ L ∧ e = .returned (.tuple #[.slice (some ⟨b, o, none⟩) m c, .int .i64 0]) ∧ w = w'
theorem MemAt.ne {w : World} {g b : Nat} {bs : List Int} (h : MemAt w g b bs) : g ≠ b := by
  rintro rfl
  have h1 := h.1
  have h2 := h.2.1
  unfold Blk at h1 h2
  rw [h1] at h2
  injection h2 with h2
  injection h2 with _ h3
  exact absurd h3 (by decide)
theorem grown_set {w wr : World} {b : Nat} (h : w.grownBy wr (some b)) (i : Nat) (u : Value) : w.grownBy (wr.setCell ⟨b, i, none⟩ u) (some b) :=
  ⟨h.os, h.tape, h.output, by simpa [World.setCell] using h.size, fun j hj hne => (Below.heap_setCell wr ⟨b, i, none⟩ u j (fun e => hne (by rw [e]))).trans (h.block j hj hne)⟩
theorem MemAt.stored {w w' : World} {g b : Nat} {bs bs' : List Int} (h : MemAt w g b bs) (hl : bs'.length = bs.length) (hb : Bytes bs') (h2 : Blk w' b (bs'.map (Value.int .u8)).toArray 5) (hg : w.grownBy w' (some b)) : MemAt w' g b bs' :=
  ⟨by rw [hl]; exact (hg.block g h.1.lt (fun e => h.ne (by injection e))).trans h.1, h2, hb, by rw [hl]; exact h.2.2.2⟩
theorem u8_info : (Tryz.prog.info? 5).map (fun i => (i.zero, i.size, i.bytes)) = some (some (.int .u8 0), 1, 1) := by kernel_rfl
theorem make_u8 (n : Nat) (h : n ≤ 281474976710656) (W : World) : (Instr.makeSlice 41 (.int .i64 (n : Int)) (.int .i64 (n : Int))).run Tryz.prog W = .ok (.slice (some ⟨W.heap.size, 0, none⟩) n n) (W.alloc (.cells ((List.replicate n (0 : Int)).map (Value.int .u8)).toArray 5)) := by
  obtain ⟨i, hi, hz0, hz1, hz2⟩ := info_parts u8_info
  have := run_make (P := Tryz.prog) W 41 5 i _ Tryz.underlying41 hi hz0 .i64 .i64 n n (by omega) (Int.le_refl _) (by rw [hz2]; omega) (by omega)
  have e : madeCells (Value.cells (.int .u8 0)) n = ((List.replicate n (0 : Int)).map (Value.int .u8)).toArray := by
    apply Array.ext'
    rw [show (Value.cells (Value.int .u8 0)) = #[.int .u8 0] from rfl, toList_madeCells_one, List.map_replicate]
  rw [this, hz1, Int.toNat_natCast, Nat.mul_one, e]
theorem bytes_zero (n : Nat) : Bytes (List.replicate n 0) := fun x hx => by rw [List.eq_of_mem_replicate hx]; omega
/-- A new memory, in two blocks of its own. -/
def NewPost (w : World) (bs : List Int) (e : Ending) (w' : World) : Prop := ∃ g b, e = .returned (.pointer (some ⟨g, 0, none⟩)) ∧ MemAt w' g b bs ∧ w.heap.size ≤ g ∧ w.heap.size ≤ b ∧ Below w.heap.size w w'
theorem grown_setRow (w : World) (g : Nat) (cs : Array Value) : w.grownBy (w.setRow g cs) (some g) := ⟨rfl, rfl, rfl, by simp [World.setRow], fun k hk hne => setRow_other w g k cs (fun e => hne (by rw [e]))⟩
/-- Bytes in a slice of the call's own. -/
def BytesPost (w : World) (l : List Int) (E : Int) (e : Ending) (w' : World) : Prop := ∃ A c, e = .returned (.tuple #[.slice A l.length c, .int .i64 E]) ∧ w'.ownsRow w.heap.size 5 1 (.slice A l.length c) l.length (l.map (Value.int .u8)) ∧ Below w.heap.size w w'
theorem own_shape {w : World} {B T n : Nat} {v : Value} {xs : List Value} (h : w.ownsRow B T 1 v n xs) : ∃ A c, v = .slice A n c := by
  rcases h.2 with ⟨rfl, rfl⟩ | ⟨g, cap, cur, rfl, _⟩
  · exact ⟨none, 0, rfl⟩
  · exact ⟨_, _, rfl⟩
theorem own_cells {w : World} {B n : Nat} {v : Value} {l : List Int} (h : w.ownsRow B 5 1 v n (l.map (Value.int .u8))) (hn : 0 < n) : ∃ q c, v = .slice (some ⟨q, 0, none⟩) n c ∧ B ≤ q ∧ q < w.heap.size ∧ ∀ j, j < n → w.cell? ⟨q, j, none⟩ = some (.int .u8 (l.getD j 0)) := by
  obtain ⟨q, c, hv, hB, hq⟩ := h.form hn
  refine ⟨q, c, hv, hB, hq, fun j hj => ?_⟩
  have hl := h.1
  rw [List.length_map] at hl
  have := h.cells (g := q) (by rw [hv]; rfl) j (.int .u8 (l.getD j 0)) (by rw [List.getElem?_map, List.getD_eq_getElem?_getD, List.getElem?_eq_getElem (show j < l.length by omega)]; rfl)
  rwa [show (⟨q, 0, none⟩ : Addr).add j = ⟨q, j, none⟩ from by rw [add_zero]; simp] at this
/-- All bytes, in a slice of the call's own; there is one at least. -/
def AllPost (w : World) (bs : List Int) (e : Ending) (w' : World) : Prop := ∃ q c, e = .returned (.tuple #[.slice (some ⟨q, 0, none⟩) bs.length c, .int .i64 0]) ∧ w.heap.size ≤ q ∧ q < w'.heap.size ∧ (∀ j, j < bs.length → w'.cell? ⟨q, j, none⟩ = some (.int .u8 (bs.getD j 0))) ∧ Below w.heap.size w w'
theorem below_grown {B b : Nat} {a w w' : World} (h : Below B a w) (hg : w.grownBy w' (some b)) (hb : B ≤ b) (hB : B ≤ w.heap.size) : Below B a w' := h.grown hg hB (fun k hk => by injection hk with hk; omega)
theorem cells_far {w w' : World} {b q n : Nat} {l : List Int} (h : ∀ j, j < n → w.cell? ⟨q, j, none⟩ = some (.int .u8 (l.getD j 0))) (hg : w.grownBy w' (some b)) (hq : q < w.heap.size) (hne : q ≠ b) : ∀ j, j < n → w'.cell? ⟨q, j, none⟩ = some (.int .u8 (l.getD j 0)) := fun j hj => (World.cell?_of_block (a := ⟨q, j, none⟩) (hg.block q hq (fun e => hne (by injection e)))).trans (h j hj)
theorem cells_below {w w' : World} {q n : Nat} {l : List Int} (h : ∀ j, j < n → w.cell? ⟨q, j, none⟩ = some (.int .u8 (l.getD j 0))) (hb : Below w.heap.size w w') (hq : q < w.heap.size) : ∀ j, j < n → w'.cell? ⟨q, j, none⟩ = some (.int .u8 (l.getD j 0)) := fun j hj => (hb.cell (p := ⟨q, j, none⟩) hq).trans (h j hj)
theorem MemAt.below {w w' : World} {g b : Nat} {bs : List Int} (h : MemAt w g b bs) (hb : Below w.heap.size w w') : MemAt w' g b bs := ⟨h.1.below hb, h.2.1.below hb, h.2.2⟩
/-- Bytes in a slice of the call's own, behind block B. -/
def SrcFrom (w : World) (B : Nat) (A : Option Addr) (l : List Int) : Prop := l ≠ [] → ∃ ad, A = some ad ∧ B ≤ ad.block ∧ ad.block < w.heap.size ∧ ∀ j x, l[j]? = some x → w.cell? (ad.add j) = some (.int .u8 x)
theorem SrcFrom.src {w : World} {B : Nat} {A : Option Addr} {l : List Int} (h : SrcFrom w B A l) : Src w A l := fun hn => by obtain ⟨ad, e, _, h2, h3⟩ := h hn; exact ⟨ad, e, h2, h3⟩
theorem SrcFrom.below {w w' : World} {B : Nat} {A : Option Addr} {l : List Int} (h : SrcFrom w B A l) (hb : Below w.heap.size w w') : SrcFrom w' B A l := fun hn => by
  obtain ⟨ad, e, h1, h2, h3⟩ := h hn
  exact ⟨ad, e, h1, Nat.lt_of_lt_of_le h2 hb.size, fun j x hx => (hb.cell (p := ad.add j) (by rw [block_add]; exact h2)).trans (h3 j x hx)⟩
theorem SrcFrom.far {w w' : World} {B b : Nat} {A : Option Addr} {l : List Int} (h : SrcFrom w B A l) (hg : w.grownBy w' (some b)) (hb : b < B) : SrcFrom w' B A l := fun hn => by
  obtain ⟨ad, e, h1, h2, h3⟩ := h hn
  exact ⟨ad, e, h1, Nat.lt_of_lt_of_le h2 hg.size, fun j x hx => (World.cell?_of_block (a := ad.add j) (hg.block _ (by rw [block_add]; exact h2) (fun e => by injection e with e; rw [block_add] at e; omega))).trans (h3 j x hx)⟩
theorem own_src {w : World} {B n c : Nat} {A : Option Addr} {l : List Int} (h : w.ownsRow B 5 1 (.slice A n c) n (l.map (Value.int .u8))) : SrcFrom w B A l := by
  intro hne
  have hl := h.1
  rw [List.length_map] at hl
  obtain ⟨q, c', hv, hB, hq⟩ := h.form (by have := List.length_pos_iff.2 hne; omega)
  injection hv with hv
  subst hv
  refine ⟨_, rfl, hB, hq, fun j x hx => ?_⟩
  exact h.cells (g := q) rfl j (.int .u8 x) (by rw [List.getElem?_map, hx]; rfl)
/-- All bytes, in a slice of the call's own. -/
def AllPost0 (w : World) (bs : List Int) (e : Ending) (w' : World) : Prop := ∃ A c, e = .returned (.tuple #[.slice A bs.length c, .int .i64 0]) ∧ SrcFrom w' w.heap.size A bs ∧ Below w.heap.size w w'
theorem MemAt.far {w w' : World} {g b d : Nat} {bs : List Int} (h : MemAt w g b bs) (hg : w.grownBy w' (some d)) (h1 : g ≠ d) (h2 : b ≠ d) : MemAt w' g b bs :=
  ⟨(hg.block g h.1.lt (fun e => h1 (by injection e))).trans h.1, (hg.block b h.2.1.lt (fun e => h2 (by injection e))).trans h.2.1, h.2.2⟩
theorem readOf_all (bs : List Int) : readOf bs 0 bs.length = bs := by
  unfold readOf
  rw [if_pos (partE_ok.2 ⟨by omega, by omega, by omega⟩)]
  unfold segOf; simp
set_option maxHeartbeats 1000000 in
theorem part_ok (w : World) (g b : Nat) (bs : List Int) (k m : Nat) (h : MemAt w g b bs) (h1 : k + m ≤ bs.length) : Calls Tryz.prog 21 #[.pointer (some ⟨g, 0, none⟩), .int .u64 k, .int .i64 m] w (PartOk b bs.length k m w) := by
  have c := h.1.cell
  have hL := h.2.2.2
  clear h
  generalize bs.length = L at *
  have d1 : decide ((m : Int) < 0) = false := decide_eq_false (by omega)
  have d2 : decide ((L : Int) < k) = false := decide_eq_false (by omega)
  go_enter Tryz.func21, Tryz.ntmps21
  go_wp2
  · go_ret2
    exact ⟨0, 0, .inl (by omega), by omega, by omega, rfl, rfl⟩
  · go_ret2
    exact ⟨k, L - k, .inr rfl, by omega, by omega, rfl, rfl⟩
set_option maxHeartbeats 1000000 in
theorem part_err (w : World) (g b : Nat) (bs : List Int) (at_ n : Int) (h : MemAt w g b bs) (h0 : U64 at_) (hn : I64 n) (hE : partE bs.length at_ n ≠ 0) : Calls Tryz.prog 21 #[.pointer (some ⟨g, 0, none⟩), .int .u64 at_, .int .i64 n] w fun e w' => e = .returned (.tuple #[.slice none 0 0, .int .i64 (partE bs.length at_ n)]) ∧ w = w' := by
  have c := h.1.cell
  have hL := h.2.2.2
  clear h
  generalize bs.length = L at *
  unfold U64 at h0
  unfold I64 at hn
  by_cases c1 : n < 0
  · have e : partE L at_ n = 2 := by unfold partE; rw [if_pos c1]
    rw [e]
    clear e hE
    go_enter Tryz.func21, Tryz.ntmps21
    go_wp2
    go_ret2
    exact ⟨rfl, rfl⟩
  · have c1' : 0 ≤ n := by omega
    have d1 : decide (n < 0) = false := decide_eq_false (by omega)
    have e : partE L at_ n = 50 := by
      unfold partE at *
      rw [if_neg c1] at *
      split at * <;> simp_all
    have hE' : (L : Int) < at_ ∨ at_ ≤ L ∧ (L : Int) - at_ < n := by
      have := partE_ok (L := L) (at_ := at_) (n := n)
      omega
    rw [e]
    clear e hE c1
    rcases hE' with hE' | ⟨h1, h2⟩
    · go_enter Tryz.func21, Tryz.ntmps21
      go_wp2
      go_ret2
      exact ⟨rfl, rfl⟩
    · have d2 : decide ((L : Int) < at_) = false := decide_eq_false (by omega)
      go_enter Tryz.func21, Tryz.ntmps21
      go_wp2
      go_ret2
      exact ⟨rfl, rfl⟩
theorem part_lit (w : World) (g b : Nat) (bs : List Int) (k m : Nat) (n : Int) (hn : n = m) (h : MemAt w g b bs) (h1 : k + m ≤ bs.length) : Calls Tryz.prog 21 #[.pointer (some ⟨g, 0, none⟩), .int .u64 k, .int .i64 n] w (PartOk b bs.length k m w) := hn ▸ part_ok w g b bs k m h h1
set_option maxHeartbeats 1000000 in
theorem number_ok (w : World) (g b : Nat) (bs : List Int) (k m : Nat) (n : Int) (hn : n = m) (h : MemAt w g b bs) (hE : numE bs.length k n = 0) : Calls Tryz.prog 44 #[.pointer (some ⟨g, 0, none⟩), .int .u64 k, .int .i64 n] w (PartOk b bs.length k m w) := by
  have c := h.1.cell
  have H := Lib.hid (fun hh => part_lit w g b bs k m n hn h hh)
  have hL := h.2.2.2
  rw [numE_ok] at hE
  obtain ⟨hm, ha, h1, h2⟩ := hE
  clear h
  generalize bs.length = L at *
  rcases hm with rfl | rfl | rfl | rfl
  all_goals (
    have H1 := Lib.hid (H.out (by omega))
    clear H
    replace ha := Lib.hid ha
    obtain rfl := (Int.ofNat.inj hn)
    clear hn
    go_enter Tryz.func44, Tryz.ntmps44
    have ha := ha.out
    go_wp2_with (first | (go_at_call 21; refine H1.out.mono ?_; rintro e w' ⟨o, c, p1, p2, p3, rfl, rfl⟩) | go_in)
    go_ret2
    exact ⟨o, c, p1, p2, p3, rfl, rfl⟩)
set_option maxHeartbeats 1000000 in
theorem number_err (w : World) (g b : Nat) (bs : List Int) (at_ n : Int) (h : MemAt w g b bs) (h0 : U64 at_) (hn : I64 n) (hE : numE bs.length at_ n ≠ 0) : Calls Tryz.prog 44 #[.pointer (some ⟨g, 0, none⟩), .int .u64 at_, .int .i64 n] w fun e w' => e = .returned (.tuple #[.slice none 0 0, .int .i64 (numE bs.length at_ n)]) ∧ w = w' := by
  have c := h.1.cell
  have H := Lib.hid (fun hh => part_err w g b bs at_ n h h0 hn hh)
  have hL := h.2.2.2
  clear h
  generalize bs.length = L at *
  unfold U64 at h0
  unfold I64 at hn
  by_cases hm : n = 1 ∨ n = 2 ∨ n = 4 ∨ n = 8
  · by_cases ha : at_ % n = 0
    · have e : numE L at_ n = partE L at_ n := by unfold numE sizeB; rw [decide_eq_true hm, if_pos ha]; simp
      rw [e] at hE ⊢
      have H1 := Lib.hid (H.out hE)
      clear H e hE
      generalize partE L at_ n = E at *
      rcases hm with rfl | rfl | rfl | rfl
      all_goals (
        replace ha := Lib.hid ha
        go_enter Tryz.func44, Tryz.ntmps44
        have ha := ha.out
        go_wp2_with (first | (go_at_call 21; refine H1.out.mono ?_; rintro e w' ⟨rfl, rfl⟩) | go_in)
        go_ret2
        exact ⟨rfl, rfl⟩)
    · have e : numE L at_ n = 51 := by unfold numE sizeB; rw [decide_eq_true hm, if_neg ha]; simp
      rw [e]
      clear H e hE
      rcases hm with rfl | rfl | rfl | rfl
      · omega
      all_goals (
        replace ha := Lib.hid ha
        go_enter Tryz.func44, Tryz.ntmps44
        have ha := ha.out
        go_wp2_with go_in
        go_ret2
        exact ⟨rfl, rfl⟩)
  · have e : numE L at_ n = 2 := by unfold numE sizeB; rw [decide_eq_false hm]; simp
    rw [e]
    clear H e hE
    have d1 : (n != 1) = true := by simp; omega
    have d2 : (n != 2) = true := by simp; omega
    have d4 : (n != 4) = true := by simp; omega
    have d8 : (n != 8) = true := by simp; omega
    clear hm
    go_enter Tryz.func44, Tryz.ntmps44
    go_wp2_with go_in
    go_ret2
    exact ⟨rfl, rfl⟩
set_option maxHeartbeats 2000000 in
theorem Load_ok (w : World) (g b : Nat) (bs : List Int) (k m : Nat) (n : Int) (hn : n = m) (h : MemAt w g b bs) (hE : numE bs.length k n = 0) : Calls Tryz.prog 23 #[.pointer (some ⟨g, 0, none⟩), .int .u64 k, .int .i64 n] w fun e w' => e = .returned (.tuple #[.int .u64 (leOf ((bs.drop k).take m)), .int .i64 0]) ∧ w = w' := by
  have H := Lib.hid (number_ok w g b bs k m n hn h hE)
  rw [numE_ok] at hE
  obtain ⟨hm, ha, h1, h2⟩ := hE
  clear ha
  have hb := h.2.2.1
  have hl := h.2.2.2
  have cb := h.2.1.cell
  have hc : ∀ i, i < m → w.cell? ⟨b, k + i, none⟩ = some (.int .u8 (((bs.drop k).take m).getD i 0)) := by
    intro i hi
    rw [cb, List.getElem?_toArray, List.getElem?_map, List.getElem?_eq_getElem (show k + i < bs.length by omega), Option.map_some, List.getD_eq_getElem?_getD, List.getElem?_take_of_lt hi, List.getElem?_drop, List.getElem?_eq_getElem (show k + i < bs.length by omega)]
    rfl
  have hr : ∀ x ∈ (bs.drop k).take m, 0 ≤ x ∧ x < 256 := fun x hx => hb x (List.mem_of_mem_drop (List.mem_of_mem_take hx))
  have hlen : ((bs.drop k).take m).length = m := by simp; omega
  clear cb hb h
  generalize (bs.drop k).take m = l at *
  generalize bs.length = L at *
  have hmm : m ≤ 8 := by omega
  replace hlen := Lib.hid hlen
  replace hc := Lib.hid hc
  replace hr := Lib.hid hr
  replace hn := Lib.hid hn
  replace hm := Lib.hid hm
  go_enter Tryz.func23, Tryz.ntmps23
  go_wp2_with (go_at_call 44; refine H.out.mono ?_; rintro e w' ⟨o, c, p1, p2, p3, rfl, rfl⟩)
  go_loop [6, 9, 19] (fun v x i => ∃ j : Nat, j ≤ m ∧ i = .int .i64 j ∧ v = .int .u64 (leOf (l.take j))) (fun _ _ i => m - (intOf i).toNat)
  case atStart => exact ⟨0, by omega, rfl, by simp [leOf]⟩
  case round =>
    obtain ⟨j, hj, rfl, rfl⟩ := hrel
    by_cases hlt : j < m
    · have ho : o = k := by omega
      subst ho
      have c1 := hc.out j hlt
      have hx : 0 ≤ l.getD j 0 ∧ l.getD j 0 < 256 := hr.out _ (by rw [List.getD_eq_getElem?_getD, List.getElem?_eq_getElem (by rw [hlen.out]; exact hlt)]; exact List.getElem_mem _)
      have hs : leOf (l.take (j + 1)) = leOf (l.take j) + l.getD j 0 * 2 ^ (8 * j) := by
        rw [← take_concat_getD l j (by rw [hlen.out]; exact hlt), leOf_snoc, List.length_take, hlen.out, show min j m = j by omega]
      have ho2 : Go.bits .or .u64 (leOf (l.take j)) (IntKind.u64.wrap (l.getD j 0 * 2 ^ (8 * j))) = leOf (l.take (j + 1)) := by
        rw [hs]
        have := leOf_range (l.take j) (fun x hx' => hr.out x (List.mem_of_mem_take hx'))
        rw [List.length_take, hlen.out, show min j m = j by omega] at this
        exact or_byte _ _ _ (by omega) this hx
      go_wp2
      go_round
      case rel => exact ⟨j + 1, by omega, by go_num, by rw [← ho2, ← List.getD_eq_getElem?_getD, show IntKind.u64.wrap (l.getD j 0) = l.getD j 0 from by rw [u64w]; omega]⟩
      case measure => simp [intOf]; omega
    · obtain rfl : j = m := by omega
      go_wp2
      go_ret2
      refine ⟨?_, rfl⟩
      have e : List.take j l = l := List.take_of_length_le (by rw [hlen.out]; exact Nat.le_refl _)
      rw [e]
      rfl
theorem loadOf_ok {bs : List Int} {k m : Nat} {n : Int} (hn : n = m) (hE : numE bs.length k n = 0) : loadOf bs k n = leOf ((bs.drop k).take m) := by
  unfold loadOf segOf; rw [if_pos hE, hn]; rfl
set_option maxHeartbeats 2000000 in
theorem Load_err (w : World) (g b : Nat) (bs : List Int) (at_ n : Int) (h : MemAt w g b bs) (h0 : U64 at_) (hn : I64 n) (hE : numE bs.length at_ n ≠ 0) : Calls Tryz.prog 23 #[.pointer (some ⟨g, 0, none⟩), .int .u64 at_, .int .i64 n] w fun e w' => e = .returned (.tuple #[.int .u64 0, .int .i64 (numE bs.length at_ n)]) ∧ w = w' := by
  have H := Lib.hid (number_err w g b bs at_ n h h0 hn hE)
  generalize numE bs.length at_ n = E at *
  clear h h0 hn hE
  go_enter Tryz.func23, Tryz.ntmps23
  go_wp2_with (go_at_call 44; refine H.out.mono ?_; rintro e w' ⟨rfl, rfl⟩)
  go_rounds 1
  go_ret2
  exact ⟨rfl, rfl⟩
/-- Load, of any place and size. -/
theorem Load_any (w : World) (g b : Nat) (bs : List Int) (at_ n : Int) (h : MemAt w g b bs) (h0 : U64 at_) (hn : I64 n) : Calls Tryz.prog 23 #[.pointer (some ⟨g, 0, none⟩), .int .u64 at_, .int .i64 n] w fun e w' => e = .returned (.tuple #[.int .u64 (loadOf bs at_ n), .int .i64 (numE bs.length at_ n)]) ∧ w = w' := by
  by_cases hE : numE bs.length at_ n = 0
  · obtain ⟨k, rfl⟩ : ∃ k : Nat, at_ = k := ⟨at_.toNat, by have := h0.1; omega⟩
    obtain ⟨m, hm⟩ : ∃ m : Nat, n = m := ⟨n.toNat, by have := numE_ok.1 hE; omega⟩
    rw [hE, loadOf_ok hm hE]
    exact Load_ok w g b bs k m n hm h hE
  · have e : loadOf bs at_ n = 0 := by unfold loadOf; rw [if_neg hE]
    rw [e]
    exact Load_err w g b bs at_ n h h0 hn hE
set_option maxHeartbeats 2000000 in
theorem Store_ok (w : World) (g b : Nat) (bs : List Int) (k m : Nat) (n v : Int) (hv : U64 v) (hn : n = m) (h : MemAt w g b bs) (hE : numE bs.length k n = 0) : Calls Tryz.prog 17 #[.pointer (some ⟨g, 0, none⟩), .int .u64 k, .int .i64 n, .int .u64 v] w fun e w' => e = .returned (.int .i64 0) ∧ Blk w' b ((splice bs k (lowBytes v m)).map (Value.int .u8)).toArray 5 ∧ w.grownBy w' (some b) := by
  have H := Lib.hid (number_ok w g b bs k m n hn h hE)
  rw [numE_ok] at hE
  obtain ⟨hm, ha, h1, h2⟩ := hE
  clear ha
  have hl := h.2.2.2
  have B := Lib.hid h.2.1
  clear h
  have hmm : m ≤ 8 := by omega
  have hkm : k + m ≤ bs.length := by omega
  have hkl : k ≤ 16777216 := by omega
  replace hkm := Lib.hid hkm
  replace hn := Lib.hid hn
  replace hm := Lib.hid hm
  unfold U64 at hv
  clear h1 h2 hl
  go_enter Tryz.func17, Tryz.ntmps17
  go_wp2_with (go_at_call 44; refine H.out.mono ?_; rintro e w' ⟨o, c, p1, p2, p3, rfl, rfl⟩)
  clear p3
  go_loopw [11, 21] (fun x i wr => ∃ j : Nat, j ≤ m ∧ i = .int .i64 j ∧ Hid (Blk wr b ((splice bs k (lowBytes v j)).map (Value.int .u8)).toArray 5) ∧ Hid (w.grownBy wr (some b))) (fun _ i _ => m - (intOf i).toNat)
  case atStart => exact ⟨0, by omega, rfl, Lib.hid (by rw [lowBytes, splice_nil]; exact B.out), Lib.hid (World.grownBy.refl _ _)⟩
  case round =>
    obtain ⟨j, hj, rfl, hB, hG⟩ := hrel
    by_cases hlt : j < m
    · have ho : o = k := by omega
      subst ho
      have hsl : (splice bs o (lowBytes v j)).length = bs.length := length_splice _ _ _ (by rw [lowBytes_length]; have := hkm.out; omega)
      have c1 := hB.out.cell (o + j)
      rw [List.getElem?_toArray, List.getElem?_map, List.getElem?_eq_getElem (by rw [hsl]; have := hkm.out; omega), Option.map_some] at c1
      generalize (splice bs o (lowBytes v j))[o + j]'_ = old at c1
      have f1 := hB.out.frozen (o + j)
      clear hsl
      go_wp2
      go_roundw
      case rel => 
        refine ⟨j + 1, by omega, by go_num, ?_, ?_⟩
        · have hs := hB.out.set (o + j) (.int .u8 (v / 2 ^ (8 * j) % 256))
          rw [List.setIfInBounds_toArray, ← List.map_set] at hs
          have e := splice_snoc bs o (lowBytes v j) (v / 2 ^ (8 * j) % 256) (by rw [lowBytes_length]; have := hkm.out; omega)
          rw [lowBytes_length, ← lowBytes_succ] at e
          rw [e] at hs
          exact Lib.hid hs
        · exact Lib.hid (grown_set hG.out _ _)
      case measure => simp [intOf]; omega
    · obtain rfl : j = m := by omega
      go_wp2
      go_ret
      exact ⟨rfl, hB.out, hG.out⟩
theorem storeOf_ok {bs : List Int} {k m : Nat} {n v : Int} (hn : n = m) (hE : numE bs.length k n = 0) : storeOf bs k n v = splice bs k (lowBytes v m) := by
  unfold storeOf; rw [if_pos hE, hn]; rfl
set_option maxHeartbeats 2000000 in
theorem Store_err (w : World) (g b : Nat) (bs : List Int) (at_ n v : Int) (h : MemAt w g b bs) (h0 : U64 at_) (hn : I64 n) (hE : numE bs.length at_ n ≠ 0) : Calls Tryz.prog 17 #[.pointer (some ⟨g, 0, none⟩), .int .u64 at_, .int .i64 n, .int .u64 v] w fun e w' => e = .returned (.int .i64 (numE bs.length at_ n)) ∧ w = w' := by
  have H := Lib.hid (number_err w g b bs at_ n h h0 hn hE)
  generalize numE bs.length at_ n = E at *
  clear h h0 hn hE
  go_enter Tryz.func17, Tryz.ntmps17
  go_wp2_with (go_at_call 44; refine H.out.mono ?_; rintro e w' ⟨rfl, rfl⟩)
  go_rounds 1
  go_ret
  exact ⟨rfl, rfl⟩
/-- Store, of any place and size: only the bytes' block turns. -/
theorem Store_any (w : World) (g b : Nat) (bs : List Int) (at_ n v : Int) (h : MemAt w g b bs) (h0 : U64 at_) (hn : I64 n) (hv : U64 v) : Calls Tryz.prog 17 #[.pointer (some ⟨g, 0, none⟩), .int .u64 at_, .int .i64 n, .int .u64 v] w fun e w' => e = .returned (.int .i64 (numE bs.length at_ n)) ∧ MemAt w' g b (storeOf bs at_ n v) ∧ w.grownBy w' (some b) := by
  by_cases hE : numE bs.length at_ n = 0
  · obtain ⟨k, rfl⟩ : ∃ k : Nat, at_ = k := ⟨at_.toNat, by have := h0.1; omega⟩
    obtain ⟨m, hm⟩ : ∃ m : Nat, n = m := ⟨n.toNat, by have := numE_ok.1 hE; omega⟩
    refine (Store_ok w g b bs k m n v hv hm h hE).mono ?_
    rintro e w' ⟨rfl, hB, hG⟩
    rw [hE]
    exact ⟨rfl, h.stored (storeOf_length _ _ _ _ (by omega)) (storeOf_bytes h.2.2.1) (by rw [storeOf_ok hm hE]; exact hB) hG, hG⟩
  · have e : storeOf bs at_ n v = bs := by unfold storeOf; rw [if_neg hE]
    rw [e]
    refine (Store_err w g b bs at_ n v h h0 hn hE).mono ?_
    rintro e w' ⟨rfl, rfl⟩
    exact ⟨rfl, h, World.grownBy.refl _ _⟩
set_option maxHeartbeats 1000000 in
theorem Len_any (w : World) (g b : Nat) (bs : List Int) (h : MemAt w g b bs) : Calls Tryz.prog 19 #[.pointer (some ⟨g, 0, none⟩)] w fun e w' => e = .returned (.int .i64 bs.length) ∧ w = w' := by
  have c := h.1.cell
  have hl := h.2.2.2
  clear h
  generalize bs.length = L at *
  go_enter Tryz.func19, Tryz.ntmps19
  go_wp2
  go_ret
  exact ⟨rfl, rfl⟩
set_option maxHeartbeats 1000000 in
theorem New_ok (w : World) (n : Nat) (x : Int) (hx : x = n) (h : n ≤ 16777216) : Calls Tryz.prog 14 #[.int .i64 x] w (NewPost w (List.replicate n 0)) := by
  subst hx
  have hmk := make_u8 n (by omega)
  have hl : (List.replicate n (0 : Int)).length = n := by simp
  have hb := bytes_zero n
  generalize List.replicate n (0 : Int) = zs at *
  replace hl := Lib.hid hl
  replace hb := Lib.hid hb
  go_enter Tryz.func14, Tryz.ntmps14
  go_wp2
  go_ret
  refine ⟨w.heap.size + 1, w.heap.size, rfl, ⟨?_, ?_, hb.out, by rw [hl.out]; exact h⟩, by omega, by omega, by go_grown⟩
  · rw [hl.out]; exact new2b _ _ _ _ _
  · exact (Blk.new _ _ _).alloc _
set_option maxHeartbeats 1000000 in
theorem New_no (w : World) (x : Int) (h : x < 0 ∨ 16777216 < x) : Calls Tryz.prog 14 #[.int .i64 x] w fun e w' => e = .returned (.pointer none) ∧ w = w' := by
  rcases h with h | h
  · go_enter Tryz.func14, Tryz.ntmps14
    go_wp2
    go_ret
    exact ⟨rfl, rfl⟩
  · have h' : 0 ≤ x := by omega
    go_enter Tryz.func14, Tryz.ntmps14
    go_wp2
    go_ret
    exact ⟨rfl, rfl⟩
set_option maxHeartbeats 2000000 in
theorem Put_ok (w : World) (g b : Nat) (bs : List Int) (k c : Nat) (A : Option Addr) (l : List Int) (h : MemAt w g b bs) (hs : Src w A l) (h1 : k + l.length ≤ bs.length) : Calls Tryz.prog 10 #[.pointer (some ⟨g, 0, none⟩), .int .u64 k, .slice A l.length c] w fun e w' => e = .returned (.int .i64 0) ∧ Blk w' b ((splice bs k l).map (Value.int .u8)).toArray 5 ∧ w.grownBy w' (some b) := by
  have H := Lib.hid (part_ok w g b bs k l.length h h1)
  have hl := h.2.2.2
  have B := Lib.hid h.2.1
  clear h
  by_cases h0 : l = []
  · subst h0
    replace H := Lib.hid (show Calls Tryz.prog 21 #[.pointer (some ⟨g, 0, none⟩), .int .u64 k, .int .i64 0] w (PartOk b bs.length k 0 w) from H.out)
    clear hs
    go_enter Tryz.func10, Tryz.ntmps10
    go_wp2_with fail
    refine H.out.mono ?_
    rintro e w' ⟨o, c', p1, p2, p3, rfl, rfl⟩
    have hcp := run_copy_none (P := Tryz.prog) w 41 41 3 5 (some ⟨b, o, none⟩) A 0 c' 0 c Tryz.underlying41 u8_size (by simp)
    go_wp2_with fail
    go_ret
    exact ⟨rfl, by rw [splice_nil]; exact B.out, World.grownBy.refl _ _⟩
  · obtain ⟨ad, rfl, _, hc⟩ := hs h0
    have hn : 0 < l.length := List.length_pos_iff.2 h0
    have hsz : (splice bs k l).length = bs.length := length_splice _ _ _ h1
    have hcp := fun cc => run_copy_row (P := Tryz.prog) w 41 41 3 5 b k l.length cc ad l.length c (bs.map (Value.int .u8)).toArray 5 (l.map (Value.int .u8)) Tryz.underlying41 u8_size B.out (by simp) (by intro j v hv; rw [List.getElem?_map] at hv; cases e : l[j]? with | none => rw [e] at hv; simp at hv | some x => rw [e] at hv; simp at hv; subst hv; exact hc j x e) (by simp; omega) (by intro v hv; simp at hv; obtain ⟨x, _, rfl⟩ := hv; rfl)
    have es : ((bs.map (Value.int .u8)).toArray.toList.take k ++ l.map (Value.int .u8) ++ (bs.map (Value.int .u8)).toArray.toList.drop (k + (l.map (Value.int .u8)).length)).toArray = ((splice bs k l).map (Value.int .u8)).toArray := by
      congr 1
      rw [splice_map]; unfold splice; rw [List.append_assoc]
    rw [es, List.length_map] at hcp
    clear es hs hc hsz h0
    replace hcp := Lib.hid hcp
    have hb : Blk (w.setRow b ((splice bs k l).map (Value.int .u8)).toArray) b ((splice bs k l).map (Value.int .u8)).toArray 5 := by
      have := setRow_heap w b (bs.map (Value.int .u8)).toArray ((splice bs k l).map (Value.int .u8)).toArray 5 (0, 0) B.out
      simpa [Blk] using this
    have hg := grown_setRow w b ((splice bs k l).map (Value.int .u8)).toArray
    generalize ((splice bs k l).map (Value.int .u8)).toArray = cs' at *
    replace hb := Lib.hid hb
    replace hg := Lib.hid hg
    generalize l.length = n at *
    generalize hW : w.setRow b cs' = w2 at *
    clear hW
    go_enter Tryz.func10, Tryz.ntmps10
    go_wp2_with fail
    refine H.out.mono ?_
    rintro e w' ⟨o, c', p1, p2, p3, rfl, rfl⟩
    obtain rfl : o = k := by omega
    have hcp1 := hcp.out c'
    go_wp2_with fail
    go_ret
    exact ⟨rfl, hb.out, hg.out⟩
set_option maxHeartbeats 2000000 in
theorem Put_err (w : World) (g b : Nat) (bs : List Int) (at_ : Int) (n c : Nat) (A : Option Addr) (h : MemAt w g b bs) (h0 : U64 at_) (hn : n ≤ 9223372036854775807) (hE : partE bs.length at_ n ≠ 0) : Calls Tryz.prog 10 #[.pointer (some ⟨g, 0, none⟩), .int .u64 at_, .slice A n c] w fun e w' => e = .returned (.int .i64 (partE bs.length at_ n)) ∧ w = w' := by
  have H := Lib.hid (part_err w g b bs at_ n h h0 ⟨by omega, by omega⟩ hE)
  generalize partE bs.length at_ n = E at *
  clear h h0 hE
  have hcp := run_copy_none (P := Tryz.prog) w 41 41 3 5 none A 0 0 n c Tryz.underlying41 u8_size (by simp)
  go_enter Tryz.func10, Tryz.ntmps10
  go_wp2_with fail
  refine H.out.mono ?_
  rintro e w' ⟨rfl, rfl⟩
  go_wp2_with fail
  go_ret
  exact ⟨rfl, rfl⟩
/-- Put, at any place: only the bytes' block turns. -/
theorem Put_any (w : World) (g b : Nat) (bs : List Int) (at_ : Int) (c : Nat) (A : Option Addr) (l : List Int) (h : MemAt w g b bs) (h0 : U64 at_) (hs : Src w A l) (hl : Bytes l) (hn : l.length ≤ 9223372036854775807) : Calls Tryz.prog 10 #[.pointer (some ⟨g, 0, none⟩), .int .u64 at_, .slice A l.length c] w fun e w' => e = .returned (.int .i64 (partE bs.length at_ l.length)) ∧ MemAt w' g b (putOf bs at_ l) ∧ w.grownBy w' (some b) := by
  by_cases hE : partE bs.length at_ l.length = 0
  · obtain ⟨k, rfl⟩ : ∃ k : Nat, at_ = k := ⟨at_.toNat, by have := h0.1; omega⟩
    have h1 := partE_ok.1 hE
    refine (Put_ok w g b bs k c A l h hs (by omega)).mono ?_
    rintro e w' ⟨rfl, hB, hG⟩
    rw [hE]
    exact ⟨rfl, h.stored (putOf_length _ _ _ (by omega)) (putOf_bytes h.2.2.1 hl) (by unfold putOf; rw [if_pos hE]; exact hB) hG, hG⟩
  · have e : putOf bs at_ l = bs := by unfold putOf; rw [if_neg hE]
    rw [e]
    refine (Put_err w g b bs at_ l.length c A h h0 hn hE).mono ?_
    rintro e w' ⟨rfl, rfl⟩
    exact ⟨rfl, h, World.grownBy.refl _ _⟩
theorem Put_n (w : World) (g b : Nat) (bs : List Int) (at_ : Int) (c n : Nat) (A : Option Addr) (l : List Int) (hn : l.length = n) (h : MemAt w g b bs) (h0 : U64 at_) (hs : Src w A l) (hl : Bytes l) (hb : n ≤ 9223372036854775807) : Calls Tryz.prog 10 #[.pointer (some ⟨g, 0, none⟩), .int .u64 at_, .slice A n c] w fun e w' => e = .returned (.int .i64 (partE bs.length at_ n)) ∧ MemAt w' g b (putOf bs at_ l) ∧ w.grownBy w' (some b) := by
  subst hn; exact Put_any w g b bs at_ c A l h h0 hs hl hb
set_option maxHeartbeats 2000000 in
theorem Bytes_ok (w : World) (g b : Nat) (bs : List Int) (k m : Nat) (n : Int) (hn : n = m) (h : MemAt w g b bs) (h1 : k + m ≤ bs.length) : Calls Tryz.prog 20 #[.pointer (some ⟨g, 0, none⟩), .int .u64 k, .int .i64 n] w (BytesPost w ((bs.drop k).take m) 0) := by
  have H := Lib.hid (part_lit w g b bs k m n hn h h1)
  have hl := h.2.2.2
  have B := Lib.hid h.2.1
  have hbl := Lib.hid B.out.lt
  clear h
  obtain ⟨i0, hi, hz0, hz1, hz2⟩ := info_parts u8_info
  have hlen : ((bs.drop k).take m).length = m := by simp; omega
  have hc : m ≠ 0 → ∀ j u, (((bs.drop k).take m).map (Value.int .u8))[j]? = some u → w.cell? ((⟨b, k, none⟩ : Addr).add j) = some u := by
    intro hm j u hu
    have hj : j < m := by have := (List.getElem?_eq_some_iff.1 hu).1; simp at this; omega
    have e : (⟨b, k, none⟩ : Addr).add j = ⟨b, k + j, none⟩ := by unfold Addr.add; split <;> simp_all
    rw [e, B.out.cell, List.getElem?_toArray, ← hu, List.getElem?_map, List.getElem?_map, List.getElem?_take_of_lt hj, List.getElem?_drop]
  clear B
  generalize (bs.drop k).take m = l at *
  generalize bs.length = L at *
  have hlr : m ≤ 16777216 := by omega
  replace hc := Lib.hid hc
  replace hlen := Lib.hid hlen
  have HN := Lib.hid hn
  clear hn
  have hbs : w.heap.size ≤ w.heap.size + 1 := by omega
  go_enter Tryz.func20, Tryz.ntmps20
  go_wp2_with fail
  refine H.out.mono ?_
  rintro e w' ⟨o, c, p1, p2, p3, rfl, rfl⟩
  have hcells : ∀ j u, (l.map (Value.int .u8))[j]? = some u → (w.alloc (.cells #[] 5)).cell? ((⟨b, o, none⟩ : Addr).add j) = some u := by
    intro j u hu
    have hj := (List.getElem?_eq_some_iff.1 hu).1
    rw [List.length_map, hlen.out] at hj
    obtain rfl : o = k := by omega
    rw [World.cell?_alloc_lt w _ _ (by rw [show ((⟨b, o, none⟩ : Addr).add j).block = b from by unfold Addr.add; split <;> rfl]; exact hbl.out)]
    exact hc.out (by omega) j u hu
  replace hcells := Lib.hid hcells
  clear p1
  have hown := World.ownsRow_lit (base := w.heap.size) (e := 5) (size := 1) w #[] 0 (Nat.le_refl _) (by omega) rfl
  go_wp2_with (at_builtin; refine wpList_append_own _ rfl _ _ 41 rfl w.heap.size 5 i0 (.int .u8 0) 1 1 Tryz.underlying41 hi hz0 hz1 hz2 rfl (by decide) _ _ _ rfl hown ⟨b, o, none⟩ m c (l.map (Value.int .u8)) rfl ?c0 ?c1 ?c2 ?c3 ?c4 ?c5 ?_)
  case c0 => simp [hlen.out]
  case c1 => exact hcells.out
  case c2 => intro v hv; simp at hv; obtain ⟨x, _, rfl⟩ := hv; rfl
  case c3 => unfold maxLen; omega
  case c4 => omega
  case c5 => simp
  intro v' w1 hown1 hgrow _
  obtain ⟨A, c', rfl⟩ := own_shape hown1
  have HO := Lib.hid hown1
  have HG := Lib.hid (((Below.refl w.heap.size w).alloc (Nat.le_refl _) (.cells #[] 5)).grown hgrow (by simp) (by intro k hk; simp [Value.ownBlock] at hk; omega))
  clear hown1 hgrow hown
  go_wp2
  go_ret2
  exact ⟨A, c', by rw [hlen.out]; rfl, by rw [hlen.out]; exact HO.out, HG.out⟩
set_option maxHeartbeats 2000000 in
theorem Bytes_err (w : World) (g b : Nat) (bs : List Int) (at_ n : Int) (h : MemAt w g b bs) (h0 : U64 at_) (hn : I64 n) (hE : partE bs.length at_ n ≠ 0) : Calls Tryz.prog 20 #[.pointer (some ⟨g, 0, none⟩), .int .u64 at_, .int .i64 n] w (BytesPost w [] (partE bs.length at_ n)) := by
  have H := Lib.hid (part_err w g b bs at_ n h h0 hn hE)
  generalize partE bs.length at_ n = E at *
  clear h h0 hn hE
  go_enter Tryz.func20, Tryz.ntmps20
  go_wp2_with fail
  refine H.out.mono ?_
  rintro e w' ⟨rfl, rfl⟩
  go_wp2
  go_ret2
  exact ⟨some ⟨w.heap.size, 0, none⟩, 0, rfl, World.ownsRow_lit w #[] 0 (Nat.le_refl _) (by omega) rfl, by go_grown⟩
/-- Bytes, of any place and size. -/
theorem Bytes_any (w : World) (g b : Nat) (bs : List Int) (at_ n : Int) (h : MemAt w g b bs) (h0 : U64 at_) (hn : I64 n) : Calls Tryz.prog 20 #[.pointer (some ⟨g, 0, none⟩), .int .u64 at_, .int .i64 n] w (BytesPost w (readOf bs at_ n) (partE bs.length at_ n)) := by
  by_cases hE : partE bs.length at_ n = 0
  · have h1 := partE_ok.1 hE
    obtain ⟨k, rfl⟩ : ∃ k : Nat, at_ = k := ⟨at_.toNat, by have := h0.1; omega⟩
    obtain ⟨m, hm⟩ : ∃ m : Nat, n = m := ⟨n.toNat, by omega⟩
    have e : readOf bs k n = (bs.drop k).take m := by unfold readOf segOf; rw [if_pos hE, hm]; rfl
    rw [hE, e]
    exact Bytes_ok w g b bs k m n hm h (by omega)
  · have e : readOf bs at_ n = [] := by unfold readOf; rw [if_neg hE]
    rw [e]
    exact Bytes_err w g b bs at_ n h h0 hn hE
theorem Bytes_all (w : World) (g b : Nat) (bs : List Int) (n : Int) (hn : n = bs.length) (h : MemAt w g b bs) (h0 : 0 < bs.length) : Calls Tryz.prog 20 #[.pointer (some ⟨g, 0, none⟩), .int .u64 0, .int .i64 n] w (AllPost w bs) := by
  have hl := h.2.2.2
  have H := Bytes_any w g b bs 0 n h ⟨by omega, by omega⟩ ⟨by omega, by omega⟩
  rw [hn, readOf_all, partE_ok.2 ⟨by omega, by omega, by omega⟩] at H
  rw [hn]
  refine H.mono ?_
  rintro e w' ⟨A, c, rfl, ho, hb⟩
  obtain ⟨q, c', hv, hB, hq, hc⟩ := own_cells ho h0
  injection hv with h1 h2 h3
  subst h1
  exact ⟨q, c, rfl, hB, hq, hc, hb⟩
theorem Bytes_all0 (w : World) (g b : Nat) (bs : List Int) (n : Int) (hn : n = bs.length) (h : MemAt w g b bs) : Calls Tryz.prog 20 #[.pointer (some ⟨g, 0, none⟩), .int .u64 0, .int .i64 n] w (AllPost0 w bs) := by
  have hl := h.2.2.2
  have H := Bytes_any w g b bs 0 n h ⟨by omega, by omega⟩ ⟨by omega, by omega⟩
  rw [hn, readOf_all, partE_ok.2 ⟨by omega, by omega, by omega⟩] at H
  rw [hn]
  refine H.mono ?_
  rintro e w' ⟨A, c, rfl, ho, hb⟩
  exact ⟨A, c, rfl, own_src ho, hb⟩
end Go.Proofs.YtcjfafhbohkhlaaGreat.M
