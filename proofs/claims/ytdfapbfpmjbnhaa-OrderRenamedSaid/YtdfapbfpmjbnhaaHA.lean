/- DERIVED. DERIVED. Operations as plain data, and what reads one of them. -/
import Derived.Test.YtdfapbfpmjbnhaaProg
import Derived.Test.YtdfapbfpmjbnhaaMBits
import Derived.Test.YtdfapbfpmjbnhaaMWalk
import Derived.Test.YtdfapbfpmjbnhaaMArg
import Derived.Test.YtdfapbfpmjbnhaaMRow
import Derived.Test.YtdfapbfpmjbnhaaMOpen
import Derived.Test.YtdfapbfpmjbnhaaMPart
import Derived.Test.YtdfapbfpmjbnhaaMGoMap
import Derived.Below
import Derived.Deep.Draws
import Derived.Deep.AppendLies
import Derived.Maps.AppendAt
import Derived.OwnWalk
import Derived.Laws.BytesArg
import Derived.Laws.MakeOwn
import Derived.Laws.OwnMore
import Derived.Deep.OwnRows
import Derived.Tactics
import Derived.Lib.ConvBytes
import Derived.Laws.Slices
import Derived.WalkKit
import Derived.KernelRfl
import Derived.RowKit3
import Derived.Deep.LoopGhost
import Derived.Deep.QuietTactic
import Derived.BigQuiet
import Derived.WideLaws
import Derived.Deep.DeepCutAuto
import Derived.Deep.CutBlock
import Derived.Deep.RegionHeld3
import Derived.Laws.Rows
import Derived.Lib.AppendStr
import Derived.ArgAppend
import Derived.Laws.IdiomCopy
import Derived.OrdersHeld
import Derived.Laws.BitsLemmas
import Derived.Laws.Bits64
import Derived.RowKit
import Derived.Outline
import Derived.Handy
import Derived.Lib.Hide
import Derived.Deep.Light
import Derived.Laws.CopyOwn
import Derived.Laws.AppendOwnNone
import Derived.RangeFuncNested
import Derived.RangeFuncBound
import Derived.RangeFuncCalls
import Derived.RangeFuncLeaves
import Derived.Shelf.Abstract
import Derived.Shelf.RegionOpen
import Derived.OwnWalkIn
import Derived.TacticsInMore
import Derived.LoopNIn
import Derived.LoopIn
import Derived.Maps.OwnIn
import Derived.Deep.WholeRow
namespace Go.Proofs.Ytdfapbfpmjbnhaa.Hand
open Go Go.RowKit Go.Proofs.Ytdfapbfpmjbnhaa.M
set_option linter.unusedVariables false
set_option linter.unusedSimpArgs false
/-- A slice of whole numbers: where it lies, its length and room, what it holds. -/
structure Sl where
  a : Option Addr
  n : Nat
  c : Nat
  l : List Int
def Sl.v (s : Sl) : Value := .slice s.a s.n s.c
def Sl.At (w : World) (s : Sl) : Prop := RowAt .i64 w s.a s.l ∧ s.l.length = s.n ∧ s.n ≤ 9223372036854775807 ∧ ∀ x ∈ s.l, (Lit.int .i64 x).wf = true
theorem Sl.At.below {w w' : World} {s : Sl} (h : s.At w) (d : Below w.heap.size w w') : s.At w' := ⟨h.1.below d, h.2⟩
structure OpS where
  id : Int
  load : Bool
  store : Bool
  fence : Bool
  addr : Int
  size : Int
  aq : Bool
  rl : Bool
  pred : Int
  succ : Int
  value : Int
  stored : Int
  frm : Sl
  pair : Int
  addrs : Sl
  datas : Sl
  ctrls : Sl
def OpS.cells (o : OpS) : Array Value := #[.int .i64 o.id, .bool o.load, .bool o.store, .bool o.fence, .int .u64 o.addr, .int .i64 o.size, .bool o.aq, .bool o.rl, .int .i64 o.pred, .int .i64 o.succ, .int .u64 o.value, .int .u64 o.stored, o.frm.v, .int .i64 o.pair, o.addrs.v, o.datas.v, o.ctrls.v]
structure OpS.At (w : World) (o : OpS) : Prop where
  f : o.frm.At w
  a : o.addrs.At w
  d : o.datas.At w
  c : o.ctrls.At w
  u : U64 o.addr
  z : I64 o.size
theorem OpS.At.below {w w' : World} {o : OpS} (h : o.At w) (d : Below w.heap.size w w') : o.At w' := ⟨h.f.below d, h.a.below d, h.d.below d, h.c.below d, h.u, h.z⟩
theorem op_info : (Try.prog.info? 29).map (·.size) = some 17 := by kernel_rfl
section
variable {w : World} {b : Nat} {o : OpS} (B : Blk w b o.cells 29)
include B
theorem cId : w.cell? ⟨b, 0, none⟩ = some (.int .i64 o.id) := B.cell 0
theorem cLoad : w.cell? ⟨b, 1, none⟩ = some (.bool o.load) := B.cell 1
theorem cStore : w.cell? ⟨b, 2, none⟩ = some (.bool o.store) := B.cell 2
theorem cFence : w.cell? ⟨b, 3, none⟩ = some (.bool o.fence) := B.cell 3
theorem cAddr : w.cell? ⟨b, 4, none⟩ = some (.int .u64 o.addr) := B.cell 4
theorem cSize : w.cell? ⟨b, 5, none⟩ = some (.int .i64 o.size) := B.cell 5
end
/-- The last byte, if there is one. -/
def endOf (o : OpS) : Int := IntKind.u64.wrap (o.addr + (o.size - 1))
def lastB (o : OpS) : Bool := decide (1 ≤ o.size ∧ o.size ≤ 16777216) && ((o.load || o.store) && decide (o.addr ≤ endOf o))
def lastN (o : OpS) : Int := if 1 ≤ o.size ∧ o.size ≤ 16777216 ∧ (o.load || o.store) = true then endOf o else 0
theorem arg_box {w X : World} {T : Nat} {cs : Array Value} (e : w.alloc (.cells cs T) = X) : Blk X w.heap.size cs T ∧ Below w.heap.size w X ∧ w.heap.size + 1 = X.heap.size := by
  subst e
  exact ⟨Blk.new w cs T, (Below.refl w.heap.size w).alloc (Nat.le_refl _) _, by rw [World.size_alloc]⟩
set_option maxHeartbeats 4000000 in
theorem last_any (o : OpS) (w : World) (hu : U64 o.addr) (hz : I64 o.size) :
    Calls Try.prog 29 #[.agg o.cells] w fun e w' => e = .returned (.tuple #[.int .u64 (lastN o), .bool (lastB o)]) ∧ Below w.heap.size w w' := by
  have key : ∀ X, w.alloc (.cells o.cells 29) = X → X.cell? ⟨w.heap.size, 1, none⟩ = some (.bool o.load) ∧ X.cell? ⟨w.heap.size, 2, none⟩ = some (.bool o.store) ∧ X.cell? ⟨w.heap.size, 4, none⟩ = some (.int .u64 o.addr) ∧ X.cell? ⟨w.heap.size, 5, none⟩ = some (.int .i64 o.size) ∧ Below w.heap.size w X := fun X e => by
    obtain ⟨B, d, _⟩ := arg_box e
    exact ⟨cLoad B, cStore B, cAddr B, cSize B, d⟩
  have n1 : (lastN o = if 1 ≤ o.size ∧ o.size ≤ 16777216 ∧ (o.load || o.store) = true then endOf o else 0) := rfl
  have n2 : (lastB o = (decide (1 ≤ o.size ∧ o.size ≤ 16777216) && ((o.load || o.store) && decide (o.addr ≤ endOf o)))) := rfl
  unfold endOf at n1 n2
  generalize lastN o = N at *
  generalize lastB o = L at *
  generalize o.cells = cs at *
  obtain ⟨id, load, store, fence, addr, size, aq, rl, pred, succ, value, stored, frm, pair, addrs, datas, ctrls⟩ := o
  dsimp only at *
  have fin : ∀ X, w.alloc (.cells cs 29) = X → Below w.heap.size w X := fun X e => (key X e).2.2.2.2
  have N1 := Lib.hid n1
  have N2 := Lib.hid n2
  clear n1 n2
  obtain ⟨u1, u2⟩ := hu
  obtain ⟨z1, z2⟩ := hz
  have e0 : 1 ≤ size → IntKind.u64.wrap (size - 1) = size - 1 := fun _ => by rw [u64w]; omega
  by_cases h : 1 ≤ size ∧ size ≤ 16777216
  · have e0 := e0 h.1
    cases load <;> cases store
    · go_enter Try.func29, Try.ntmps29
      go_wp2_with fail
      go_ret2
      exact ⟨by rw [N1.out, N2.out]; simp, fin _ rfl⟩
    all_goals
      go_enter Try.func29, Try.ntmps29
      go_wp2_with fail
      go_quiet (fail)
      go_wp2_with fail
      go_ret2
      exact ⟨by rw [N1.out, N2.out]; simp [h.1, h.2], below_drewN (fin _ rfl) _⟩
  · have e1 : (decide (size < 1) || decide (16777216 < size)) = true := by simp; omega
    go_enter Try.func29, Try.ntmps29
    go_wp2_with fail
    all_goals
      go_ret2
      exact ⟨by rw [N1.out, N2.out, if_neg (by omega), decide_eq_false h]; simp, fin _ rfl⟩
def hasOf (o : OpS) (x : Int) : Bool := lastB o && (decide (o.addr ≤ x) && decide (x ≤ lastN o))
def overlapOf (a b : OpS) : Bool := (lastB a && lastB b) && (decide (a.addr ≤ lastN b) && decide (b.addr ≤ lastN a))
set_option maxHeartbeats 4000000 in
theorem has_any (o : OpS) (x : Int) (w : World) (hu : U64 o.addr) (hz : I64 o.size) :
    Calls Try.prog 28 #[.agg o.cells, .int .u64 x] w fun e w' => e = .returned (.bool (hasOf o x)) ∧ Below w.heap.size w w' := by
  have HL := Lib.hid fun W => last_any o W hu hz
  have n1 : (hasOf o x = (lastB o && (decide (o.addr ≤ x) && decide (x ≤ lastN o)))) := rfl
  generalize hasOf o x = R at *
  generalize lastB o = L at *
  generalize lastN o = N at *
  have N1 := Lib.hid n1
  clear n1
  cases L
  all_goals
    go_enter Try.func28, Try.ntmps28
    go_wp2_with (refine wpList_load_row rfl 29 _ rfl w.heap.size rfl 29 _ _ _ (Blk.new _ _ _) Try.underlying29 rfl op_info ?_)
    generalize hX : World.alloc w _ = X
    obtain ⟨b, d, _⟩ := arg_box hX
    have B := Lib.hid b
    have D := Lib.hid d
    clear hX b d
    refine (HL.out _).mono ?_
    rintro e W ⟨rfl, d2⟩
    have B2 := B.out.below d2
    have c4 := cAddr B2
    have D2 := Lib.hid (D.out.trans (d2.mono D.out.size))
    clear B2 d2
    go_wp2_with fail
    all_goals
      go_ret
      exact ⟨by rw [N1.out]; first | rfl | (simp; done) | (simp; omega), D2.out⟩
set_option maxHeartbeats 4000000 in
theorem overlap_any (o p : OpS) (w : World) (hu : U64 o.addr) (hz : I64 o.size) (hu2 : U64 p.addr) (hz2 : I64 p.size) :
    Calls Try.prog 19 #[.agg o.cells, .agg p.cells] w fun e w' => e = .returned (.bool (overlapOf o p)) ∧ Below w.heap.size w w' := by
  have HL := Lib.hid fun W => last_any o W hu hz
  have HL2 := Lib.hid fun W => last_any p W hu2 hz2
  have n1 : (overlapOf o p = ((lastB o && lastB p) && (decide (o.addr ≤ lastN p) && decide (p.addr ≤ lastN o)))) := rfl
  generalize overlapOf o p = R at *
  generalize lastB o = L at *
  generalize lastN o = N at *
  generalize lastB p = L2 at *
  generalize lastN p = M at *
  have N1 := Lib.hid n1
  clear n1
  cases L <;> cases L2
  all_goals
    go_enter Try.func19, Try.ntmps19
    go_wp2_with (refine wpList_load_row rfl 29 _ rfl w.heap.size rfl 29 _ _ _ ((Blk.new _ _ _).alloc _) Try.underlying29 rfl op_info ?_)
    generalize hX : World.alloc w _ = X
    obtain ⟨b, d, s1⟩ := arg_box hX
    generalize hY : World.alloc X _ = Y
    obtain ⟨b2, d2, _⟩ := arg_box hY
    have B := Lib.hid (b.below d2)
    have B2 := Lib.hid b2
    have D := Lib.hid (d.trans (d2.mono d.size))
    rw [← s1] at B2
    clear hX hY b d b2 d2 s1
    refine (HL.out _).mono ?_
    rintro e W ⟨rfl, d2⟩
    have B3 := Lib.hid (B.out.below d2)
    have B4 := Lib.hid (B2.out.below d2)
    have D2 := Lib.hid (D.out.trans (d2.mono D.out.size))
    clear B B2 D d2
    go_wp2_with (refine wpList_load_row rfl 29 _ rfl (w.heap.size + 1) rfl 29 _ _ _ B4.out Try.underlying29 rfl op_info ?_)
    refine (HL2.out _).mono ?_
    rintro e W ⟨rfl, d2⟩
    have c1 := cAddr (B3.out.below d2)
    have c2 := cAddr (B4.out.below d2)
    have D3 := Lib.hid (D2.out.trans (d2.mono D2.out.size))
    clear B3 B4 D2 d2
    go_wp2_with fail
    all_goals
      go_ret
      exact ⟨by rw [N1.out]; first | rfl | (simp; done) | (simp; omega), D3.out⟩
/-- Is a number in a list? -/
def inOf (l : List Int) (n : Int) : Bool := l.any (· == n)
theorem any_drop (p : Int → Bool) (l : List Int) (k : Nat) (h : k < l.length) : (l.drop k).any p = (p l[k] || (l.drop (k + 1)).any p) := by
  rw [List.drop_eq_getElem_cons h, List.any_cons]
theorem sl_cell {w : World} {s : Sl} (h : s.At w) {k : Nat} (hk : k < s.n) : ∃ ad, s.a = some ad ∧ ∃ h2 : k < s.l.length, w.cell? (ad.add k) = some (.int .i64 s.l[k]) := by
  obtain ⟨h1, h2, h3, _⟩ := h
  obtain ⟨ad, e, _, h4⟩ := h1 (fun e => by rw [e] at h2; simp at h2; omega)
  exact ⟨ad, e, by omega, h4 k _ (List.getElem?_eq_getElem (by omega))⟩
set_option maxHeartbeats 4000000 in
theorem in_any (s : Sl) (n : Int) (w : World) (h : s.At w) : Calls Try.prog 25 #[s.v, .int .i64 n] w fun e w' => e = .returned (.bool (inOf s.l n)) ∧ w = w' := by
  have HS := Lib.hid h
  have h3 := h.2.2.1
  have hl := Lib.hid h.2.1
  have hR := Lib.hid (show inOf s.l n = (s.l.drop 0).any (· == n) from rfl)
  generalize inOf s.l n = R at *
  clear h
  obtain ⟨A, N, C, L⟩ := s
  unfold Sl.v
  dsimp only at *
  go_enter Try.func25, Try.ntmps25
  go_wp2_with fail
  go_loop [9] (fun i => ∃ k : Nat, k ≤ N ∧ i = .int .i64 k ∧ Hid (R = (L.drop k).any (· == n))) (fun i => N - (intOf i).toNat)
  case atStart => exact ⟨0, by omega, rfl, hR⟩
  case round =>
    obtain ⟨k, hk, rfl, hR⟩ := hrel
    by_cases hlt : k < N
    · obtain ⟨ad, e, hk2, hc⟩ := sl_cell HS.out hlt
      dsimp only at e hk2 hc
      subst e
      have hR2 := Lib.hid (hR.out.trans (any_drop _ L k hk2))
      clear hR
      generalize L[k] = x at *
      by_cases hx : x = n
      · subst hx
        go_wp2_with fail
        go_ret
        exact ⟨by rw [hR2.out]; simp, rfl⟩
      · have dx : (x == n) = false := by simpa using hx
        rw [dx, Bool.false_or] at hR2
        go_wp2_with fail
        go_round
        case rel => exact ⟨k + 1, by omega, by go_num, hR2⟩
        case measure => simp [intOf]; omega
    · go_wp2_with fail
      go_ret
      exact ⟨by rw [hR.out, List.drop_of_length_le (by rw [hl.out]; omega)]; rfl, rfl⟩
end Go.Proofs.Ytdfapbfpmjbnhaa.Hand
