/- DERIVED. DERIVED. A source, and what takes bytes of it. -/
import Derived.Test.YtbakfpoejoajeaaDoorProg
import Derived.Test.YtbakfpoejoajeaaDoorMBits
import Derived.Test.YtbakfpoejoajeaaDoorMWalk
import Derived.Test.YtbakfpoejoajeaaDoorMArg
import Derived.Test.YtbakfpoejoajeaaDoorMRow
import Derived.Test.YtbakfpoejoajeaaDoorMOpen
import Derived.Test.YtbakfpoejoajeaaDoorMPart
import Derived.Test.YtbakfpoejoajeaaDoorMStore
import Derived.Test.YtbakfpoejoajeaaDoorHA
import Derived.Below
import Derived.Deep.Draws
import Derived.Deep.AppendLies
import Derived.Maps.AppendAt
import Derived.OwnWalk
import Derived.Laws.BytesArg
import Derived.Laws.MakeOwn
import Derived.Laws.OwnMore
import Derived.Deep.OwnRows
import Derived.Tactics
import Derived.Lib.ConvBytes
import Derived.Laws.Slices
import Derived.WalkKit
import Derived.KernelRfl
import Derived.RowKit3
import Derived.Deep.LoopGhost
import Derived.Deep.QuietTactic
import Derived.BigQuiet
import Derived.WideLaws
import Derived.Deep.DeepCutAuto
import Derived.Deep.CutBlock
import Derived.Deep.RegionHeld3
import Derived.Laws.Rows
import Derived.Lib.AppendStr
import Derived.ArgAppend
import Derived.Laws.IdiomCopy
import Derived.OrdersHeld
import Derived.Laws.BitsLemmas
import Derived.Laws.Bits64
import Derived.RowKit
import Derived.Outline
import Derived.Handy
import Derived.Lib.Hide
import Derived.Deep.Light
import Derived.Laws.CopyOwn
import Derived.Lib.QuietBelow
import Derived.Shelf.Strings.Prefix
import Derived.Shelf.Small.Strs
import Derived.Shelf.Strconv.AtoiAll
import Derived.Ground.NamesProg
import Derived.Lib.AtoiErrMem
namespace Go.Proofs.YtbakfpoejoajeaaDoor.Hand
open Go Go.RowKit Go.Proofs.YtbakfpoejoajeaaDoor.M
set_option linter.unusedVariables false
set_option linter.unusedSimpArgs false
attribute [local go_sem] Oper.semAt_some
/-- A source: its block, and that nothing else of the old blocks has changed. -/
structure SrcAt (w W : World) (p : Nat) (b : ByteArray) (n : Nat) : Prop where
  b : Blk W p #[.string b, .int .i64 n] 39
  g : w.grownBy W (some p)
theorem SrcAt.start {w : World} {p n : Nat} {b : ByteArray} (h : Blk w p #[.string b, .int .i64 n] 39) : SrcAt w w p b n := ⟨h, ⟨rfl, rfl, rfl, Nat.le_refl _, fun _ _ _ => rfl⟩⟩
theorem grown_below {w W W' : World} {r : Option Nat} (h : w.grownBy W r) (d : Below W.heap.size W W') : w.grownBy W' r :=
  ⟨d.os.trans h.os, d.tape.trans h.tape, d.output.trans h.output, Nat.le_trans h.size d.size, fun k hk hne => (d.block k (Nat.lt_of_lt_of_le hk h.size)).trans (h.block k hk hne)⟩
theorem SrcAt.below {w W W' : World} {p n : Nat} {b : ByteArray} (h : SrcAt w W p b n) (d : Below W.heap.size W W') : SrcAt w W' p b n := ⟨h.b.below d, grown_below h.g d⟩
theorem SrcAt.set {w W : World} {p n : Nat} {b : ByteArray} (h : SrcAt w W p b n) (m : Nat) : SrcAt w (W.setCell ⟨p, 1, none⟩ (.int .i64 m)) p b m :=
  ⟨h.b.set 1 (.int .i64 m), ⟨h.g.os, h.g.tape, h.g.output, by simpa [World.setCell] using h.g.size, fun j hj hne => (Below.heap_setCell W ⟨p, 1, none⟩ _ j (fun e => hne (by rw [e]))).trans (h.g.block j hj hne)⟩⟩
theorem SrcAt.trans {w W V : World} {p n m : Nat} {b : ByteArray} (h : SrcAt w W p b n) (g : SrcAt W V p b m) : SrcAt w V p b m :=
  ⟨g.b, ⟨g.g.os.trans h.g.os, g.g.tape.trans h.g.tape, g.g.output.trans h.g.output, Nat.le_trans h.g.size g.g.size, fun k hk hne => (g.g.block k (Nat.lt_of_lt_of_le hk h.g.size) hne).trans (h.g.block k hk hne)⟩⟩
/-- How many bytes are such. -/
def takeN (P : UInt8 → Bool) (l : List UInt8) : Nat := (l.takeWhile P).length
theorem takeN_step (P : UInt8 → Bool) (l : List UInt8) (i : Nat) (h : i < l.length) : takeN P (l.drop i) = if P l[i] = true then 1 + takeN P (l.drop (i + 1)) else 0 := by
  unfold takeN
  rw [List.drop_eq_getElem_cons h, List.takeWhile_cons]
  split
  · rw [List.length_cons]; omega
  · rfl
theorem takeN_end (P : UInt8 → Bool) (l : List UInt8) (i : Nat) (h : l.length ≤ i) : takeN P (l.drop i) = 0 := by
  unfold takeN
  rw [List.drop_of_length_le h]; rfl
theorem takeN_le (P : UInt8 → Bool) (l : List UInt8) : takeN P l ≤ l.length := List.Sublist.length_le (List.takeWhile_sublist P)
def placeOf (p : Nat) (W : World) : Nat := match W.cell? ⟨p, 1, none⟩ with
  | some (.int _ n) => n.toNat
  | _ => 0
theorem SrcAt.place {w W : World} {p n : Nat} {b : ByteArray} (h : SrcAt w W p b n) : placeOf p W = n := by
  unfold placeOf
  rw [show W.cell? ⟨p, 1, none⟩ = some (.int .i64 n) from h.b.cell 1]
  simp
set_option maxRecDepth 100000 in
set_option maxHeartbeats 4000000 in
theorem take_any (b : ByteArray) (p n K : Nat) (P : UInt8 → Bool) (w : World) (hb : Blk w p #[.string b, .int .i64 n] 39) (hn : n ≤ b.size) (hs : b.size ≤ 4611686018427387904)
    (hE : ∀ args w, (callFunc K args).run Tryd.prog w = .ok (.enter K args) w) (hC : ∀ (u : UInt8) (W : World), Calls Tryd.prog K #[.int .u8 u.toNat] W fun e w' => e = .returned (.bool (P u)) ∧ W = w') :
    Calls Tryd.prog 23 #[.pointer (some ⟨p, 0, none⟩), .func (.func K) #[] #[]] w fun e w' => e = .returned (.string (b.extract n (n + takeN P (b.toList.drop n)))) ∧ SrcAt w w' p b (n + takeN P (b.toList.drop n)) := by
  have HS := Lib.hid (SrcAt.start hb)
  have hl := str_len b
  have HC := Lib.hid hC
  have c1 : w.cell? ⟨p, 1, none⟩ = some (.int .i64 n) := hb.cell 1
  obtain ⟨R, hR0⟩ : ∃ R, takeN P (b.toList.drop n) = R := ⟨_, rfl⟩
  rw [hR0]
  replace hR0 := Lib.hid hR0
  clear hb hC
  go_enter Tryd.func23, Tryd.ntmps23
  go_wp2_with fail
  clear c1
  go_loopw [] (fun wr => ∃ i : Nat, n ≤ i ∧ i ≤ b.size ∧ Hid (n + R = i + takeN P (b.toList.drop i)) ∧ Hid (SrcAt w wr p b i)) (fun wr => b.size - placeOf p wr)
  case atStart => exact ⟨n, by omega, by omega, Lib.hid (by rw [hR0.out]), HS⟩
  case round =>
    obtain ⟨i, hni, hi, hR, HS⟩ := hrel
    have HW := HS
    have c0 : wr.cell? ⟨p, 0, none⟩ = some (.string b) := HS.out.b.cell 0
    have c1 : wr.cell? ⟨p, 1, none⟩ = some (.int .i64 i) := HS.out.b.cell 1
    have r0 := cell_regrown c0
    have r1 := cell_regrown c1
    clear c0 c1
    by_cases hlt : i < b.size
    · have hC1 := Lib.hid fun W => (HC.out b[i] W).mono fun e w' (h : e = .returned (.bool (P b[i])) ∧ W = w') => (⟨h.1, h.2 ▸ Below.refl _ _⟩ : e = .returned (.bool (P b[i])) ∧ Below W.heap.size W w')
      have hR2 := Lib.hid (show n + R = i + (if P b[i] = true then 1 + takeN P (b.toList.drop (i + 1)) else 0) by rw [hR.out, takeN_step P _ i (by omega), str_get b i hlt])
      clear hR HC
      generalize P b[i] = x at *
      go_wp2_with fail
      refine wp_region_quiet_below (by kernel_rfl) (by kernel_rfl) ?_
      repeat go_big_quiet_step (exact in_grow hC1.out _ _)
      refine wpQuiet_nil ?_
      intro _ hw'
      obtain ⟨⟨dq, osq⟩, hw''⟩ := hw'
      subst hw''
      clear r0 r1
      replace HS := Lib.hid (HS.out.below (below_regrown wr dq osq))
      generalize Sort.grow (redrawn wr dq) osq = Y at *
      cases x
      · have hnR : n + R = i := by rw [hR2.out]; simp
        have c0 : Y.cell? ⟨p, 0, none⟩ = some (.string b) := HS.out.b.cell 0
        have c1 : Y.cell? ⟨p, 1, none⟩ = some (.int .i64 i) := HS.out.b.cell 1
        have r0 := cell_regrown c0
        have r1 := cell_regrown c1
        clear c0 c1
        go_wp2_with fail
        refine wp_region_quiet_below (by kernel_rfl) (by kernel_rfl) ?_
        repeat go_big_quiet_step (fail)
        refine wpQuiet_nil ?_
        intro _ hw'
        obtain ⟨⟨dq, osq⟩, hw''⟩ := hw'
        subst hw''
        clear r0 r1
        replace HS := Lib.hid (HS.out.below (below_regrown Y dq osq))
        generalize Sort.grow (redrawn Y dq) osq = Z at *
        go_wp2_with fail
        go_ret
        exact ⟨by rw [hnR]; rfl, hnR ▸ HS.out⟩
      · have c1 : Y.cell? ⟨p, 1, none⟩ = some (.int .i64 i) := HS.out.b.cell 1
        have hfz := HS.out.b.frozen 1
        go_wp2_with fail
        go_roundw
        case rel => exact ⟨i + 1, by omega, by omega, Lib.hid (by rw [hR2.out]; simp; omega), Lib.hid (HS.out.set (i + 1))⟩
        case measure =>
          have e1 := (HS.out.set (i + 1)).place
          have e2 := HW.out.place
          rw [e2]
          exact Nat.lt_of_le_of_lt (Nat.le_of_eq (congrArg (b.size - ·) e1)) (by omega)
    · have hnR : n + R = i := by rw [hR.out, takeN_end _ _ _ (by omega)]; rfl
      go_wp2_with fail
      refine wp_region_quiet_below (by kernel_rfl) (by kernel_rfl) ?_
      repeat go_big_quiet_step (fail)
      refine wpQuiet_nil ?_
      intro _ hw'
      obtain ⟨⟨dq, osq⟩, hw''⟩ := hw'
      subst hw''
      clear r0 r1
      replace HS := Lib.hid (HS.out.below (below_regrown wr dq osq))
      generalize Sort.grow (redrawn wr dq) osq = Y at *
      have c0 : Y.cell? ⟨p, 0, none⟩ = some (.string b) := HS.out.b.cell 0
      have c1 : Y.cell? ⟨p, 1, none⟩ = some (.int .i64 i) := HS.out.b.cell 1
      have r0 := cell_regrown c0
      have r1 := cell_regrown c1
      clear c0 c1
      go_wp2_with fail
      refine wp_region_quiet_below (by kernel_rfl) (by kernel_rfl) ?_
      repeat go_big_quiet_step (fail)
      refine wpQuiet_nil ?_
      intro _ hw'
      obtain ⟨⟨dq, osq⟩, hw''⟩ := hw'
      subst hw''
      clear r0 r1
      replace HS := Lib.hid (HS.out.below (below_regrown Y dq osq))
      generalize Sort.grow (redrawn Y dq) osq = Z at *
      go_wp2_with fail
      go_ret
      exact ⟨by rw [hnR]; rfl, hnR ▸ HS.out⟩
end Go.Proofs.YtbakfpoejoajeaaDoor.Hand
