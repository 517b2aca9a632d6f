/- DERIVED. DERIVED. The chapter's example. -/
import Derived.Test.YtcjfafhbohkhlaaGreatProg
import Derived.Test.YtcjfafhbohkhlaaGreatMBits
import Derived.Test.YtcjfafhbohkhlaaGreatMWalk
import Derived.Test.YtcjfafhbohkhlaaGreatMTab
import Derived.Test.YtcjfafhbohkhlaaGreatMInst
import Derived.Test.YtcjfafhbohkhlaaGreatMDec
import Derived.Test.YtcjfafhbohkhlaaGreatMDec2
import Derived.Test.YtcjfafhbohkhlaaGreatMQTail
import Derived.Test.YtcjfafhbohkhlaaGreatMArg
import Derived.Test.YtcjfafhbohkhlaaGreatMMem
import Derived.Test.YtcjfafhbohkhlaaGreatMMemK
import Derived.Test.YtcjfafhbohkhlaaGreatMMemR
import Derived.Test.YtcjfafhbohkhlaaGreatMHart
import Derived.Test.YtcjfafhbohkhlaaGreatMRow
import Derived.Test.YtcjfafhbohkhlaaGreatMOpen
import Derived.Test.YtcjfafhbohkhlaaGreatMPart
import Derived.Test.YtcjfafhbohkhlaaGreatMReg
import Derived.Test.YtcjfafhbohkhlaaGreatMQHead
import Derived.Test.YtcjfafhbohkhlaaGreatHF
import Derived.Test.YtcjfafhbohkhlaaGreatPAllx0
import Derived.Test.YtcjfafhbohkhlaaGreatPAllx2
import Derived.Test.YtcjfafhbohkhlaaGreatPAllx4
import Derived.Test.YtcjfafhbohkhlaaGreatPAllx5
import Derived.Test.YtcjfafhbohkhlaaGreatPAllx6
import Derived.Test.YtcjfafhbohkhlaaGreatPAllx9
import Derived.Test.YtcjfafhbohkhlaaGreatPAllx11
import Derived.Test.YtcjfafhbohkhlaaGreatPAllx12
import Derived.Test.YtcjfafhbohkhlaaGreatPAllx14
import Derived.Test.YtcjfafhbohkhlaaGreatPAllx16
import Derived.Test.YtcjfafhbohkhlaaGreatPAllx20
import Derived.Below
import Derived.Deep.Draws
import Derived.Deep.AppendLies
import Derived.Maps.AppendAt
import Derived.OwnWalk
import Derived.Laws.BytesArg
import Derived.Laws.MakeOwn
import Derived.Laws.OwnMore
import Derived.Deep.OwnRows
import Derived.Tactics
import Derived.Lib.ConvBytes
import Derived.Laws.Slices
import Derived.WalkKit
import Derived.KernelRfl
import Derived.RowKit3
import Derived.Deep.LoopGhost
import Derived.Deep.QuietTactic
import Derived.BigQuiet
import Derived.WideLaws
import Derived.Deep.DeepCutAuto
import Derived.Deep.CutBlock
import Derived.Deep.RegionHeld3
import Derived.Laws.Rows
import Derived.Lib.AppendStr
import Derived.ArgAppend
import Derived.Laws.IdiomCopy
import Derived.OrdersHeld
import Derived.Laws.BitsLemmas
import Derived.Laws.Bits64
import Derived.RowKit
import Derived.Outline
import Derived.Handy
import Derived.Lib.Hide
import Derived.Deep.Light
import Derived.Laws.CopyOwn
namespace Go.Proofs.YtcjfafhbohkhlaaGreat.Hand
open Go Go.RowKit Go.Proofs.YtcjfafhbohkhlaaGreat.M Go.Proofs.YtcjfafhbohkhlaaGreat.PAll Go.Proofs.YtcjfafhbohkhlaaGreatW.PrintWords
set_option linter.unusedVariables false
set_option linter.unusedSimpArgs false
def l3 : List InstS := [⟨22, 1, 0, 0, 5, false, false⟩, ⟨31, 2, 1, 1, 0, false, false⟩, ⟨51, 0, 0, 0, 0, false, false⟩]
def h3 : HartS := ⟨8, 0 :: 5 :: 10 :: List.replicate 29 0, false, 0, 0⟩
theorem lives_run : (runOf 10 H0 (laidTo 64 l3 3)).1 = h3 ∧ (runOf 10 H0 (laidTo 64 l3 3)).2.2.1 = 2 ∧ (runOf 10 H0 (laidTo 64 l3 3)).2.2.2 = 60 := ⟨by kernel_rfl, by kernel_rfl, by kernel_rfl⟩
theorem l3_size : (laidTo 64 l3 3).length = 64 := by kernel_rfl
theorem h3_ok : h3.Ok := ⟨by decide, by decide, by decide, by decide, by decide⟩
theorem h0_ok : H0.Ok := ⟨by decide, by decide, by decide, by decide, by decide⟩
theorem l3_i64 : ∀ i ∈ l3, I64 i.imm := by decide
theorem flat_cell : ∀ (l : List InstS) (k f : Nat) (i : InstS), l[k]? = some i → f < 7 → (l.flatMap fun i => i.cells.toList)[7 * k + f]? = i.cells[f]? := by
  intro l
  induction l with
  | nil => intro k f i h _; simp at h
  | cons a l ih =>
    intro k f i h hf
    have hs : a.cells.toList.length = 7 := rfl
    cases k with
    | zero =>
      obtain rfl : a = i := by simpa using h
      rw [List.flatMap_cons, List.getElem?_append_left (by rw [hs]; omega), show 7 * 0 + f = f by omega, Array.getElem?_toList]
    | succ k =>
      rw [List.flatMap_cons, List.getElem?_append_right (by rw [hs]; omega), hs, show 7 * (k + 1) + f - 7 = 7 * k + f by omega]
      exact ih k f i (by simpa using h) hf
theorem inst_row {w : World} {b : Nat} {l : List InstS} (B : Blk w b (l.flatMap fun i => i.cells.toList).toArray 50) : InstRow w (some ⟨b, 0, none⟩) l := fun _ => ⟨_, rfl, B.lt, fun k i hk f v hf => by
  have h7 : f < 7 := by
    have := (Array.getElem?_eq_some_iff.1 hf).1
    exact this
  have e : (⟨b, 0, none⟩ : Addr).add (7 * k + f) = ⟨b, 7 * k + f, none⟩ := by unfold Addr.add; split <;> simp_all
  rw [e, B.cell, List.getElem?_toArray, flat_cell l k f i hk h7, hf]⟩
set_option maxHeartbeats 16000000 in
set_option maxRecDepth 100000 in
theorem c_lives (w : World) : Calls Tryz.prog 5 #[] w fun e w' => e = .returned (.bool true) ∧ Below w.heap.size w w' := by
  have hk := h3_ok
  go_enter Tryz.func5, Tryz.ntmps5
  go_wp2_with fail
  generalize hX : World.alloc w _ = X
  have HB := Lib.hid (hX ▸ ((Below.refl w.heap.size w).alloc (Nat.le_refl _) _) : Below w.heap.size w X)
  have HI := Lib.hid (inst_row (l := l3) (Blk.new_eq hX))
  clear hX
  refine (laid_any 0 _ 3 3 l3 X rfl (by decide) HI.out l3_i64).mono ?_
  rintro e W1 ⟨g, q, gr, qr, rfl, M, _, hg, hq, _, _, _, _, _, d⟩
  have HB1 := Lib.hid (HB.out.trans (d.mono HB.out.size))
  have hq0 : w.heap.size ≤ q := Nat.le_trans HB.out.size hq
  have M : MemAt W1 g q (laidTo 64 l3 3) := M
  have HM := Lib.hid M
  clear M d hg hq HB HI
  go_wp2_with fail
  refine (run_any H0 g q 10 _ W1 h0_ok HM.out (by decide) (by rw [l3_size]; decide)).mono ?_
  rintro e W2 ⟨he, _, hG⟩
  obtain ⟨x1, x2, x3⟩ := lives_run
  rw [x1, x2, x3] at he
  subst he
  have HB2 := Lib.hid (below_grown HB1.out hG hq0 HB1.out.size)
  clear hG HM HB1 x1 x2 x3
  go_wp2_with (refine wpList_store_row rfl 25 _ _ rfl (W2.heap.size) h3.cells rfl rfl 25 _ (Blk.new _ _ _) (hart_info.trans (congrArg some (HartS.size hk).symm)) (HartS.size hk).symm (HartS.one _) ?_; (generalize hZ : World.setRow _ _ _ = Z; rw [World.setRow_alloc_new] at hZ; have B := Blk.new_eq hZ; have HB3 := Lib.hid (hZ ▸ HB2.out.alloc HB2.out.size _ : Below w.heap.size w Z); have c0 := (B.cell 0).trans (show _ = some (.int .u64 8) from rfl); have c3 := (B.cell 3).trans (show _ = some (.int .u64 10) from rfl); clear hZ B HB2))
  go_ret
  exact ⟨rfl, HB3.out⟩
end Go.Proofs.YtcjfafhbohkhlaaGreat.Hand
