/- DERIVED. DERIVED. The chapter's example: its words; a constant's bytes. -/
import Derived.Test.YtbakfpoejoajeaaDoorProg
import Derived.Test.YtbakfpoejoajeaaDoorMBits
import Derived.Test.YtbakfpoejoajeaaDoorMWalk
import Derived.Test.YtbakfpoejoajeaaDoorMArg
import Derived.Test.YtbakfpoejoajeaaDoorMRow
import Derived.Test.YtbakfpoejoajeaaDoorMOpen
import Derived.Test.YtbakfpoejoajeaaDoorMPart
import Derived.Test.YtbakfpoejoajeaaDoorMStore
import Derived.Test.YtbakfpoejoajeaaDoorMMem
import Derived.Test.YtbakfpoejoajeaaDoorHF
import Derived.Below
import Derived.Deep.Draws
import Derived.Deep.AppendLies
import Derived.Maps.AppendAt
import Derived.OwnWalk
import Derived.Laws.BytesArg
import Derived.Laws.MakeOwn
import Derived.Laws.OwnMore
import Derived.Deep.OwnRows
import Derived.Tactics
import Derived.Lib.ConvBytes
import Derived.Laws.Slices
import Derived.WalkKit
import Derived.KernelRfl
import Derived.RowKit3
import Derived.Deep.LoopGhost
import Derived.Deep.QuietTactic
import Derived.BigQuiet
import Derived.WideLaws
import Derived.Deep.DeepCutAuto
import Derived.Deep.CutBlock
import Derived.Deep.RegionHeld3
import Derived.Laws.Rows
import Derived.Lib.AppendStr
import Derived.ArgAppend
import Derived.Laws.IdiomCopy
import Derived.OrdersHeld
import Derived.Laws.BitsLemmas
import Derived.Laws.Bits64
import Derived.RowKit
import Derived.Outline
import Derived.Handy
import Derived.Lib.Hide
import Derived.Deep.Light
import Derived.Laws.CopyOwn
import Derived.Lib.QuietBelow
import Derived.Shelf.Strings.Prefix
import Derived.Shelf.Small.Strs
import Derived.Shelf.Strconv.AtoiAll
import Derived.Ground.NamesProg
import Derived.Lib.AtoiErrMem
namespace Go.Proofs.YtbakfpoejoajeaaDoor.Hand
open Go Go.RowKit Go.Proofs.YtbakfpoejoajeaaDoor.M
set_option linter.unusedVariables false
set_option linter.unusedSimpArgs false
attribute [local go_sem] Oper.semAt_some
def liveB : ByteArray := ⟨#[115, 101, 110, 100, 32, 112, 44, 32, 123, 39, 97, 44, 32, 49, 50, 125, 59]⟩
def liveL : List Tok := [⟨1, 0, ⟨#[115, 101, 110, 100]⟩, 0⟩, ⟨1, 5, ⟨#[112]⟩, 0⟩, ⟨4, 6, ⟨#[44]⟩, 0⟩, ⟨4, 8, ⟨#[123]⟩, 0⟩, ⟨3, 9, ⟨#[97]⟩, 0⟩, ⟨4, 11, ⟨#[44]⟩, 0⟩, ⟨2, 13, ⟨#[49, 50]⟩, 12⟩, ⟨4, 15, ⟨#[125]⟩, 0⟩, ⟨4, 16, ⟨#[59]⟩, 0⟩, ⟨5, 17, ⟨#[]⟩, 0⟩]
theorem live_toks : tokensOf liveB = .ok liveL := by kernel_rfl
def liveN : List Int := [115, 101, 110, 100, 32, 112, 44, 32, 123, 39, 97, 44, 32, 49, 50, 125, 59]
theorem live_str : strOfNums liveN = liveB := by kernel_rfl
theorem live_conv {X : World} {g : Nat} (B : Blk X g #[.int .u8 115, .int .u8 101, .int .u8 110, .int .u8 100, .int .u8 32, .int .u8 112, .int .u8 44, .int .u8 32, .int .u8 123, .int .u8 39, .int .u8 97, .int .u8 44, .int .u8 32, .int .u8 49, .int .u8 50, .int .u8 125, .int .u8 59] 5) :
    (convert 22 9 (.slice (some ⟨g, 0, none⟩) 17 17)).run Tryd.prog X = .ok (.string liveB) X := by
  rw [← live_str]
  refine run_convert_src X 22 5 9 Tryd.underlying22 Tryd.underlying5 Tryd.underlying9 (some ⟨g, 0, none⟩) liveN 17 17 rfl (fun _ => ⟨_, rfl, B.lt, fun j x hx => ?_⟩)
  have h1 := B.cell j
  have h2 : (⟨g, 0, none⟩ : Addr).add j = ⟨g, j, none⟩ := by simp [Addr.add]; omega
  rw [h2, h1]
  have hj : j < 17 := (List.getElem?_eq_some_iff.1 hx).1
  match j, hj, hx with
  | 0, _, hx | 1, _, hx | 2, _, hx | 3, _, hx | 4, _, hx | 5, _, hx | 6, _, hx | 7, _, hx | 8, _, hx | 9, _, hx | 10, _, hx | 11, _, hx | 12, _, hx | 13, _, hx | 14, _, hx | 15, _, hx | 16, _, hx => (injection hx with hx; subst hx; rfl)
theorem conv_mark (g n : Nat) (cs : Array Value) (W : World) (B : Blk W g cs 5) (hs : cs.size = n) : (convert 22 22 (.slice (some ⟨g, 0, none⟩) n n)).run Tryd.prog W = .ok (.slice (some ⟨g, 0, none⟩) n n) (W.freeze ⟨g, n, none⟩ 1) := by
  have h1 : W.shape? g = some (5, n) := by
    unfold World.shape?
    rw [show W.heap[g]? = some (.cells cs 5 (0, 0)) from B]
    simp [hs]
  unfold convert
  simp [run_underlying Tryd.underlying22, run_underlying Tryd.underlying5, markStringish, h1, Result.andThen]
theorem freeze_cell (W : World) (g n : Nat) (a : Addr) : (W.freeze ⟨g, n, none⟩ 1).cell? a = W.cell? a := by
  unfold World.freeze World.cell?
  simp only [Nat.one_ne_zero, if_false, Array.getElem?_modify]
  by_cases h : g = a.block
  · simp only [if_pos h]
    cases hq : W.heap[a.block]? with
    | none => rfl
    | some o => cases o <;> rfl
  · simp only [if_neg h]
def liveC : Array Value := #[.int .u8 115, .int .u8 101, .int .u8 110, .int .u8 100, .int .u8 32, .int .u8 112, .int .u8 44, .int .u8 32, .int .u8 123, .int .u8 39, .int .u8 97, .int .u8 44, .int .u8 32, .int .u8 49, .int .u8 50, .int .u8 125, .int .u8 59]
theorem live_conv2 {X : World} {g : Nat} (hg : g < X.heap.size) (hc : ∀ j u, liveC[j]? = some u → X.cell? ⟨g, j, none⟩ = some u) :
    (convert 22 9 (.slice (some ⟨g, 0, none⟩) 17 17)).run Tryd.prog X = .ok (.string liveB) X := by
  rw [← live_str]
  refine run_convert_src X 22 5 9 Tryd.underlying22 Tryd.underlying5 Tryd.underlying9 (some ⟨g, 0, none⟩) liveN 17 17 rfl (fun _ => ⟨_, rfl, hg, fun j x hx => ?_⟩)
  have h2 : (⟨g, 0, none⟩ : Addr).add j = ⟨g, j, none⟩ := by simp [Addr.add]; omega
  rw [h2]
  refine hc j _ ?_
  have hj : j < 17 := (List.getElem?_eq_some_iff.1 hx).1
  match j, hj, hx with
  | 0, _, hx | 1, _, hx | 2, _, hx | 3, _, hx | 4, _, hx | 5, _, hx | 6, _, hx | 7, _, hx | 8, _, hx | 9, _, hx | 10, _, hx | 11, _, hx | 12, _, hx | 13, _, hx | 14, _, hx | 15, _, hx | 16, _, hx => (injection hx with hx; subst hx; rfl)
theorem below_freeze {w W : World} {g n : Nat} (d : Below w.heap.size w W) (hg : w.heap.size ≤ g) : Below w.heap.size w (W.freeze ⟨g, n, none⟩ 1) := by
  refine ⟨d.os, d.tape, d.output, ?_, fun k hk => ?_⟩
  · unfold World.freeze
    simp only [Nat.one_ne_zero, if_false, Array.size_modify]
    exact d.size
  · unfold World.freeze
    simp only [Nat.one_ne_zero, if_false, Array.getElem?_modify]
    rw [if_neg (by omega)]
    exact d.block k hk
set_option maxRecDepth 100000 in
set_option maxHeartbeats 4000000 in
theorem lives_any (w : World) (hV : ErrVars w) : Calls Tryd.prog 8 #[] w fun e w' => e = .returned (.bool true) ∧ Below w.heap.size w w' := by
  have HV := Lib.hid hV
  have hcm := conv_mark w.heap.size 17 liveC (w.alloc (.cells liveC 5)) (Blk.new _ _ _) rfl
  have hB := Lib.hid (Blk.new w liveC 5)
  unfold liveC at hcm
  go_enter Tryd.func8, Tryd.ntmps8
  go_upto_region 2 with fail
  generalize hX : World.freeze _ _ _ = X
  have dX : Below w.heap.size w X := hX ▸ below_freeze ((Below.refl w.heap.size w).alloc (Nat.le_refl _) (.cells liveC 5)) (Nat.le_refl _)
  have hg : w.heap.size < X.heap.size := by rw [← hX]; simp [World.freeze]
  have hcl : ∀ j u, liveC[j]? = some u → X.cell? ⟨w.heap.size, j, none⟩ = some u := fun j u hu => by rw [← hX]; exact (freeze_cell _ _ _ _).trans ((hB.out.cell j).trans hu)
  clear hX
  refine (Tokens_any (some ⟨w.heap.size, 0, none⟩) 17 liveB X (by decide) (live_conv2 hg hcl) (HV.out.below dX)).mono ?_
  rw [live_toks]
  rintro e W ⟨dW, v, rfl, hO⟩
  have DW := Lib.hid (dX.trans (dW.mono dX.size))
  have hO2 := hO.2
  rcases hO2 with ⟨_, h0⟩ | ⟨g, cap, cur, rfl, h1, h2, h3, _⟩
  · exact absurd h0 (by decide)
  · have hcc : ∀ j u, (flatToks liveL)[j]? = some u → W.cell? ⟨g, j, none⟩ = some u := fun j u hu => by
      have := World.ownsRow.cells hO (g := g) rfl j u hu
      rw [show (⟨g, 0, none⟩ : Addr).add j = ⟨g, j, none⟩ by simp [Addr.add]; omega] at this
      exact this
    have k4 : CellsAt W ⟨g, 16, none⟩ #[.int .i64 3, .int .i64 9, .string ⟨#[97]⟩, .int .i64 0] := fun j u hu => by
      have hj := (Array.getElem?_eq_some_iff.1 hu).1
      simp at hj
      match j, hj, hu with
      | 0, _, hu | 1, _, hu | 2, _, hu | 3, _, hu => exact hcc _ _ hu
    have k9 : CellsAt W ⟨g, 36, none⟩ #[.int .i64 5, .int .i64 17, .string ⟨#[]⟩, .int .i64 0] := fun j u hu => by
      have hj := (Array.getElem?_eq_some_iff.1 hu).1
      simp at hj
      match j, hj, hu with
      | 0, _, hu | 1, _, hu | 2, _, hu | 3, _, hu => exact hcc _ _ hu
    have k6 : W.cell? ⟨g, 27, none⟩ = some (.int .i64 12) := hcc 27 _ rfl
    replace k4 := Lib.hid k4
    replace k9 := Lib.hid k9
    clear hcc h1 h2 h3 hO
    go_wp2_with (first
      | (refine wpList_load_in rfl 34 _ rfl ⟨g, 16, none⟩ rfl #[.int .i64 3, .int .i64 9, .string ⟨#[97]⟩, .int .i64 0] _ k4.out Tryd.underlying34 rfl tok_info ?_)
      | (refine wpList_load_in rfl 34 _ rfl ⟨g, 36, none⟩ rfl #[.int .i64 5, .int .i64 17, .string ⟨#[]⟩, .int .i64 0] _ k9.out Tryd.underlying34 rfl tok_info ?_))
    go_ret
    exact ⟨rfl, DW.out⟩
end Go.Proofs.YtbakfpoejoajeaaDoor.Hand
