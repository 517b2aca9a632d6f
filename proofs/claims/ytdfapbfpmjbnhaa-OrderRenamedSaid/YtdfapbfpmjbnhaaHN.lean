/- DERIVED. DERIVED. Whether an operation may be. -/
import Derived.Test.YtdfapbfpmjbnhaaProg
import Derived.Test.YtdfapbfpmjbnhaaMBits
import Derived.Test.YtdfapbfpmjbnhaaMWalk
import Derived.Test.YtdfapbfpmjbnhaaMArg
import Derived.Test.YtdfapbfpmjbnhaaMRow
import Derived.Test.YtdfapbfpmjbnhaaMOpen
import Derived.Test.YtdfapbfpmjbnhaaMPart
import Derived.Test.YtdfapbfpmjbnhaaMGoMap
import Derived.Test.YtdfapbfpmjbnhaaHM
import Derived.Below
import Derived.Deep.Draws
import Derived.Deep.AppendLies
import Derived.Maps.AppendAt
import Derived.OwnWalk
import Derived.Laws.BytesArg
import Derived.Laws.MakeOwn
import Derived.Laws.OwnMore
import Derived.Deep.OwnRows
import Derived.Tactics
import Derived.Lib.ConvBytes
import Derived.Laws.Slices
import Derived.WalkKit
import Derived.KernelRfl
import Derived.RowKit3
import Derived.Deep.LoopGhost
import Derived.Deep.QuietTactic
import Derived.BigQuiet
import Derived.WideLaws
import Derived.Deep.DeepCutAuto
import Derived.Deep.CutBlock
import Derived.Deep.RegionHeld3
import Derived.Laws.Rows
import Derived.Lib.AppendStr
import Derived.ArgAppend
import Derived.Laws.IdiomCopy
import Derived.OrdersHeld
import Derived.Laws.BitsLemmas
import Derived.Laws.Bits64
import Derived.RowKit
import Derived.Outline
import Derived.Handy
import Derived.Lib.Hide
import Derived.Deep.Light
import Derived.Laws.CopyOwn
import Derived.Laws.AppendOwnNone
import Derived.RangeFuncNested
import Derived.RangeFuncBound
import Derived.RangeFuncCalls
import Derived.RangeFuncLeaves
import Derived.Shelf.Abstract
import Derived.Shelf.RegionOpen
import Derived.OwnWalkIn
import Derived.TacticsInMore
import Derived.LoopNIn
import Derived.LoopIn
import Derived.Maps.OwnIn
import Derived.Deep.WholeRow
namespace Go.Proofs.Ytdfapbfpmjbnhaa.Hand
open Go Go.RowKit Go.Proofs.Ytdfapbfpmjbnhaa.M
set_option linter.unusedVariables false
set_option linter.unusedSimpArgs false
attribute [local go_sem] Oper.semAt_some
/-- May an operation that is no fence be? -/
def sizeB (o : OpS) : Bool := o.size == 1 || o.size == 2 || o.size == 4 || o.size == 8
def mayOf (o : OpS) : Bool := touchB o && (sizeB o && (hasOf o o.addr && ((o.load && ((o.frm.n : Int) == o.size)) || (!o.load && (o.frm.n == 0)))))
set_option maxRecDepth 100000 in
set_option maxHeartbeats 4000000 in
theorem may_any (o : OpS) (w : World) (hO : o.At w) : Calls Try.prog 18 #[.agg o.cells] w fun e w' => e = .returned (.bool (mayOf o)) ∧ Below w.heap.size w w' := by
  have n1 : mayOf o = (touchB o && (sizeB o && (hasOf o o.addr && ((o.load && ((o.frm.n : Int) == o.size)) || (!o.load && (o.frm.n == 0)))))) := rfl
  have n2 : sizeB o = (o.size == 1 || o.size == 2 || o.size == 4 || o.size == 8) := rfl
  have S1 := Lib.hid fun W => touches_any o W
  have S2 := Lib.hid fun W => has_any o o.addr W hO.u hO.z
  have hn := hO.f.2.2.1
  have HB : Hid (∀ W, Below (w.alloc (.cells o.cells 29)).heap.size (w.alloc (.cells o.cells 29)) W → W.cell? ⟨w.heap.size, 1, none⟩ = some (.bool o.load) ∧ W.cell? ⟨w.heap.size, 4, none⟩ = some (.int .u64 o.addr) ∧ W.cell? ⟨w.heap.size, 5, none⟩ = some (.int .i64 o.size) ∧ W.cell? ⟨w.heap.size, 12, none⟩ = some (.slice o.frm.a o.frm.n o.frm.c) ∧ Blk W w.heap.size o.cells 29 ∧ Below w.heap.size w W) :=
    Lib.hid fun W d => by
      obtain ⟨bx, dx, sx⟩ := arg_box (w := w) (cs := o.cells) (T := 29) rfl
      exact ⟨cLoad (bx.below d), cAddr (bx.below d), cSize (bx.below d), (bx.below d).cell 12, bx.below d, dx.trans (d.mono dx.size)⟩
  generalize mayOf o = R at *
  generalize sizeB o = SB at *
  generalize touchB o = T at *
  generalize hasOf o o.addr = H at *
  generalize hL : o.load = L at *
  generalize hA : o.addr = A at *
  generalize hZ : o.size = Z at *
  generalize hfa : o.frm.a = fa at *
  generalize hfn : o.frm.n = fn at *
  generalize hfc : o.frm.c = fc at *
  have N1 := Lib.hid n1
  have N2 := Lib.hid n2
  clear n1 n2 hO hL hA hZ hfa hfn hfc
  cases T
  · go_enter Try.func18, Try.ntmps18
    go_wp2_with ((refine wpList_load_row rfl 29 _ rfl w.heap.size rfl 29 _ _ _ (Blk.new _ _ _) Try.underlying29 rfl op_info ?_))
    refine (S1.out _).mono ?_
    clear S1
    rintro e W ⟨rfl, d2⟩
    obtain ⟨c1, c4, c5, c12, b2, d3⟩ := HB.out _ d2
    have HD := Lib.hid d3
    replace b2 := Lib.hid b2
    clear d3
    go_wp2_with fail
    go_ret
    exact ⟨by rw [N1.out]; rfl, HD.out⟩
  · by_cases hz : Z = 1 ∨ Z = 2 ∨ Z = 4 ∨ Z = 8
    · have hsb : SB = true := by rw [N2.out]; rcases hz with rfl | rfl | rfl | rfl <;> rfl
      rw [hsb] at N1
      clear N2 hsb
      rcases hz with rfl | rfl | rfl | rfl
      · cases H
        · go_enter Try.func18, Try.ntmps18
          go_wp2_with ((refine wpList_load_row rfl 29 _ rfl w.heap.size rfl 29 _ _ _ (Blk.new _ _ _) Try.underlying29 rfl op_info ?_))
          refine (S1.out _).mono ?_
          clear S1
          rintro e W ⟨rfl, d2⟩
          obtain ⟨c1, c4, c5, c12, b2, d3⟩ := HB.out _ d2
          have HD := Lib.hid d3
          replace b2 := Lib.hid b2
          clear d3
          go_wp2_with (refine wpList_load_in rfl 29 _ rfl ⟨w.heap.size, 0, none⟩ rfl o.cells _ b2.out.whole Try.underlying29 rfl op_info ?_)
          refine (S2.out _).mono ?_
          clear S2
          rintro e W3 ⟨rfl, hd2⟩
          clear c1 c4 c5 c12 HD
          obtain ⟨c1, c4, c5, c12, b3, d3⟩ := HB.out _ (d2.trans (hd2.mono d2.size))
          have HD := Lib.hid d3
          clear d2 hd2 d3 b2 b3 HB
          go_wp2_with fail
          go_ret
          exact ⟨by rw [N1.out]; rfl, HD.out⟩
        · cases L
          · have hf2 : ((fn : Int) == 0) = (fn == 0) := by rw [Bool.eq_iff_iff]; simp
            by_cases hf : fn = 0
            · have hf3 : (fn == 0) = true := by simp [hf]
              rw [hf3] at hf2 N1
              go_enter Try.func18, Try.ntmps18
              go_wp2_with ((refine wpList_load_row rfl 29 _ rfl w.heap.size rfl 29 _ _ _ (Blk.new _ _ _) Try.underlying29 rfl op_info ?_))
              refine (S1.out _).mono ?_
              clear S1
              rintro e W ⟨rfl, d2⟩
              obtain ⟨c1, c4, c5, c12, b2, d3⟩ := HB.out _ d2
              have HD := Lib.hid d3
              replace b2 := Lib.hid b2
              clear d3
              go_wp2_with (refine wpList_load_in rfl 29 _ rfl ⟨w.heap.size, 0, none⟩ rfl o.cells _ b2.out.whole Try.underlying29 rfl op_info ?_)
              refine (S2.out _).mono ?_
              clear S2
              rintro e W3 ⟨rfl, hd2⟩
              clear c1 c4 c5 c12 HD
              obtain ⟨c1, c4, c5, c12, b3, d3⟩ := HB.out _ (d2.trans (hd2.mono d2.size))
              have HD := Lib.hid d3
              clear d2 hd2 d3 b2 b3 HB
              go_wp2_with fail
              go_ret
              exact ⟨by rw [N1.out]; rfl, HD.out⟩
            · have hf3 : (fn == 0) = false := by simp [hf]
              rw [hf3] at hf2 N1
              go_enter Try.func18, Try.ntmps18
              go_wp2_with ((refine wpList_load_row rfl 29 _ rfl w.heap.size rfl 29 _ _ _ (Blk.new _ _ _) Try.underlying29 rfl op_info ?_))
              refine (S1.out _).mono ?_
              clear S1
              rintro e W ⟨rfl, d2⟩
              obtain ⟨c1, c4, c5, c12, b2, d3⟩ := HB.out _ d2
              have HD := Lib.hid d3
              replace b2 := Lib.hid b2
              clear d3
              go_wp2_with (refine wpList_load_in rfl 29 _ rfl ⟨w.heap.size, 0, none⟩ rfl o.cells _ b2.out.whole Try.underlying29 rfl op_info ?_)
              refine (S2.out _).mono ?_
              clear S2
              rintro e W3 ⟨rfl, hd2⟩
              clear c1 c4 c5 c12 HD
              obtain ⟨c1, c4, c5, c12, b3, d3⟩ := HB.out _ (d2.trans (hd2.mono d2.size))
              have HD := Lib.hid d3
              clear d2 hd2 d3 b2 b3 HB
              go_wp2_with fail
              go_ret
              exact ⟨by rw [N1.out]; rfl, HD.out⟩
          · by_cases hf : (fn : Int) = 1
            · have hf3 : ((fn : Int) == 1) = true := by simp [hf]
              rw [hf3] at N1
              go_enter Try.func18, Try.ntmps18
              go_wp2_with ((refine wpList_load_row rfl 29 _ rfl w.heap.size rfl 29 _ _ _ (Blk.new _ _ _) Try.underlying29 rfl op_info ?_))
              refine (S1.out _).mono ?_
              clear S1
              rintro e W ⟨rfl, d2⟩
              obtain ⟨c1, c4, c5, c12, b2, d3⟩ := HB.out _ d2
              have HD := Lib.hid d3
              replace b2 := Lib.hid b2
              clear d3
              go_wp2_with (refine wpList_load_in rfl 29 _ rfl ⟨w.heap.size, 0, none⟩ rfl o.cells _ b2.out.whole Try.underlying29 rfl op_info ?_)
              refine (S2.out _).mono ?_
              clear S2
              rintro e W3 ⟨rfl, hd2⟩
              clear c1 c4 c5 c12 HD
              obtain ⟨c1, c4, c5, c12, b3, d3⟩ := HB.out _ (d2.trans (hd2.mono d2.size))
              have HD := Lib.hid d3
              clear d2 hd2 d3 b2 b3 HB
              go_wp2_with fail
              go_ret
              exact ⟨by rw [N1.out]; rfl, HD.out⟩
            · have hf3 : ((fn : Int) == 1) = false := by simp [hf]
              rw [hf3] at N1
              go_enter Try.func18, Try.ntmps18
              go_wp2_with ((refine wpList_load_row rfl 29 _ rfl w.heap.size rfl 29 _ _ _ (Blk.new _ _ _) Try.underlying29 rfl op_info ?_))
              refine (S1.out _).mono ?_
              clear S1
              rintro e W ⟨rfl, d2⟩
              obtain ⟨c1, c4, c5, c12, b2, d3⟩ := HB.out _ d2
              have HD := Lib.hid d3
              replace b2 := Lib.hid b2
              clear d3
              go_wp2_with (refine wpList_load_in rfl 29 _ rfl ⟨w.heap.size, 0, none⟩ rfl o.cells _ b2.out.whole Try.underlying29 rfl op_info ?_)
              refine (S2.out _).mono ?_
              clear S2
              rintro e W3 ⟨rfl, hd2⟩
              clear c1 c4 c5 c12 HD
              obtain ⟨c1, c4, c5, c12, b3, d3⟩ := HB.out _ (d2.trans (hd2.mono d2.size))
              have HD := Lib.hid d3
              clear d2 hd2 d3 b2 b3 HB
              go_wp2_with fail
              go_ret
              exact ⟨by rw [N1.out]; rfl, HD.out⟩
      · cases H
        · go_enter Try.func18, Try.ntmps18
          go_wp2_with ((refine wpList_load_row rfl 29 _ rfl w.heap.size rfl 29 _ _ _ (Blk.new _ _ _) Try.underlying29 rfl op_info ?_))
          refine (S1.out _).mono ?_
          clear S1
          rintro e W ⟨rfl, d2⟩
          obtain ⟨c1, c4, c5, c12, b2, d3⟩ := HB.out _ d2
          have HD := Lib.hid d3
          replace b2 := Lib.hid b2
          clear d3
          go_wp2_with (refine wpList_load_in rfl 29 _ rfl ⟨w.heap.size, 0, none⟩ rfl o.cells _ b2.out.whole Try.underlying29 rfl op_info ?_)
          refine (S2.out _).mono ?_
          clear S2
          rintro e W3 ⟨rfl, hd2⟩
          clear c1 c4 c5 c12 HD
          obtain ⟨c1, c4, c5, c12, b3, d3⟩ := HB.out _ (d2.trans (hd2.mono d2.size))
          have HD := Lib.hid d3
          clear d2 hd2 d3 b2 b3 HB
          go_wp2_with fail
          go_ret
          exact ⟨by rw [N1.out]; rfl, HD.out⟩
        · cases L
          · have hf2 : ((fn : Int) == 0) = (fn == 0) := by rw [Bool.eq_iff_iff]; simp
            by_cases hf : fn = 0
            · have hf3 : (fn == 0) = true := by simp [hf]
              rw [hf3] at hf2 N1
              go_enter Try.func18, Try.ntmps18
              go_wp2_with ((refine wpList_load_row rfl 29 _ rfl w.heap.size rfl 29 _ _ _ (Blk.new _ _ _) Try.underlying29 rfl op_info ?_))
              refine (S1.out _).mono ?_
              clear S1
              rintro e W ⟨rfl, d2⟩
              obtain ⟨c1, c4, c5, c12, b2, d3⟩ := HB.out _ d2
              have HD := Lib.hid d3
              replace b2 := Lib.hid b2
              clear d3
              go_wp2_with (refine wpList_load_in rfl 29 _ rfl ⟨w.heap.size, 0, none⟩ rfl o.cells _ b2.out.whole Try.underlying29 rfl op_info ?_)
              refine (S2.out _).mono ?_
              clear S2
              rintro e W3 ⟨rfl, hd2⟩
              clear c1 c4 c5 c12 HD
              obtain ⟨c1, c4, c5, c12, b3, d3⟩ := HB.out _ (d2.trans (hd2.mono d2.size))
              have HD := Lib.hid d3
              clear d2 hd2 d3 b2 b3 HB
              go_wp2_with fail
              go_ret
              exact ⟨by rw [N1.out]; rfl, HD.out⟩
            · have hf3 : (fn == 0) = false := by simp [hf]
              rw [hf3] at hf2 N1
              go_enter Try.func18, Try.ntmps18
              go_wp2_with ((refine wpList_load_row rfl 29 _ rfl w.heap.size rfl 29 _ _ _ (Blk.new _ _ _) Try.underlying29 rfl op_info ?_))
              refine (S1.out _).mono ?_
              clear S1
              rintro e W ⟨rfl, d2⟩
              obtain ⟨c1, c4, c5, c12, b2, d3⟩ := HB.out _ d2
              have HD := Lib.hid d3
              replace b2 := Lib.hid b2
              clear d3
              go_wp2_with (refine wpList_load_in rfl 29 _ rfl ⟨w.heap.size, 0, none⟩ rfl o.cells _ b2.out.whole Try.underlying29 rfl op_info ?_)
              refine (S2.out _).mono ?_
              clear S2
              rintro e W3 ⟨rfl, hd2⟩
              clear c1 c4 c5 c12 HD
              obtain ⟨c1, c4, c5, c12, b3, d3⟩ := HB.out _ (d2.trans (hd2.mono d2.size))
              have HD := Lib.hid d3
              clear d2 hd2 d3 b2 b3 HB
              go_wp2_with fail
              go_ret
              exact ⟨by rw [N1.out]; rfl, HD.out⟩
          · by_cases hf : (fn : Int) = 2
            · have hf3 : ((fn : Int) == 2) = true := by simp [hf]
              rw [hf3] at N1
              go_enter Try.func18, Try.ntmps18
              go_wp2_with ((refine wpList_load_row rfl 29 _ rfl w.heap.size rfl 29 _ _ _ (Blk.new _ _ _) Try.underlying29 rfl op_info ?_))
              refine (S1.out _).mono ?_
              clear S1
              rintro e W ⟨rfl, d2⟩
              obtain ⟨c1, c4, c5, c12, b2, d3⟩ := HB.out _ d2
              have HD := Lib.hid d3
              replace b2 := Lib.hid b2
              clear d3
              go_wp2_with (refine wpList_load_in rfl 29 _ rfl ⟨w.heap.size, 0, none⟩ rfl o.cells _ b2.out.whole Try.underlying29 rfl op_info ?_)
              refine (S2.out _).mono ?_
              clear S2
              rintro e W3 ⟨rfl, hd2⟩
              clear c1 c4 c5 c12 HD
              obtain ⟨c1, c4, c5, c12, b3, d3⟩ := HB.out _ (d2.trans (hd2.mono d2.size))
              have HD := Lib.hid d3
              clear d2 hd2 d3 b2 b3 HB
              go_wp2_with fail
              go_ret
              exact ⟨by rw [N1.out]; rfl, HD.out⟩
            · have hf3 : ((fn : Int) == 2) = false := by simp [hf]
              rw [hf3] at N1
              go_enter Try.func18, Try.ntmps18
              go_wp2_with ((refine wpList_load_row rfl 29 _ rfl w.heap.size rfl 29 _ _ _ (Blk.new _ _ _) Try.underlying29 rfl op_info ?_))
              refine (S1.out _).mono ?_
              clear S1
              rintro e W ⟨rfl, d2⟩
              obtain ⟨c1, c4, c5, c12, b2, d3⟩ := HB.out _ d2
              have HD := Lib.hid d3
              replace b2 := Lib.hid b2
              clear d3
              go_wp2_with (refine wpList_load_in rfl 29 _ rfl ⟨w.heap.size, 0, none⟩ rfl o.cells _ b2.out.whole Try.underlying29 rfl op_info ?_)
              refine (S2.out _).mono ?_
              clear S2
              rintro e W3 ⟨rfl, hd2⟩
              clear c1 c4 c5 c12 HD
              obtain ⟨c1, c4, c5, c12, b3, d3⟩ := HB.out _ (d2.trans (hd2.mono d2.size))
              have HD := Lib.hid d3
              clear d2 hd2 d3 b2 b3 HB
              go_wp2_with fail
              go_ret
              exact ⟨by rw [N1.out]; rfl, HD.out⟩
      · cases H
        · go_enter Try.func18, Try.ntmps18
          go_wp2_with ((refine wpList_load_row rfl 29 _ rfl w.heap.size rfl 29 _ _ _ (Blk.new _ _ _) Try.underlying29 rfl op_info ?_))
          refine (S1.out _).mono ?_
          clear S1
          rintro e W ⟨rfl, d2⟩
          obtain ⟨c1, c4, c5, c12, b2, d3⟩ := HB.out _ d2
          have HD := Lib.hid d3
          replace b2 := Lib.hid b2
          clear d3
          go_wp2_with (refine wpList_load_in rfl 29 _ rfl ⟨w.heap.size, 0, none⟩ rfl o.cells _ b2.out.whole Try.underlying29 rfl op_info ?_)
          refine (S2.out _).mono ?_
          clear S2
          rintro e W3 ⟨rfl, hd2⟩
          clear c1 c4 c5 c12 HD
          obtain ⟨c1, c4, c5, c12, b3, d3⟩ := HB.out _ (d2.trans (hd2.mono d2.size))
          have HD := Lib.hid d3
          clear d2 hd2 d3 b2 b3 HB
          go_wp2_with fail
          go_ret
          exact ⟨by rw [N1.out]; rfl, HD.out⟩
        · cases L
          · have hf2 : ((fn : Int) == 0) = (fn == 0) := by rw [Bool.eq_iff_iff]; simp
            by_cases hf : fn = 0
            · have hf3 : (fn == 0) = true := by simp [hf]
              rw [hf3] at hf2 N1
              go_enter Try.func18, Try.ntmps18
              go_wp2_with ((refine wpList_load_row rfl 29 _ rfl w.heap.size rfl 29 _ _ _ (Blk.new _ _ _) Try.underlying29 rfl op_info ?_))
              refine (S1.out _).mono ?_
              clear S1
              rintro e W ⟨rfl, d2⟩
              obtain ⟨c1, c4, c5, c12, b2, d3⟩ := HB.out _ d2
              have HD := Lib.hid d3
              replace b2 := Lib.hid b2
              clear d3
              go_wp2_with (refine wpList_load_in rfl 29 _ rfl ⟨w.heap.size, 0, none⟩ rfl o.cells _ b2.out.whole Try.underlying29 rfl op_info ?_)
              refine (S2.out _).mono ?_
              clear S2
              rintro e W3 ⟨rfl, hd2⟩
              clear c1 c4 c5 c12 HD
              obtain ⟨c1, c4, c5, c12, b3, d3⟩ := HB.out _ (d2.trans (hd2.mono d2.size))
              have HD := Lib.hid d3
              clear d2 hd2 d3 b2 b3 HB
              go_wp2_with fail
              go_ret
              exact ⟨by rw [N1.out]; rfl, HD.out⟩
            · have hf3 : (fn == 0) = false := by simp [hf]
              rw [hf3] at hf2 N1
              go_enter Try.func18, Try.ntmps18
              go_wp2_with ((refine wpList_load_row rfl 29 _ rfl w.heap.size rfl 29 _ _ _ (Blk.new _ _ _) Try.underlying29 rfl op_info ?_))
              refine (S1.out _).mono ?_
              clear S1
              rintro e W ⟨rfl, d2⟩
              obtain ⟨c1, c4, c5, c12, b2, d3⟩ := HB.out _ d2
              have HD := Lib.hid d3
              replace b2 := Lib.hid b2
              clear d3
              go_wp2_with (refine wpList_load_in rfl 29 _ rfl ⟨w.heap.size, 0, none⟩ rfl o.cells _ b2.out.whole Try.underlying29 rfl op_info ?_)
              refine (S2.out _).mono ?_
              clear S2
              rintro e W3 ⟨rfl, hd2⟩
              clear c1 c4 c5 c12 HD
              obtain ⟨c1, c4, c5, c12, b3, d3⟩ := HB.out _ (d2.trans (hd2.mono d2.size))
              have HD := Lib.hid d3
              clear d2 hd2 d3 b2 b3 HB
              go_wp2_with fail
              go_ret
              exact ⟨by rw [N1.out]; rfl, HD.out⟩
          · by_cases hf : (fn : Int) = 4
            · have hf3 : ((fn : Int) == 4) = true := by simp [hf]
              rw [hf3] at N1
              go_enter Try.func18, Try.ntmps18
              go_wp2_with ((refine wpList_load_row rfl 29 _ rfl w.heap.size rfl 29 _ _ _ (Blk.new _ _ _) Try.underlying29 rfl op_info ?_))
              refine (S1.out _).mono ?_
              clear S1
              rintro e W ⟨rfl, d2⟩
              obtain ⟨c1, c4, c5, c12, b2, d3⟩ := HB.out _ d2
              have HD := Lib.hid d3
              replace b2 := Lib.hid b2
              clear d3
              go_wp2_with (refine wpList_load_in rfl 29 _ rfl ⟨w.heap.size, 0, none⟩ rfl o.cells _ b2.out.whole Try.underlying29 rfl op_info ?_)
              refine (S2.out _).mono ?_
              clear S2
              rintro e W3 ⟨rfl, hd2⟩
              clear c1 c4 c5 c12 HD
              obtain ⟨c1, c4, c5, c12, b3, d3⟩ := HB.out _ (d2.trans (hd2.mono d2.size))
              have HD := Lib.hid d3
              clear d2 hd2 d3 b2 b3 HB
              go_wp2_with fail
              go_ret
              exact ⟨by rw [N1.out]; rfl, HD.out⟩
            · have hf3 : ((fn : Int) == 4) = false := by simp [hf]
              rw [hf3] at N1
              go_enter Try.func18, Try.ntmps18
              go_wp2_with ((refine wpList_load_row rfl 29 _ rfl w.heap.size rfl 29 _ _ _ (Blk.new _ _ _) Try.underlying29 rfl op_info ?_))
              refine (S1.out _).mono ?_
              clear S1
              rintro e W ⟨rfl, d2⟩
              obtain ⟨c1, c4, c5, c12, b2, d3⟩ := HB.out _ d2
              have HD := Lib.hid d3
              replace b2 := Lib.hid b2
              clear d3
              go_wp2_with (refine wpList_load_in rfl 29 _ rfl ⟨w.heap.size, 0, none⟩ rfl o.cells _ b2.out.whole Try.underlying29 rfl op_info ?_)
              refine (S2.out _).mono ?_
              clear S2
              rintro e W3 ⟨rfl, hd2⟩
              clear c1 c4 c5 c12 HD
              obtain ⟨c1, c4, c5, c12, b3, d3⟩ := HB.out _ (d2.trans (hd2.mono d2.size))
              have HD := Lib.hid d3
              clear d2 hd2 d3 b2 b3 HB
              go_wp2_with fail
              go_ret
              exact ⟨by rw [N1.out]; rfl, HD.out⟩
      · cases H
        · go_enter Try.func18, Try.ntmps18
          go_wp2_with ((refine wpList_load_row rfl 29 _ rfl w.heap.size rfl 29 _ _ _ (Blk.new _ _ _) Try.underlying29 rfl op_info ?_))
          refine (S1.out _).mono ?_
          clear S1
          rintro e W ⟨rfl, d2⟩
          obtain ⟨c1, c4, c5, c12, b2, d3⟩ := HB.out _ d2
          have HD := Lib.hid d3
          replace b2 := Lib.hid b2
          clear d3
          go_wp2_with (refine wpList_load_in rfl 29 _ rfl ⟨w.heap.size, 0, none⟩ rfl o.cells _ b2.out.whole Try.underlying29 rfl op_info ?_)
          refine (S2.out _).mono ?_
          clear S2
          rintro e W3 ⟨rfl, hd2⟩
          clear c1 c4 c5 c12 HD
          obtain ⟨c1, c4, c5, c12, b3, d3⟩ := HB.out _ (d2.trans (hd2.mono d2.size))
          have HD := Lib.hid d3
          clear d2 hd2 d3 b2 b3 HB
          go_wp2_with fail
          go_ret
          exact ⟨by rw [N1.out]; rfl, HD.out⟩
        · cases L
          · have hf2 : ((fn : Int) == 0) = (fn == 0) := by rw [Bool.eq_iff_iff]; simp
            by_cases hf : fn = 0
            · have hf3 : (fn == 0) = true := by simp [hf]
              rw [hf3] at hf2 N1
              go_enter Try.func18, Try.ntmps18
              go_wp2_with ((refine wpList_load_row rfl 29 _ rfl w.heap.size rfl 29 _ _ _ (Blk.new _ _ _) Try.underlying29 rfl op_info ?_))
              refine (S1.out _).mono ?_
              clear S1
              rintro e W ⟨rfl, d2⟩
              obtain ⟨c1, c4, c5, c12, b2, d3⟩ := HB.out _ d2
              have HD := Lib.hid d3
              replace b2 := Lib.hid b2
              clear d3
              go_wp2_with (refine wpList_load_in rfl 29 _ rfl ⟨w.heap.size, 0, none⟩ rfl o.cells _ b2.out.whole Try.underlying29 rfl op_info ?_)
              refine (S2.out _).mono ?_
              clear S2
              rintro e W3 ⟨rfl, hd2⟩
              clear c1 c4 c5 c12 HD
              obtain ⟨c1, c4, c5, c12, b3, d3⟩ := HB.out _ (d2.trans (hd2.mono d2.size))
              have HD := Lib.hid d3
              clear d2 hd2 d3 b2 b3 HB
              go_wp2_with fail
              go_ret
              exact ⟨by rw [N1.out]; rfl, HD.out⟩
            · have hf3 : (fn == 0) = false := by simp [hf]
              rw [hf3] at hf2 N1
              go_enter Try.func18, Try.ntmps18
              go_wp2_with ((refine wpList_load_row rfl 29 _ rfl w.heap.size rfl 29 _ _ _ (Blk.new _ _ _) Try.underlying29 rfl op_info ?_))
              refine (S1.out _).mono ?_
              clear S1
              rintro e W ⟨rfl, d2⟩
              obtain ⟨c1, c4, c5, c12, b2, d3⟩ := HB.out _ d2
              have HD := Lib.hid d3
              replace b2 := Lib.hid b2
              clear d3
              go_wp2_with (refine wpList_load_in rfl 29 _ rfl ⟨w.heap.size, 0, none⟩ rfl o.cells _ b2.out.whole Try.underlying29 rfl op_info ?_)
              refine (S2.out _).mono ?_
              clear S2
              rintro e W3 ⟨rfl, hd2⟩
              clear c1 c4 c5 c12 HD
              obtain ⟨c1, c4, c5, c12, b3, d3⟩ := HB.out _ (d2.trans (hd2.mono d2.size))
              have HD := Lib.hid d3
              clear d2 hd2 d3 b2 b3 HB
              go_wp2_with fail
              go_ret
              exact ⟨by rw [N1.out]; rfl, HD.out⟩
          · by_cases hf : (fn : Int) = 8
            · have hf3 : ((fn : Int) == 8) = true := by simp [hf]
              rw [hf3] at N1
              go_enter Try.func18, Try.ntmps18
              go_wp2_with ((refine wpList_load_row rfl 29 _ rfl w.heap.size rfl 29 _ _ _ (Blk.new _ _ _) Try.underlying29 rfl op_info ?_))
              refine (S1.out _).mono ?_
              clear S1
              rintro e W ⟨rfl, d2⟩
              obtain ⟨c1, c4, c5, c12, b2, d3⟩ := HB.out _ d2
              have HD := Lib.hid d3
              replace b2 := Lib.hid b2
              clear d3
              go_wp2_with (refine wpList_load_in rfl 29 _ rfl ⟨w.heap.size, 0, none⟩ rfl o.cells _ b2.out.whole Try.underlying29 rfl op_info ?_)
              refine (S2.out _).mono ?_
              clear S2
              rintro e W3 ⟨rfl, hd2⟩
              clear c1 c4 c5 c12 HD
              obtain ⟨c1, c4, c5, c12, b3, d3⟩ := HB.out _ (d2.trans (hd2.mono d2.size))
              have HD := Lib.hid d3
              clear d2 hd2 d3 b2 b3 HB
              go_wp2_with fail
              go_ret
              exact ⟨by rw [N1.out]; rfl, HD.out⟩
            · have hf3 : ((fn : Int) == 8) = false := by simp [hf]
              rw [hf3] at N1
              go_enter Try.func18, Try.ntmps18
              go_wp2_with ((refine wpList_load_row rfl 29 _ rfl w.heap.size rfl 29 _ _ _ (Blk.new _ _ _) Try.underlying29 rfl op_info ?_))
              refine (S1.out _).mono ?_
              clear S1
              rintro e W ⟨rfl, d2⟩
              obtain ⟨c1, c4, c5, c12, b2, d3⟩ := HB.out _ d2
              have HD := Lib.hid d3
              replace b2 := Lib.hid b2
              clear d3
              go_wp2_with (refine wpList_load_in rfl 29 _ rfl ⟨w.heap.size, 0, none⟩ rfl o.cells _ b2.out.whole Try.underlying29 rfl op_info ?_)
              refine (S2.out _).mono ?_
              clear S2
              rintro e W3 ⟨rfl, hd2⟩
              clear c1 c4 c5 c12 HD
              obtain ⟨c1, c4, c5, c12, b3, d3⟩ := HB.out _ (d2.trans (hd2.mono d2.size))
              have HD := Lib.hid d3
              clear d2 hd2 d3 b2 b3 HB
              go_wp2_with fail
              go_ret
              exact ⟨by rw [N1.out]; rfl, HD.out⟩
    · have hz1 : (Z != 1) = true := by simp; omega
      have hz2 : (Z != 2) = true := by simp; omega
      have hz4 : (Z != 4) = true := by simp; omega
      have hz8 : (Z != 8) = true := by simp; omega
      have hsb : SB = false := by rw [N2.out]; simp; omega
      rw [hsb] at N1
      clear N2 hsb hz
      go_enter Try.func18, Try.ntmps18
      go_wp2_with ((refine wpList_load_row rfl 29 _ rfl w.heap.size rfl 29 _ _ _ (Blk.new _ _ _) Try.underlying29 rfl op_info ?_))
      refine (S1.out _).mono ?_
      clear S1
      rintro e W ⟨rfl, d2⟩
      obtain ⟨c1, c4, c5, c12, b2, d3⟩ := HB.out _ d2
      have HD := Lib.hid d3
      replace b2 := Lib.hid b2
      clear d3
      go_wp2_with fail
      go_ret
      exact ⟨by rw [N1.out]; rfl, HD.out⟩
end Go.Proofs.Ytdfapbfpmjbnhaa.Hand
