/- DERIVED. DERIVED. LexNames: the walk of the law. -/
import Derived.Test.YtbakfpoejoajeaaDoorProg
import Derived.Test.YtbakfpoejoajeaaDoorMBits
import Derived.Test.YtbakfpoejoajeaaDoorMWalk
import Derived.Test.YtbakfpoejoajeaaDoorMArg
import Derived.Test.YtbakfpoejoajeaaDoorMRow
import Derived.Test.YtbakfpoejoajeaaDoorMOpen
import Derived.Test.YtbakfpoejoajeaaDoorMPart
import Derived.Test.YtbakfpoejoajeaaDoorHH
import Derived.Below
import Derived.Deep.Draws
import Derived.Deep.AppendLies
import Derived.Maps.AppendAt
import Derived.OwnWalk
import Derived.Laws.BytesArg
import Derived.Laws.MakeOwn
import Derived.Laws.OwnMore
import Derived.Deep.OwnRows
import Derived.Tactics
import Derived.Lib.ConvBytes
import Derived.Laws.Slices
import Derived.WalkKit
import Derived.KernelRfl
import Derived.RowKit3
import Derived.Deep.LoopGhost
import Derived.Deep.QuietTactic
import Derived.BigQuiet
import Derived.WideLaws
import Derived.Deep.DeepCutAuto
import Derived.Deep.CutBlock
import Derived.Deep.RegionHeld3
import Derived.Laws.Rows
import Derived.Lib.AppendStr
import Derived.ArgAppend
import Derived.Laws.IdiomCopy
import Derived.OrdersHeld
import Derived.Laws.BitsLemmas
import Derived.Laws.Bits64
import Derived.RowKit
import Derived.Outline
import Derived.Handy
import Derived.Lib.Hide
import Derived.Deep.Light
import Derived.Laws.CopyOwn
import Derived.Lib.QuietBelow
import Derived.Shelf.Strings.Prefix
import Derived.Shelf.Small.Strs
import Derived.Shelf.Strconv.AtoiAll
import Derived.Ground.NamesProg
import Derived.Lib.AtoiErrMem
namespace Go.Proofs.YtbakfpoejoajeaaDoor.Hand
open Go Go.RowKit Go.Proofs.YtbakfpoejoajeaaDoor.M
set_option linter.unusedVariables false
set_option linter.unusedSimpArgs false
attribute [local go_sem] Oper.semAt_some
set_option maxRecDepth 100000 in
set_option maxHeartbeats 4000000 in
theorem LexNames.all (a : ByteArray) (w : World) (hL : LaidOk w) (w0 : a.size ≤ 140737488351232) : Calls Tryd.prog 4 #[.string a] w fun e w' => e = .returned (.bool true) ∧ Below w.heap.size w w' := by
  by_cases h0 : (1000 : Int) < a.size
  · have HL := Lib.hid (lives_any w hL)
    go_enter Tryd.func4, Tryd.ntmps4
    go_wp2_with (go_at_call 8; refine HL.out.mono ?_; clear HL; rintro e W ⟨rfl, hb⟩; have HB := Lib.hid hb; clear hb)
    go_ret
    exact ⟨rfl, HB.out⟩
  · have h1 := Lib.hid (Keyword_any a w)
    have h2 := Lib.hid (rKeyword_any a w)
    have h3 := Lib.hid fun W => Name_any a W (by omega)
    have h4 := Lib.hid fun W => rName_any a W (by omega)
    have h5 := Lib.hid fun (W : World) (d : Below w.heap.size w W) => lives_any W (ErrVars.below hL d)
    generalize kwB a.toList = K at *
    generalize nameB a.toList = M at *
    clear hL
    cases K <;> cases M
    all_goals
      go_enter Tryd.func4, Tryd.ntmps4
      go_wp2_with (first
        | (go_at_call 12; refine h1.out.mono ?_; clear h1; rintro e W ⟨rfl, rfl⟩)
        | (go_at_call 13; refine h2.out.mono ?_; clear h2; rintro e W ⟨rfl, hb⟩; have HB := Lib.hid hb; clear hb)
        | (go_at_call 14; refine (h3.out _).mono ?_; clear h3; rintro e W2 ⟨rfl, rfl⟩)
        | (go_at_call 15; refine (h4.out _).mono ?_; clear h4; rintro e W2 ⟨rfl, hb⟩; have HB2 := Lib.hid (HB.out.trans (hb.mono HB.out.size)); clear hb)
        | (go_at_call 8; refine (h5.out _ HB2.out).mono ?_; clear h5; rintro e W3 ⟨rfl, hb⟩; have HB3 := Lib.hid (HB2.out.trans (hb.mono HB2.out.size)); clear hb))
      go_ret
      exact ⟨rfl, HB3.out⟩
end Go.Proofs.YtbakfpoejoajeaaDoor.Hand
