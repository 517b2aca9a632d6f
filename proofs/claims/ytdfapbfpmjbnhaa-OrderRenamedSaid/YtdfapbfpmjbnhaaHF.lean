/- DERIVED. DERIVED. Whether a rule holds of two operations. -/
import Derived.Test.YtdfapbfpmjbnhaaProg
import Derived.Test.YtdfapbfpmjbnhaaMBits
import Derived.Test.YtdfapbfpmjbnhaaMWalk
import Derived.Test.YtdfapbfpmjbnhaaMArg
import Derived.Test.YtdfapbfpmjbnhaaMRow
import Derived.Test.YtdfapbfpmjbnhaaMOpen
import Derived.Test.YtdfapbfpmjbnhaaMPart
import Derived.Test.YtdfapbfpmjbnhaaMGoMap
import Derived.Test.YtdfapbfpmjbnhaaMReg
import Derived.Test.YtdfapbfpmjbnhaaHE
import Derived.Below
import Derived.Deep.Draws
import Derived.Deep.AppendLies
import Derived.Maps.AppendAt
import Derived.OwnWalk
import Derived.Laws.BytesArg
import Derived.Laws.MakeOwn
import Derived.Laws.OwnMore
import Derived.Deep.OwnRows
import Derived.Tactics
import Derived.Lib.ConvBytes
import Derived.Laws.Slices
import Derived.WalkKit
import Derived.KernelRfl
import Derived.RowKit3
import Derived.Deep.LoopGhost
import Derived.Deep.QuietTactic
import Derived.BigQuiet
import Derived.WideLaws
import Derived.Deep.DeepCutAuto
import Derived.Deep.CutBlock
import Derived.Deep.RegionHeld3
import Derived.Laws.Rows
import Derived.Lib.AppendStr
import Derived.ArgAppend
import Derived.Laws.IdiomCopy
import Derived.OrdersHeld
import Derived.Laws.BitsLemmas
import Derived.Laws.Bits64
import Derived.RowKit
import Derived.Outline
import Derived.Handy
import Derived.Lib.Hide
import Derived.Deep.Light
import Derived.Laws.CopyOwn
import Derived.Laws.AppendOwnNone
import Derived.RangeFuncNested
import Derived.RangeFuncBound
import Derived.RangeFuncCalls
import Derived.RangeFuncLeaves
import Derived.Shelf.Abstract
import Derived.Shelf.RegionOpen
import Derived.OwnWalkIn
import Derived.TacticsInMore
import Derived.LoopNIn
import Derived.LoopIn
import Derived.Maps.OwnIn
import Derived.Deep.WholeRow
namespace Go.Proofs.Ytdfapbfpmjbnhaa.Hand
open Go Go.RowKit Go.Proofs.Ytdfapbfpmjbnhaa.M
set_option linter.unusedVariables false
set_option linter.unusedSimpArgs false
attribute [local go_sem] Oper.semAt_some
def holdsOf (a b : OpS) (l : List OpS) (n : Int) : Bool :=
  if n = 1 then b.store && overlapOf a b else if n = 2 then b.load && apartOf a b l else if n = 3 then (a.store && (a.load || (a.pair != -1))) && byOf b a.id
  else if n = 4 then l.any (fourB a b) else if n = 5 then a.aq else if n = 6 then b.rl else if n = 7 then (a.aq || a.rl) && (b.aq || b.rl)
  else if n = 8 then b.pair == a.id else if n = 9 then inOf b.addrs.l a.id else if n = 10 then inOf b.datas.l a.id else if n = 11 then b.store && inOf b.ctrls.l a.id
  else if n = 12 then l.any (twelveB a b) else if n = 13 then b.store && l.any (thirteenB a) else false
def opZero : Array Value := (⟨0, false, false, false, 0, 0, false, false, 0, 0, 0, 0, ⟨none, 0, 0, []⟩, 0, ⟨none, 0, 0, []⟩, ⟨none, 0, 0, []⟩, ⟨none, 0, 0, []⟩⟩ : OpS).cells
theorem alloc_op (w : World) : (Instr.alloc 29 true (.tuple #[])).run Try.prog w = .ok (.pointer (some ⟨w.heap.size, 0, none⟩)) (w.alloc (.cells opZero 29)) := by kernel_rfl
theorem get_put (a : Act) (d e : Nat) (v : Value) (h : d < a.tmps.size) : (a.put (some d) v).tmps.getD e undef = if d = e then v else a.tmps.getD e undef := by
  unfold Act.put
  simp only [Array.getD_eq_getD_getElem?, Array.getElem?_setIfInBounds]
  split
  · rfl
  · rfl
theorem size_put (a : Act) (d : Nat) (v : Value) : (a.put (some d) v).tmps.size = a.tmps.size := by unfold Act.put; simp
theorem two_rows {w X V : World} {a b pc z : Array Value} {T U c : Nat} (hc : Blk X c pc U) (d : Below w.heap.size w X) (e : (((X.alloc (.cells z T)).alloc (.cells z T)).setRow X.heap.size a).setRow (X.alloc (.cells z T)).heap.size b = V) :
    Blk V X.heap.size a T ∧ Blk V (X.heap.size + 1) b T ∧ Blk V c pc U ∧ Below w.heap.size w V := by
  have h2 := Blk.new (X.alloc (.cells z T)) z T
  have hlt := hc.lt
  have hd := d.size
  rw [World.size_alloc] at e h2
  subst e
  exact ⟨(((Blk.new X z T).alloc _).row a).rowFar (by omega) _, (h2.rowFar (by omega) _).row b, (((hc.alloc _).alloc _).rowFar (by omega) _).rowFar (by omega) _, below_row (below_row ((d.alloc d.size _).alloc (by simp; omega) _) hd _) (by omega) _⟩
theorem two_rows2 {w X V : World} {a b pc z : Array Value} {T U c : Nat} (hc : Blk X c pc U) (d : Below w.heap.size w X) (e : (((X.alloc (.cells z T)).alloc (.cells z T)).setRow (X.alloc (.cells z T)).heap.size a).setRow X.heap.size b = V) :
    Blk V X.heap.size b T ∧ Blk V (X.heap.size + 1) a T ∧ Blk V c pc U ∧ Below w.heap.size w V := by
  have h2 := Blk.new (X.alloc (.cells z T)) z T
  have hlt := hc.lt
  have hd := d.size
  rw [World.size_alloc] at e h2
  subst e
  exact ⟨(((Blk.new X z T).alloc _).rowFar (by omega) _).row b, (h2.row a).rowFar (by omega) _, (((hc.alloc _).alloc _).rowFar (by omega) _).rowFar (by omega) _, below_row (below_row ((d.alloc d.size _).alloc (by simp; omega) _) (by omega) _) hd _⟩
def twoOps : Array Oper := #[{ dst := some 7, op := Op.fieldAddr 42 (Operand.tmp 2) 0, type := 0, pos := "order.go:107", after := #[], guard := none },
  { dst := some 8, op := Op.load 29 (Operand.tmp 7), type := 29, pos := "order.go:107", after := #[{ on := 0, ground := Ground.data }], guard := none },
  { dst := some 9, op := Op.fieldAddr 42 (Operand.tmp 2) 1, type := 0, pos := "order.go:107", after := #[{ on := 6, ground := Ground.gcOnly Departure.lateStores }], guard := none },
  { dst := some 10, op := Op.load 29 (Operand.tmp 9), type := 29, pos := "order.go:107", after := #[{ on := 2, ground := Ground.data }, { on := 6, ground := Ground.gcOnly Departure.lateStores }], guard := none },
  { dst := some 5, op := Op.alloc 29, type := 0, pos := "order.go:107", after := #[], guard := none },
  { dst := some 6, op := Op.alloc 29, type := 0, pos := "order.go:107", after := #[], guard := none },
  { dst := none, op := Op.store 29 (Operand.tmp 5) (Operand.tmp 8), type := 0, pos := "order.go:107", after := #[{ on := 4, ground := Ground.data }, { on := 1, ground := Ground.data }, { on := 0, ground := Ground.phase }, { on := 1, ground := Ground.phase }, { on := 2, ground := Ground.textOnly Departure.lateStores }, { on := 3, ground := Ground.textOnly Departure.lateStores }, { on := 4, ground := Ground.phase }, { on := 5, ground := Ground.phase }], guard := none },
  { dst := none, op := Op.store 29 (Operand.tmp 6) (Operand.tmp 10), type := 0, pos := "order.go:107", after := #[{ on := 5, ground := Ground.data }, { on := 3, ground := Ground.data }, { on := 6, ground := Ground.chain }, { on := 0, ground := Ground.phase }, { on := 1, ground := Ground.phase }, { on := 2, ground := Ground.phase }, { on := 3, ground := Ground.phase }, { on := 4, ground := Ground.phase }, { on := 5, ground := Ground.phase }, { on := 6, ground := Ground.phase }], guard := none }]
theorem run_field2 (a : Act) (V : World) {c : Nat} (h : a.eval (.tmp 2) = .pointer (some ⟨c, 0, none⟩)) : (execOp a.eval { dst := some 7, op := Op.fieldAddr 42 (Operand.tmp 2) 0, type := 0, pos := "order.go:107", after := #[], guard := none }).run Try.prog V = .ok (.value (.pointer (some ⟨c, 0, none⟩))) V := by
  simp only [execOp, h]; go_simp
theorem run_field3 (a : Act) (V : World) {c : Nat} (h : a.eval (.tmp 2) = .pointer (some ⟨c, 0, none⟩)) : (execOp a.eval { dst := some 9, op := Op.fieldAddr 42 (Operand.tmp 2) 1, type := 0, pos := "order.go:107", after := #[{ on := 6, ground := Ground.gcOnly Departure.lateStores }], guard := none }).run Try.prog V = .ok (.value (.pointer (some ⟨c, 17, none⟩))) V := by
  simp only [execOp, h]; go_simp
set_option maxRecDepth 100000 in
set_option maxHeartbeats 4000000 in
/-- Two structs out of one, each into a block of its own, in whatever order. -/
theorem two_boxes {Q : Exit → Act → World → Prop} (hQ : ∀ c a d v w, Q (.panic c) (Act.put a (some d) v) w → Q (.panic c) a w) (a b : OpS) (s : OSl) (w X : World) (c : Nat) (ac : Act) (h2 : ac.tmps.getD 2 undef = .pointer (some ⟨c, 0, none⟩)) (hz : 11 ≤ ac.tmps.size) (bX : Blk X c (pairC a b s) 42) (dX : Below w.heap.size w X)
    (h : ∀ p q V, p ≠ q → Blk V p a.cells 29 → Blk V q b.cells 29 → Blk V c (pairC a b s) 42 → Below w.heap.size w V →
      Q .normal ((((((ac.put (some 7) (.pointer (some ⟨c, 0, none⟩))).put (some 8) (.agg a.cells)).put (some 9) (.pointer (some ⟨c, 17, none⟩))).put (some 10) (.agg b.cells)).put (some 5) (.pointer (some ⟨p, 0, none⟩))).put (some 6) (.pointer (some ⟨q, 0, none⟩))) V) :
    (Code.region 1 twoOps true).wp Try.prog Q ac X := by
  have hlt := bX.lt
  refine wp_region_held (S := fun V => Blk V c (pairC a b s) 42) (by kernel_rfl) ?_
  refine wpAnyH_take (i := 0) (v := .pointer (some ⟨c, 0, none⟩)) rfl (by kernel_rfl) (by kernel_rfl) (by kernel_rfl) (fun _ _ _ h => hQ _ _ _ _ _ h) (.inl ⟨rfl, fun V hV => ?y0⟩) bX ?_
  case y0 =>
    have e2 : ac.eval (.tmp 2) = .pointer (some ⟨c, 0, none⟩) := h2
    exact run_field2 _ V e2
  refine wpAnyH_take (i := 1) (v := .agg a.cells) rfl (by kernel_rfl) (by kernel_rfl) (by kernel_rfl) (fun _ _ _ h => hQ _ _ _ _ _ h) (.inl ⟨rfl, fun V hV => run_load_at V 29 _ rfl ⟨c, 0, none⟩ ?x1 a.cells _ (Blk.cellsAt hV (pair_a a b s)) Try.underlying29 rfl op_info⟩) bX ?_
  case x1 =>
    show (ac.put (some 7) _).tmps.getD 7 undef = _
    rw [get_put _ _ _ _ (by omega), if_pos rfl]
  refine wpAnyH_take (i := 2) (v := .pointer (some ⟨c, 17, none⟩)) rfl (by kernel_rfl) (by kernel_rfl) (by kernel_rfl) (fun _ _ _ h => hQ _ _ _ _ _ h) (.inl ⟨rfl, fun V hV => ?y2⟩) bX ?_
  case y2 =>
    have e2 : ((ac.put (some 7) (.pointer (some ⟨c, 0, none⟩))).put (some 8) (.agg a.cells)).eval (.tmp 2) = .pointer (some ⟨c, 0, none⟩) := by
      show Array.getD _ 2 undef = _
      rw [get_put _ _ _ _ (by rw [size_put]; omega), if_neg (by decide), get_put _ _ _ _ (by omega), if_neg (by decide)]; exact h2
    exact run_field3 _ V e2
  refine wpAnyH_take (i := 3) (v := .agg b.cells) rfl (by kernel_rfl) (by kernel_rfl) (by kernel_rfl) (fun _ _ _ h => hQ _ _ _ _ _ h) (.inl ⟨rfl, fun V hV => run_load_at V 29 _ rfl ⟨c, 17, none⟩ ?x3 b.cells _ (Blk.cellsAt hV (pair_b a b s)) Try.underlying29 rfl op_info⟩) bX ?_
  case x3 =>
    show (((ac.put (some 7) (.pointer (some ⟨c, 0, none⟩))).put (some 8) (.agg a.cells)).put (some 9) (.pointer (some ⟨c, 17, none⟩))).tmps.getD 9 undef = _
    rw [get_put _ _ _ _ (by rw [size_put, size_put]; omega), if_pos rfl]
  change wpAnyH Try.prog .any twoOps Q _ 4 #[true, true, true, true, false, false, false, false] ((((ac.put (some 7) (.pointer (some ⟨c, 0, none⟩))).put (some 8) (.agg a.cells)).put (some 9) (.pointer (some ⟨c, 17, none⟩))).put (some 10) (.agg b.cells)) _
  have q8 : ((((ac.put (some 7) (.pointer (some ⟨c, 0, none⟩))).put (some 8) (.agg a.cells)).put (some 9) (.pointer (some ⟨c, 17, none⟩))).put (some 10) (.agg b.cells)).tmps.getD 8 undef = .agg a.cells := by
    rw [get_put _ _ _ _ (by simp only [size_put]; omega), if_neg (by decide), get_put _ _ _ _ (by simp only [size_put]; omega), if_neg (by decide), get_put _ _ _ _ (by simp only [size_put]; omega), if_pos rfl]
  have q10 : ((((ac.put (some 7) (.pointer (some ⟨c, 0, none⟩))).put (some 8) (.agg a.cells)).put (some 9) (.pointer (some ⟨c, 17, none⟩))).put (some 10) (.agg b.cells)).tmps.getD 10 undef = .agg b.cells := by rw [get_put _ _ _ _ (by simp only [size_put]; omega), if_pos rfl]
  have qz : 11 ≤ ((((ac.put (some 7) (.pointer (some ⟨c, 0, none⟩))).put (some 8) (.agg a.cells)).put (some 9) (.pointer (some ⟨c, 17, none⟩))).put (some 10) (.agg b.cells)).tmps.size := by simp only [size_put]; exact hz
  generalize ((((ac.put (some 7) (.pointer (some ⟨c, 0, none⟩))).put (some 8) (.agg a.cells)).put (some 9) (.pointer (some ⟨c, 17, none⟩))).put (some 10) (.agg b.cells)) = ad at *
  clear h2 hz ac
  have hX : ({ X with drawn := X.drawn + 1 } : World).heap.size = X.heap.size := rfl
  have bX : Blk { X with drawn := X.drawn + 1 } c (pairC a b s) 42 := bX
  have dX : Below w.heap.size w { X with drawn := X.drawn + 1 } := below_drewN dX 1
  generalize ({ X with drawn := X.drawn + 1 } : World) = Y at *
  refine wpAnyH_all (rs := [4, 5]) (by kernel_rfl) (by simp) ?_
  intro i hi
  simp only [List.mem_cons, List.not_mem_nil, or_false] at hi
  have hcY := bX.lt
  rcases hi with rfl | rfl
  · refine wpOp_alloc rfl rfl _ rfl _ (alloc_op _) ⟨bX.alloc _, ?_⟩
    change wpAnyH Try.prog .any twoOps Q _ 3 #[true, true, true, true, true, false, false, false] (ad.put (some 5) (.pointer (some ⟨Y.heap.size, 0, none⟩))) _
    refine wpAnyH_all (rs := [5]) (by kernel_rfl) (by simp) ?_
    intro i hi
    simp only [List.mem_cons, List.not_mem_nil, or_false] at hi
    subst hi
    refine wpOp_alloc rfl rfl _ rfl _ (alloc_op _) ⟨(bX.alloc _).alloc _, ?_⟩
    change wpAnyH Try.prog .any twoOps Q _ 2 #[true, true, true, true, true, true, false, false] ((ad.put (some 5) (.pointer (some ⟨Y.heap.size, 0, none⟩))).put (some 6) (.pointer (some ⟨(Y.alloc _).heap.size, 0, none⟩))) _
    refine wpAnyH_all (rs := [6]) (by kernel_rfl) (by simp) ?_
    intro i hi
    simp only [List.mem_cons, List.not_mem_nil, or_false] at hi
    subst hi
    refine wpOp_store rfl rfl _ _ _ rfl Y.heap.size a.cells ?z1 ?z2 29 opZero ((Blk.new _ _ _).alloc _) op_info rfl (OpS.one a) ⟨((bX.alloc _).alloc _).rowFar (by omega) _, ?_⟩
    case z1 =>
      show Array.getD _ 5 undef = _
      rw [get_put _ _ _ _ (by rw [size_put]; omega), if_neg (by decide), get_put _ _ _ _ (by omega), if_pos rfl]
    case z2 =>
      show Array.getD _ 8 undef = _
      rw [get_put _ _ _ _ (by rw [size_put]; omega), if_neg (by decide), get_put _ _ _ _ (by omega), if_neg (by decide)]; exact q8
    change wpAnyH Try.prog .any twoOps Q _ 1 #[true, true, true, true, true, true, true, false] ((ad.put (some 5) (.pointer (some ⟨Y.heap.size, 0, none⟩))).put (some 6) (.pointer (some ⟨(Y.alloc _).heap.size, 0, none⟩))) _
    refine wpAnyH_all (rs := [7]) (by kernel_rfl) (by simp) ?_
    intro i hi
    simp only [List.mem_cons, List.not_mem_nil, or_false] at hi
    subst hi
    refine wpOp_store rfl rfl _ _ _ rfl (Y.alloc (.cells opZero 29)).heap.size b.cells ?z3 ?z4 29 opZero ((Blk.new _ _ _).rowFar (by rw [World.size_alloc]; omega) _) op_info rfl (OpS.one b) ⟨(((bX.alloc _).alloc _).rowFar (by omega) _).rowFar (by rw [World.size_alloc]; omega) _, ?_⟩
    case z3 =>
      show Array.getD _ 6 undef = _
      rw [get_put _ _ _ _ (by rw [size_put]; omega), if_pos rfl]
    case z4 =>
      show Array.getD _ 10 undef = _
      rw [get_put _ _ _ _ (by rw [size_put]; omega), if_neg (by decide), get_put _ _ _ _ (by omega), if_neg (by decide)]; exact q10
    refine wpAnyH_done (by kernel_rfl) ?_ _
    generalize hV : World.setRow (World.setRow _ _ _) _ _ = V
    obtain ⟨f1, f2, f3, f4⟩ := two_rows bX dX hV
    have H := h Y.heap.size (Y.heap.size + 1) V (by omega) f1 f2 f3 f4
    rw [← World.size_alloc Y (.cells opZero 29)] at H
    exact H
  · refine wpOp_alloc rfl rfl _ rfl _ (alloc_op _) ⟨bX.alloc _, ?_⟩
    change wpAnyH Try.prog .any twoOps Q _ 3 #[true, true, true, true, false, true, false, false] (ad.put (some 6) (.pointer (some ⟨Y.heap.size, 0, none⟩))) _
    refine wpAnyH_all (rs := [4]) (by kernel_rfl) (by simp) ?_
    intro i hi
    simp only [List.mem_cons, List.not_mem_nil, or_false] at hi
    subst hi
    refine wpOp_alloc rfl rfl _ rfl _ (alloc_op _) ⟨(bX.alloc _).alloc _, ?_⟩
    change wpAnyH Try.prog .any twoOps Q _ 2 #[true, true, true, true, true, true, false, false] ((ad.put (some 6) (.pointer (some ⟨Y.heap.size, 0, none⟩))).put (some 5) (.pointer (some ⟨(Y.alloc _).heap.size, 0, none⟩))) _
    refine wpAnyH_all (rs := [6]) (by kernel_rfl) (by simp) ?_
    intro i hi
    simp only [List.mem_cons, List.not_mem_nil, or_false] at hi
    subst hi
    refine wpOp_store rfl rfl _ _ _ rfl (Y.alloc (.cells opZero 29)).heap.size a.cells ?z5 ?z6 29 opZero (Blk.new _ _ _) op_info rfl (OpS.one a) ⟨((bX.alloc _).alloc _).rowFar (by rw [World.size_alloc]; omega) _, ?_⟩
    case z5 =>
      show Array.getD _ 5 undef = _
      rw [get_put _ _ _ _ (by rw [size_put]; omega), if_pos rfl]
    case z6 =>
      show Array.getD _ 8 undef = _
      rw [get_put _ _ _ _ (by rw [size_put]; omega), if_neg (by decide), get_put _ _ _ _ (by omega), if_neg (by decide)]; exact q8
    change wpAnyH Try.prog .any twoOps Q _ 1 #[true, true, true, true, true, true, true, false] ((ad.put (some 6) (.pointer (some ⟨Y.heap.size, 0, none⟩))).put (some 5) (.pointer (some ⟨(Y.alloc _).heap.size, 0, none⟩))) _
    refine wpAnyH_all (rs := [7]) (by kernel_rfl) (by simp) ?_
    intro i hi
    simp only [List.mem_cons, List.not_mem_nil, or_false] at hi
    subst hi
    refine wpOp_store rfl rfl _ _ _ rfl Y.heap.size b.cells ?z7 ?z8 29 opZero (((Blk.new _ _ _).alloc _).rowFar (by rw [World.size_alloc]; omega) _) op_info rfl (OpS.one b) ⟨(((bX.alloc _).alloc _).rowFar (by rw [World.size_alloc]; omega) _).rowFar (by omega) _, ?_⟩
    case z7 =>
      show Array.getD _ 6 undef = _
      rw [get_put _ _ _ _ (by rw [size_put]; omega), if_neg (by decide), get_put _ _ _ _ (by omega), if_pos rfl]
    case z8 =>
      show Array.getD _ 10 undef = _
      rw [get_put _ _ _ _ (by rw [size_put]; omega), if_neg (by decide), get_put _ _ _ _ (by omega), if_neg (by decide)]; exact q10
    refine wpAnyH_done (by kernel_rfl) ?_ _
    generalize hV : World.setRow (World.setRow _ _ _) _ _ = V
    obtain ⟨f1, f2, f3, f4⟩ := two_rows2 bX dX hV
    have H := h (Y.heap.size + 1) Y.heap.size V (by omega) f2 f1 f3 f4
    rw [← World.size_alloc Y (.cells opZero 29), Act.put_comm ad _ _ (fun d hd => by injection hd with hd; subst hd; decide)] at H
    exact H
set_option maxRecDepth 100000 in
set_option maxHeartbeats 8000000 in
theorem holds_1 (a b : OpS) (s : OSl) (w : World) (hA : a.At w) (hB : b.At w) (hS : s.At w) :
    Calls Try.prog 17 #[.agg (pairC a b s), .int .i64 1] w fun e w' => e = .returned (.bool (holdsOf a b s.l 1)) ∧ Below w.heap.size w w' := by
  have N := Lib.hid (show holdsOf a b s.l 1 = (b.store && overlapOf a b) by simp [holdsOf])
  generalize holdsOf a b s.l 1 = R at *
  go_enter Try.func17, Try.ntmps17
  go_wp2_with fail
  generalize hX : World.alloc w _ = X
  obtain ⟨bX, dX, sX⟩ := arg_box hX
  clear hX
  refine two_boxes (fun _ _ _ _ _ h => h) a b s w X w.heap.size _ rfl (by simp) bX dX ?_
  intro p q V hpq ba bb bp d
  clear bX dX sX hpq
  have HD := Lib.hid d
  have C := Lib.hid (overlap_any a b V hA.u hA.z hB.u hB.z)
  have c1 := cStore bb
  have Ba := Lib.hid ba
  have Bb := Lib.hid bb
  generalize overlapOf a b = r at *
  generalize b.store = st at *
  clear hA hB hS ba bb bp d
  cases st
  all_goals
    go_wp2_with (first | (refine wpList_load_at rfl 29 _ rfl ⟨p, 0, none⟩ rfl a.cells _ Ba.out.whole Try.underlying29 rfl op_info ?_) | (refine wpList_load_in rfl 29 _ rfl ⟨p, 0, none⟩ rfl a.cells _ Ba.out.whole Try.underlying29 rfl op_info ?_) | (refine wpList_load_at rfl 29 _ rfl ⟨q, 0, none⟩ rfl b.cells _ Bb.out.whole Try.underlying29 rfl op_info ?_) | (refine wpList_load_in (by go_simp) 29 _ rfl ⟨q, 0, none⟩ rfl b.cells _ Bb.out.whole Try.underlying29 rfl op_info ?_) | (go_at_call 19; refine C.out.mono ?_; clear C; rintro e W2 ⟨rfl, d2⟩))
    go_ret
    first | exact ⟨by rw [N.out]; rfl, HD.out⟩ | exact ⟨by rw [N.out]; rfl, HD.out.trans (d2.mono HD.out.size)⟩
set_option maxRecDepth 100000 in
set_option maxHeartbeats 8000000 in
theorem holds_2 (a b : OpS) (s : OSl) (w : World) (hA : a.At w) (hB : b.At w) (hS : s.At w) :
    Calls Try.prog 17 #[.agg (pairC a b s), .int .i64 2] w fun e w' => e = .returned (.bool (holdsOf a b s.l 2)) ∧ Below w.heap.size w w' := by
  have N := Lib.hid (show holdsOf a b s.l 2 = (b.load && apartOf a b s.l) by simp [holdsOf])
  generalize holdsOf a b s.l 2 = R at *
  go_enter Try.func17, Try.ntmps17
  go_wp2_with fail
  generalize hX : World.alloc w _ = X
  obtain ⟨bX, dX, sX⟩ := arg_box hX
  clear hX
  refine two_boxes (fun _ _ _ _ _ h => h) a b s w X w.heap.size _ rfl (by simp) bX dX ?_
  intro p q V hpq ba bb bp d
  clear bX dX sX hpq
  have HD := Lib.hid d
  have C := Lib.hid (apart_any a b s V (hA.below d) (hB.below d) (hS.below d))
  have c1 := cLoad bb
  have BP := Lib.hid bp
  generalize apartOf a b s.l = r at *
  generalize b.load = st at *
  clear hA hB hS ba bb bp d
  cases st
  all_goals
    go_wp2_with (first | (refine wpList_load_at rfl 42 _ rfl ⟨w.heap.size, 0, none⟩ rfl (pairC a b s) _ BP.out.whole Try.underlying42 rfl pair_info ?_) | (refine wpList_load_in rfl 42 _ rfl ⟨w.heap.size, 0, none⟩ rfl (pairC a b s) _ BP.out.whole Try.underlying42 rfl pair_info ?_) | (go_at_call 20; refine C.out.mono ?_; clear C; rintro e W2 ⟨rfl, d2⟩))
    go_ret
    first | exact ⟨by rw [N.out]; rfl, HD.out⟩ | exact ⟨by rw [N.out]; rfl, HD.out.trans (d2.mono HD.out.size)⟩
set_option maxRecDepth 100000 in
set_option maxHeartbeats 8000000 in
theorem holds_3 (a b : OpS) (s : OSl) (w : World) (hA : a.At w) (hB : b.At w) (hS : s.At w) :
    Calls Try.prog 17 #[.agg (pairC a b s), .int .i64 3] w fun e w' => e = .returned (.bool (holdsOf a b s.l 3)) ∧ Below w.heap.size w w' := by
  have N := Lib.hid (show holdsOf a b s.l 3 = ((a.store && (a.load || (a.pair != -1))) && byOf b a.id) by simp [holdsOf])
  generalize holdsOf a b s.l 3 = R at *
  go_enter Try.func17, Try.ntmps17
  go_wp2_with fail
  generalize hX : World.alloc w _ = X
  obtain ⟨bX, dX, sX⟩ := arg_box hX
  clear hX
  refine two_boxes (fun _ _ _ _ _ h => h) a b s w X w.heap.size _ rfl (by simp) bX dX ?_
  intro p q V hpq ba bb bp d
  clear bX dX sX hpq
  have HD := Lib.hid d
  have C := Lib.hid (by_any b a.id V (hB.below d))
  have c1 := cLoad ba
  have c2 := cStore ba
  have c3 : V.cell? ⟨p, 13, none⟩ = some (.int .i64 a.pair) := ba.cell 13
  have c4 := cId ba
  have Bb := Lib.hid bb
  generalize byOf b a.id = r at *
  generalize a.store = st at *
  generalize a.load = ld at *
  generalize a.id = ai at *
  generalize a.pair = ap at *
  clear hA hB hS ba bb bp d
  by_cases hp : ap = -1
  · subst hp
    cases st <;> cases ld
    · go_wp2_with fail
      go_ret
      first | exact ⟨by rw [N.out]; first | rfl | (simp; done) | (simp; rfl) | (simp [dn]; done) | (simp [dn]; rfl), HD.out⟩ | exact ⟨by rw [N.out]; first | rfl | (simp; done) | (simp; rfl) | (simp [dn]; done) | (simp [dn]; rfl), HD.out.trans (d2.mono HD.out.size)⟩
    · go_wp2_with fail
      go_ret
      first | exact ⟨by rw [N.out]; first | rfl | (simp; done) | (simp; rfl) | (simp [dn]; done) | (simp [dn]; rfl), HD.out⟩ | exact ⟨by rw [N.out]; first | rfl | (simp; done) | (simp; rfl) | (simp [dn]; done) | (simp [dn]; rfl), HD.out.trans (d2.mono HD.out.size)⟩
    · go_wp2_with fail
      go_ret
      first | exact ⟨by rw [N.out]; first | rfl | (simp; done) | (simp; rfl) | (simp [dn]; done) | (simp [dn]; rfl), HD.out⟩ | exact ⟨by rw [N.out]; first | rfl | (simp; done) | (simp; rfl) | (simp [dn]; done) | (simp [dn]; rfl), HD.out.trans (d2.mono HD.out.size)⟩
    · go_wp2_with (first | (refine wpList_load_at rfl 29 _ rfl ⟨q, 0, none⟩ rfl b.cells _ Bb.out.whole Try.underlying29 rfl op_info ?_) | (refine wpList_load_in rfl 29 _ rfl ⟨q, 0, none⟩ rfl b.cells _ Bb.out.whole Try.underlying29 rfl op_info ?_) | (go_at_call 21; refine C.out.mono ?_; clear C; rintro e W2 ⟨rfl, d2⟩))
      go_ret
      first | exact ⟨by rw [N.out]; first | rfl | (simp; done) | (simp; rfl) | (simp [dn]; done) | (simp [dn]; rfl), HD.out⟩ | exact ⟨by rw [N.out]; first | rfl | (simp; done) | (simp; rfl) | (simp [dn]; done) | (simp [dn]; rfl), HD.out.trans (d2.mono HD.out.size)⟩
  · have dn : (ap != -1) = true := by simpa using hp
    have hp := Lib.hid hp
    cases st <;> cases ld
    · go_wp2_with fail
      go_ret
      first | exact ⟨by rw [N.out]; first | rfl | (simp; done) | (simp; rfl) | (simp [dn]; done) | (simp [dn]; rfl), HD.out⟩ | exact ⟨by rw [N.out]; first | rfl | (simp; done) | (simp; rfl) | (simp [dn]; done) | (simp [dn]; rfl), HD.out.trans (d2.mono HD.out.size)⟩
    · go_wp2_with fail
      go_ret
      first | exact ⟨by rw [N.out]; first | rfl | (simp; done) | (simp; rfl) | (simp [dn]; done) | (simp [dn]; rfl), HD.out⟩ | exact ⟨by rw [N.out]; first | rfl | (simp; done) | (simp; rfl) | (simp [dn]; done) | (simp [dn]; rfl), HD.out.trans (d2.mono HD.out.size)⟩
    · go_wp2_with (first | (refine wpList_load_at rfl 29 _ rfl ⟨q, 0, none⟩ rfl b.cells _ Bb.out.whole Try.underlying29 rfl op_info ?_) | (refine wpList_load_in rfl 29 _ rfl ⟨q, 0, none⟩ rfl b.cells _ Bb.out.whole Try.underlying29 rfl op_info ?_) | (go_at_call 21; refine C.out.mono ?_; clear C; rintro e W2 ⟨rfl, d2⟩))
      go_ret
      first | exact ⟨by rw [N.out]; first | rfl | (simp; done) | (simp; rfl) | (simp [dn]; done) | (simp [dn]; rfl), HD.out⟩ | exact ⟨by rw [N.out]; first | rfl | (simp; done) | (simp; rfl) | (simp [dn]; done) | (simp [dn]; rfl), HD.out.trans (d2.mono HD.out.size)⟩
    · go_wp2_with (first | (refine wpList_load_at rfl 29 _ rfl ⟨q, 0, none⟩ rfl b.cells _ Bb.out.whole Try.underlying29 rfl op_info ?_) | (refine wpList_load_in rfl 29 _ rfl ⟨q, 0, none⟩ rfl b.cells _ Bb.out.whole Try.underlying29 rfl op_info ?_) | (go_at_call 21; refine C.out.mono ?_; clear C; rintro e W2 ⟨rfl, d2⟩))
      go_ret
      first | exact ⟨by rw [N.out]; first | rfl | (simp; done) | (simp; rfl) | (simp [dn]; done) | (simp [dn]; rfl), HD.out⟩ | exact ⟨by rw [N.out]; first | rfl | (simp; done) | (simp; rfl) | (simp [dn]; done) | (simp [dn]; rfl), HD.out.trans (d2.mono HD.out.size)⟩
set_option maxRecDepth 100000 in
set_option maxHeartbeats 8000000 in
theorem holds_4 (a b : OpS) (s : OSl) (w : World) (hA : a.At w) (hB : b.At w) (hS : s.At w) :
    Calls Try.prog 17 #[.agg (pairC a b s), .int .i64 4] w fun e w' => e = .returned (.bool (holdsOf a b s.l 4)) ∧ Below w.heap.size w w' := by
  have N := Lib.hid (show holdsOf a b s.l 4 = (s.l.any (fourB a b)) by simp [holdsOf])
  generalize holdsOf a b s.l 4 = R at *
  go_enter Try.func17, Try.ntmps17
  go_wp2_with fail
  generalize hX : World.alloc w _ = X
  obtain ⟨bX, dX, sX⟩ := arg_box hX
  clear hX
  refine two_boxes (fun _ _ _ _ _ h => h) a b s w X w.heap.size _ rfl (by simp) bX dX ?_
  intro p q V hpq ba bb bp d
  clear bX dX sX hpq
  have HD := Lib.hid d
  have C := Lib.hid (some_any a b s 23 #[.pointer (some ⟨p, 0, none⟩), .pointer (some ⟨q, 0, none⟩)] (fourB a b) V (hS.below d) (enters_of Try.func23 (by kernel_rfl) rfl) (Lib.hid fun o ho U hU => four_any a b o p q U (ba.below hU) (bb.below hU)))
  have BP := Lib.hid bp
  generalize s.l.any (fourB a b) = r at *
  clear hA hB hS ba bb bp d
  go_wp2_with (first | (refine wpList_load_at rfl 42 _ rfl ⟨w.heap.size, 0, none⟩ rfl (pairC a b s) _ BP.out.whole Try.underlying42 rfl pair_info ?_) | (refine wpList_load_in rfl 42 _ rfl ⟨w.heap.size, 0, none⟩ rfl (pairC a b s) _ BP.out.whole Try.underlying42 rfl pair_info ?_) | (go_at_call 22; refine C.out.mono ?_; clear C; rintro e W2 ⟨rfl, d2⟩))
  go_ret
  first | exact ⟨by rw [N.out]; rfl, HD.out⟩ | exact ⟨by rw [N.out]; rfl, HD.out.trans (d2.mono HD.out.size)⟩
set_option maxRecDepth 100000 in
set_option maxHeartbeats 8000000 in
theorem holds_5 (a b : OpS) (s : OSl) (w : World) (hA : a.At w) (hB : b.At w) (hS : s.At w) :
    Calls Try.prog 17 #[.agg (pairC a b s), .int .i64 5] w fun e w' => e = .returned (.bool (holdsOf a b s.l 5)) ∧ Below w.heap.size w w' := by
  have N := Lib.hid (show holdsOf a b s.l 5 = a.aq by simp [holdsOf])
  generalize holdsOf a b s.l 5 = R at *
  go_enter Try.func17, Try.ntmps17
  go_wp2_with fail
  generalize hX : World.alloc w _ = X
  obtain ⟨bX, dX, sX⟩ := arg_box hX
  clear hX
  refine two_boxes (fun _ _ _ _ _ h => h) a b s w X w.heap.size _ rfl (by simp) bX dX ?_
  intro p q V hpq ba bb bp d
  clear bX dX sX hpq
  have HD := Lib.hid d
  have c1 : V.cell? ⟨p, 6, none⟩ = some (.bool a.aq) := ba.cell 6
  generalize a.aq = r at *
  clear hA hB hS ba bb bp d
  go_wp2_with (fail)
  go_ret
  first | exact ⟨by rw [N.out]; rfl, HD.out⟩ | exact ⟨by rw [N.out]; rfl, HD.out.trans (d2.mono HD.out.size)⟩
set_option maxRecDepth 100000 in
set_option maxHeartbeats 8000000 in
theorem holds_6 (a b : OpS) (s : OSl) (w : World) (hA : a.At w) (hB : b.At w) (hS : s.At w) :
    Calls Try.prog 17 #[.agg (pairC a b s), .int .i64 6] w fun e w' => e = .returned (.bool (holdsOf a b s.l 6)) ∧ Below w.heap.size w w' := by
  have N := Lib.hid (show holdsOf a b s.l 6 = b.rl by simp [holdsOf])
  generalize holdsOf a b s.l 6 = R at *
  go_enter Try.func17, Try.ntmps17
  go_wp2_with fail
  generalize hX : World.alloc w _ = X
  obtain ⟨bX, dX, sX⟩ := arg_box hX
  clear hX
  refine two_boxes (fun _ _ _ _ _ h => h) a b s w X w.heap.size _ rfl (by simp) bX dX ?_
  intro p q V hpq ba bb bp d
  clear bX dX sX hpq
  have HD := Lib.hid d
  have c1 : V.cell? ⟨q, 7, none⟩ = some (.bool b.rl) := bb.cell 7
  generalize b.rl = r at *
  clear hA hB hS ba bb bp d
  go_wp2_with (fail)
  go_ret
  first | exact ⟨by rw [N.out]; rfl, HD.out⟩ | exact ⟨by rw [N.out]; rfl, HD.out.trans (d2.mono HD.out.size)⟩
set_option maxRecDepth 100000 in
set_option maxHeartbeats 8000000 in
theorem holds_7 (a b : OpS) (s : OSl) (w : World) (hA : a.At w) (hB : b.At w) (hS : s.At w) :
    Calls Try.prog 17 #[.agg (pairC a b s), .int .i64 7] w fun e w' => e = .returned (.bool (holdsOf a b s.l 7)) ∧ Below w.heap.size w w' := by
  have N := Lib.hid (show holdsOf a b s.l 7 = ((a.aq || a.rl) && (b.aq || b.rl)) by simp [holdsOf])
  generalize holdsOf a b s.l 7 = R at *
  go_enter Try.func17, Try.ntmps17
  go_wp2_with fail
  generalize hX : World.alloc w _ = X
  obtain ⟨bX, dX, sX⟩ := arg_box hX
  clear hX
  refine two_boxes (fun _ _ _ _ _ h => h) a b s w X w.heap.size _ rfl (by simp) bX dX ?_
  intro p q V hpq ba bb bp d
  clear bX dX sX hpq
  have HD := Lib.hid d
  have c1 : V.cell? ⟨p, 6, none⟩ = some (.bool a.aq) := ba.cell 6
  have c2 : V.cell? ⟨p, 7, none⟩ = some (.bool a.rl) := ba.cell 7
  have c3 : V.cell? ⟨q, 6, none⟩ = some (.bool b.aq) := bb.cell 6
  have c4 : V.cell? ⟨q, 7, none⟩ = some (.bool b.rl) := bb.cell 7
  generalize a.aq = r1 at *
  generalize a.rl = r2 at *
  generalize b.aq = r3 at *
  generalize b.rl = r4 at *
  clear hA hB hS ba bb bp d
  cases r1 <;> cases r2 <;> cases r3 <;> cases r4
  all_goals
    go_wp2_with (fail)
    go_ret
    first | exact ⟨by rw [N.out]; rfl, HD.out⟩ | exact ⟨by rw [N.out]; rfl, HD.out.trans (d2.mono HD.out.size)⟩
set_option maxRecDepth 100000 in
set_option maxHeartbeats 8000000 in
theorem holds_8 (a b : OpS) (s : OSl) (w : World) (hA : a.At w) (hB : b.At w) (hS : s.At w) :
    Calls Try.prog 17 #[.agg (pairC a b s), .int .i64 8] w fun e w' => e = .returned (.bool (holdsOf a b s.l 8)) ∧ Below w.heap.size w w' := by
  have N := Lib.hid (show holdsOf a b s.l 8 = (b.pair == a.id) by simp [holdsOf])
  generalize holdsOf a b s.l 8 = R at *
  go_enter Try.func17, Try.ntmps17
  go_wp2_with fail
  generalize hX : World.alloc w _ = X
  obtain ⟨bX, dX, sX⟩ := arg_box hX
  clear hX
  refine two_boxes (fun _ _ _ _ _ h => h) a b s w X w.heap.size _ rfl (by simp) bX dX ?_
  intro p q V hpq ba bb bp d
  clear bX dX sX hpq
  have HD := Lib.hid d
  have c1 : V.cell? ⟨q, 13, none⟩ = some (.int .i64 b.pair) := bb.cell 13
  have c2 := cId ba
  generalize b.pair = r1 at *
  generalize a.id = r2 at *
  clear hA hB hS ba bb bp d
  go_wp2_with (fail)
  go_ret
  first | exact ⟨by rw [N.out]; rfl, HD.out⟩ | exact ⟨by rw [N.out]; rfl, HD.out.trans (d2.mono HD.out.size)⟩
set_option maxRecDepth 100000 in
set_option maxHeartbeats 8000000 in
theorem holds_9 (a b : OpS) (s : OSl) (w : World) (hA : a.At w) (hB : b.At w) (hS : s.At w) :
    Calls Try.prog 17 #[.agg (pairC a b s), .int .i64 9] w fun e w' => e = .returned (.bool (holdsOf a b s.l 9)) ∧ Below w.heap.size w w' := by
  have N := Lib.hid (show holdsOf a b s.l 9 = (inOf b.addrs.l a.id) by simp [holdsOf])
  generalize holdsOf a b s.l 9 = R at *
  go_enter Try.func17, Try.ntmps17
  go_wp2_with fail
  generalize hX : World.alloc w _ = X
  obtain ⟨bX, dX, sX⟩ := arg_box hX
  clear hX
  refine two_boxes (fun _ _ _ _ _ h => h) a b s w X w.heap.size _ rfl (by simp) bX dX ?_
  intro p q V hpq ba bb bp d
  clear bX dX sX hpq
  have HD := Lib.hid d
  have C := Lib.hid (in_any b.addrs a.id V (hB.below d).a)
  have c1 : V.cell? ⟨q, 14, none⟩ = some b.addrs.v := bb.cell 14
  have c2 := cId ba
  generalize inOf b.addrs.l a.id = r at *
  generalize b.addrs.v = v at *
  clear hA hB hS ba bb bp d
  go_wp2_with (first | (go_at_call 25; refine C.out.mono ?_; clear C; rintro e W2 ⟨rfl, rfl⟩))
  go_ret
  first | exact ⟨by rw [N.out]; rfl, HD.out⟩ | exact ⟨by rw [N.out]; rfl, HD.out.trans (d2.mono HD.out.size)⟩
set_option maxRecDepth 100000 in
set_option maxHeartbeats 8000000 in
theorem holds_10 (a b : OpS) (s : OSl) (w : World) (hA : a.At w) (hB : b.At w) (hS : s.At w) :
    Calls Try.prog 17 #[.agg (pairC a b s), .int .i64 10] w fun e w' => e = .returned (.bool (holdsOf a b s.l 10)) ∧ Below w.heap.size w w' := by
  have N := Lib.hid (show holdsOf a b s.l 10 = (inOf b.datas.l a.id) by simp [holdsOf])
  generalize holdsOf a b s.l 10 = R at *
  go_enter Try.func17, Try.ntmps17
  go_wp2_with fail
  generalize hX : World.alloc w _ = X
  obtain ⟨bX, dX, sX⟩ := arg_box hX
  clear hX
  refine two_boxes (fun _ _ _ _ _ h => h) a b s w X w.heap.size _ rfl (by simp) bX dX ?_
  intro p q V hpq ba bb bp d
  clear bX dX sX hpq
  have HD := Lib.hid d
  have C := Lib.hid (in_any b.datas a.id V (hB.below d).d)
  have c1 : V.cell? ⟨q, 15, none⟩ = some b.datas.v := bb.cell 15
  have c2 := cId ba
  generalize inOf b.datas.l a.id = r at *
  generalize b.datas.v = v at *
  clear hA hB hS ba bb bp d
  go_wp2_with (first | (go_at_call 25; refine C.out.mono ?_; clear C; rintro e W2 ⟨rfl, rfl⟩))
  go_ret
  first | exact ⟨by rw [N.out]; rfl, HD.out⟩ | exact ⟨by rw [N.out]; rfl, HD.out.trans (d2.mono HD.out.size)⟩
set_option maxRecDepth 100000 in
set_option maxHeartbeats 8000000 in
theorem holds_11 (a b : OpS) (s : OSl) (w : World) (hA : a.At w) (hB : b.At w) (hS : s.At w) :
    Calls Try.prog 17 #[.agg (pairC a b s), .int .i64 11] w fun e w' => e = .returned (.bool (holdsOf a b s.l 11)) ∧ Below w.heap.size w w' := by
  have N := Lib.hid (show holdsOf a b s.l 11 = (b.store && inOf b.ctrls.l a.id) by simp [holdsOf])
  generalize holdsOf a b s.l 11 = R at *
  go_enter Try.func17, Try.ntmps17
  go_wp2_with fail
  generalize hX : World.alloc w _ = X
  obtain ⟨bX, dX, sX⟩ := arg_box hX
  clear hX
  refine two_boxes (fun _ _ _ _ _ h => h) a b s w X w.heap.size _ rfl (by simp) bX dX ?_
  intro p q V hpq ba bb bp d
  clear bX dX sX hpq
  have HD := Lib.hid d
  have C := Lib.hid (in_any b.ctrls a.id V (hB.below d).c)
  have c1 : V.cell? ⟨q, 16, none⟩ = some b.ctrls.v := bb.cell 16
  have c2 := cId ba
  have c3 := cStore bb
  generalize inOf b.ctrls.l a.id = r at *
  generalize b.ctrls.v = v at *
  generalize b.store = st at *
  clear hA hB hS ba bb bp d
  cases st
  all_goals
    go_wp2_with (first | (go_at_call 25; refine C.out.mono ?_; clear C; rintro e W2 ⟨rfl, rfl⟩))
    go_ret
    first | exact ⟨by rw [N.out]; rfl, HD.out⟩ | exact ⟨by rw [N.out]; rfl, HD.out.trans (d2.mono HD.out.size)⟩
set_option maxRecDepth 100000 in
set_option maxHeartbeats 8000000 in
theorem holds_12 (a b : OpS) (s : OSl) (w : World) (hA : a.At w) (hB : b.At w) (hS : s.At w) :
    Calls Try.prog 17 #[.agg (pairC a b s), .int .i64 12] w fun e w' => e = .returned (.bool (holdsOf a b s.l 12)) ∧ Below w.heap.size w w' := by
  have N := Lib.hid (show holdsOf a b s.l 12 = (s.l.any (twelveB a b)) by simp [holdsOf])
  generalize holdsOf a b s.l 12 = R at *
  go_enter Try.func17, Try.ntmps17
  go_wp2_with fail
  generalize hX : World.alloc w _ = X
  obtain ⟨bX, dX, sX⟩ := arg_box hX
  clear hX
  refine two_boxes (fun _ _ _ _ _ h => h) a b s w X w.heap.size _ rfl (by simp) bX dX ?_
  intro p q V hpq ba bb bp d
  clear bX dX sX hpq
  have HD := Lib.hid d
  have C := Lib.hid (some_any a b s 26 #[.pointer (some ⟨p, 0, none⟩), .pointer (some ⟨q, 0, none⟩)] (twelveB a b) V (hS.below d) (enters_of Try.func26 (by kernel_rfl) rfl) (Lib.hid fun o ho U hU => twelve_any a b o p q U (ba.below hU) (bb.below hU) (((hS.below d).o o ho).below hU) ((hB.below d).below hU)))
  have BP := Lib.hid bp
  generalize s.l.any (twelveB a b) = r at *
  clear hA hB hS ba bb bp d
  go_wp2_with (first | (refine wpList_load_at rfl 42 _ rfl ⟨w.heap.size, 0, none⟩ rfl (pairC a b s) _ BP.out.whole Try.underlying42 rfl pair_info ?_) | (refine wpList_load_in rfl 42 _ rfl ⟨w.heap.size, 0, none⟩ rfl (pairC a b s) _ BP.out.whole Try.underlying42 rfl pair_info ?_) | (go_at_call 22; refine C.out.mono ?_; clear C; rintro e W2 ⟨rfl, d2⟩))
  go_ret
  first | exact ⟨by rw [N.out]; rfl, HD.out⟩ | exact ⟨by rw [N.out]; rfl, HD.out.trans (d2.mono HD.out.size)⟩
set_option maxRecDepth 100000 in
set_option maxHeartbeats 8000000 in
theorem holds_13 (a b : OpS) (s : OSl) (w : World) (hA : a.At w) (hB : b.At w) (hS : s.At w) :
    Calls Try.prog 17 #[.agg (pairC a b s), .int .i64 13] w fun e w' => e = .returned (.bool (holdsOf a b s.l 13)) ∧ Below w.heap.size w w' := by
  have N := Lib.hid (show holdsOf a b s.l 13 = (b.store && s.l.any (thirteenB a)) by simp [holdsOf])
  generalize holdsOf a b s.l 13 = R at *
  go_enter Try.func17, Try.ntmps17
  go_wp2_with fail
  generalize hX : World.alloc w _ = X
  obtain ⟨bX, dX, sX⟩ := arg_box hX
  clear hX
  refine two_boxes (fun _ _ _ _ _ h => h) a b s w X w.heap.size _ rfl (by simp) bX dX ?_
  intro p q V hpq ba bb bp d
  clear bX dX sX hpq
  have HD := Lib.hid d
  have C := Lib.hid (some_any a b s 27 #[.pointer (some ⟨p, 0, none⟩)] (thirteenB a) V (hS.below d) (enters_of Try.func27 (by kernel_rfl) rfl) (Lib.hid fun o ho U hU => thirteen_any a o p U (ba.below hU) (((hS.below d).o o ho).below hU)))
  have BP := Lib.hid bp
  have c3 := cStore bb
  generalize s.l.any (thirteenB a) = r at *
  generalize b.store = st at *
  clear hA hB hS ba bb bp d
  cases st
  all_goals
    go_wp2_with (first | (refine wpList_load_at rfl 42 _ rfl ⟨w.heap.size, 0, none⟩ rfl (pairC a b s) _ BP.out.whole Try.underlying42 rfl pair_info ?_) | (refine wpList_load_in rfl 42 _ rfl ⟨w.heap.size, 0, none⟩ rfl (pairC a b s) _ BP.out.whole Try.underlying42 rfl pair_info ?_) | (go_at_call 22; refine C.out.mono ?_; clear C; rintro e W2 ⟨rfl, d2⟩))
    go_ret
    first | exact ⟨by rw [N.out]; rfl, HD.out⟩ | exact ⟨by rw [N.out]; rfl, HD.out.trans (d2.mono HD.out.size)⟩
/-- The contract of pair.holds, at every rule. -/
theorem holds_any (a b : OpS) (s : OSl) (n : Int) (w : World) (hA : a.At w) (hB : b.At w) (hS : s.At w) (h1 : 1 ≤ n) (h2 : n ≤ 13) :
    Calls Try.prog 17 #[.agg (pairC a b s), .int .i64 n] w fun e w' => e = .returned (.bool (holdsOf a b s.l n)) ∧ Below w.heap.size w w' := by
  have h : n = 1 ∨ n = 2 ∨ n = 3 ∨ n = 4 ∨ n = 5 ∨ n = 6 ∨ n = 7 ∨ n = 8 ∨ n = 9 ∨ n = 10 ∨ n = 11 ∨ n = 12 ∨ n = 13 := by omega
  rcases h with rfl | rfl | rfl | rfl | rfl | rfl | rfl | rfl | rfl | rfl | rfl | rfl | rfl
  · exact holds_1 a b s w hA hB hS
  · exact holds_2 a b s w hA hB hS
  · exact holds_3 a b s w hA hB hS
  · exact holds_4 a b s w hA hB hS
  · exact holds_5 a b s w hA hB hS
  · exact holds_6 a b s w hA hB hS
  · exact holds_7 a b s w hA hB hS
  · exact holds_8 a b s w hA hB hS
  · exact holds_9 a b s w hA hB hS
  · exact holds_10 a b s w hA hB hS
  · exact holds_11 a b s w hA hB hS
  · exact holds_12 a b s w hA hB hS
  · exact holds_13 a b s w hA hB hS
end Go.Proofs.Ytdfapbfpmjbnhaa.Hand
