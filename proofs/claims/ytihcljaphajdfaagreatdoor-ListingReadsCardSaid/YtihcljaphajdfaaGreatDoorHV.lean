/- DERIVED. DERIVED. A source's lines one by one: the iterator's walk, and a law for loops over it. -/
import Derived.Test.YtihcljaphajdfaaGreatDoorProg
import Derived.Test.YtihcljaphajdfaaGreatDoorMBits
import Derived.Test.YtihcljaphajdfaaGreatDoorMWalk
import Derived.Test.YtihcljaphajdfaaGreatDoorMTab
import Derived.Test.YtihcljaphajdfaaGreatDoorMInst
import Derived.Test.YtihcljaphajdfaaGreatDoorMDec
import Derived.Test.YtihcljaphajdfaaGreatDoorMDec2
import Derived.Test.YtihcljaphajdfaaGreatDoorMQTail
import Derived.Test.YtihcljaphajdfaaGreatDoorMArg
import Derived.Test.YtihcljaphajdfaaGreatDoorMRow
import Derived.Test.YtihcljaphajdfaaGreatDoorMOpen
import Derived.Test.YtihcljaphajdfaaGreatDoorMPart
import Derived.Test.YtihcljaphajdfaaGreatDoorMStore
import Derived.Test.YtihcljaphajdfaaGreatDoorMReg
import Derived.Test.YtihcljaphajdfaaGreatDoorMQTwo
import Derived.Test.YtihcljaphajdfaaGreatDoorMQTail
import Derived.Test.YtihcljaphajdfaaGreatDoorMQOne
import Derived.Test.YtihcljaphajdfaaGreatDoorMQPick
import Derived.Test.YtihcljaphajdfaaGreatDoorMReg
import Derived.Test.YtihcljaphajdfaaGreatDoorMStore
import Derived.Test.YtihcljaphajdfaaGreatDoorHS
import Derived.Test.YtihcljaphajdfaaGreatDoorPAllx2
import Derived.Test.YtihcljaphajdfaaGreatDoorPAllx4
import Derived.Test.YtihcljaphajdfaaGreatDoorPAllx8
import Derived.Test.YtihcljaphajdfaaGreatDoorPAllx9
import Derived.Test.YtihcljaphajdfaaGreatDoorPAllx10
import Derived.Below
import Derived.Deep.Draws
import Derived.Deep.AppendLies
import Derived.Maps.AppendAt
import Derived.OwnWalk
import Derived.Laws.BytesArg
import Derived.Laws.MakeOwn
import Derived.Laws.OwnMore
import Derived.Deep.OwnRows
import Derived.Tactics
import Derived.Lib.ConvBytes
import Derived.Laws.Slices
import Derived.WalkKit
import Derived.KernelRfl
import Derived.RowKit3
import Derived.Deep.LoopGhost
import Derived.Deep.QuietTactic
import Derived.BigQuiet
import Derived.WideLaws
import Derived.Deep.DeepCutAuto
import Derived.Deep.CutBlock
import Derived.Deep.RegionHeld3
import Derived.Laws.Rows
import Derived.Lib.AppendStr
import Derived.ArgAppend
import Derived.Laws.IdiomCopy
import Derived.OrdersHeld
import Derived.Laws.BitsLemmas
import Derived.Laws.Bits64
import Derived.RowKit
import Derived.Outline
import Derived.Handy
import Derived.Lib.Hide
import Derived.Deep.Light
import Derived.Laws.CopyOwn
import Derived.Lib.ItoaLen
import Derived.Deep.CutRange
import Derived.StillTail
import Derived.Shelf.RegionOpen
import Derived.Lib.QuietBelow
import Derived.Lib.AppendIntMem
import Derived.Laws.AppendOwnNone
import Derived.Shelf.Strings.Prefix
import Derived.Shelf.Strings.Split
import Derived.Shelf.Strings.Cut
import Derived.Shelf.Strings.Builder1
import Derived.Shelf.Strconv.AtoiAll
import Derived.Shelf.Strconv.Itoa3
import Derived.Ground.NamesProg
import Derived.Lib.AtoiTie
import Derived.Lib.AtoiErrMem
import Derived.Shelf.Vars
import Derived.RangeFuncNested
import Derived.RangeFuncBound
import Derived.RangeFuncCalls
import Derived.RangeFuncLeaves
import Derived.Shelf.Abstract
import Derived.OwnWalkIn
import Derived.TacticsInMore
import Derived.LoopNIn
import Derived.LoopIn
import Derived.WalkSmall
namespace Go.Proofs.YtihcljaphajdfaaGreatDoor.Hand
open Go Go.RowKit Go.Proofs.YtihcljaphajdfaaGreatDoor.M Go.Proofs.YtihcljaphajdfaaGreatDoor.PAll Go.Proofs.YtihcljaphajdfaaGreatDoorW.PrintWords
set_option linter.unusedVariables false
set_option linter.unusedSimpArgs false
attribute [local go_sem] Oper.semAt_some
/-- A source's lines, each with whether a line feed ends it. -/
def linesOf (s : List UInt8) : List (List UInt8 × Bool) :=
  if h : s = [] then [] else ((Lib.cut s [10]).1, (Lib.cut s [10]).2.2) :: linesOf (Lib.cut s [10]).2.1
termination_by s.length
decreasing_by
  unfold Lib.cut
  have h0 := List.length_pos_iff.2 h
  split
  · rw [List.length_drop, List.length_singleton]; omega
  · exact h0
theorem linesOf_nil : linesOf [] = [] := by rw [linesOf, dif_pos rfl]
theorem linesOf_cons {s : List UInt8} (h : s ≠ []) : linesOf s = ((Lib.cut s [10]).1, (Lib.cut s [10]).2.2) :: linesOf (Lib.cut s [10]).2.1 := by
  conv => lhs; rw [linesOf, dif_neg h]
theorem cut_less {s : List UInt8} (h : s ≠ []) : (Lib.cut s [10]).2.1.length < s.length ∧ (Lib.cut s [10]).1.length ≤ s.length := by
  unfold Lib.cut
  have h0 := List.length_pos_iff.2 h
  split
  · rw [List.length_drop, List.length_take, List.length_singleton]; omega
  · exact ⟨h0, Nat.le_refl _⟩
theorem Cut_any (s : ByteArray) (w : World) (hs : s.size ≤ 4000000000) (hL : LaidOk w) : Calls Tryz.prog 29 #[.string s, .string ⟨#[10]⟩] w fun e w' =>
    e = .returned (.tuple #[.string ⟨(Lib.cut s.data.toList [10]).1.toArray⟩, .string ⟨(Lib.cut s.data.toList [10]).2.1.toArray⟩, .bool (Lib.cut s.data.toList [10]).2.2]) ∧ Below w.heap.size w w' := by
  obtain ⟨m, hm⟩ := hL.m
  refine (Any.strings_Cut lays145 s ⟨#[10]⟩ m w (by omega) hm).mono ?_
  rintro e w' ⟨rfl, n, rfl⟩
  exact ⟨rfl, below_drewN (Below.refl _ _) n⟩
abbrev encL (x : List UInt8 × Bool) : Array Value := #[.string ⟨x.1.toArray⟩, .bool x.2]
def boxLen (Bs : Nat) (w : World) : Nat := match w.cell? ⟨Bs, 0, none⟩ with
  | some (.string b) => b.size
  | _ => 0
set_option maxRecDepth 100000 in
set_option maxHeartbeats 4000000 in
theorem lines_in (m : Nat) (hm : 1 ≤ m) (l Bs : Nat) (s : List UInt8) (hs : s.length ≤ 4000000000) (J Jx : List (List UInt8 × Bool) → World → Prop)
    (hJL : ∀ pre W, J pre W → LaidOk W) (hJs : ∀ pre W v, J pre W → J pre (W.setCell ⟨Bs, 0, none⟩ (.string v))) (hJb : ∀ pre W W', J pre W → Below W.heap.size W W' → J pre W')
    (hY : ∀ pre x W1, J pre W1 → pre ++ [x] <+: linesOf s → YieldAt Fence.wide (m - 1) Tryz.prog l (encL x) W1 fun e W' => (e = .returned (.bool true) ∧ J (pre ++ [x]) W' ∧ W1.heap.size ≤ W'.heap.size ∧ W'.heap[Bs]? = W1.heap[Bs]?) ∨ (e = .returned (.bool false) ∧ Jx (pre ++ [x]) W'))
    (W : World) (hB : Blk W Bs #[.string ⟨s.toArray⟩] 9) (h0 : J [] W) :
    CallsIn Fence.wide m Tryz.prog 28 #[.func (.yield l) #[] #[], .pointer (some ⟨Bs, 0, none⟩)] W fun e W' => (∃ v, e = .returned v) ∧ (J (linesOf s) W' ∨ ∃ pre, pre <+: linesOf s ∧ Jx pre W') := by
  have HJL := Lib.hid hJL
  have HJs := Lib.hid hJs
  have HJb := Lib.hid hJb
  have HY := Lib.hid hY
  have H0 := Lib.hid h0
  have HB := Lib.hid hB
  clear hJL hJs hJb hY h0 hB
  refine callsIn_of_wp Tryz.func28 rfl trivial ?_ rfl
  simp only [Tryz.ntmps28, List.size_toArray, List.length_cons, List.length_nil, Nat.reduceAdd, Nat.reduceSub, Array.replicate_succ, Array.replicate_zero, List.push_toArray, List.append_toArray, List.nil_append, List.cons_append]
  gi_wp2_with fail
  gi_loopw [] (fun wr => ∃ (pre : List (List UInt8 × Bool)) (r : List UInt8), Hid (Blk wr Bs #[.string ⟨r.toArray⟩] 9) ∧ Hid (linesOf s = pre ++ linesOf r) ∧ r.length ≤ s.length ∧ Hid (J pre wr)) (fun wr => boxLen Bs wr)
  case atStart => exact ⟨[], s, HB, Lib.hid rfl, Nat.le_refl _, H0⟩
  case round =>
    obtain ⟨pre, r, HB, hp, hrl, HJ⟩ := hrel
    have c0 : wr.cell? ⟨Bs, 0, none⟩ = some (.string ⟨r.toArray⟩) := HB.out.cell 0
    by_cases hr : r = []
    · subst hr
      gi_wp2_with fail
      go_end0
      exact ⟨⟨_, rfl⟩, .inl (by have h := hp.out; rw [linesOf_nil, List.append_nil] at h; rw [h]; exact HJ.out)⟩
    · have hri : r.isEmpty = false := by rw [List.isEmpty_eq_false_iff]; exact hr
      have HC := Lib.hid (Cut_any ⟨r.toArray⟩ wr (by rw [Lib.size_eq]; simp; omega) (HJL.out _ _ HJ.out))
      have hcl := cut_less hr
      have hcons := linesOf_cons hr
      rw [show (⟨r.toArray⟩ : ByteArray).data.toList = r from rfl] at HC
      generalize Lib.cut r [10] = q at *
      obtain ⟨q1, q2, q3⟩ := q
      dsimp only at HC hcl hcons
      replace hp := Lib.hid (show linesOf s = (pre ++ [(q1, q3)]) ++ linesOf q2 by rw [hp.out, hcons]; simp)
      clear hcons hr
      gi_wp2_with (first | (refine ⟨trivial, ?_⟩; gi_at_call 29; refine (callsIn_wide.2 HC.out).mono ?_; clear HC; rintro e V ⟨rfl, dV⟩; have hfz := (HB.out.below dV).frozen 0; have c1 := (HB.out.below dV).cell 0))
      generalize hZ : World.setCell V _ _ = Z
      have HZ := Lib.hid (show J pre Z from hZ ▸ HJs.out _ _ _ (HJb.out _ _ _ HJ.out dV))
      have BZ := Lib.hid (show Blk Z Bs #[.string ⟨q2.toArray⟩] 9 from hZ ▸ (HB.out.below dV).set 0 _)
      clear hZ hfz c1 dV HB HJ
      obtain ⟨fn, tmps, assign, body, hy, hRd⟩ := HY.out pre (q1, q3) Z HZ.out (by rw [hp.out]; exact List.prefix_append _ _)
      dsimp only [encL] at hy
      replace hRd := Lib.hid hRd
      rw [hy]
      gi_wp2_with fail
      refine hRd.out.mono ?_
      rintro e W' (⟨rfl, hJ', hsz, hk'⟩ | ⟨rfl, hJx'⟩)
      · have HJ4 := Lib.hid hJ'
        have BZ4 := Lib.hid (show Blk W' Bs #[.string ⟨q2.toArray⟩] 9 from hk'.trans BZ.out)
        have hm1 : boxLen Bs W' < boxLen Bs wr := by
          have e1 : W'.cell? ⟨Bs, 0, none⟩ = some (.string ⟨q2.toArray⟩) := BZ4.out.cell 0
          unfold boxLen
          rw [e1, c0]
          dsimp only
          rw [Lib.size_eq, Lib.size_eq]
          exact hcl.1
        clear hy hRd HZ BZ hJ' hk'
        gi_wp2_with fail
        go_roundw
        case rel => exact ⟨_, q2, BZ4, hp, by omega, HJ4⟩
        case measure => exact hm1
      · clear hy hRd
        have HX := Lib.hid hJx'
        clear hJx'
        gi_wp2_with fail
        refine bodyPost_ret (results_none rfl _ _ _) rfl ?_
        exact ⟨⟨_, rfl⟩, .inr ⟨_, (by rw [hp.out]; exact List.prefix_append _ _), HX.out⟩⟩
theorem lines_any (s : ByteArray) (w : World) : Calls Tryz.prog 12 #[.string s] w fun e w' => e = .returned (.func (.func 28) #[] #[.pointer (some ⟨w.heap.size, 0, none⟩)]) ∧ w.alloc (.cells #[.string s] 9) = w' := by
  go_enter Tryz.func12, Tryz.ntmps12
  go_wp2_with fail
  go_ret
  exact ⟨rfl, rfl⟩
/-- A loop over a source's lines: the iterator keeps its place in a cell of its own, which the loop's state must not speak of. -/
theorem range_lines (n : Nat) (h1 : 3 ≤ n) {g : Operand} {ps : Array Tmp} {assign body : Code} {Q : Exit → Act → World → Prop} {a : Act} {w : World} (Bs : Nat) (s : List UInt8) (hs : s.length ≤ 4000000000)
    (hg : a.eval g = .func (.func 28) #[] #[.pointer (some ⟨Bs, 0, none⟩)]) (hB : Blk w Bs #[.string ⟨s.toArray⟩] 9) (hps : ps.size = 2)
    (I : List (List UInt8 × Bool) → World → Prop) (Ix : List (List UInt8 × Bool) → World → Prop) (hIL : ∀ pre W, I pre W → LaidOk W) (hIs : ∀ pre W v, I pre W → I pre (W.setCell ⟨Bs, 0, none⟩ (.string v)))
    (hI : OwnFrom w.heap.size I) (hIx : OwnFrom w.heap.size Ix) (h0 : I [] w) (a₁ : List UInt8 × Bool → Act)
    (hassign : ∀ (l : Nat) (x : List UInt8 × Bool) (W : World) (K : Act → World → Prop), K (a₁ x) W →
      assign.wpIn (Fence.wide.inRound l) (n - 1 - 1) Tryz.prog (Exit.then K (fun _ _ _ => False)) { tmps := (ps.zip (encL x)).foldl (fun t (p, v) => t.setIfInBounds p v) a.tmps, defers := [] } W)
    (hbody : ∀ (l : Nat) (pre : List (List UInt8 × Bool)) (x : List UInt8 × Bool) (W : World), I pre W → pre ++ [x] <+: linesOf s → body.wpIn (Fence.wide.inRound l) (n - 1 - 1) Tryz.prog
      (ownPostG w.heap.size (fun A B => A.heap.size ≤ B.heap.size ∧ B.heap[Bs]? = A.heap[Bs]?) I (fun c p W' => c = .ret ∧ Ix p W') (pre ++ [x]) W) (a₁ x) W)
    (hdone : ∀ (D : Nat) (W : World), w.heap.size ≤ D → I (linesOf s) W → W.heap[D]? = some (.deferred (some [])) → Q .normal { a with defers := { target := .collected D, args := #[] } :: a.defers } W)
    (hstop : ∀ (D : Nat) (pre : List (List UInt8 × Bool)) (W : World), w.heap.size ≤ D → pre <+: linesOf s → Ix pre W → W.heap[D]? = some (.deferred (some [])) → Code.ret.wpIn Fence.wide n Tryz.prog Q { a with defers := { target := .collected D, args := #[] } :: a.defers } W) :
    (Code.rangeFunc g ps assign body).wpIn Fence.wide n Tryz.prog Q a w := by
  refine wpIn_rangeFunc ?_
  intro fn hfn
  rw [show Fence.wide.round = none from rfl]
  obtain ⟨rec, hrec⟩ : ∃ rec : LoopState → Option Code → Loop, rec = fun st pe => { state := st, pending := pe, fn, tmps := a.tmps, params := ps, assign, body, defers := w.heap.size } := ⟨_, rfl⟩
  have hBlt := hB.lt
  have sz1 : ((w.alloc (.deferred (some []))).alloc (.loop (rec .ready none))).heap.size = w.heap.size + 2 := by simp [World.size_alloc]
  have hI1 : I [] ((w.alloc (.deferred (some []))).alloc (.loop (rec .ready none))) := hI.alloc _ (hI.alloc _ h0)
  have hD1 : ((w.alloc (.deferred (some []))).alloc (.loop (rec .ready none))).heap[w.heap.size]? = some (.deferred (some [])) := (Below.heap_alloc _ _ _ (by simp)).trans (World.alloc_heap_new w _)
  have hL1 : ((w.alloc (.deferred (some []))).alloc (.loop (rec .ready none))).heap[w.heap.size + 1]? = some (.loop (rec .ready none)) := by
    have := World.alloc_heap_new (w.alloc (.deferred (some []))) (.loop (rec .ready none)); rwa [World.size_alloc] at this
  have hB1 : Blk ((w.alloc (.deferred (some []))).alloc (.loop (rec .ready none))) Bs #[.string ⟨s.toArray⟩] 9 := (hB.alloc _).alloc _
  have hE : (Instr.enterLoop fn a.tmps ps assign body none).run Tryz.prog w = .ok (w.heap.size + 1, [{ target := .collected w.heap.size, args := #[] }]) ((w.alloc (.deferred (some []))).alloc (.loop (rec .ready none))) := by
    rw [hrec]; exact run_enterLoop_outer _ _ _ _ _
  generalize (w.alloc (.deferred (some []))).alloc (.loop (rec .ready none)) = W1 at *
  refine ⟨w.heap.size + 1, _, W1, { target := .fn (.func 28) #[.pointer (some ⟨Bs, 0, none⟩)], args := #[.func (.yield (w.heap.size + 1)) #[] #[]] }, W1, 28,
    #[.func (.yield (w.heap.size + 1)) #[] #[]] ++ #[.pointer (some ⟨Bs, 0, none⟩)], W1, hE, ?_, fun _ _ => trivial, ?_, fun h => by omega, ?_⟩
  · simp only [resolve, hg]
    simp [go_sem]
  · simp [invoke, go_sem, enters_of Tryz.func28 (by kernel_rfl) rfl]
  · have book : ∀ {W W' : World} {row : Option Nat} {k : Nat} {o : Obj}, W.grownBy W' row → W.heap[k]? = some o → (∀ r, row = some r → r ≠ k) → W'.heap[k]? = some o := by
      intro W W' row k o hgr ho hr
      exact (hgr.block k (Array.getElem?_eq_some_iff.1 ho).1 (fun e => hr k e.symm rfl)).trans ho
    refine (lines_in (n - 1) (by omega) (w.heap.size + 1) Bs s hs
      (fun pre W => I pre W ∧ W.heap[w.heap.size + 1]? = some (.loop (rec .ready none)) ∧ W.heap[w.heap.size]? = some (.deferred (some [])))
      (fun pre W => Ix pre W ∧ W.heap[w.heap.size + 1]? = some (.loop (rec .done (some .ret))) ∧ W.heap[w.heap.size]? = some (.deferred (some [])))
      (fun pre W h => hIL _ _ h.1)
      (fun pre W v h => ⟨hIs _ _ _ h.1, (Below.heap_setCell W ⟨Bs, 0, none⟩ _ _ (by simp; omega)).trans h.2.1, (Below.heap_setCell W ⟨Bs, 0, none⟩ _ _ (by simp; omega)).trans h.2.2⟩)
      (fun pre W W' h d => ⟨hI pre W W' none h.1 (grownN_of_below d) (fun r e => by cases e), (d.block _ (Array.getElem?_eq_some_iff.1 h.2.1).1).trans h.2.1, (d.block _ (Array.getElem?_eq_some_iff.1 h.2.2).1).trans h.2.2⟩)
      ?_ W1 hB1 ⟨hI1, hL1, hD1⟩).mono ?_
    · rintro pre x W ⟨hi, hl, hk⟩ hpre
      have hlt : w.heap.size + 1 < W.heap.size := (Array.getElem?_eq_some_iff.1 hl).1
      have hy := run_yield (P := Tryz.prog) (args := encL x) hl (by rw [hrec]; exact hps.symm)
      rw [hrec] at hy
      refine ⟨fn, _, assign, body, hy, roundIn_of_wpIn hfn (hassign _ x W _ ⟨_, run_beginRound hl (by rw [hrec]), ?_⟩)⟩
      have hl2 : (W.putObj (w.heap.size + 1) (.loop { rec .ready none with state := .busy })).heap[w.heap.size + 1]? = some (.loop { rec .ready none with state := .busy }) := World.putObj_heap_same hlt
      have hk2 : (W.putObj (w.heap.size + 1) (.loop { rec .ready none with state := .busy })).heap[w.heap.size]? = some (.deferred (some [])) := (World.putObj_heap_other (by omega)).trans hk
      have hs2 : (W.putObj (w.heap.size + 1) (.loop { rec .ready none with state := .busy })).heap[Bs]? = W.heap[Bs]? := World.putObj_heap_other (by omega)
      refine wpIn_mono (hbody _ pre x _ (hI.putObj _ hi (by omega) hl rfl) hpre) ?_
      have fin : ∀ (jump : Option Code) (W3 : World), KeepsFrom w.heap.size (W.putObj (w.heap.size + 1) (.loop { rec .ready none with state := .busy })) W3 →
          (Instr.endRound (w.heap.size + 1) jump).run Tryz.prog W3 = .ok (.bool jump.isNone) (W3.putObj (w.heap.size + 1) (.loop (rec (if jump.isNone then .ready else .done) jump))) ∧
          W3.heap[w.heap.size + 1]? = some (.loop { rec .ready none with state := .busy }) ∧
          (W3.putObj (w.heap.size + 1) (.loop (rec (if jump.isNone then .ready else .done) jump))).heap[w.heap.size + 1]? = some (.loop (rec (if jump.isNone then .ready else .done) jump)) ∧
          (W3.putObj (w.heap.size + 1) (.loop (rec (if jump.isNone then .ready else .done) jump))).heap[w.heap.size]? = some (.deferred (some [])) := by
        intro jump W3 hk3
        have hl3 := hk3.same _ _ (by omega) hl2 rfl
        have hr3 := run_endRound (P := Tryz.prog) jump hl3
        rw [hrec] at hr3 ⊢
        exact ⟨hr3, by rw [hrec] at hl3; exact hl3, World.putObj_heap_same (Array.getElem?_eq_some_iff.1 hl3).1, (World.putObj_heap_other (by omega)).trans (hk3.same _ _ (Nat.le_refl _) hk2 rfl)⟩
      rintro e a3 W3 hp
      cases e with
      | normal =>
        obtain ⟨hk3, ⟨hz3, hb3⟩, hi3⟩ := hp
        obtain ⟨hr, hl3, hl4, hk4⟩ := fin none W3 hk3
        exact ⟨_, _, hr, .inl ⟨rfl, ⟨hI.putObj _ hi3 (by omega) hl3 rfl, hl4, hk4⟩, by simpa using hz3, (World.putObj_heap_other (by omega)).trans (hb3.trans hs2)⟩⟩
      | ret =>
        obtain ⟨hk3, _, hi3⟩ := hp
        obtain ⟨hr, hl3, hl4, hk4⟩ := fin (some .ret) W3 hk3
        exact ⟨_, _, hr, .inr ⟨rfl, hIx.putObj _ hi3 (by omega) hl3 rfl, hl4, hk4⟩⟩
      | exit id => exact absurd hp.2.1 (by intro e; cases e)
      | goto t => exact absurd hp.2.1 (by intro e; cases e)
      | panic ch => exact hp.elim
      | outgrown => exact hp.elim
    · rintro e W2 ⟨⟨v, rfl⟩, (⟨hi, hl, hk⟩ | ⟨pre, hpre, hi, hl, hk⟩)⟩
      · have hr := run_endLoop (P := Tryz.prog) hl (by rw [hrec]; simp)
        rw [hrec] at hr
        exact ⟨none, _, hr, hdone _ _ (Nat.le_refl _) (hI.putObj _ hi (by omega) hl rfl) ((World.putObj_heap_other (by omega)).trans hk)⟩
      · have hr := run_endLoop (P := Tryz.prog) hl (by rw [hrec]; simp)
        rw [hrec] at hr
        exact ⟨some .ret, _, hr, hstop _ pre _ (Nat.le_refl _) hpre (hIx.putObj _ hi (by omega) hl rfl) ((World.putObj_heap_other (by omega)).trans hk)⟩
end Go.Proofs.YtihcljaphajdfaaGreatDoor.Hand
