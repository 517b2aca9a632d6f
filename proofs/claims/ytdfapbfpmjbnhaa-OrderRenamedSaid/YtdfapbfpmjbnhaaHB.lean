/- DERIVED. DERIVED. What a load returns, and by whom: an iterator, and who goes through it. -/
import Derived.Test.YtdfapbfpmjbnhaaProg
import Derived.Test.YtdfapbfpmjbnhaaMBits
import Derived.Test.YtdfapbfpmjbnhaaMWalk
import Derived.Test.YtdfapbfpmjbnhaaMArg
import Derived.Test.YtdfapbfpmjbnhaaMRow
import Derived.Test.YtdfapbfpmjbnhaaMOpen
import Derived.Test.YtdfapbfpmjbnhaaMPart
import Derived.Test.YtdfapbfpmjbnhaaMGoMap
import Derived.Test.YtdfapbfpmjbnhaaHA
import Derived.Below
import Derived.Deep.Draws
import Derived.Deep.AppendLies
import Derived.Maps.AppendAt
import Derived.OwnWalk
import Derived.Laws.BytesArg
import Derived.Laws.MakeOwn
import Derived.Laws.OwnMore
import Derived.Deep.OwnRows
import Derived.Tactics
import Derived.Lib.ConvBytes
import Derived.Laws.Slices
import Derived.WalkKit
import Derived.KernelRfl
import Derived.RowKit3
import Derived.Deep.LoopGhost
import Derived.Deep.QuietTactic
import Derived.BigQuiet
import Derived.WideLaws
import Derived.Deep.DeepCutAuto
import Derived.Deep.CutBlock
import Derived.Deep.RegionHeld3
import Derived.Laws.Rows
import Derived.Lib.AppendStr
import Derived.ArgAppend
import Derived.Laws.IdiomCopy
import Derived.OrdersHeld
import Derived.Laws.BitsLemmas
import Derived.Laws.Bits64
import Derived.RowKit
import Derived.Outline
import Derived.Handy
import Derived.Lib.Hide
import Derived.Deep.Light
import Derived.Laws.CopyOwn
import Derived.Laws.AppendOwnNone
import Derived.RangeFuncNested
import Derived.RangeFuncBound
import Derived.RangeFuncCalls
import Derived.RangeFuncLeaves
import Derived.Shelf.Abstract
import Derived.Shelf.RegionOpen
import Derived.OwnWalkIn
import Derived.TacticsInMore
import Derived.LoopNIn
import Derived.LoopIn
import Derived.Maps.OwnIn
import Derived.Deep.WholeRow
namespace Go.Proofs.Ytdfapbfpmjbnhaa.Hand
open Go Go.RowKit Go.Proofs.Ytdfapbfpmjbnhaa.M
set_option linter.unusedVariables false
set_option linter.unusedSimpArgs false
attribute [local go_sem] Oper.semAt_some
/-- The bytes that a load returns, from one on, and by whom. -/
def retFrom (o : OpS) : Nat → List Int → List (Int × Int)
  | _, [] => []
  | k, m :: r => if hasOf o (IntKind.u64.wrap (o.addr + k)) = true then (IntKind.u64.wrap (o.addr + k), m) :: retFrom o (k + 1) r else []
def retOf (o : OpS) : List (Int × Int) := if o.load = true then retFrom o 0 o.frm.l else []
abbrev encB {P : Int × Int → Prop} (p : { p : Int × Int // P p }) : Array Value := #[.int .u64 p.1.1, .int .i64 p.1.2]
/-- What lay before a loop lies as it did, but for one block. -/
structure KeepB (n0 mb : Nat) (W W' : World) : Prop where
  size : W.heap.size ≤ W'.heap.size
  block : ∀ k, k < n0 → k ≠ mb → W'.heap[k]? = W.heap[k]?
theorem KeepB.trans {n0 mb : Nat} {A B C : World} (h : KeepB n0 mb A B) (g : KeepB n0 mb B C) : KeepB n0 mb A C := ⟨Nat.le_trans h.size g.size, fun k h1 h2 => (g.block k h1 h2).trans (h.block k h1 h2)⟩
theorem KeepB.refl {n0 mb : Nat} (A : World) : KeepB n0 mb A A := ⟨Nat.le_refl _, fun _ _ _ => rfl⟩
theorem KeepB.of_below {n0 mb B : Nat} {A C : World} (h : Below B A C) (hn : n0 ≤ B) : KeepB n0 mb A C := ⟨h.size, fun k h1 _ => h.block k (by omega)⟩
theorem KeepB.put {n0 mb : Nat} {w : World} (hn : n0 ≤ w.heap.size) (W : World) (l : Nat) (o o' : Obj) (hl : w.heap.size ≤ l) (_ : W.heap[l]? = some o) (_ : o.isCells = false) (_ : o.isWalk = false) : KeepB n0 mb W (W.putObj l o') :=
  ⟨by simp, fun k hk _ => World.putObj_heap_other (by omega)⟩
theorem grown_of_below {W W' : World} (d : Below W.heap.size W W') : W.grownBy W' none := ⟨d.os, d.tape, d.output, d.size, fun k hk _ => d.block k hk⟩
theorem retFrom_step (o : OpS) (k : Nat) (l : List Int) (h : k < l.length) : retFrom o k (l.drop k) = if hasOf o (IntKind.u64.wrap (o.addr + k)) = true then (IntKind.u64.wrap (o.addr + k), l[k]) :: retFrom o (k + 1) (l.drop (k + 1)) else [] := by
  rw [List.drop_eq_getElem_cons h]; rfl
/-- In the midst: the operation lies, its list too. -/
structure RetAt (W : World) (n0 mb Bn : Nat) (o : OpS) : Prop where
  b : Blk W Bn o.cells 29
  l : o.frm.l ≠ [] → ∃ ad, o.frm.a = some ad ∧ ad.block < n0 ∧ ad.block ≠ mb ∧ ∀ j x, o.frm.l[j]? = some x → W.cell? (ad.add j) = some (.int .i64 x)
  h : Bn < n0 ∧ Bn ≠ mb ∧ n0 ≤ W.heap.size
theorem RetAt.keep {W W' : World} {n0 mb Bn : Nat} {o : OpS} (H : RetAt W n0 mb Bn o) (k : KeepB n0 mb W W') : RetAt W' n0 mb Bn o :=
  ⟨(k.block Bn H.h.1 H.h.2.1).trans H.b, fun hn => by
    obtain ⟨ad, e, h1, h2, h3⟩ := H.l hn
    exact ⟨ad, e, h1, h2, fun j x hx => (World.cell?_of_block (a := ad.add j) (by rw [block_add]; exact k.block _ h1 h2)).trans (h3 j x hx)⟩, H.h.1, H.h.2.1, Nat.le_trans H.h.2.2 k.size⟩
theorem RetAt.below {W W' : World} {n0 mb Bn : Nat} {o : OpS} (H : RetAt W n0 mb Bn o) (d : Below W.heap.size W W') : RetAt W' n0 mb Bn o := H.keep (.of_below d H.h.2.2)
set_option maxRecDepth 100000 in
set_option maxHeartbeats 4000000 in
theorem ret_stops (P : Int × Int → Prop) (n0 mb Bn : Nat) (o : OpS) (w : World) (hP : ∀ p ∈ retOf o, P p) (hu : U64 o.addr) (hz : I64 o.size) (hl : o.frm.l.length = o.frm.n ∧ o.frm.n ≤ 9223372036854775807) (H : RetAt w n0 mb Bn o) (m : Nat) (hm : 1 ≤ m) :
    SeqStopsK Fence.wide m Try.prog 32 #[.pointer (some ⟨Bn, 0, none⟩)] (encB (P := P)) (KeepB n0 mb) (fun xs => xs.map (·.1) = retOf o) (fun pre => pre.map (·.1) <+: retOf o) (retOf o).length w := fun l J Jx W hW hJ hJx hY h0 => by
  have HP := Lib.hid hP
  have HR := Lib.hid (H.below hW)
  have HJ : Hid (∀ (s : List { p : Int × Int // P p }) (A B : World), J s A → Below A.heap.size A B → J s B) := Lib.hid fun s A B h d => hJ s A B none h (grown_of_below d) (fun r e => by cases e)
  have HY := Lib.hid hY
  have H0 := Lib.hid h0
  have HA := Lib.hid fun x W => has_any o x W hu hz
  have rdef : retOf o = if o.load = true then retFrom o 0 o.frm.l else [] := rfl
  generalize hRR : retOf o = R at *
  clear hRR H hW hJ hJx hY h0 hP
  by_cases hld : o.load = true
  · rw [if_pos hld] at rdef
    have cl := cLoad HR.out.b
    have cf : W.cell? ⟨Bn, 12, none⟩ = some o.frm.v := HR.out.b.cell 12
    rw [hld] at cl
    have RD := Lib.hid rdef
    have hln := Lib.hid hl.1
    have hn2 := hl.2
    clear rdef hl
    unfold Sl.v at cf
    refine callsIn_of_wp Try.func32 rfl trivial ?_ rfl
    simp only [Try.ntmps32, List.size_toArray, List.length_cons, List.length_nil, Nat.reduceAdd, Nat.reduceSub, Array.replicate_succ, Array.replicate_zero, List.push_toArray, List.append_toArray, List.nil_append, List.cons_append]
    gi_wp2
    gi_loopw [12] (fun i wr => ∃ (k : Nat) (pre : List { p : Int × Int // P p }), k ≤ o.frm.n ∧ i = .int .i64 k ∧ pre.length = k ∧ Hid (R = pre.map (·.1) ++ retFrom o k (o.frm.l.drop k)) ∧ Hid (J pre wr) ∧ Hid (RetAt wr n0 mb Bn o)) (fun i _ => o.frm.n - (intOf i).toNat)
    case atStart => exact ⟨0, [], by omega, rfl, rfl, Lib.hid (by rw [RD.out]; rfl), H0, HR⟩
    case round =>
      obtain ⟨k, pre, hk, rfl, hp, hR, hJ, HR⟩ := hrel
      by_cases hlt : k < o.frm.n
      · obtain ⟨ad, e, h1, h2, h3⟩ := HR.out.l (by intro e; have := hln.out; rw [e] at this; simp at this; omega)
        have hkl : k < o.frm.l.length := by rw [hln.out]; exact hlt
        have hck := h3 k _ (List.getElem?_eq_getElem hkl)
        have hR2 := hR.out.trans (congrArg (pre.map (·.1) ++ ·) (retFrom_step o k _ hkl))
        have ca := cAddr HR.out.b
        rw [e]
        clear h1 h2 h3 hR
        have ek : IntKind.u64.wrap (k : Int) = k := by rw [u64w]; omega
        generalize o.frm.l[k] = v at *
        gi_wp2_with (refine wpListIn_load_at rfl 29 _ rfl ⟨Bn, 0, none⟩ rfl o.cells _ HR.out.b.whole Try.underlying29 rfl op_info ?_)
        refine ⟨trivial, (callsIn_wide.2 (HA.out _ _)).mono ?_⟩
        rintro e W2 ⟨rfl, d2⟩
        have HR3 := Lib.hid (HR.out.below d2)
        have HJ3 := Lib.hid (HJ.out _ _ _ hJ.out d2)
        clear d2 hJ HR hck ca
        by_cases hh : hasOf o (IntKind.u64.wrap (o.addr + (k : Int))) = true
        · rw [if_pos hh] at hR2
          replace hR2 := Lib.hid hR2
          have hlen : pre.length < R.length := by rw [hR2.out]; simp
          obtain ⟨fn, tmps, assign, body, hy, hRd⟩ := HY.out pre ⟨(IntKind.u64.wrap (o.addr + (k : Int)), v), HP.out _ (by rw [hR2.out]; simp)⟩ W2 HJ3.out hlen
          dsimp only [encB] at hy
          replace hRd := Lib.hid hRd
          rw [hh]
          gi_wp2_with fail
          refine hRd.out.mono ?_
          rintro e W' (⟨rfl, hJ', hk'⟩ | ⟨rfl, hJx'⟩)
          · have HR4 := Lib.hid (HR3.out.keep hk')
            have HJ4 := Lib.hid hJ'
            clear hy hRd HR3 HJ3 hJ' hk' hh
            gi_wp2_with fail
            go_roundw
            case rel => exact ⟨k + 1, pre ++ [_], by omega, by go_num, by simp [hp], by rw [List.map_append, List.append_assoc]; exact hR2, HJ4, HR4⟩
            case measure => simp [intOf]; omega
          · clear hy hRd hh
            have HX := Lib.hid hJx'
            clear hJx'
            gi_wp2_with fail
            refine bodyPost_ret (results_none rfl _ _ _) rfl ?_
            exact ⟨⟨_, rfl⟩, .inr ⟨_, ⟨retFrom o (k + 1) (o.frm.l.drop (k + 1)), by rw [List.map_append, List.append_assoc]; exact hR2.out.symm⟩, HX.out⟩⟩
        · have hf : hasOf o (IntKind.u64.wrap (o.addr + (k : Int))) = false := by simpa using hh
          rw [if_neg hh] at hR2
          replace hR2 := Lib.hid hR2
          clear hh
          rw [hf]
          gi_wp2_with fail
          refine ⟨fun _ h => (by cases h), ?_⟩
          gi_wp2_with fail
          refine bodyPost_ret (results_none rfl _ _ _) rfl ?_
          exact ⟨⟨_, rfl⟩, .inl ⟨pre, by rw [hR2.out, List.append_nil], HJ3.out⟩⟩
      · obtain rfl : k = o.frm.n := by omega
        gi_wp2_with fail
        go_end0
        exact ⟨⟨_, rfl⟩, .inl ⟨pre, by rw [hR.out, List.drop_of_length_le (by rw [hln.out]; exact Nat.le_refl _)]; simp [retFrom], hJ.out⟩⟩
  · have hl0 : o.load = false := by simpa using hld
    rw [if_neg hld] at rdef
    subst rdef
    have cl := cLoad HR.out.b
    rw [hl0] at cl
    refine callsIn_of_wp Try.func32 rfl trivial ?_ rfl
    simp only [Try.ntmps32, List.size_toArray, List.length_cons, List.length_nil, Nat.reduceAdd, Nat.reduceSub, Array.replicate_succ, Array.replicate_zero, List.push_toArray, List.append_toArray, List.nil_append, List.cons_append]
    gi_wp2
    refine bodyPost_ret (results_none rfl _ _ _) rfl ?_
    exact ⟨⟨_, rfl⟩, .inl ⟨[], rfl, H0.out⟩⟩
end Go.Proofs.Ytdfapbfpmjbnhaa.Hand
