/- DERIVED. DERIVED. Parse's numbers. -/
import Derived.Test.YtihcljaphajdfaaDoorProg
import Derived.Test.YtihcljaphajdfaaDoorMBits
import Derived.Test.YtihcljaphajdfaaDoorMWalk
import Derived.Test.YtihcljaphajdfaaDoorMTab
import Derived.Test.YtihcljaphajdfaaDoorMInst
import Derived.Test.YtihcljaphajdfaaDoorMDec
import Derived.Test.YtihcljaphajdfaaDoorMDec2
import Derived.Test.YtihcljaphajdfaaDoorMQTail
import Derived.Test.YtihcljaphajdfaaDoorMArg
import Derived.Test.YtihcljaphajdfaaDoorMRow
import Derived.Test.YtihcljaphajdfaaDoorMOpen
import Derived.Test.YtihcljaphajdfaaDoorMPart
import Derived.Test.YtihcljaphajdfaaDoorMStore
import Derived.Test.YtihcljaphajdfaaDoorMReg
import Derived.Test.YtihcljaphajdfaaDoorMQTwo
import Derived.Test.YtihcljaphajdfaaDoorMQTail
import Derived.Test.YtihcljaphajdfaaDoorMStore
import Derived.Test.YtihcljaphajdfaaDoorHF
import Derived.Test.YtihcljaphajdfaaDoorPAllx3
import Derived.Test.YtihcljaphajdfaaDoorPAllx4
import Derived.Test.YtihcljaphajdfaaDoorPAllx6
import Derived.Test.YtihcljaphajdfaaDoorPAllx9
import Derived.Test.YtihcljaphajdfaaDoorPAllx11
import Derived.Below
import Derived.Deep.Draws
import Derived.Deep.AppendLies
import Derived.Maps.AppendAt
import Derived.OwnWalk
import Derived.Laws.BytesArg
import Derived.Laws.MakeOwn
import Derived.Laws.OwnMore
import Derived.Deep.OwnRows
import Derived.Tactics
import Derived.Lib.ConvBytes
import Derived.Laws.Slices
import Derived.WalkKit
import Derived.KernelRfl
import Derived.RowKit3
import Derived.Deep.LoopGhost
import Derived.Deep.QuietTactic
import Derived.BigQuiet
import Derived.WideLaws
import Derived.Deep.DeepCutAuto
import Derived.Deep.CutBlock
import Derived.Deep.RegionHeld3
import Derived.Laws.Rows
import Derived.Lib.AppendStr
import Derived.ArgAppend
import Derived.Laws.IdiomCopy
import Derived.OrdersHeld
import Derived.Laws.BitsLemmas
import Derived.Laws.Bits64
import Derived.RowKit
import Derived.Outline
import Derived.Handy
import Derived.Lib.Hide
import Derived.Deep.Light
import Derived.Laws.CopyOwn
import Derived.Lib.ItoaLen
import Derived.Deep.CutRange
import Derived.StillTail
import Derived.Shelf.RegionOpen
import Derived.Lib.QuietBelow
import Derived.Lib.AppendIntMem
import Derived.Laws.AppendOwnNone
import Derived.Shelf.Strings.Prefix
import Derived.Shelf.Strings.Split
import Derived.Shelf.Strings.Cut
import Derived.Shelf.Strings.Builder1
import Derived.Shelf.Strconv.AtoiAll
import Derived.Shelf.Strconv.Itoa3
import Derived.Ground.NamesProg
import Derived.Lib.AtoiTie
import Derived.Lib.AtoiErrMem
import Derived.Shelf.Vars
namespace Go.Proofs.YtihcljaphajdfaaDoor.Hand
open Go Go.RowKit Go.Proofs.YtihcljaphajdfaaDoor.M Go.Proofs.YtihcljaphajdfaaDoor.PAll Go.Proofs.YtihcljaphajdfaaDoorW.PrintWords
set_option linter.unusedVariables false
set_option linter.unusedSimpArgs false
attribute [local go_sem] Oper.semAt_some
set_option maxHeartbeats 2000000 in
theorem number_any (s : ByteArray) (w : World) (hs : s.size ≤ 281474976710656) (hL : LaidOk w) : Calls Tryd.prog 29 #[.string s] w fun e w' => e = .returned (.int .i64 (atoiN s.data.toList)) ∧ Below w.heap.size w w' := by
  unfold atoiN
  cases h : Lib.atoiAll s.data.toList with
  | ok v =>
    have H := Lib.hid (Any.strconv_Atoi_ok lays172 s (by omega) v h w)
    clear h
    go_enter Tryd.func29, Tryd.ntmps29
    go_wp2_with (refine H.out.mono ?_; clear H; rintro e W ⟨rfl, hW⟩; have D : Hid (Below w.heap.size w W) := Lib.hid (by rcases hW with rfl | ⟨t, rfl⟩; exact Below.refl _ _; exact Lib.bytesWorld_below _ _ _); clear hW)
    go_ret
    exact ⟨rfl, D.out⟩
  | range =>
    obtain ⟨_, ⟨ev, h1, h2⟩, _⟩ := hL
    have H := Lib.hid (Any.strconv_Atoi_range lays172 s hs h ev w h1 h2)
    clear h h1 h2
    go_enter Tryd.func29, Tryd.ntmps29
    go_wp2_with (refine H.out.mono ?_; clear H; rintro e W ⟨N, rfl, _, _, hb⟩; have D := Lib.hid hb; clear hb)
    go_ret
    exact ⟨rfl, D.out⟩
  | _ =>
    obtain ⟨⟨ev, h1, h2⟩, _⟩ := hL
    have H := Lib.hid (Any.strconv_Atoi_syntax lays172 s hs h ev w h1 h2)
    clear h h1 h2
    go_enter Tryd.func29, Tryd.ntmps29
    go_wp2_with (refine H.out.mono ?_; clear H; rintro e W ⟨N, rfl, _, _, hb⟩; have D := Lib.hid hb; clear hb)
    go_ret
    exact ⟨rfl, D.out⟩
theorem cell_setc {w : World} {p : Nat} {v : Value} {a : Addr} {u : Value} (h : w.cell? a = some u) (hne : a ≠ ⟨p, 0, none⟩) : (w.setCell ⟨p, 0, none⟩ v).cell? a = some u :=
  (World.cell?_setCell_other _ _ _ _ (Ne.symm hne)).trans h
/-- A store into a cell that holds a slice leaves the library's variables as they are. -/
theorem LaidOk.set {w Z : World} (h : LaidOk w) (p : Nat) (v : Value) {A : Option Addr} {n c : Nat} (e : w.setCell ⟨p, 0, none⟩ v = Z) (hc : w.cell? ⟨p, 0, none⟩ = some (.slice A n c)) : LaidOk Z := by
  subst e
  obtain ⟨⟨e1, h1, h2⟩, ⟨e2, h3, h4⟩, h5, ⟨m, h6⟩⟩ := h
  refine ⟨⟨e1, cell_setc h1 ?_, h2⟩, ⟨e2, cell_setc h3 ?_, h4⟩, ?_, ⟨m, cell_setc h6 ?_⟩⟩
  · intro hh; rw [hh, hc] at h1; cases h1; rcases h2 with h2 | ⟨_, _, h2⟩ <;> cases h2
  · intro hh; rw [hh, hc] at h3; cases h3; rcases h4 with h4 | ⟨_, _, h4⟩ <;> cases h4
  · unfold Lib.TabIs World.var? at h5 ⊢
    cases hg : Tryd.prog.globalNamed "internal/strconv.uint64pow10" with
    | none => rw [hg] at h5; cases h5
    | some g =>
      rw [hg] at h5
      have h5 : (match w.heap[g]? with | some (Obj.cells cs elem frozen) => some cs | x => none) = some (Lib.pow10Tab.map fun z => Value.int .u64 z).toArray := h5
      show (match (w.setCell ⟨p, 0, none⟩ v).heap[g]? with | some (Obj.cells cs elem frozen) => some cs | x => none) = some (Lib.pow10Tab.map fun z => Value.int .u64 z).toArray
      have hgp : g ≠ p := by
        rintro rfl
        cases ho : w.heap[g]? with
        | none => rw [ho] at h5; cases h5
        | some o =>
          rw [ho] at h5
          cases o with
          | cells cs el fr =>
            cases h5
            unfold World.cell? at hc
            rw [ho] at hc
            cases hc
          | _ => cases h5
      rw [Below.heap_setCell w ⟨p, 0, none⟩ v g hgp]; exact h5
  · intro hh; rw [hh, hc] at h6; cases h6
/-- The words from a place on. -/
structure RestAt (W : World) (g : Nat) (ws : List ByteArray) (o : Nat) (v : Value) : Prop where
  le : o ≤ ws.length
  v : ∃ A : Option Addr, v = .slice A (ws.length - o) (ws.length - o) ∧ (o < ws.length → A = some ⟨g, o, none⟩)
  b : Blk W g (ws.map Value.string).toArray 9
theorem RestAt.below {W V : World} {g o : Nat} {ws : List ByteArray} {v : Value} (h : RestAt W g ws o v) (d : Below W.heap.size W V) : RestAt V g ws o v := ⟨h.le, h.v, h.b.below d⟩
theorem RestAt.cell {W : World} {g o : Nat} {ws : List ByteArray} {v : Value} (h : RestAt W g ws o v) (j : Nat) (hj : j < ws.length) : W.cell? ⟨g, j, none⟩ = some (.string ws[j]) := by
  rw [h.b.cell j, List.getElem?_toArray, List.getElem?_map, List.getElem?_eq_getElem hj]; rfl
def wordN (s : ByteArray) : Int := atoiN (Lib.trimPrefix s.data.toList [120])
/-- The next number, and where the words go on. -/
def nextN (ws : List ByteArray) (o : Nat) : Int := if h : o < ws.length then wordN ws[o] else 0
def nextO (ws : List ByteArray) (o : Nat) : Nat := if o < ws.length then o + 1 else o
set_option maxRecDepth 100000 in
set_option maxHeartbeats 2000000 in
theorem next_any (ws : List ByteArray) (g p o : Nat) (v : Value) (w : World) (hL : LaidOk w) (hR : RestAt w g ws o v) (hp : Blk w p #[v] 46) (hpg : p ≠ g) (hws : ∀ s ∈ ws, s.size ≤ 281474976710656) :
    Calls Tryd.prog 27 #[.pointer (some ⟨p, 0, none⟩)] w fun e w' => e = .returned (.int .i64 (nextN ws o)) ∧ (∃ v', RestAt w' g ws (nextO ws o) v' ∧ Blk w' p #[v'] 46) ∧ w.grownBy w' (some p) := by
  have HB := Lib.hid hp
  have HR := Lib.hid hR
  obtain ⟨A, rfl, hA⟩ := hR.v
  have c0 : w.cell? ⟨p, 0, none⟩ = some (.slice A (ws.length - o) (ws.length - o)) := hp.cell 0
  clear hp hR
  by_cases ho : o < ws.length
  · obtain rfl := hA ho
    have hN : nextN ws o = wordN ws[o] := by unfold nextN; rw [dif_pos ho]
    have hO : nextO ws o = o + 1 := by unfold nextO; rw [if_pos ho]
    rw [hN, hO]
    have cw := HR.out.cell o ho
    have hsz := hws ws[o] (List.getElem_mem _)
    have HT := Lib.hid fun W => TrimPrefix_any ws[o] ⟨#[120]⟩ W
    have hln : ((ws.length - o : Nat) : Int) ≠ 0 := by omega
    have hl2 : (((ws.length - o : Nat) : Int) == 0) = false := by simpa using hln
    have hc1 : ws.length - o = 1 ∨ ¬ ws.length - o = 1 := by omega
    have hL' := Lib.hid hL
    clear hA hN hO hL hws
    generalize hwo : ws[o] = so at *
    generalize hn : ws.length - o = m at *
    have hts : (⟨(Lib.trimPrefix so.data.toList [120]).toArray⟩ : ByteArray).size ≤ 281474976710656 := by
      have h1 : (⟨(Lib.trimPrefix so.data.toList [120]).toArray⟩ : ByteArray).size = (Lib.trimPrefix so.data.toList [120]).length := by show (Lib.trimPrefix so.data.toList [120]).toArray.size = _; simp
      have h2 : (Lib.trimPrefix so.data.toList [120]).length ≤ so.data.toList.length := by unfold Lib.trimPrefix; split <;> simp
      have h3 : so.data.toList.length = so.size := Array.length_toList
      omega
    rcases hc1 with rfl | hne
    · have hle : o + 1 = ws.length := by omega
      have hfz := HB.out.frozen 0
      go_enter Tryd.func27, Tryd.ntmps27
      go_upto_region 5 with (go_at_call 28; refine (HT.out _).mono ?_; clear HT; rintro e W ⟨rfl, rfl⟩)
      generalize hZ : World.setCell W _ _ = Z
      have B2 : Blk Z p #[.slice (some ⟨g, o, none⟩) 0 0] 46 := hZ ▸ HB.out.set 0 (.slice (some ⟨g, o, none⟩) 0 0)
      have G2 : Blk Z g (ws.map Value.string).toArray 9 := hZ ▸ HR.out.b.far (p := ⟨p, 0, none⟩) (Ne.symm hpg) (.slice (some ⟨g, o, none⟩) 0 0)
      have gr : W.grownBy Z (some p) := hZ ▸ grown_setc (World.grownBy.refl W _) 0 (.slice (some ⟨g, o, none⟩) 0 0)
      have hLZ : LaidOk Z := hL'.out.set p (.slice (some ⟨g, o, none⟩) 0 0) hZ c0
      have HQ := Lib.hid (number_any ⟨(Lib.trimPrefix so.data.toList [120]).toArray⟩ Z hts hLZ)
      replace B2 := Lib.hid B2
      replace G2 := Lib.hid G2
      replace gr := Lib.hid gr
      clear hZ hfz c0 cw
      go_wp2_with (go_at_call 29; refine HQ.out.mono ?_; clear HQ; rintro e V ⟨rfl, dV⟩; replace B2 := Lib.hid (B2.out.below dV); replace G2 := Lib.hid (G2.out.below dV); replace gr := Lib.hid (grown_belowc gr.out dV); clear dV)
      go_ret
      refine ⟨rfl, ⟨.slice (some ⟨g, o, none⟩) 0 0, ⟨by omega, ⟨some ⟨g, o, none⟩, by rw [show ws.length - (o + 1) = 0 by omega], fun h => absurd h (by omega)⟩, G2.out⟩, B2.out⟩, gr.out⟩
    · have hle : o + 1 < ws.length := by omega
      have hfz := HB.out.frozen 0
      go_enter Tryd.func27, Tryd.ntmps27
      go_upto_region 5 with (go_at_call 28; refine (HT.out _).mono ?_; clear HT; rintro e W ⟨rfl, rfl⟩)
      generalize hZ : World.setCell W _ _ = Z
      have B2 : Blk Z p #[.slice (some ⟨g, o + 1, none⟩) (m - 1) (m - 1)] 46 := hZ ▸ HB.out.set 0 (.slice (some ⟨g, o + 1, none⟩) (m - 1) (m - 1))
      have G2 : Blk Z g (ws.map Value.string).toArray 9 := hZ ▸ HR.out.b.far (p := ⟨p, 0, none⟩) (Ne.symm hpg) (.slice (some ⟨g, o + 1, none⟩) (m - 1) (m - 1))
      have gr : W.grownBy Z (some p) := hZ ▸ grown_setc (World.grownBy.refl W _) 0 (.slice (some ⟨g, o + 1, none⟩) (m - 1) (m - 1))
      have hLZ : LaidOk Z := hL'.out.set p (.slice (some ⟨g, o + 1, none⟩) (m - 1) (m - 1)) hZ c0
      have HQ := Lib.hid (number_any ⟨(Lib.trimPrefix so.data.toList [120]).toArray⟩ Z hts hLZ)
      replace B2 := Lib.hid B2
      replace G2 := Lib.hid G2
      replace gr := Lib.hid gr
      clear hZ hfz c0 cw
      go_wp2_with (go_at_call 29; refine HQ.out.mono ?_; clear HQ; rintro e V ⟨rfl, dV⟩; replace B2 := Lib.hid (B2.out.below dV); replace G2 := Lib.hid (G2.out.below dV); replace gr := Lib.hid (grown_belowc gr.out dV); clear dV)
      go_ret
      refine ⟨rfl, ⟨.slice (some ⟨g, o + 1, none⟩) (m - 1) (m - 1), ⟨by omega, ⟨some ⟨g, o + 1, none⟩, by rw [show ws.length - (o + 1) = m - 1 by omega], fun h => rfl⟩, G2.out⟩, B2.out⟩, gr.out⟩
  · have hN : nextN ws o = 0 := by unfold nextN; rw [dif_neg ho]
    have hO : nextO ws o = o := by unfold nextO; rw [if_neg ho]
    have hz : ws.length - o = 0 := by omega
    rw [hN, hO]
    rw [hz] at HB HR c0
    clear hA hN hO hL hws
    go_enter Tryd.func27, Tryd.ntmps27
    go_wp2_with fail
    go_ret
    exact ⟨rfl, ⟨_, HR.out, HB.out⟩, World.grownBy.refl _ _⟩
end Go.Proofs.YtihcljaphajdfaaDoor.Hand
