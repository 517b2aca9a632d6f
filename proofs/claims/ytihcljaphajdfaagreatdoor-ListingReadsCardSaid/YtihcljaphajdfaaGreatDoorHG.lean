/- DERIVED. DERIVED. Parse's numbers. -/
import Derived.Test.YtihcljaphajdfaaGreatDoorProg
import Derived.Test.YtihcljaphajdfaaGreatDoorMBits
import Derived.Test.YtihcljaphajdfaaGreatDoorMWalk
import Derived.Test.YtihcljaphajdfaaGreatDoorMTab
import Derived.Test.YtihcljaphajdfaaGreatDoorMInst
import Derived.Test.YtihcljaphajdfaaGreatDoorMDec
import Derived.Test.YtihcljaphajdfaaGreatDoorMDec2
import Derived.Test.YtihcljaphajdfaaGreatDoorMQTail
import Derived.Test.YtihcljaphajdfaaGreatDoorMArg
import Derived.Test.YtihcljaphajdfaaGreatDoorMRow
import Derived.Test.YtihcljaphajdfaaGreatDoorMOpen
import Derived.Test.YtihcljaphajdfaaGreatDoorMPart
import Derived.Test.YtihcljaphajdfaaGreatDoorMStore
import Derived.Test.YtihcljaphajdfaaGreatDoorMReg
import Derived.Test.YtihcljaphajdfaaGreatDoorMQTwo
import Derived.Test.YtihcljaphajdfaaGreatDoorMQTail
import Derived.Test.YtihcljaphajdfaaGreatDoorMStore
import Derived.Test.YtihcljaphajdfaaGreatDoorHF
import Derived.Test.YtihcljaphajdfaaGreatDoorPAllx2
import Derived.Test.YtihcljaphajdfaaGreatDoorPAllx4
import Derived.Test.YtihcljaphajdfaaGreatDoorPAllx8
import Derived.Test.YtihcljaphajdfaaGreatDoorPAllx9
import Derived.Test.YtihcljaphajdfaaGreatDoorPAllx10
import Derived.Below
import Derived.Deep.Draws
import Derived.Deep.AppendLies
import Derived.Maps.AppendAt
import Derived.OwnWalk
import Derived.Laws.BytesArg
import Derived.Laws.MakeOwn
import Derived.Laws.OwnMore
import Derived.Deep.OwnRows
import Derived.Tactics
import Derived.Lib.ConvBytes
import Derived.Laws.Slices
import Derived.WalkKit
import Derived.KernelRfl
import Derived.RowKit3
import Derived.Deep.LoopGhost
import Derived.Deep.QuietTactic
import Derived.BigQuiet
import Derived.WideLaws
import Derived.Deep.DeepCutAuto
import Derived.Deep.CutBlock
import Derived.Deep.RegionHeld3
import Derived.Laws.Rows
import Derived.Lib.AppendStr
import Derived.ArgAppend
import Derived.Laws.IdiomCopy
import Derived.OrdersHeld
import Derived.Laws.BitsLemmas
import Derived.Laws.Bits64
import Derived.RowKit
import Derived.Outline
import Derived.Handy
import Derived.Lib.Hide
import Derived.Deep.Light
import Derived.Laws.CopyOwn
import Derived.Lib.ItoaLen
import Derived.Deep.CutRange
import Derived.StillTail
import Derived.Shelf.RegionOpen
import Derived.Lib.QuietBelow
import Derived.Lib.AppendIntMem
import Derived.Laws.AppendOwnNone
import Derived.Shelf.Strings.Prefix
import Derived.Shelf.Strings.Split
import Derived.Shelf.Strings.Cut
import Derived.Shelf.Strings.Builder1
import Derived.Shelf.Strconv.AtoiAll
import Derived.Shelf.Strconv.Itoa3
import Derived.Ground.NamesProg
import Derived.Lib.AtoiTie
import Derived.Lib.AtoiErrMem
import Derived.Shelf.Vars
namespace Go.Proofs.YtihcljaphajdfaaGreatDoor.Hand
open Go Go.RowKit Go.Proofs.YtihcljaphajdfaaGreatDoor.M Go.Proofs.YtihcljaphajdfaaGreatDoor.PAll Go.Proofs.YtihcljaphajdfaaGreatDoorW.PrintWords
set_option linter.unusedVariables false
set_option linter.unusedSimpArgs false
attribute [local go_sem] Oper.semAt_some
set_option maxHeartbeats 2000000 in
theorem number_any (s : ByteArray) (w : World) (hs : s.size ≤ 281474976710656) (hL : LaidOk w) : Calls Tryz.prog 22 #[.string s] w fun e w' => e = .returned (.int .i64 (atoiN s.data.toList)) ∧ Below w.heap.size w w' := by
  unfold atoiN
  cases h : Lib.atoiAll s.data.toList with
  | ok v =>
    have H := Lib.hid (Any.strconv_Atoi_ok lays172 s (by omega) v h w)
    clear h
    go_enter Tryz.func22, Tryz.ntmps22
    go_wp2_with (refine H.out.mono ?_; clear H; rintro e W ⟨rfl, hW⟩; have D : Hid (Below w.heap.size w W) := Lib.hid (by rcases hW with rfl | ⟨t, rfl⟩; exact Below.refl _ _; exact Lib.bytesWorld_below _ _ _); clear hW)
    go_ret
    exact ⟨rfl, D.out⟩
  | range =>
    obtain ⟨_, ⟨ev, h1, h2⟩, _⟩ := hL
    have H := Lib.hid (Any.strconv_Atoi_range lays172 s hs h ev w h1 h2)
    clear h h1 h2
    go_enter Tryz.func22, Tryz.ntmps22
    go_wp2_with (refine H.out.mono ?_; clear H; rintro e W ⟨N, rfl, _, _, hb⟩; have D := Lib.hid hb; clear hb)
    go_ret
    exact ⟨rfl, D.out⟩
  | _ =>
    obtain ⟨⟨ev, h1, h2⟩, _⟩ := hL
    have H := Lib.hid (Any.strconv_Atoi_syntax lays172 s hs h ev w h1 h2)
    clear h h1 h2
    go_enter Tryz.func22, Tryz.ntmps22
    go_wp2_with (refine H.out.mono ?_; clear H; rintro e W ⟨N, rfl, _, _, hb⟩; have D := Lib.hid hb; clear hb)
    go_ret
    exact ⟨rfl, D.out⟩
theorem cell_setc {w : World} {p : Nat} {v : Value} {a : Addr} {u : Value} (h : w.cell? a = some u) (hne : a ≠ ⟨p, 0, none⟩) : (w.setCell ⟨p, 0, none⟩ v).cell? a = some u :=
  (World.cell?_setCell_other _ _ _ _ (Ne.symm hne)).trans h
/-- A store into a cell that holds a slice leaves the library's variables as they are. -/
theorem LaidOk.set {w Z : World} (h : LaidOk w) (p : Nat) (v : Value) {A : Option Addr} {n c : Nat} (e : w.setCell ⟨p, 0, none⟩ v = Z) (hc : w.cell? ⟨p, 0, none⟩ = some (.slice A n c)) : LaidOk Z := by
  subst e
  obtain ⟨⟨e1, h1, h2⟩, ⟨e2, h3, h4⟩, h5, ⟨m, h6⟩⟩ := h
  refine ⟨⟨e1, cell_setc h1 ?_, h2⟩, ⟨e2, cell_setc h3 ?_, h4⟩, ?_, ⟨m, cell_setc h6 ?_⟩⟩
  · intro hh; rw [hh, hc] at h1; cases h1; rcases h2 with h2 | ⟨_, _, h2⟩ <;> cases h2
  · intro hh; rw [hh, hc] at h3; cases h3; rcases h4 with h4 | ⟨_, _, h4⟩ <;> cases h4
  · unfold Lib.TabIs World.var? at h5 ⊢
    cases hg : Tryz.prog.globalNamed "internal/strconv.uint64pow10" with
    | none => rw [hg] at h5; cases h5
    | some g =>
      rw [hg] at h5
      have h5 : (match w.heap[g]? with | some (Obj.cells cs elem frozen) => some cs | x => none) = some (Lib.pow10Tab.map fun z => Value.int .u64 z).toArray := h5
      show (match (w.setCell ⟨p, 0, none⟩ v).heap[g]? with | some (Obj.cells cs elem frozen) => some cs | x => none) = some (Lib.pow10Tab.map fun z => Value.int .u64 z).toArray
      have hgp : g ≠ p := by
        rintro rfl
        cases ho : w.heap[g]? with
        | none => rw [ho] at h5; cases h5
        | some o =>
          rw [ho] at h5
          cases o with
          | cells cs el fr =>
            cases h5
            unfold World.cell? at hc
            rw [ho] at hc
            cases hc
          | _ => cases h5
      rw [Below.heap_setCell w ⟨p, 0, none⟩ v g hgp]; exact h5
  · intro hh; rw [hh, hc] at h6; cases h6
/-- The words from a place on. -/
structure RestAt (W : World) (g : Nat) (ws : List ByteArray) (o : Nat) (v : Value) : Prop where
  le : o ≤ ws.length
  v : ∃ A : Option Addr, v = .slice A (ws.length - o) (ws.length - o) ∧ (o < ws.length → A = some ⟨g, o, none⟩)
  b : Blk W g (ws.map Value.string).toArray 9
theorem RestAt.below {W V : World} {g o : Nat} {ws : List ByteArray} {v : Value} (h : RestAt W g ws o v) (d : Below W.heap.size W V) : RestAt V g ws o v := ⟨h.le, h.v, h.b.below d⟩
theorem RestAt.cell {W : World} {g o : Nat} {ws : List ByteArray} {v : Value} (h : RestAt W g ws o v) (j : Nat) (hj : j < ws.length) : W.cell? ⟨g, j, none⟩ = some (.string ws[j]) := by
  rw [h.b.cell j, List.getElem?_toArray, List.getElem?_map, List.getElem?_eq_getElem hj]; rfl
def wordN (s : ByteArray) : Int := atoiN (Lib.trimPrefix s.data.toList [120])
/-- The next number, and where the words go on. -/
def nextN (ws : List ByteArray) (o : Nat) : Int := if h : o < ws.length then wordN ws[o] else 0
def nextO (ws : List ByteArray) (o : Nat) : Nat := if o < ws.length then o + 1 else o
set_option maxRecDepth 100000 in
set_option maxHeartbeats 2000000 in
theorem next_any (ws : List ByteArray) (g p o : Nat) (v : Value) (w : World) (hL : LaidOk w) (hR : RestAt w g ws o v) (hp : Blk w p #[v] 51) (hpg : p ≠ g) (hws : ∀ s ∈ ws, s.size ≤ 281474976710656) :
    Calls Tryz.prog 20 #[.pointer (some ⟨p, 0, none⟩)] w fun e w' => e = .returned (.int .i64 (nextN ws o)) ∧ (∃ v', RestAt w' g ws (nextO ws o) v' ∧ Blk w' p #[v'] 51) ∧ w.grownBy w' (some p) := by
  have HB := Lib.hid hp
  have HR := Lib.hid hR
  obtain ⟨A, rfl, hA⟩ := hR.v
  have c0 : w.cell? ⟨p, 0, none⟩ = some (.slice A (ws.length - o) (ws.length - o)) := hp.cell 0
  clear hp hR
  by_cases ho : o < ws.length
  · obtain rfl := hA ho
    have hN : nextN ws o = wordN ws[o] := by unfold nextN; rw [dif_pos ho]
    have hO : nextO ws o = o + 1 := by unfold nextO; rw [if_pos ho]
    rw [hN, hO]
    have cw := HR.out.cell o ho
    have hsz := hws ws[o] (List.getElem_mem _)
    have HT := Lib.hid fun W => TrimPrefix_any ws[o] ⟨#[120]⟩ W
    have hln : ((ws.length - o : Nat) : Int) ≠ 0 := by omega
    have hl2 : (((ws.length - o : Nat) : Int) == 0) = false := by simpa using hln
    have hc1 : ws.length - o = 1 ∨ ¬ ws.length - o = 1 := by omega
    have hL' := Lib.hid hL
    clear hA hN hO hL hws
    generalize hwo : ws[o] = so at *
    generalize hn : ws.length - o = m at *
    have hts : (⟨(Lib.trimPrefix so.data.toList [120]).toArray⟩ : ByteArray).size ≤ 281474976710656 := by
      have h1 : (⟨(Lib.trimPrefix so.data.toList [120]).toArray⟩ : ByteArray).size = (Lib.trimPrefix so.data.toList [120]).length := by show (Lib.trimPrefix so.data.toList [120]).toArray.size = _; simp
      have h2 : (Lib.trimPrefix so.data.toList [120]).length ≤ so.data.toList.length := by unfold Lib.trimPrefix; split <;> simp
      have h3 : so.data.toList.length = so.size := Array.length_toList
      omega
    rcases hc1 with rfl | hne
    · have hle : o + 1 = ws.length := by omega
      have hfz := HB.out.frozen 0
      go_enter Tryz.func20, Tryz.ntmps20
      go_upto_region 5 with (go_at_call 21; refine (HT.out _).mono ?_; clear HT; rintro e W ⟨rfl, rfl⟩)
      generalize hZ : World.setCell W _ _ = Z
      have B2 : Blk Z p #[.slice (some ⟨g, o, none⟩) 0 0] 51 := hZ ▸ HB.out.set 0 (.slice (some ⟨g, o, none⟩) 0 0)
      have G2 : Blk Z g (ws.map Value.string).toArray 9 := hZ ▸ HR.out.b.far (p := ⟨p, 0, none⟩) (Ne.symm hpg) (.slice (some ⟨g, o, none⟩) 0 0)
      have gr : W.grownBy Z (some p) := hZ ▸ grown_setc (World.grownBy.refl W _) 0 (.slice (some ⟨g, o, none⟩) 0 0)
      have hLZ : LaidOk Z := hL'.out.set p (.slice (some ⟨g, o, none⟩) 0 0) hZ c0
      have HQ := Lib.hid (number_any ⟨(Lib.trimPrefix so.data.toList [120]).toArray⟩ Z hts hLZ)
      replace B2 := Lib.hid B2
      replace G2 := Lib.hid G2
      replace gr := Lib.hid gr
      clear hZ hfz c0 cw
      go_wp2_with (go_at_call 22; refine HQ.out.mono ?_; clear HQ; rintro e V ⟨rfl, dV⟩; replace B2 := Lib.hid (B2.out.below dV); replace G2 := Lib.hid (G2.out.below dV); replace gr := Lib.hid (grown_belowc gr.out dV); clear dV)
      go_ret
      refine ⟨rfl, ⟨.slice (some ⟨g, o, none⟩) 0 0, ⟨by omega, ⟨some ⟨g, o, none⟩, by rw [show ws.length - (o + 1) = 0 by omega], fun h => absurd h (by omega)⟩, G2.out⟩, B2.out⟩, gr.out⟩
    · have hle : o + 1 < ws.length := by omega
      have hfz := HB.out.frozen 0
      go_enter Tryz.func20, Tryz.ntmps20
      go_upto_region 5 with (go_at_call 21; refine (HT.out _).mono ?_; clear HT; rintro e W ⟨rfl, rfl⟩)
      generalize hZ : World.setCell W _ _ = Z
      have B2 : Blk Z p #[.slice (some ⟨g, o + 1, none⟩) (m - 1) (m - 1)] 51 := hZ ▸ HB.out.set 0 (.slice (some ⟨g, o + 1, none⟩) (m - 1) (m - 1))
      have G2 : Blk Z g (ws.map Value.string).toArray 9 := hZ ▸ HR.out.b.far (p := ⟨p, 0, none⟩) (Ne.symm hpg) (.slice (some ⟨g, o + 1, none⟩) (m - 1) (m - 1))
      have gr : W.grownBy Z (some p) := hZ ▸ grown_setc (World.grownBy.refl W _) 0 (.slice (some ⟨g, o + 1, none⟩) (m - 1) (m - 1))
      have hLZ : LaidOk Z := hL'.out.set p (.slice (some ⟨g, o + 1, none⟩) (m - 1) (m - 1)) hZ c0
      have HQ := Lib.hid (number_any ⟨(Lib.trimPrefix so.data.toList [120]).toArray⟩ Z hts hLZ)
      replace B2 := Lib.hid B2
      replace G2 := Lib.hid G2
      replace gr := Lib.hid gr
      clear hZ hfz c0 cw
      go_wp2_with (go_at_call 22; refine HQ.out.mono ?_; clear HQ; rintro e V ⟨rfl, dV⟩; replace B2 := Lib.hid (B2.out.below dV); replace G2 := Lib.hid (G2.out.below dV); replace gr := Lib.hid (grown_belowc gr.out dV); clear dV)
      go_ret
      refine ⟨rfl, ⟨.slice (some ⟨g, o + 1, none⟩) (m - 1) (m - 1), ⟨by omega, ⟨some ⟨g, o + 1, none⟩, by rw [show ws.length - (o + 1) = m - 1 by omega], fun h => rfl⟩, G2.out⟩, B2.out⟩, gr.out⟩
  · have hN : nextN ws o = 0 := by unfold nextN; rw [dif_neg ho]
    have hO : nextO ws o = o := by unfold nextO; rw [if_neg ho]
    have hz : ws.length - o = 0 := by omega
    rw [hN, hO]
    rw [hz] at HB HR c0
    clear hA hN hO hL hws
    go_enter Tryz.func20, Tryz.ntmps20
    go_wp2_with fail
    go_ret
    exact ⟨rfl, ⟨_, HR.out, HB.out⟩, World.grownBy.refl _ _⟩
section
/- DERIVED. What a line stands for. -/
attribute [local go_sem] Oper.semAt_some
theorem atoiAll_range {l : List UInt8} {v : Int} (h : Lib.atoiAll l = .ok v) : I64 v := by
  unfold Lib.atoiAll at h
  unfold I64
  split at h
  · cases h
  · dsimp only at h
    split at h
    · cases h
    · cases h
    · split at h
      · cases h
      · split at h
        · cases h
        · cases h
          split <;> omega
theorem atoiN_range (l : List UInt8) : I64 (atoiN l) := by
  unfold atoiN
  split
  · rename_i v h; exact atoiAll_range h
  · unfold I64; omega
theorem nextN_range (ws : List ByteArray) (o : Nat) : I64 (nextN ws o) := by
  unfold nextN wordN
  split
  · exact atoiN_range _
  · unfold I64; omega
/-- Does an operation's line have the part with this number? -/
def hasB (op : Int) (b : Nat) : Bool := match b with
  | 0 => hasRd (formOf op)
  | 1 => hasRs1 (formOf op)
  | 2 => hasRs2 (formOf op)
  | _ => hasImm (formOf op)
def Ins.put (i : Ins) (b : Nat) (v : Int) : Ins := match b with
  | 0 => { i with rd := v }
  | 1 => { i with rs1 := v }
  | 2 => { i with rs2 := v }
  | _ => { i with imm := v }
/-- The first `n` parts, filled from the words. -/
def candN (op : Int) (aq rl : Bool) (ws : List ByteArray) : Nat → Ins × Nat
  | 0 => (⟨op, 0, 0, 0, 0, aq, rl⟩, 1)
  | n + 1 => let (i, o) := candN op aq rl ws n; if hasB op n then (i.put n (nextN ws o), nextO ws o) else (i, o)
def cand (op : Int) (aq rl : Bool) (ws : List ByteArray) : Ins := (candN op aq rl ws 4).1
def combos : List (Bool × Bool) := [(false, false), (true, false), (false, true), (true, true)]
def hit (s : ByteArray) (i : Ins) : Option Ins := if s ≠ ⟨#[]⟩ ∧ (⟨(textL i).toArray⟩ : ByteArray) = s then some i else none
def tryOp (s : ByteArray) (ws : List ByteArray) (op : Int) (j : Nat) : Option Ins := (combos.drop j).findSome? fun c => hit s (cand op c.1 c.2 ws)
def tryK (s : ByteArray) (ws : List ByteArray) (k : Nat) : Option Ins :=
  if Lib.hasPrefix (ws.headD ⟨#[]⟩).data.toList (nameL ((k : Int) + 1)) then tryOp s ws ((k : Int) + 1) 0 else none
def parseFrom (s : ByteArray) (ws : List ByteArray) (k : Nat) : Option Ins := (List.range' k (87 - k)).findSome? (tryK s ws)
def wordsL (s : ByteArray) : List ByteArray := Lib.splitB ⟨#[32]⟩ 0 (Lib.countB s ⟨#[32]⟩) s
def parseR (s : ByteArray) : Option Ins := parseFrom s (wordsL s) 0
theorem parseFrom_step (s : ByteArray) (ws : List ByteArray) (k : Nat) (h : k < 87) : parseFrom s ws k = (tryK s ws k).or (parseFrom s ws (k + 1)) := by
  unfold parseFrom
  obtain ⟨n, hn⟩ : ∃ n, 87 - k = n + 1 := ⟨86 - k, by omega⟩
  rw [hn, List.range'_succ, List.findSome?_cons, show 87 - (k + 1) = n by omega]
  cases tryK s ws k <;> rfl
theorem parseFrom_end (s : ByteArray) (ws : List ByteArray) : parseFrom s ws 87 = none := rfl
theorem bits_hasB (op : Int) (b : Nat) (h1 : 1 ≤ op) (h2 : op ≤ 87) (hb : b < 4) : (Go.bits .and .i64 (partsOf op / 2 ^ b) 1 == 1) = hasB op b := by
  have : ∀ n : Nat, n < 87 → ∀ b : Nat, b < 4 → (Go.bits .and .i64 (partsOf ((n : Int) + 1) / 2 ^ b) 1 == 1) = hasB ((n : Int) + 1) b := by decide +kernel
  have h := this (op - 1).toNat (by omega) b hb
  rwa [show (((op - 1).toNat : Nat) : Int) + 1 = op by omega] at h
theorem put_op (i : Ins) (b : Nat) (v : Int) : (i.put b v).op = i.op := by unfold Ins.put; split <;> rfl
theorem candN_op (op : Int) (aq rl : Bool) (ws : List ByteArray) (n : Nat) : (candN op aq rl ws n).1.op = op := by
  induction n with
  | zero => rfl
  | succ n ih =>
    unfold candN
    dsimp only
    split
    · exact (put_op _ _ _).trans ih
    · exact ih
theorem put_Ok {i : Ins} (h : i.Ok) (b : Nat) {v : Int} (hv : I64 v) : (i.put b v).Ok := by
  unfold Ins.put
  split
  · exact ⟨h.op, hv, h.rs1, h.rs2, h.imm⟩
  · exact ⟨h.op, h.rd, hv, h.rs2, h.imm⟩
  · exact ⟨h.op, h.rd, h.rs1, hv, h.imm⟩
  · exact ⟨h.op, h.rd, h.rs1, h.rs2, hv⟩
theorem candN_Ok (op : Int) (aq rl : Bool) (ws : List ByteArray) (hop : I64 op) (n : Nat) : (candN op aq rl ws n).1.Ok := by
  induction n with
  | zero => exact ⟨hop, by unfold I64; dsimp only [candN]; omega, by unfold I64; dsimp only [candN]; omega, by unfold I64; dsimp only [candN]; omega, by unfold I64; dsimp only [candN]; omega⟩
  | succ n ih =>
    unfold candN
    dsimp only
    split
    · exact put_Ok ih n (nextN_range _ _)
    · exact ih
theorem words_len (s : ByteArray) : (wordsL s).length = Lib.countB s ⟨#[32]⟩ + 1 := Lib.splitB_all ⟨#[32]⟩ (by decide) 0 _ s rfl
theorem Split_any (s : ByteArray) (w : World) (hs : s.size ≤ 4000000000) (hL : LaidOk w) : Calls Tryz.prog 17 #[.string s, .string ⟨#[32]⟩] w fun e w' =>
    e = .returned (.slice (some ⟨w.heap.size, 0, none⟩) (wordsL s).length (wordsL s).length) ∧ Blk w' w.heap.size ((wordsL s).map Value.string).toArray 9 ∧ Below w.heap.size w w' ∧ w'.heap.size = w.heap.size + 1 := by
  obtain ⟨m, hm⟩ := hL.m
  refine (Any.strings_Split lays146 (by kernel_rfl) s ⟨#[32]⟩ m w (by omega) hm (by decide)).mono ?_
  rintro e w' ⟨rfl, rfl⟩
  rw [words_len]
  refine ⟨rfl, Blk.new w _ _, Below.alloc (Below.refl _ _) (Nat.le_refl _) _, by simp⟩
theorem splitB_size (sep : ByteArray) (save : Nat) : ∀ (k : Nat) (s x : ByteArray), x ∈ Lib.splitB sep save k s → x.size ≤ s.size
  | 0, s, x, h => by
    rw [Lib.splitB_zero, List.mem_singleton] at h
    rw [h]; exact Nat.le_refl _
  | k + 1, s, x, h => by
    unfold Lib.splitB at h
    split at h
    · rw [List.mem_singleton] at h; rw [h]; exact Nat.le_refl _
    · rw [List.mem_cons] at h
      rcases h with rfl | h
      · rw [ByteArray.size_extract]; omega
      · have h2 := splitB_size sep save k _ x h
        rw [ByteArray.size_extract] at h2; omega
theorem words_size (s x : ByteArray) (h : x ∈ wordsL s) : x.size ≤ s.size := splitB_size _ _ _ _ _ h
end
end Go.Proofs.YtihcljaphajdfaaGreatDoor.Hand
