/- DERIVED. DERIVED. strings.Builder's two calls, and the walk of Lines. -/
import Derived.Test.YtihcljaphajdfaaGreatDoorProg
import Derived.Test.YtihcljaphajdfaaGreatDoorMBits
import Derived.Test.YtihcljaphajdfaaGreatDoorMWalk
import Derived.Test.YtihcljaphajdfaaGreatDoorMTab
import Derived.Test.YtihcljaphajdfaaGreatDoorMInst
import Derived.Test.YtihcljaphajdfaaGreatDoorMDec
import Derived.Test.YtihcljaphajdfaaGreatDoorMDec2
import Derived.Test.YtihcljaphajdfaaGreatDoorMQTail
import Derived.Test.YtihcljaphajdfaaGreatDoorMArg
import Derived.Test.YtihcljaphajdfaaGreatDoorMRow
import Derived.Test.YtihcljaphajdfaaGreatDoorMOpen
import Derived.Test.YtihcljaphajdfaaGreatDoorMPart
import Derived.Test.YtihcljaphajdfaaGreatDoorMStore
import Derived.Test.YtihcljaphajdfaaGreatDoorMReg
import Derived.Test.YtihcljaphajdfaaGreatDoorMQTwo
import Derived.Test.YtihcljaphajdfaaGreatDoorMQTail
import Derived.Test.YtihcljaphajdfaaGreatDoorMQOne
import Derived.Test.YtihcljaphajdfaaGreatDoorMQPick
import Derived.Test.YtihcljaphajdfaaGreatDoorMReg
import Derived.Test.YtihcljaphajdfaaGreatDoorMStore
import Derived.Test.YtihcljaphajdfaaGreatDoorHL
import Derived.Test.YtihcljaphajdfaaGreatDoorPAllx2
import Derived.Test.YtihcljaphajdfaaGreatDoorPAllx4
import Derived.Test.YtihcljaphajdfaaGreatDoorPAllx8
import Derived.Test.YtihcljaphajdfaaGreatDoorPAllx9
import Derived.Test.YtihcljaphajdfaaGreatDoorPAllx10
import Derived.Below
import Derived.Deep.Draws
import Derived.Deep.AppendLies
import Derived.Maps.AppendAt
import Derived.OwnWalk
import Derived.Laws.BytesArg
import Derived.Laws.MakeOwn
import Derived.Laws.OwnMore
import Derived.Deep.OwnRows
import Derived.Tactics
import Derived.Lib.ConvBytes
import Derived.Laws.Slices
import Derived.WalkKit
import Derived.KernelRfl
import Derived.RowKit3
import Derived.Deep.LoopGhost
import Derived.Deep.QuietTactic
import Derived.BigQuiet
import Derived.WideLaws
import Derived.Deep.DeepCutAuto
import Derived.Deep.CutBlock
import Derived.Deep.RegionHeld3
import Derived.Laws.Rows
import Derived.Lib.AppendStr
import Derived.ArgAppend
import Derived.Laws.IdiomCopy
import Derived.OrdersHeld
import Derived.Laws.BitsLemmas
import Derived.Laws.Bits64
import Derived.RowKit
import Derived.Outline
import Derived.Handy
import Derived.Lib.Hide
import Derived.Deep.Light
import Derived.Laws.CopyOwn
import Derived.Lib.ItoaLen
import Derived.Deep.CutRange
import Derived.StillTail
import Derived.Shelf.RegionOpen
import Derived.Lib.QuietBelow
import Derived.Lib.AppendIntMem
import Derived.Laws.AppendOwnNone
import Derived.Shelf.Strings.Prefix
import Derived.Shelf.Strings.Split
import Derived.Shelf.Strings.Cut
import Derived.Shelf.Strings.Builder1
import Derived.Shelf.Strconv.AtoiAll
import Derived.Shelf.Strconv.Itoa3
import Derived.Ground.NamesProg
import Derived.Lib.AtoiTie
import Derived.Lib.AtoiErrMem
import Derived.Shelf.Vars
namespace Go.Proofs.YtihcljaphajdfaaGreatDoor.Hand
open Go Go.RowKit Go.Proofs.YtihcljaphajdfaaGreatDoor.M Go.Proofs.YtihcljaphajdfaaGreatDoor.PAll Go.Proofs.YtihcljaphajdfaaGreatDoorW.PrintWords
set_option linter.unusedVariables false
set_option linter.unusedSimpArgs false
attribute [local go_sem] Oper.semAt_some
theorem bld_size : (Tryz.prog.info? 45).map (·.size) = some 2 := by kernel_rfl
theorem bld_lies : liesAt Tryz.prog Tryz.prog.depth 45 (2 / Tryz.prog.cellsOf 45) 0 45 1 = true := by kernel_rfl
abbrev BldIs (B b : Nat) (l : List UInt8) (w : World) : Prop := Lib.IsBuilder 45 5 B b (Lib.byteCells l) w
set_option maxRecDepth 100000 in
set_option maxHeartbeats 2000000 in
theorem check_any (B b : Nat) (bs : List Value) (w : World) (h : Lib.IsBuilder 45 5 B b bs w) :
    Calls Tryz.prog 33 #[.pointer (some ⟨b, 0, none⟩)] w fun e w' => e = .returned (.tuple #[]) ∧ (Lib.BuilderAt 45 5 B b (.pointer (some ⟨b, 0, none⟩)) bs w' ∧ Below B w w') := by
  obtain ⟨j, hj, hjs⟩ := Option.map_eq_some_iff.1 bld_size
  rcases h with h | h
  · have h0 := h.cell0
    have hsh := h.shape
    have hfz := h.frozen0
    go_enter Tryz.func33, Tryz.ntmps33
    go_wp2
    rw [Lib.run_to_unsafe w ⟨b, 0, none⟩ Tryz.underlying42 Tryz.underlying84 hj (by rw [hjs]; decide) hsh (Nat.zero_lt_succ 1)]
    simp only [Result.andThen]
    rw [Oper.upon_value]
    go_wp2
    rw [run_callFunc_extern Tryz.func50 (by kernel_rfl) (by kernel_rfl) (by kernel_rfl) (e := Extern.AbiNoEscape.same) (by kernel_rfl), Lib.run_noEscape]
    simp only [Result.andThen]
    rw [Oper.upon_value]
    go_wp2
    rw [Lib.run_from_unsafe w ⟨b, 0, none⟩ Tryz.underlying84 Tryz.underlying42 hj hsh bld_lies]
    simp only [Result.andThen]
    rw [Oper.upon_value]
    go_wp2
    go_end0
    exact ⟨rfl, h.used _, (Below.refl B w).setCell (p := ⟨b, 0, none⟩) h.1 _⟩
  · have h0 := h.cell0
    go_enter Tryz.func33, Tryz.ntmps33
    go_wp2
    rw [Lib.run_neq_ptr_same w _ Tryz.underlying42 hj]
    go_wp2
    go_end0
    exact ⟨rfl, h, Below.refl B _⟩
theorem byte_parts : (Tryz.prog.info? 5).map (fun i => (i.zero, i.size, i.bytes)) = some (some (.int .u8 0), 1, 1) := by kernel_rfl
set_option maxRecDepth 100000 in
set_option maxHeartbeats 2000000 in
theorem write_any (B b : Nat) (bs : List Value) (s : ByteArray) (w : World) (h : Lib.IsBuilder 45 5 B b bs w) (hlen : bs.length + s.size ≤ 140737488355328) (hBw : B ≤ w.heap.size) :
    Calls Tryz.prog 14 #[.pointer (some ⟨b, 0, none⟩), .string s] w fun e w' => e = .returned (.tuple #[.int .i64 s.size, .nilIface]) ∧ (Lib.BuilderAt 45 5 B b (.pointer (some ⟨b, 0, none⟩)) (bs ++ Lib.strCells s) w' ∧ Below B w w') := by
  obtain ⟨i0, hi, hz0, hz1, hz2⟩ := info_parts byte_parts
  go_enter Tryz.func14, Tryz.ntmps14
  go_wp2_with (go_at_call 33; refine (check_any B b bs _ h).mono ?_)
  rintro e w1 ⟨rfl, h1, hb1⟩
  obtain ⟨hB, v, hbk, hown, hne⟩ := h1
  have c0 : w1.cell? ⟨b, 0, none⟩ = some (.pointer (some ⟨b, 0, none⟩)) := by rw [Lib.cell_of_heap hbk]; rfl
  have c1 : w1.cell? ⟨b, 1, none⟩ = some v := by rw [Lib.cell_of_heap hbk]; rfl
  go_wp2_with (at_builtin; refine Lib.wpList_append_own_string _ rfl _ _ 43 9 rfl B 5 i0 Tryz.underlying43 Tryz.underlying9 hi hz0 hz1 hz2 _ _ _ rfl hown s rfl ?c3 ?c4 ?c5 ?_)
  case c3 => unfold maxLen; omega
  case c4 => omega
  case c5 => have := hb1.size; omega
  intro v' w2 hown' hgrow _
  have hlt : b < w1.heap.size := by
    rcases Nat.lt_or_ge b w1.heap.size with h' | h'
    · exact h'
    · simp [Array.getElem?_eq_none h'] at hbk
  have hb2 : w2.heap[b]? = some (.cells #[.pointer (some ⟨b, 0, none⟩), v] 45 (0, 0)) := by
    rw [hgrow.block b hlt (fun e => hne e.symm)]
    exact hbk
  have d0 : w2.cell? ⟨b, 0, none⟩ = some (.pointer (some ⟨b, 0, none⟩)) := by rw [Lib.cell_of_heap hb2]; rfl
  have d1 : w2.cell? ⟨b, 1, none⟩ = some v := by rw [Lib.cell_of_heap hb2]; rfl
  have f1 : w2.frozen? ⟨b, 1, none⟩ = false := Lib.frozen_of_heap hb2 1
  obtain ⟨ao, n', cap, rfl⟩ : ∃ ao n' cap, v' = .slice ao n' cap := by
    rcases hown'.2 with ⟨hv, _⟩ | ⟨g, cap, cur, hv, _⟩
    · exact ⟨_, _, _, hv⟩
    · exact ⟨_, _, _, hv⟩
  go_wp2
  go_ret2
  refine ⟨rfl, ?_, ?_⟩
  · exact Lib.BuilderAt.put (T := 45) (e := 5) hB hb2 (bs' := bs ++ Lib.strCells s) (by simpa [Lib.strCells_length] using hown') (by decide)
  · exact (hb1.grown hgrow (by have := hb1.size; omega) (fun k hk => (hown.lt k hk).1)).setCell (p := ⟨b, 1, none⟩) hB _
theorem grownN_of_below {W W' : World} (d : Below W.heap.size W W') : W.grownBy W' none := ⟨d.os, d.tape, d.output, d.size, fun k hk _ => d.block k hk⟩
theorem bld_below {B b : Nat} {bs : List Value} {w w' : World} (h : Lib.IsBuilder 45 5 B b bs w) (d : Below w.heap.size w w') : Lib.IsBuilder 45 5 B b bs w' := by
  have one : ∀ p, Lib.BuilderAt 45 5 B b p bs w → Lib.BuilderAt 45 5 B b p bs w' := by
    rintro p h
    have hlt := h.lt
    obtain ⟨hB, v, hbk, hown, hne⟩ := h
    refine ⟨hB, v, (d.block b hlt).trans hbk, hown.kept (grownN_of_below d) ?_, hne⟩
    cases v.ownBlock with
    | none => exact .inl rfl
    | some k => exact .inr (by simp)
  rcases h with h | h
  · exact .inl (one _ h)
  · exact .inr (one _ h)
/-- Instructions in a row that is read. -/
def InsRow (w : World) (A : Option Addr) (l : List Ins) : Prop := l ≠ [] → ∃ ad, A = some ad ∧ ad.block < w.heap.size ∧ ∀ k i, l[k]? = some i → CellsAt w (ad.add (k * 7)) i.cells
theorem InsRow.below {w w' : World} {A : Option Addr} {l : List Ins} (h : InsRow w A l) (d : Below w.heap.size w w') : InsRow w' A l := fun hn => by
  obtain ⟨ad, e, h1, h2⟩ := h hn
  exact ⟨ad, e, Nat.lt_of_lt_of_le h1 d.size, fun k i hk => (h2 k i hk).below (by rw [block_add]; exact h1) d⟩
/-- Lines, one behind the other. -/
def linesL (l : List Ins) : List UInt8 := l.flatMap fun i => textL i ++ [10]
theorem linesL_snoc (l : List Ins) (k : Nat) (h : k < l.length) : linesL (l.take (k + 1)) = linesL (l.take k) ++ (textL l[k] ++ [10]) := by
  unfold linesL
  rw [List.take_succ_eq_append_getElem h, List.flatMap_append, List.flatMap_cons, List.flatMap_nil, List.append_nil]
theorem linesL_len (l : List Ins) (h : ∀ i ∈ l, i.Ok) : (linesL l).length ≤ 1001 * l.length := by
  induction l with
  | nil => exact Nat.le_refl _
  | cons i l ih =>
    have h1 := textL_len i (h i List.mem_cons_self)
    have h2 := ih fun j hj => h j (List.mem_cons_of_mem _ hj)
    unfold linesL at h2 ⊢
    simp only [List.flatMap_cons, List.length_append, List.length_cons, List.length_nil]
    omega
open Go.Shelf Go.Proofs in
theorem bld_extra : Builder.Extra Tryz.prog lays169_ren := {
  sizeBuilder := by kernel_rfl
  liesBuilder := by kernel_rfl
  t5 := Tryz.underlying5
  a5 := Tryz.isAgg5
  z5 := Tryz.sizeOf5
  v5 := Tryz.zeroValue5
  infoByte := by kernel_rfl
  cellsByte := by kernel_rfl
  sizeByte := by kernel_rfl
  neB5 := by decide }
set_option maxRecDepth 100000 in
set_option maxHeartbeats 4000000 in
theorem Lines_any (A : Option Addr) (n c : Nat) (l : List Ins) (w : World) (hl : l.length = n) (hn : n ≤ 1000000) (hr : InsRow w A l) (hi : ∀ i ∈ l, i.Ok) (hL : LaidOk w) :
    Calls Tryz.prog 7 #[.slice A n c] w fun e w' => e = .returned (.string ⟨(linesL l).toArray⟩) ∧ Below w.heap.size w w' := by
  have hL' := Lib.hid hL
  have HR := Lib.hid hr
  have HI := Lib.hid hi
  have hll := linesL_len l hi
  clear hL hr hi
  go_enter Tryz.func7, Tryz.ntmps7
  go_upto_region 2 with fail
  have hB0 := Lib.fresh_isBuilder 45 5 w
  generalize hX : World.alloc w _ = X
  rw [hX] at hB0
  have D := Lib.hid (show Below w.heap.size w X from hX ▸ (Below.refl _ _).alloc (Nat.le_refl _) _)
  have HB := Lib.hid hB0
  clear hX hB0
  go_upto_region 4 with fail
  go_loopw [10] (fun k wr => ∃ m : Nat, k = .int .i64 m ∧ m ≤ n ∧ Hid (Lib.IsBuilder 45 5 w.heap.size w.heap.size (Lib.byteCells (linesL (l.take m))) wr) ∧ Hid (Below w.heap.size w wr)) (fun k _ => n - (intOf k).toNat)
  case atStart => exact ⟨0, rfl, by omega, HB, D⟩
  case round =>
    obtain ⟨m, rfl, hm, HB, D⟩ := hrel
    by_cases hlt : m < n
    · obtain ⟨ad, rfl, had, hc⟩ := (HR.out.below D.out) (by intro e; rw [e] at hl; simp at hl; omega)
      have hml : m < l.length := by omega
      have hcs := Lib.hid (hc m _ (List.getElem?_eq_getElem hml))
      have hok := HI.out _ (List.getElem_mem hml)
      have HT := Lib.hid fun (W : World) (d : Below w.heap.size w W) => Text_any l[m] hok W (hL'.out.below d)
      have hsn := Lib.hid (linesL_snoc l m hml)
      have hbl : (linesL (l.take m)).length ≤ 1001000000 := by
        have := linesL_len (l.take m) (fun i hi => HI.out i (List.mem_of_mem_take hi))
        have : (l.take m).length ≤ l.length := by rw [List.length_take]; omega
        omega
      have htl := textL_len l[m] hok
      clear hc
      generalize l[m] = i at *
      generalize linesL (l.take m) = b0 at *
      generalize hb1 : linesL (l.take (m + 1)) = b1 at *
      replace hb1 := Lib.hid hb1
      go_upto_region 6 with (first | (refine wpList_store_row rfl 33 _ _ rfl wr.heap.size i.cells rfl rfl 33 _ (Blk.new wr _ _) ins_info (by kernel_rfl) (Ins.one _) ?_; (generalize hZ : World.setRow _ _ _ = Z)) | (refine wpList_load_at rfl 33 _ rfl (ad.add (m * 7)) rfl i.cells _ hcs.out Tryz.underlying33 rfl ins_info ?_))
      have BZ := Lib.hid (show Blk Z wr.heap.size i.cells 33 from hZ ▸ (Blk.new wr _ 33).row i.cells)
      have DZ : Below wr.heap.size wr Z := hZ ▸ below_row ((Below.refl _ _).alloc (Nat.le_refl _) _) (Nat.le_refl _) i.cells
      replace D := Lib.hid (D.out.trans (DZ.mono D.out.size))
      replace HB := Lib.hid (bld_below HB.out DZ)
      clear hZ DZ hcs
      go_upto_region 7 with (first | (refine wpList_load_row rfl 33 _ rfl wr.heap.size rfl 33 _ _ _ BZ.out Tryz.underlying33 rfl ins_info ?_) | (go_at_call 11; refine (HT.out _ D.out).mono ?_; clear HT; rintro e V ⟨rfl, dV⟩; replace D := Lib.hid (D.out.trans (dV.mono D.out.size)); replace HB := Lib.hid (bld_below HB.out dV); clear dV; have HWR := Lib.hid (write_any w.heap.size w.heap.size (Lib.byteCells b0) ⟨(textL i).toArray⟩ V HB.out (by rw [Lib.byteCells_length, Lib.size_eq]; simp; omega) D.out.size)) | (go_at_call 14; refine HWR.out.mono ?_; clear HWR; rintro e V3 ⟨rfl, hb3, dV⟩))
      have hb4 := Lib.hid (show Lib.IsBuilder 45 5 w.heap.size w.heap.size (Lib.byteCells (b0 ++ textL i)) V3 by
        rw [Lib.byteCells_append]; exact .inr hb3)
      replace D := Lib.hid (D.out.trans dV)
      clear hb3 dV BZ HB
      have HWR := Lib.hid (write_any w.heap.size w.heap.size (Lib.byteCells (b0 ++ textL i)) ⟨#[10]⟩ V3 hb4.out (by rw [Lib.byteCells_length, List.length_append]; have : (⟨#[10]⟩ : ByteArray).size = 1 := rfl; omega) D.out.size)
      go_wp2_with (go_at_call 14; refine HWR.out.mono ?_; clear HWR; rintro e V4 ⟨rfl, hb5, dV⟩)
      go_roundw
      case rel =>
        refine ⟨m + 1, by simp, by omega, Lib.hid ?_, Lib.hid (D.out.trans dV)⟩
        rw [hb1.out, hsn.out, ← List.append_assoc, Lib.byteCells_append]; exact .inr hb5
      case measure => simp [intOf]; omega
    · obtain rfl : m = n := by omega
      rw [← hl, List.take_length] at HB
      have HS := Lib.hid (Any.Builder_String_any lays169 bld_extra w.heap.size w.heap.size (linesL l) wr HB.out D.out.size)
      clear HR HI
      go_wp2_with (go_at_call 15; refine HS.out.mono ?_; clear HS; rintro e V ⟨rfl, dV⟩)
      go_ret
      exact ⟨rfl, D.out.trans dV⟩
end Go.Proofs.YtihcljaphajdfaaGreatDoor.Hand
