/- DERIVED. DERIVED. Lines of instructions that may be are read back: plain lists; slices of instructions as arguments. -/
import Derived.Test.YtihcljaphajdfaaGreatDoorProg
import Derived.Test.YtihcljaphajdfaaGreatDoorMBits
import Derived.Test.YtihcljaphajdfaaGreatDoorMWalk
import Derived.Test.YtihcljaphajdfaaGreatDoorMTab
import Derived.Test.YtihcljaphajdfaaGreatDoorMInst
import Derived.Test.YtihcljaphajdfaaGreatDoorMDec
import Derived.Test.YtihcljaphajdfaaGreatDoorMDec2
import Derived.Test.YtihcljaphajdfaaGreatDoorMQTail
import Derived.Test.YtihcljaphajdfaaGreatDoorMArg
import Derived.Test.YtihcljaphajdfaaGreatDoorMRow
import Derived.Test.YtihcljaphajdfaaGreatDoorMOpen
import Derived.Test.YtihcljaphajdfaaGreatDoorMPart
import Derived.Test.YtihcljaphajdfaaGreatDoorMStore
import Derived.Test.YtihcljaphajdfaaGreatDoorMReg
import Derived.Test.YtihcljaphajdfaaGreatDoorHX
import Derived.Test.YtihcljaphajdfaaGreatDoorPAllx2
import Derived.Test.YtihcljaphajdfaaGreatDoorPAllx4
import Derived.Test.YtihcljaphajdfaaGreatDoorPAllx8
import Derived.Test.YtihcljaphajdfaaGreatDoorPAllx9
import Derived.Test.YtihcljaphajdfaaGreatDoorPAllx10
import Derived.Below
import Derived.Deep.Draws
import Derived.Deep.AppendLies
import Derived.Maps.AppendAt
import Derived.OwnWalk
import Derived.Laws.BytesArg
import Derived.Laws.MakeOwn
import Derived.Laws.OwnMore
import Derived.Deep.OwnRows
import Derived.Tactics
import Derived.Lib.ConvBytes
import Derived.Laws.Slices
import Derived.WalkKit
import Derived.KernelRfl
import Derived.RowKit3
import Derived.Deep.LoopGhost
import Derived.Deep.QuietTactic
import Derived.BigQuiet
import Derived.WideLaws
import Derived.Deep.DeepCutAuto
import Derived.Deep.CutBlock
import Derived.Deep.RegionHeld3
import Derived.Laws.Rows
import Derived.Lib.AppendStr
import Derived.ArgAppend
import Derived.Laws.IdiomCopy
import Derived.OrdersHeld
import Derived.Laws.BitsLemmas
import Derived.Laws.Bits64
import Derived.RowKit
import Derived.Outline
import Derived.Handy
import Derived.Lib.Hide
import Derived.Deep.Light
import Derived.Laws.CopyOwn
import Derived.Lib.ItoaLen
import Derived.Deep.CutRange
import Derived.StillTail
import Derived.Shelf.RegionOpen
import Derived.Lib.QuietBelow
import Derived.Lib.AppendIntMem
import Derived.Laws.AppendOwnNone
import Derived.Shelf.Strings.Prefix
import Derived.Shelf.Strings.Split
import Derived.Shelf.Strings.Cut
import Derived.Shelf.Strings.Builder1
import Derived.Shelf.Strconv.AtoiAll
import Derived.Shelf.Strconv.Itoa3
import Derived.Ground.NamesProg
import Derived.Lib.AtoiTie
import Derived.Lib.AtoiErrMem
import Derived.Shelf.Vars
namespace Go.Proofs.YtihcljaphajdfaaGreatDoor.Hand
open Go Go.RowKit Go.Proofs.YtihcljaphajdfaaGreatDoor.M Go.Proofs.YtihcljaphajdfaaGreatDoor.PAll Go.Proofs.YtihcljaphajdfaaGreatDoorW.PrintWords
set_option linter.unusedVariables false
set_option linter.unusedSimpArgs false
theorem occ_ten (s : List UInt8) (i : Nat) : Lib.occAt s [10] i = true ↔ s[i]? = some 10 := by
  unfold Lib.occAt
  rw [← List.head?_drop]
  cases s.drop i with
  | nil => simp
  | cons c r => simp [List.isPrefixOf]; exact eq_comm
theorem cut_line (a r : List UInt8) (ha : ∀ x ∈ a, x ≠ 10) : Lib.cut (a ++ 10 :: r) [10] = (a, r, true) := by
  have hi : Lib.index (a ++ 10 :: r) [10] = (a.length : Nat) := by
    refine Lib.index_first (by simp) ((occ_ten _ _).2 (by simp)) ?_
    intro j hj
    cases h : Lib.occAt (a ++ 10 :: r) [10] j with
    | false => rfl
    | true =>
      have h2 := (occ_ten _ _).1 h
      rw [List.getElem?_append_left hj, List.getElem?_eq_getElem hj] at h2
      exact absurd (Option.some.inj h2) (ha _ (List.getElem_mem hj))
  unfold Lib.cut
  rw [hi, if_pos (by omega)]
  simp
theorem linesOf_lines : ∀ (l : List Ins), (∀ i ∈ l, i.good = true) → linesOf (linesL l) = l.map fun i => (textL i, true)
  | [], _ => linesOf_nil
  | i :: l, h => by
    have hi := h i List.mem_cons_self
    have e : linesL (i :: l) = textL i ++ 10 :: linesL l := by unfold linesL; simp
    have ne : textL i ++ 10 :: linesL l ≠ [] := by simp
    rw [e, linesOf_cons ne, cut_line _ _ (textL_line hi), List.map_cons, linesOf_lines l fun j hj => h j (List.mem_cons_of_mem _ hj)]
theorem readL_good : ∀ (l : List Ins) (n : Nat) (acc : List Ins), (∀ i ∈ l, i.good = true) → readL (l.map fun i => (textL i, true)) n acc = (acc ++ l, 0, 0)
  | [], n, acc, _ => by rw [List.map_nil, List.append_nil]; rfl
  | i :: l, n, acc, h => by
    have hi := h i List.mem_cons_self
    rw [List.map_cons, readL_yes (textL i) _ n acc i (parseR_good (s := ⟨(textL i).toArray⟩) hi rfl), readL_good l _ _ fun j hj => h j (List.mem_cons_of_mem _ hj), List.append_assoc]; rfl
theorem readR_lines (l : List Ins) (h : ∀ i ∈ l, i.good = true) : readR (linesL l) = (l, 0, 0) := by
  unfold readR
  rw [linesOf_lines l h, readL_good l 0 [] h, List.nil_append]
theorem parse_text (i : Ins) : parseR ⟨(textL i).toArray⟩ = if i.good = true then some i else none := by
  by_cases h : i.good = true
  · rw [if_pos h]; exact parseR_good h rfl
  · rw [if_neg h]
    cases e : parseR ⟨(textL i).toArray⟩ with
    | none => rfl
    | some j =>
      obtain ⟨h1, h2⟩ := parseR_spec e
      have h3 : textL i = [] := by unfold textL; rw [if_neg h]
      exact absurd (h1.trans h3) (textL_ne h2)
set_option maxRecDepth 100000 in
theorem ins_open {H : Type} {enc : TypeId × Value → H} {W : World} {base b2 : Nat} {spare : Nat → Bool} {held : Bool} {v : Value} {d : DataW H} {ps : List MemPlace} {r} (hv : Value.okWide Tryz.prog W r b2 22 v)
    (h : DataW.Trod enc Tryz.prog W base spare held 22 v d ps) : ∃ (A : Option Addr) (n c : Nat) (l : List Ins), v = .slice A n c ∧ InsRow W A l ∧ l.length = n ∧ (∀ i ∈ l, i.Ok) := by
  obtain ⟨A, n, c, rfl⟩ := Go.WideShapes.okWide_slice Tryz.underlying22 hv
  obtain ⟨fu, hf⟩ := h
  simp only [Value.cells] at hf
  rcases slice_cells Tryz.underlying22 hf with h0 | ⟨a, n', c', m, h0, h1, h2, h3⟩
  · injection h0 with a1 a2 a3
    subst a1 a2 a3
    exact ⟨none, 0, 0, [], rfl, fun h => absurd rfl h, rfl, (fun i hi => by cases hi)⟩
  · injection h0 with a1 a2 a3
    subst a1 a2 a3
    have key : ∀ i, i < n → ∃ s : Ins, CellsAt W (a.add (i * 7)) s.cells ∧ s.Ok := by
      intro i hi
      obtain ⟨cs, y, hl, hc, ht⟩ := h3 i hi
      rw [show Tryz.prog.cellsOf _ = 7 from by kernel_rfl] at hl hc
      obtain ⟨b0, b1, b2, b3, b4, b5, b6, rfl⟩ := list7 hl
      obtain ⟨z0, rfl, w0⟩ := int_field Tryz.underlying33 ht 0 _ rfl Tryz.underlying3 (by rw [show Tryz.prog.cellsOf _ = 1 from by kernel_rfl]; rfl)
      obtain ⟨z1, rfl, w1⟩ := int_field Tryz.underlying33 ht 1 _ rfl Tryz.underlying3 (by rw [show Tryz.prog.cellsOf _ = 1 from by kernel_rfl]; rfl)
      obtain ⟨z2, rfl, w2⟩ := int_field Tryz.underlying33 ht 2 _ rfl Tryz.underlying3 (by rw [show Tryz.prog.cellsOf _ = 1 from by kernel_rfl]; rfl)
      obtain ⟨z3, rfl, w3⟩ := int_field Tryz.underlying33 ht 3 _ rfl Tryz.underlying3 (by rw [show Tryz.prog.cellsOf _ = 1 from by kernel_rfl]; rfl)
      obtain ⟨z4, rfl, w4⟩ := int_field Tryz.underlying33 ht 4 _ rfl Tryz.underlying3 (by rw [show Tryz.prog.cellsOf _ = 1 from by kernel_rfl]; rfl)
      obtain ⟨z5, rfl⟩ := bool_field Tryz.underlying33 ht 5 _ rfl Tryz.underlying4 (by rw [show Tryz.prog.cellsOf _ = 1 from by kernel_rfl]; rfl)
      obtain ⟨z6, rfl⟩ := bool_field Tryz.underlying33 ht 6 _ rfl Tryz.underlying4 (by rw [show Tryz.prog.cellsOf _ = 1 from by kernel_rfl]; rfl)
      refine ⟨⟨z0, z1, z2, z3, z4, z5, z6⟩, fun f v hv => ?_, ⟨I64.of_wf w0, I64.of_wf w1, I64.of_wf w2, I64.of_wf w3, I64.of_wf w4⟩⟩
      rw [Addr.add_add]
      exact hc f v (by rw [← hv]; exact Array.getElem?_toList)
    obtain ⟨l, hl, hq⟩ := choose_list n key
    refine ⟨some a, n, c, l, rfl, fun hne => ⟨a, rfl, ?_, fun k i hk => (hq k i hk).1⟩, hl, fun i hi => ?_⟩
    · have hp : 0 < l.length := by rw [← List.length_pos_iff] at hne; exact hne
      have h4 := (hq 0 _ (List.getElem?_eq_getElem hp)).1 0 _ rfl
      have := lt_of_cell h4
      rwa [block_add, block_add] at this
    · obtain ⟨k, hk, e⟩ := List.mem_iff_getElem.1 hi
      exact (hq k i (by rw [List.getElem?_eq_getElem hk, e])).2
end Go.Proofs.YtihcljaphajdfaaGreatDoor.Hand
