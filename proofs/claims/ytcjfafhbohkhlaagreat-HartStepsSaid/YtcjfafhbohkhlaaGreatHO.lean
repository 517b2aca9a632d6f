/- DERIVED. DERIVED. How a hart and instructions read as arguments; two harts compared. -/
import Derived.Test.YtcjfafhbohkhlaaGreatProg
import Derived.Test.YtcjfafhbohkhlaaGreatMBits
import Derived.Test.YtcjfafhbohkhlaaGreatMWalk
import Derived.Test.YtcjfafhbohkhlaaGreatMTab
import Derived.Test.YtcjfafhbohkhlaaGreatMInst
import Derived.Test.YtcjfafhbohkhlaaGreatMDec
import Derived.Test.YtcjfafhbohkhlaaGreatMDec2
import Derived.Test.YtcjfafhbohkhlaaGreatMQTail
import Derived.Test.YtcjfafhbohkhlaaGreatMArg
import Derived.Test.YtcjfafhbohkhlaaGreatMMem
import Derived.Test.YtcjfafhbohkhlaaGreatMMemK
import Derived.Test.YtcjfafhbohkhlaaGreatMMemR
import Derived.Test.YtcjfafhbohkhlaaGreatMHart
import Derived.Test.YtcjfafhbohkhlaaGreatMRow
import Derived.Test.YtcjfafhbohkhlaaGreatMOpen
import Derived.Test.YtcjfafhbohkhlaaGreatMPart
import Derived.Test.YtcjfafhbohkhlaaGreatMReg
import Derived.Test.YtcjfafhbohkhlaaGreatMQHead
import Derived.Test.YtcjfafhbohkhlaaGreatHG
import Derived.Test.YtcjfafhbohkhlaaGreatPAllx0
import Derived.Test.YtcjfafhbohkhlaaGreatPAllx2
import Derived.Test.YtcjfafhbohkhlaaGreatPAllx4
import Derived.Test.YtcjfafhbohkhlaaGreatPAllx5
import Derived.Test.YtcjfafhbohkhlaaGreatPAllx6
import Derived.Test.YtcjfafhbohkhlaaGreatPAllx9
import Derived.Test.YtcjfafhbohkhlaaGreatPAllx11
import Derived.Test.YtcjfafhbohkhlaaGreatPAllx12
import Derived.Test.YtcjfafhbohkhlaaGreatPAllx14
import Derived.Test.YtcjfafhbohkhlaaGreatPAllx16
import Derived.Test.YtcjfafhbohkhlaaGreatPAllx20
import Derived.Below
import Derived.Deep.Draws
import Derived.Deep.AppendLies
import Derived.Maps.AppendAt
import Derived.OwnWalk
import Derived.Laws.BytesArg
import Derived.Laws.MakeOwn
import Derived.Laws.OwnMore
import Derived.Deep.OwnRows
import Derived.Tactics
import Derived.Lib.ConvBytes
import Derived.Laws.Slices
import Derived.WalkKit
import Derived.KernelRfl
import Derived.RowKit3
import Derived.Deep.LoopGhost
import Derived.Deep.QuietTactic
import Derived.BigQuiet
import Derived.WideLaws
import Derived.Deep.DeepCutAuto
import Derived.Deep.CutBlock
import Derived.Deep.RegionHeld3
import Derived.Laws.Rows
import Derived.Lib.AppendStr
import Derived.ArgAppend
import Derived.Laws.IdiomCopy
import Derived.OrdersHeld
import Derived.Laws.BitsLemmas
import Derived.Laws.Bits64
import Derived.RowKit
import Derived.Outline
import Derived.Handy
import Derived.Lib.Hide
import Derived.Deep.Light
import Derived.Laws.CopyOwn
namespace Go.Proofs.YtcjfafhbohkhlaaGreat.Hand
open Go Go.RowKit Go.Proofs.YtcjfafhbohkhlaaGreat.M Go.Proofs.YtcjfafhbohkhlaaGreat.PAll Go.Proofs.YtcjfafhbohkhlaaGreatW.PrintWords
set_option linter.unusedVariables false
set_option linter.unusedSimpArgs false
set_option maxRecDepth 100000 in
theorem hart_open {H : Type} {enc : TypeId × Value → H} {W : World} {base b2 : Nat} {spare : Nat → Bool} {held : Bool} {v : Value} {d : DataW H} {ps : List MemPlace} {r} (hv : Value.okWide Tryz.prog W r b2 25 v)
    (h : DataW.Trod enc Tryz.prog W base spare held 25 v d ps) : ∃ y : HartS, v = .agg y.cells ∧ y.Ok := by
  obtain ⟨cs, rfl, sz⟩ := Go.WideShapes.okWide_struct Tryz.underlying25 hv
  obtain ⟨fu, hf⟩ := h
  simp only [Value.cells] at hf
  have hl : cs.toList.length = 36 := by rw [Array.length_toList, sz]; kernel_rfl
  have hcs : cs = cs.toList.toArray := by simp
  generalize cs.toList = L at *
  have q : ∀ (i : Nat) (h : i < L.length), (L.drop i).take 1 = [L[i]] := fun i h => drop_take_one h
  have k0 : 0 < L.length := by rw [hl]; decide
  have k33 : 33 < L.length := by rw [hl]; decide
  have k34 : 34 < L.length := by rw [hl]; decide
  have k35 : 35 < L.length := by rw [hl]; decide
  have hd1 : L = L[0] :: (L.drop 1) := by
    conv => lhs; rw [← List.drop_zero (l := L)]
    exact List.drop_eq_getElem_cons k0
  have hd2 : L.drop 1 = (L.drop 1).take 32 ++ L.drop 33 := by
    rw [show L.drop 33 = (L.drop 1).drop 32 from by rw [List.drop_drop], List.take_append_drop]
  have hd3 : L.drop 33 = [L[33], L[34], L[35]] := by
    rw [List.drop_eq_getElem_cons k33, List.drop_eq_getElem_cons k34, List.drop_eq_getElem_cons k35, List.drop_of_length_le (by rw [hl]; decide)]
  have q0 := q 0 k0
  have q33 := q 33 k33
  have q34 := q 34 k34
  have q35 := q 35 k35
  have hl32 : ((L.drop 1).take 32).length = 32 := by rw [List.length_take, List.length_drop, hl]; decide
  generalize L[0] = c0 at *
  generalize L[33] = c33 at *
  generalize L[34] = c34 at *
  generalize L[35] = c35 at *
  clear q
  obtain ⟨pc, rfl, w0⟩ := int_field (c := c0) Tryz.underlying25 hf 0 _ rfl Tryz.underlying22 (by rw [show Tryz.prog.cellsOf _ = 1 from by kernel_rfl]; exact q0)
  obtain ⟨n, x, hx⟩ := any_field Tryz.underlying25 hf 1 _ rfl
  obtain ⟨zs, l1, e1, w1⟩ := ints_array (n := 32) (k := .u64) Tryz.underlying23 Tryz.underlying22 (by kernel_rfl) (by rw [show Tryz.prog.cellsOf _ = 32 from by kernel_rfl]; exact hl32) hx
  have e1 : (L.drop 1).take 32 = zs.map (.int .u64) := by rw [← e1, show Tryz.prog.cellsOf _ = 32 from by kernel_rfl]; rfl
  obtain ⟨hd, rfl⟩ := bool_field (c := c33) Tryz.underlying25 hf 2 _ rfl Tryz.underlying4 (by rw [show Tryz.prog.cellsOf _ = 1 from by kernel_rfl]; exact q33)
  obtain ⟨ad, rfl, w3⟩ := int_field (c := c34) Tryz.underlying25 hf 3 _ rfl Tryz.underlying22 (by rw [show Tryz.prog.cellsOf _ = 1 from by kernel_rfl]; exact q34)
  obtain ⟨sz', rfl, w4⟩ := int_field (c := c35) Tryz.underlying25 hf 4 _ rfl Tryz.underlying3 (by rw [show Tryz.prog.cellsOf _ = 1 from by kernel_rfl]; exact q35)
  refine ⟨⟨pc, zs, hd, ad, sz'⟩, ?_, l1, U64.of_wf w0, fun z hz => U64.of_wf (w1 z hz), U64.of_wf w3, I64.of_wf w4⟩
  rw [hcs]
  show Value.agg L.toArray = _
  rw [hd1, hd2, hd3, e1]
  rfl
set_option maxRecDepth 100000 in
theorem insts_open {H : Type} {enc : TypeId × Value → H} {W : World} {base b2 : Nat} {spare : Nat → Bool} {held : Bool} {v : Value} {d : DataW H} {ps : List MemPlace} {r} (hv : Value.okWide Tryz.prog W r b2 26 v)
    (h : DataW.Trod enc Tryz.prog W base spare held 26 v d ps) : ∃ (A : Option Addr) (n c : Nat) (l : List InstS), v = .slice A n c ∧ InstRow W A l ∧ l.length = n ∧ (∀ i ∈ l, I64 i.imm) ∧ n ≤ 9223372036854775807 := by
  obtain ⟨A, n, c, rfl⟩ := Go.WideShapes.okWide_slice Tryz.underlying26 hv
  obtain ⟨fu, hf⟩ := h
  simp only [Value.cells] at hf
  rcases slice_cells Tryz.underlying26 hf with h0 | ⟨a, n', c', m, h0, h1, h2, h3⟩
  · injection h0 with a1 a2 a3
    subst a1 a2 a3
    exact ⟨none, 0, 0, [], rfl, fun h => absurd rfl h, rfl, (fun i hi => by cases hi), by omega⟩
  · injection h0 with a1 a2 a3
    subst a1 a2 a3
    have key : ∀ i, i < n → ∃ s : InstS, (∀ f v, s.cells[f]? = some v → W.cell? (a.add (7 * i + f)) = some v) ∧ I64 s.imm := by
      intro i hi
      obtain ⟨cs, y, hl, hc, ht⟩ := h3 i hi
      rw [show Tryz.prog.cellsOf _ = 7 from by kernel_rfl] at hl hc
      obtain ⟨b0, b1, b2, b3, b4, b5, b6, rfl⟩ := list7 hl
      obtain ⟨z0, rfl, w0⟩ := int_field Tryz.underlying50 ht 0 _ rfl Tryz.underlying3 (by rw [show Tryz.prog.cellsOf _ = 1 from by kernel_rfl]; rfl)
      obtain ⟨z1, rfl, w1⟩ := int_field Tryz.underlying50 ht 1 _ rfl Tryz.underlying3 (by rw [show Tryz.prog.cellsOf _ = 1 from by kernel_rfl]; rfl)
      obtain ⟨z2, rfl, w2⟩ := int_field Tryz.underlying50 ht 2 _ rfl Tryz.underlying3 (by rw [show Tryz.prog.cellsOf _ = 1 from by kernel_rfl]; rfl)
      obtain ⟨z3, rfl, w3⟩ := int_field Tryz.underlying50 ht 3 _ rfl Tryz.underlying3 (by rw [show Tryz.prog.cellsOf _ = 1 from by kernel_rfl]; rfl)
      obtain ⟨z4, rfl, w4⟩ := int_field Tryz.underlying50 ht 4 _ rfl Tryz.underlying3 (by rw [show Tryz.prog.cellsOf _ = 1 from by kernel_rfl]; rfl)
      obtain ⟨z5, rfl⟩ := bool_field Tryz.underlying50 ht 5 _ rfl Tryz.underlying4 (by rw [show Tryz.prog.cellsOf _ = 1 from by kernel_rfl]; rfl)
      obtain ⟨z6, rfl⟩ := bool_field Tryz.underlying50 ht 6 _ rfl Tryz.underlying4 (by rw [show Tryz.prog.cellsOf _ = 1 from by kernel_rfl]; rfl)
      refine ⟨⟨z0, z1, z2, z3, z4, z5, z6⟩, fun f v hv => ?_, I64.of_wf w4⟩
      rw [show 7 * i + f = i * 7 + f by omega]
      exact hc f v (by rw [← hv]; exact Array.getElem?_toList)
    obtain ⟨l, hl, hq⟩ := choose_list n key
    refine ⟨some a, n, c, l, rfl, fun hne => ⟨a, rfl, ?_, fun k i hk => (hq k i hk).1⟩, hl, fun i hi => ?_, by unfold maxLen at h2; omega⟩
    · have hp : 0 < l.length := by rw [← List.length_pos_iff] at hne; exact hne
      have h4 := (hq 0 _ (List.getElem?_eq_getElem hp)).1 0 _ rfl
      have := lt_of_cell h4
      rwa [block_add] at this
    · obtain ⟨k, hk, e⟩ := List.mem_iff_getElem.1 hi
      exact (hq k i (by rw [List.getElem?_eq_getElem hk, e])).2
theorem eq_items {P : Program} (d : Nat) (e : TypeId) (hu : P.underlying e = some (.int .u64)) (ys : Array Value) (w : World) : ∀ is : List Nat, (∀ i ∈ is, ∃ z, ys[i]? = some (.int .u64 z)) → (Op.eqItems (d + 1) e 1 ys ys is).run P w = .ok true w
  | [], _ => by simp [Op.eqItems]
  | i :: is, h => by
    obtain ⟨z, hz⟩ := h i (by simp)
    have hp : (part e ys (i * 1)).run P w = .ok (.int .u64 z) w := by
      rw [Nat.mul_one]
      have ha : (isAgg e).run P w = .ok false w := by
        unfold isAgg
        rw [Sem.run_bind, run_underlying hu w]; rfl
      simp only [part, Sem.run_bind, ha, Result.andThen_ok, Bool.false_eq_true, if_false, hz]
      rfl
    have hq : (Op.equalIn (d + 1) e (.int .u64 z) (.int .u64 z)).run P w = .ok true w := by
      simp [Op.equalIn, Sem.run_bind, run_underlying hu]
    simp only [Op.eqItems, Sem.run_bind, hp, hq, Result.andThen_ok, Bool.not_true, Bool.false_eq_true, if_false]
    exact eq_items d e hu ys w is (fun j hj => h j (by simp [hj]))
set_option maxRecDepth 100000 in
theorem eq_hart (h : HartS) (k : h.Ok) (w : World) : (Op.equalIn 10000 25 (.agg h.cells) (.agg h.cells)).run Tryz.prog w = .ok true w := by
  have c0 := h.c0
  have c33 := HartS.c33 k
  have c34 := HartS.c34 k
  have c35 := HartS.c35 k
  refine eqA_of (d := 9999) Tryz.underlying25 (by kernel_rfl) ?_
  refine eqf_cons (r := true) (s := true) (by rfl) (by go_simp; rfl) (by go_simp; rfl) (by go_simp) ?_
  refine eqf_cons (r := true) (s := true) (a := .agg (h.cells.extract 1 33)) (b := .agg (h.cells.extract 1 33)) (by rfl) (by go_simp) (by go_simp) ?_ ?_
  · obtain ⟨ii, hii⟩ := info_of_underlying Tryz.underlying22
    rw [run_equalIn_array (n := 32) (e := 22) w 9998 _ _ Tryz.underlying23 hii]
    refine eq_items 9997 22 Tryz.underlying22 _ w _ fun i hi => ?_
    have hi : i < 32 := by simpa using hi
    exact ⟨h.reg i, by rw [Array.getElem?_extract_of_lt (by rw [HartS.size k]; omega), ← Array.getElem?_eq_getElem]; exact HartS.cx k i hi⟩
  refine eqf_cons (r := true) (s := true) (by rfl) (by go_simp; rfl) (by go_simp; rfl) (by go_simp) ?_
  refine eqf_cons (r := true) (s := true) (by rfl) (by go_simp; rfl) (by go_simp; rfl) (by go_simp) ?_
  exact eqf_last (by rfl) (by go_simp; rfl) (by go_simp; rfl) (by go_simp)
theorem wpList_eql {P : Program} {ops : Array Oper} {rest : List Oper} {op : Oper} {a : Act} {w : World} {Q : Exit → Act → World → Prop} (hgd : op.guard = none) (ty ty2 : TypeId) (x y : Operand) (ho : op.op = .binOp .eql ty x y ty2) (u v : Array Value)
    (hx : a.eval x = .agg u) (hy : a.eval y = .agg v) (hm : P.eqGuardType P.depth ty = false) (r : Bool) (he : (Op.equalIn 10000 ty (.agg u) (.agg v)).run P w = .ok r w) (h : wpList P ops Q rest (a.put op.dst (.bool r)) w) : wpList P ops Q (op :: rest) a w := by
  refine wpList_plain hgd fun K hK => ?_
  have e : (do eqGuard .eql ty x y (.agg u) (.agg v); binOp .eql ty (.agg u) (.agg v) : Sem Value).run P w = .ok (.bool r) w := by
    rw [Sem.run_bind, run_eqGuard_agg (P := P) w .eql ty x y u v hm, Result.andThen_ok, run_eql_struct, he]; rfl
  unfold Oper.wp execOp
  simp only [ho, hx, hy, e, Sem.run_bind, Result.andThen_ok, Sem.run_pure]
  exact hK _ _ h
theorem arg_box {w X : World} {T : Nat} {cs : Array Value} (e : w.alloc (.cells cs T) = X) : Blk X w.heap.size cs T ∧ Below w.heap.size w X ∧ w.heap.size + 1 = X.heap.size := by
  subst e
  exact ⟨Blk.new w cs T, (Below.refl w.heap.size w).alloc (Nat.le_refl _) _, by rw [World.size_alloc]⟩
/-- A new hart's block. -/
theorem hart_new {Z Z' : World} {x : HartS} {zc : Array Value} (e : (Z.alloc (.cells zc 25)).setRow Z.heap.size x.cells = Z') : Blk Z' Z.heap.size x.cells 25 ∧ Below Z.heap.size Z Z' ∧ Z.heap.size + 1 = Z'.heap.size := by
  rw [World.setRow_alloc_new] at e
  exact arg_box e
end Go.Proofs.YtcjfafhbohkhlaaGreat.Hand
