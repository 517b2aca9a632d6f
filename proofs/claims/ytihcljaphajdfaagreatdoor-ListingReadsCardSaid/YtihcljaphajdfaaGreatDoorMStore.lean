/- DERIVED. One cell of a block is stored, whatever it holds. No program. -/
import Derived.Test.YtihcljaphajdfaaGreatDoorMPart
namespace Go.Proofs.YtihcljaphajdfaaGreatDoor.M
open Go Go.RowKit
set_option linter.unusedVariables false
theorem wpList_store_val {P : Program} {ops : Array Oper} {rest : List Oper} {op : Oper} {a : Act} {w : World} {Q : Exit → Act → World → Prop} (hgd : op.guard = none) (ty : TypeId) (x y : Operand) (ho : op.op = .store ty x y)
    (b i : Nat) (v : Value) (hv : v.cells = #[v]) (h1 : v.oneCell' = true) (hx : a.eval x = .pointer (some ⟨b, i, none⟩)) (hy : a.eval y = v) (cs : Array Value) (T : Nat) (B : Blk w b cs T) (hi : i < cs.size) (hn : (P.info? ty).map (·.size) = some 1)
    (h : wpList P ops Q rest (a.put op.dst undef) (w.setCell ⟨b, i, none⟩ v)) : wpList P ops Q (op :: rest) a w := by
  refine wpList_plain hgd fun K hK => ?_
  have hc : w.cell? ⟨b, i, none⟩ = some cs[i] := (B.cell i).trans (Array.getElem?_eq_getElem hi)
  have hf := B.frozen i
  have e : (storeVar ty ⟨b, i, none⟩ v).run P w = .ok () (w.setCell ⟨b, i, none⟩ v) := by
    cases hq : P.info? ty with
    | none => simp [hq] at hn
    | some t =>
      have ht : t.size = 1 := by simpa [hq] using hn
      have h0 : ∀ j, j < [v].length → j = 0 := fun j hj => by simpa using hj
      have := run_storeCells_cells (P := P) b i [v] 0 w (fun j hj => by obtain rfl := h0 j hj; simp [hc]) (fun j hj => by obtain rfl := h0 j hj; simpa using hf) (fun u hu => by obtain rfl : u = v := (by simpa using hu); exact h1)
      simp only [Nat.add_zero] at this
      simp [storeVar, sizeOf, typeInfo, hq, hv, ht, this, World.setCells]
  unfold Oper.wp execOp
  simp only [ho, hx, hy, Instr.storeAt, Instr.sureAddr, Sem.run_bind, Sem.run_pure, Result.andThen_ok, e]
  exact hK _ _ h
theorem arg_box {w X : World} {T : Nat} {cs : Array Value} (e : w.alloc (.cells cs T) = X) : Blk X w.heap.size cs T ∧ Below w.heap.size w X ∧ w.heap.size + 1 = X.heap.size := by
  subst e
  exact ⟨Blk.new w cs T, (Below.refl w.heap.size w).alloc (Nat.le_refl _) _, by rw [World.size_alloc]⟩
/-- Results of which the first lies in a block as a whole. -/
theorem results_cell_tmp {P : Program} {fn : Func} {p q : Tmp} {ty : TypeId} (h : fn.results = #[.cell p ty, .tmp q]) (tmps : Array Value) (w : World) (g : Nat) (t : TypeId) (cs : Array Value) (d : TypeDesc)
    (hp : tmps.getD p undef = .pointer (some ⟨g, 0, none⟩)) (hg : Blk w g cs t)
    (hu : P.underlying ty = some d) (hd : (match d with | .struct _ | .array _ _ => true | _ => false) = true) (hi : (P.info? ty).map (·.size) = some cs.size) :
    (results fn tmps).run P w = .ok (.tuple #[.agg cs, tmps.getD q undef]) w := by
  have hp' : tmps[p]?.getD undef = .pointer (some ⟨g, 0, none⟩) := by simpa using hp
  simp [results, h, hp', asAddr, run_loadVar_row w g t ty cs (0, 0) d hg hu hd hi]
end Go.Proofs.YtihcljaphajdfaaGreatDoor.M
