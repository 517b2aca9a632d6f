/- DERIVED. Steps of a region that draws its order, with whole structs; no program. -/
import Derived.OrdersHeld
import Derived.Test.YtcjfafhbohkhlaaGreatMPart
namespace Go.Proofs.YtcjfafhbohkhlaaGreat.M
open Go Go.RowKit
set_option linter.unusedVariables false
section
variable {P : Program}
theorem run_load_at {ρ : Operand → Value} {o : Oper} (w : World) (ty : TypeId) (x : Operand) (ho : o.op = .load ty x) (ad : Addr) (hx : ρ x = .pointer (some ad)) (cs : Array Value) (d : TypeDesc) (hg : CellsAt w ad cs)
    (hu : P.underlying ty = some d) (hd : (match d with | .struct _ | .array _ _ => true | _ => false) = true) (hi : (P.info? ty).map (·.size) = some cs.size) : (execOp ρ o).run P w = .ok (.value (.agg cs)) w := by
  unfold execOp
  simp only [ho, hx, Instr.loadAt, Instr.sureAddr, Sem.run_bind, Sem.run_pure, Result.andThen_ok, run_loadVar_at w ad ty cs d hg hu hd hi]
theorem wpOp_alloc {ops : Array Oper} {Q : Exit → Act → World → Prop} {i : Nat} {o : Oper} {K : Act → World → Prop} {a : Act} {w : World} (ho : ops[i]? = some o) (hg : o.guard = none) (ty : TypeId) (hop : o.op = .alloc ty) (zc : Array Value)
    (hr : (Instr.alloc ty true (.tuple #[])).run P w = .ok (.pointer (some ⟨w.heap.size, 0, none⟩)) (w.alloc (.cells zc ty))) (h : K (a.put o.dst (.pointer (some ⟨w.heap.size, 0, none⟩))) (w.alloc (.cells zc ty))) : wpOp P ops Q i K a w := by
  unfold wpOp
  simp only [ho, Region.wanted, hg, if_true]
  left
  unfold Oper.wp execOp
  simp only [hop, Sem.run_bind, hr, Result.andThen_ok, Sem.run_pure]
  exact h
theorem wpOp_store {ops : Array Oper} {Q : Exit → Act → World → Prop} {i : Nat} {o : Oper} {K : Act → World → Prop} {a : Act} {w : World} (ho : ops[i]? = some o) (hg : o.guard = none) (ty : TypeId) (x y : Operand) (hop : o.op = .store ty x y)
    (g : Nat) (cells : Array Value) (hx : a.eval x = .pointer (some ⟨g, 0, none⟩)) (hy : a.eval y = .agg cells) (t : TypeId) (old : Array Value) (hb : Blk w g old t) (hi : (P.info? ty).map (·.size) = some cells.size) (hold : old.size = cells.size) (h1 : cells.all (·.oneCell') = true)
    (h : K (a.put o.dst undef) (w.setRow g cells)) : wpOp P ops Q i K a w := by
  unfold wpOp
  simp only [ho, Region.wanted, hg, if_true]
  left
  exact wp_store_row ty x y hop g cells hx hy t old hb hi hold h1 h
theorem Blk.row {w : World} {b T : Nat} {cs : Array Value} (h : Blk w b cs T) (ds : Array Value) : Blk (w.setRow b ds) b ds T := setRow_heap _ _ _ _ _ _ h
theorem Blk.rowFar {w : World} {b c T : Nat} {cs : Array Value} (h : Blk w b cs T) (hne : b ≠ c) (ds : Array Value) : Blk (w.setRow c ds) b cs T := (setRow_other _ _ _ _ hne).trans h
theorem below_row {B c : Nat} {w V : World} (h : Below B w V) (hc : B ≤ c) (ds : Array Value) : Below B w (V.setRow c ds) :=
  ⟨h.os, h.tape, h.output, by rw [size_setRow]; exact h.size, fun k hk => (setRow_other _ _ _ _ (by omega)).trans (h.block k hk)⟩
end
end Go.Proofs.YtcjfafhbohkhlaaGreat.M
