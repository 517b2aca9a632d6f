/- DERIVED. A hart's registers as plain data, and what touches them; no program. -/
import Derived.Laws.Tables
import Derived.Laws.Rows
import Derived.WalkKit
import Derived.Test.YtcjfafhbohkhlaaGreatMBits
import Derived.Test.YtcjfafhbohkhlaaGreatMWalk
namespace Go.Proofs.YtcjfafhbohkhlaaGreat.M
open Go Go.RowKit
set_option linter.unusedVariables false
/-- A hart: its place, its registers, what it holds. -/
structure HartS where
  pc : Int
  x : List Int
  held : Bool
  ad : Int
  sz : Int
def HartS.cells (h : HartS) : Array Value := (.int .u64 h.pc :: (h.x.map (Value.int .u64) ++ [.bool h.held, .int .u64 h.ad, .int .i64 h.sz])).toArray
/-- Its numbers fit, and it has 32 registers. -/
def HartS.Ok (h : HartS) : Prop := h.x.length = 32 ∧ U64 h.pc ∧ (∀ y ∈ h.x, U64 y) ∧ U64 h.ad ∧ I64 h.sz
def HartS.reg (h : HartS) (r : Int) : Int := h.x.getD r.toNat 0
def HartS.set (h : HartS) (r v : Int) : HartS := { h with x := h.x.set r.toNat v }
section
variable {h : HartS}
theorem HartS.size (k : h.Ok) : h.cells.size = 36 := by simp [HartS.cells, k.1]
theorem HartS.one (h : HartS) : h.cells.all (·.oneCell') = true := by
  rw [Array.all_eq_true_iff_forall_mem]
  intro v hv
  simp only [HartS.cells, List.mem_toArray, List.mem_cons, List.mem_append, List.mem_map, List.not_mem_nil, or_false] at hv
  rcases hv with rfl | ⟨y, _, rfl⟩ | rfl | rfl | rfl <;> rfl
theorem HartS.c0 (h : HartS) : h.cells[0]? = some (.int .u64 h.pc) := by simp [HartS.cells]
theorem HartS.cx (k : h.Ok) (r : Nat) (hr : r < 32) : h.cells[1 + r]? = some (.int .u64 (h.reg r)) := by
  have hl := k.1
  rw [HartS.cells, List.getElem?_toArray, show 1 + r = r + 1 by omega, List.getElem?_cons_succ, List.getElem?_append_left (by simp; omega), List.getElem?_map, List.getElem?_eq_getElem (by omega)]
  simp [HartS.reg, List.getElem?_eq_getElem (show r < h.x.length by omega)]
theorem HartS.c33 (k : h.Ok) : h.cells[33]? = some (.bool h.held) := by
  have hl := k.1
  rw [HartS.cells, List.getElem?_toArray, show 33 = 32 + 1 by omega, List.getElem?_cons_succ, List.getElem?_append_right (by simp; omega)]; simp [hl]
theorem HartS.c34 (k : h.Ok) : h.cells[34]? = some (.int .u64 h.ad) := by
  have hl := k.1
  rw [HartS.cells, List.getElem?_toArray, show 34 = 33 + 1 by omega, List.getElem?_cons_succ, List.getElem?_append_right (by simp; omega)]; simp [hl]
theorem HartS.c35 (k : h.Ok) : h.cells[35]? = some (.int .i64 h.sz) := by
  have hl := k.1
  rw [HartS.cells, List.getElem?_toArray, show 35 = 34 + 1 by omega, List.getElem?_cons_succ, List.getElem?_append_right (by simp; omega)]; simp [hl]
theorem HartS.s0 (h : HartS) (v : Int) : h.cells.setIfInBounds 0 (.int .u64 v) = ({ h with pc := v } : HartS).cells := by simp [HartS.cells]
theorem HartS.sx (k : h.Ok) (r : Nat) (hr : r < 32) (v : Int) : h.cells.setIfInBounds (1 + r) (.int .u64 v) = (h.set r v).cells := by
  have hl := k.1
  rw [HartS.cells, List.setIfInBounds_toArray, show 1 + r = r + 1 by omega, List.set_cons_succ, List.set_append_left _ _ (by simp; omega)]
  simp [HartS.set, HartS.cells, List.map_set]
theorem HartS.s33 {h : HartS} (hl : h.x.length = 32) (v : Bool) : h.cells.setIfInBounds 33 (.bool v) = ({ h with held := v } : HartS).cells := by
  rw [HartS.cells, List.setIfInBounds_toArray, show 33 = 32 + 1 by omega, List.set_cons_succ, List.set_append_right _ _ (by simp; omega)]
  simp [HartS.cells, hl]
theorem HartS.s34 {h : HartS} (hl : h.x.length = 32) (v : Int) : h.cells.setIfInBounds 34 (.int .u64 v) = ({ h with ad := v } : HartS).cells := by
  rw [HartS.cells, List.setIfInBounds_toArray, show 34 = 33 + 1 by omega, List.set_cons_succ, List.set_append_right _ _ (by simp; omega)]
  simp [HartS.cells, hl]
theorem HartS.s35 {h : HartS} (hl : h.x.length = 32) (v : Int) : h.cells.setIfInBounds 35 (.int .i64 v) = ({ h with sz := v } : HartS).cells := by
  rw [HartS.cells, List.setIfInBounds_toArray, show 35 = 34 + 1 by omega, List.set_cons_succ, List.set_append_right _ _ (by simp; omega)]
  simp [HartS.cells, hl]
theorem HartS.s3 (k : h.Ok) (b : Bool) (v n : Int) : ((h.cells.setIfInBounds 33 (.bool b)).setIfInBounds 34 (.int .u64 v)).setIfInBounds 35 (.int .i64 n) = ({ h with held := b, ad := v, sz := n } : HartS).cells := by
  rw [HartS.s33 k.1, HartS.s34 (h := { h with held := b }) k.1, HartS.s35 (h := { h with held := b, ad := v }) k.1]
theorem HartS.Ok.set (k : h.Ok) (r v : Int) (hv : U64 v) : (h.set r v).Ok := by
  refine ⟨by simp [HartS.set, k.1], k.2.1, fun y hy => ?_, k.2.2.2⟩
  rcases List.mem_or_eq_of_mem_set hy with h1 | h1
  · exact k.2.2.1 y h1
  · rw [h1]; exact hv
theorem HartS.Ok.pc (k : h.Ok) (v : Int) (hv : U64 v) : ({ h with pc := v } : HartS).Ok := ⟨k.1, hv, k.2.2⟩
theorem HartS.Ok.hold (k : h.Ok) (b : Bool) (v n : Int) (hv : U64 v) (hn : I64 n) : ({ h with held := b, ad := v, sz := n } : HartS).Ok := ⟨k.1, k.2.1, k.2.2.1, hv, hn⟩
theorem HartS.Ok.reg (k : h.Ok) (r : Int) : U64 (h.reg r) := by
  unfold HartS.reg
  rw [List.getD_eq_getElem?_getD]
  cases e : h.x[r.toNat]? with
  | none => exact ⟨by decide, by decide⟩
  | some y => exact k.2.2.1 y (List.mem_of_getElem? e)
end
theorem Blk.ne {w : World} {a b S T : Nat} {cs ds : Array Value} (h : Blk w a cs S) (g : Blk w b ds T) (hne : S ≠ T) : a ≠ b := by
  rintro rfl
  unfold Blk at h g
  rw [h] at g
  injection g with g
  injection g with _ g
  exact hne g
/-- Results of which the first lies in a block as a whole. -/
theorem results_cell_tmp {P : Program} {fn : Func} {p q : Tmp} {ty : TypeId} (h : fn.results = #[.cell p ty, .tmp q]) (tmps : Array Value) (w : World) (g : Nat) (t : TypeId) (cs : Array Value) (d : TypeDesc)
    (hp : tmps.getD p undef = .pointer (some ⟨g, 0, none⟩)) (hg : Blk w g cs t)
    (hu : P.underlying ty = some d) (hd : (match d with | .struct _ | .array _ _ => true | _ => false) = true) (hi : (P.info? ty).map (·.size) = some cs.size) :
    (results fn tmps).run P w = .ok (.tuple #[.agg cs, tmps.getD q undef]) w := by
  have hp' : tmps[p]?.getD undef = .pointer (some ⟨g, 0, none⟩) := by simpa using hp
  simp [results, h, hp', asAddr, run_loadVar_row w g t ty cs (0, 0) d hg hu hd hi]
end Go.Proofs.YtcjfafhbohkhlaaGreat.M
