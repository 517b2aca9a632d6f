/- DERIVED. DERIVED. Rows of words; parts of a slice of bytes. -/
import Derived.Test.YtbakfpoejoajeaaDoorProg
import Derived.Test.YtbakfpoejoajeaaDoorMBits
import Derived.Test.YtbakfpoejoajeaaDoorMWalk
import Derived.Test.YtbakfpoejoajeaaDoorMArg
import Derived.Test.YtbakfpoejoajeaaDoorMRow
import Derived.Test.YtbakfpoejoajeaaDoorMOpen
import Derived.Test.YtbakfpoejoajeaaDoorMPart
import Derived.Test.YtbakfpoejoajeaaDoorHH
import Derived.Below
import Derived.Deep.Draws
import Derived.Deep.AppendLies
import Derived.Maps.AppendAt
import Derived.OwnWalk
import Derived.Laws.BytesArg
import Derived.Laws.MakeOwn
import Derived.Laws.OwnMore
import Derived.Deep.OwnRows
import Derived.Tactics
import Derived.Lib.ConvBytes
import Derived.Laws.Slices
import Derived.WalkKit
import Derived.KernelRfl
import Derived.RowKit3
import Derived.Deep.LoopGhost
import Derived.Deep.QuietTactic
import Derived.BigQuiet
import Derived.WideLaws
import Derived.Deep.DeepCutAuto
import Derived.Deep.CutBlock
import Derived.Deep.RegionHeld3
import Derived.Laws.Rows
import Derived.Lib.AppendStr
import Derived.ArgAppend
import Derived.Laws.IdiomCopy
import Derived.OrdersHeld
import Derived.Laws.BitsLemmas
import Derived.Laws.Bits64
import Derived.RowKit
import Derived.Outline
import Derived.Handy
import Derived.Lib.Hide
import Derived.Deep.Light
import Derived.Laws.CopyOwn
import Derived.Lib.QuietBelow
import Derived.Shelf.Strings.Prefix
import Derived.Shelf.Small.Strs
import Derived.Shelf.Strconv.AtoiAll
import Derived.Ground.NamesProg
import Derived.Lib.AtoiErrMem
namespace Go.Proofs.YtbakfpoejoajeaaDoor.Hand
open Go Go.RowKit Go.Proofs.YtbakfpoejoajeaaDoor.M
set_option linter.unusedVariables false
set_option linter.unusedSimpArgs false
attribute [local go_sem] Oper.semAt_some
/-- A row of words in one block. -/
structure TokRow (W : World) (g : Nat) (L : List Tok) : Prop where
  lt : g < W.heap.size
  at_ : ∀ (i : Nat) (t : Tok), L[i]? = some t → CellsAt W ⟨g, i * 4, none⟩ t.cells
theorem TokRow.below {W V : World} {g : Nat} {L : List Tok} (h : TokRow W g L) (d : Below W.heap.size W V) : TokRow V g L :=
  ⟨Nat.lt_of_lt_of_le h.lt d.size, fun i t ht => (h.at_ i t ht).below h.lt d⟩
theorem flat_get : ∀ (L : List Tok) (i : Nat) (t : Tok) (j : Nat), L[i]? = some t → j < 4 → (flatToks L)[i * 4 + j]? = t.cells[j]?
  | [], i, t, j, h, _ => by simp at h
  | x :: L, 0, t, j, h, hj => by
    have h : x = t := by simpa using h
    subst h
    unfold flatToks
    rw [List.flatMap_cons, Nat.zero_mul, Nat.zero_add, List.getElem?_append_left (by rw [Array.length_toList, Tok.len]; exact hj), Array.getElem?_toList]
  | x :: L, i + 1, t, j, h, hj => by
    have ih := flat_get L i t j (by simpa using h) hj
    unfold flatToks at ih ⊢
    rw [List.flatMap_cons, List.getElem?_append_right (by rw [Array.length_toList, Tok.len]; omega), Array.length_toList, Tok.len, show (i + 1) * 4 + j - 4 = i * 4 + j by omega]
    exact ih
theorem OwnToks.row {W : World} {base : Nat} {v : Value} {L : List Tok} (h : OwnToks W base v L) (hL : L ≠ []) : ∃ g cap, v = .slice (some ⟨g, 0, none⟩) L.length cap ∧ L.length ≤ cap ∧ cap ≤ maxLen ∧ base ≤ g ∧ TokRow W g L := by
  rcases h.2 with ⟨_, h0⟩ | ⟨g, cap, cur, rfl, hb, h1, hc, hm, _⟩
  · exact absurd (List.eq_nil_of_length_eq_zero h0) hL
  · refine ⟨g, cap, rfl, hc, hm, hb, (Array.getElem?_eq_some_iff.1 h1).1, fun i t ht j u hu => ?_⟩
    have hj : j < 4 := by have := (Array.getElem?_eq_some_iff.1 hu).1; rwa [Tok.len] at this
    have := World.ownsRow.cells h (g := g) rfl (i * 4 + j) u (by rw [flat_get L i t j ht hj]; exact hu)
    rw [add_zero] at this ⊢
    rwa [Nat.zero_add] at this
theorem Tok.eta_cells (k a n : Int) (s : ByteArray) : (⟨k, a, s, n⟩ : Tok).cells = #[.int .i64 k, .int .i64 a, .string s, .int .i64 n] := rfl
theorem partA_ne {A : Option Addr} {c i : Nat} (h : ¬ c = i) : partA A c i = Option.map (fun x => x.add i) A := by unfold partA; rw [if_neg h, Nat.mul_one]
theorem partA_eq {A : Option Addr} {c i : Nat} (h : c = i) : partA A c i = A := by unfold partA; rw [if_pos h]
end Go.Proofs.YtbakfpoejoajeaaDoor.Hand
