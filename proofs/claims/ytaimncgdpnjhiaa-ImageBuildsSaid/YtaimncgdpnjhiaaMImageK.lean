/- DERIVED. Where all stands in an image: the program's function and the reference's, each by its contract. -/
import Derived.Test.YtaimncgdpnjhiaaProg
import Derived.Test.YtaimncgdpnjhiaaMWalk
import Derived.Test.YtaimncgdpnjhiaaMImage
import Derived.Below
import Derived.Deep.Draws
import Derived.Deep.AppendLies
import Derived.Maps.AppendAt
import Derived.OwnWalk
import Derived.Laws.BytesArg
import Derived.Laws.MakeOwn
import Derived.Laws.OwnMore
import Derived.Deep.OwnRows
import Derived.Tactics
import Derived.Lib.ConvBytes
import Derived.Laws.Slices
import Derived.WalkKit
import Derived.KernelRfl
import Derived.RowKit3
import Derived.Deep.LoopGhost
import Derived.Deep.QuietTactic
import Derived.BigQuiet
import Derived.WideLaws
import Derived.Deep.DeepCutAuto
import Derived.Deep.CutBlock
import Derived.Deep.RegionHeld3
import Derived.Laws.Rows
import Derived.Lib.AppendStr
import Derived.ArgAppend
import Derived.Laws.IdiomCopy
import Derived.OrdersHeld
import Derived.Laws.BitsLemmas
import Derived.Laws.Bits64
import Derived.RowKit
import Derived.Outline
import Derived.Handy
import Derived.Lib.Hide
import Derived.Deep.Light
import Derived.Laws.CopyOwn
namespace Go.Proofs.Ytaimncgdpnjhiaa.M
open Go Go.RowKit
set_option linter.unusedVariables false
set_option linter.unusedSimpArgs false
def image_Good.f (a0_0 : Int) (a0_1 : Int) (a0_2 : Int) (a0_3 : Int) (a0_4 : Int) : Option (Bool) := some (goodOf a0_0 a0_1 a0_2 a0_3 a0_4)
set_option maxHeartbeats 4000000 in
theorem image_Good.calls (a0_0 : Int) (a0_1 : Int) (a0_2 : Int) (a0_3 : Int) (a0_4 : Int) (r : Bool) (w : World) (h : image_Good.f a0_0 a0_1 a0_2 a0_3 a0_4 = some r) :
    Calls Try.prog 10 #[.agg #[.int .i64 a0_0, .int .i64 a0_1, .int .i64 a0_2, .int .i64 a0_3, .int .i64 a0_4]] w fun e w' => e = .returned (.bool r) ∧ Below w.heap.size w w' := by
  obtain rfl := Option.some.inj h
  clear h
  have i0 : ∀ (x0 x1 x2 x3 x4 x5 x6 x7 x8 x9 x10 x11 x12 x13 x14 : Int) w, (Instr.index 55 (.agg #[.int .i64 x0, .int .i64 x1, .int .i64 x2, .int .i64 x3, .int .i64 x4, .int .i64 x5, .int .i64 x6, .int .i64 x7, .int .i64 x8, .int .i64 x9, .int .i64 x10, .int .i64 x11, .int .i64 x12, .int .i64 x13, .int .i64 x14]) (.int .i64 0)).run Try.prog w = .ok (.agg #[.int .i64 x0, .int .i64 x1, .int .i64 x2]) w := fun _ _ _ _ _ _ _ _ _ _ _ _ _ _ _ _ => by kernel_rfl
  have i1 : ∀ (x0 x1 x2 x3 x4 x5 x6 x7 x8 x9 x10 x11 x12 x13 x14 : Int) w, (Instr.index 55 (.agg #[.int .i64 x0, .int .i64 x1, .int .i64 x2, .int .i64 x3, .int .i64 x4, .int .i64 x5, .int .i64 x6, .int .i64 x7, .int .i64 x8, .int .i64 x9, .int .i64 x10, .int .i64 x11, .int .i64 x12, .int .i64 x13, .int .i64 x14]) (.int .i64 1)).run Try.prog w = .ok (.agg #[.int .i64 x3, .int .i64 x4, .int .i64 x5]) w := fun _ _ _ _ _ _ _ _ _ _ _ _ _ _ _ _ => by kernel_rfl
  have i2 : ∀ (x0 x1 x2 x3 x4 x5 x6 x7 x8 x9 x10 x11 x12 x13 x14 : Int) w, (Instr.index 55 (.agg #[.int .i64 x0, .int .i64 x1, .int .i64 x2, .int .i64 x3, .int .i64 x4, .int .i64 x5, .int .i64 x6, .int .i64 x7, .int .i64 x8, .int .i64 x9, .int .i64 x10, .int .i64 x11, .int .i64 x12, .int .i64 x13, .int .i64 x14]) (.int .i64 2)).run Try.prog w = .ok (.agg #[.int .i64 x6, .int .i64 x7, .int .i64 x8]) w := fun _ _ _ _ _ _ _ _ _ _ _ _ _ _ _ _ => by kernel_rfl
  have i3 : ∀ (x0 x1 x2 x3 x4 x5 x6 x7 x8 x9 x10 x11 x12 x13 x14 : Int) w, (Instr.index 55 (.agg #[.int .i64 x0, .int .i64 x1, .int .i64 x2, .int .i64 x3, .int .i64 x4, .int .i64 x5, .int .i64 x6, .int .i64 x7, .int .i64 x8, .int .i64 x9, .int .i64 x10, .int .i64 x11, .int .i64 x12, .int .i64 x13, .int .i64 x14]) (.int .i64 3)).run Try.prog w = .ok (.agg #[.int .i64 x9, .int .i64 x10, .int .i64 x11]) w := fun _ _ _ _ _ _ _ _ _ _ _ _ _ _ _ _ => by kernel_rfl
  have i4 : ∀ (x0 x1 x2 x3 x4 x5 x6 x7 x8 x9 x10 x11 x12 x13 x14 : Int) w, (Instr.index 55 (.agg #[.int .i64 x0, .int .i64 x1, .int .i64 x2, .int .i64 x3, .int .i64 x4, .int .i64 x5, .int .i64 x6, .int .i64 x7, .int .i64 x8, .int .i64 x9, .int .i64 x10, .int .i64 x11, .int .i64 x12, .int .i64 x13, .int .i64 x14]) (.int .i64 4)).run Try.prog w = .ok (.agg #[.int .i64 x12, .int .i64 x13, .int .i64 x14]) w := fun _ _ _ _ _ _ _ _ _ _ _ _ _ _ _ _ => by kernel_rfl
  go_enter Try.func10, Try.ntmps10
  go_wp2
  go_rounds 6
  all_goals
    go_ret
    refine ⟨congrArg (fun x => Ending.returned (.bool x)) ?_, by go_grown⟩
    go_light
    unfold goodOf
    first | exact (decide_eq_true (by omega)).symm | exact (decide_eq_false (by omega)).symm

theorem image_Good.c (a0_0 : Int) (a0_1 : Int) (a0_2 : Int) (a0_3 : Int) (a0_4 : Int) (w : World) :
    Calls Try.prog 10 #[.agg #[.int .i64 a0_0, .int .i64 a0_1, .int .i64 a0_2, .int .i64 a0_3, .int .i64 a0_4]] w fun e w' => e = .returned (.bool (goodOf a0_0 a0_1 a0_2 a0_3 a0_4)) ∧ Below w.heap.size w w' := image_Good.calls _ _ _ _ _ _ w rfl

def image_Lay.f (a0_0 : Int) (a0_1 : Int) (a0_2 : Int) (a0_3 : Int) (a0_4 : Int) (a1 : Int) (a2 : Int) : Option (Int × Int × Int × Int × Int × Int × Int × Int × Int) := some (layOf a0_0 a0_1 a0_2 a0_3 a0_4 a1 a2)
set_option maxHeartbeats 4000000 in
theorem image_Lay.calls (a0_0 : Int) (a0_1 : Int) (a0_2 : Int) (a0_3 : Int) (a0_4 : Int) (a1 : Int) (a2 : Int) (r1 : Int) (r2 : Int) (r3 : Int) (r4 : Int) (r5 : Int) (r6 : Int) (r7 : Int) (r8 : Int) (r9 : Int) (w : World) (h : image_Lay.f a0_0 a0_1 a0_2 a0_3 a0_4 a1 a2 = some (r1, r2, r3, r4, r5, r6, r7, r8, r9)) :
    Calls Try.prog 7 #[.agg #[.int .i64 a0_0, .int .i64 a0_1, .int .i64 a0_2, .int .i64 a0_3, .int .i64 a0_4], .int .i64 a1, .int .i64 a2] w fun e w' => e = .returned (.tuple #[.agg #[.int .u64 r1, .int .u64 r2, .int .u64 r3, .int .u64 r4, .int .u64 r5, .int .u64 r6, .int .u64 r7, .int .i64 r8], .int .i64 r9]) ∧ Below w.heap.size w w' := by
  have HL := Lib.hid (Option.some.inj h)
  clear h
  have i0 : ∀ (x0 x1 x2 x3 x4 x5 x6 x7 x8 x9 x10 x11 x12 x13 x14 : Int) w, (Instr.index 55 (.agg #[.int .i64 x0, .int .i64 x1, .int .i64 x2, .int .i64 x3, .int .i64 x4, .int .i64 x5, .int .i64 x6, .int .i64 x7, .int .i64 x8, .int .i64 x9, .int .i64 x10, .int .i64 x11, .int .i64 x12, .int .i64 x13, .int .i64 x14]) (.int .i64 0)).run Try.prog w = .ok (.agg #[.int .i64 x0, .int .i64 x1, .int .i64 x2]) w := fun _ _ _ _ _ _ _ _ _ _ _ _ _ _ _ _ => by kernel_rfl
  have i1 : ∀ (x0 x1 x2 x3 x4 x5 x6 x7 x8 x9 x10 x11 x12 x13 x14 : Int) w, (Instr.index 55 (.agg #[.int .i64 x0, .int .i64 x1, .int .i64 x2, .int .i64 x3, .int .i64 x4, .int .i64 x5, .int .i64 x6, .int .i64 x7, .int .i64 x8, .int .i64 x9, .int .i64 x10, .int .i64 x11, .int .i64 x12, .int .i64 x13, .int .i64 x14]) (.int .i64 1)).run Try.prog w = .ok (.agg #[.int .i64 x3, .int .i64 x4, .int .i64 x5]) w := fun _ _ _ _ _ _ _ _ _ _ _ _ _ _ _ _ => by kernel_rfl
  have i2 : ∀ (x0 x1 x2 x3 x4 x5 x6 x7 x8 x9 x10 x11 x12 x13 x14 : Int) w, (Instr.index 55 (.agg #[.int .i64 x0, .int .i64 x1, .int .i64 x2, .int .i64 x3, .int .i64 x4, .int .i64 x5, .int .i64 x6, .int .i64 x7, .int .i64 x8, .int .i64 x9, .int .i64 x10, .int .i64 x11, .int .i64 x12, .int .i64 x13, .int .i64 x14]) (.int .i64 2)).run Try.prog w = .ok (.agg #[.int .i64 x6, .int .i64 x7, .int .i64 x8]) w := fun _ _ _ _ _ _ _ _ _ _ _ _ _ _ _ _ => by kernel_rfl
  have i3 : ∀ (x0 x1 x2 x3 x4 x5 x6 x7 x8 x9 x10 x11 x12 x13 x14 : Int) w, (Instr.index 55 (.agg #[.int .i64 x0, .int .i64 x1, .int .i64 x2, .int .i64 x3, .int .i64 x4, .int .i64 x5, .int .i64 x6, .int .i64 x7, .int .i64 x8, .int .i64 x9, .int .i64 x10, .int .i64 x11, .int .i64 x12, .int .i64 x13, .int .i64 x14]) (.int .i64 3)).run Try.prog w = .ok (.agg #[.int .i64 x9, .int .i64 x10, .int .i64 x11]) w := fun _ _ _ _ _ _ _ _ _ _ _ _ _ _ _ _ => by kernel_rfl
  have i4 : ∀ (x0 x1 x2 x3 x4 x5 x6 x7 x8 x9 x10 x11 x12 x13 x14 : Int) w, (Instr.index 55 (.agg #[.int .i64 x0, .int .i64 x1, .int .i64 x2, .int .i64 x3, .int .i64 x4, .int .i64 x5, .int .i64 x6, .int .i64 x7, .int .i64 x8, .int .i64 x9, .int .i64 x10, .int .i64 x11, .int .i64 x12, .int .i64 x13, .int .i64 x14]) (.int .i64 4)).run Try.prog w = .ok (.agg #[.int .i64 x12, .int .i64 x13, .int .i64 x14]) w := fun _ _ _ _ _ _ _ _ _ _ _ _ _ _ _ _ => by kernel_rfl
  by_cases hg : goodOf a0_0 a0_1 a0_2 a0_3 a0_4 = true ∧ 0 ≤ a1 ∧ a1 ≤ 65536 ∧ 1 ≤ a2 ∧ a2 ≤ 256
  · obtain ⟨g, v1, v2, v3, v4⟩ := hg
    obtain ⟨⟨p1, p2⟩, ⟨g1, g2⟩, ⟨g3, g4⟩, ⟨g5, g6⟩, ⟨p3, p4⟩⟩ := goodOf_yes g
    have HG := Lib.hid g
    clear g
    go_enter Try.func7, Try.ntmps7
    go_wp2
    go_rounds 6
    all_goals
      go_returns
      refine ⟨?_, by go_grown⟩
      go_light
      clear i0 i1 i2 i3 i4
    · have hbig : 16777216 < IntKind.u64.wrap (IntKind.u64.wrap ((4 * a1 + 64 - 1) / 64 * 64 + 64 + IntKind.u64.wrap (a0_1 * (8 * (12 + a2 + 2 * a0_3)))) + a0_2 * 256) := by assumption
      rw [lay_w2 _ _ _ _ _ g1 g2 g3 g4 g5 g6 v1 v2 v3 v4] at hbig
      obtain ⟨rfl, rfl, rfl, rfl, rfl, rfl, rfl, rfl, rfl⟩ := lay_big HG.out v1 v2 v3 v4 hbig HL.out
      rfl
    · have hfit : IntKind.u64.wrap (IntKind.u64.wrap ((4 * a1 + 64 - 1) / 64 * 64 + 64 + IntKind.u64.wrap (a0_1 * (8 * (12 + a2 + 2 * a0_3)))) + a0_2 * 256) ≤ 16777216 := by assumption
      rw [lay_w2 _ _ _ _ _ g1 g2 g3 g4 g5 g6 v1 v2 v3 v4] at hfit ⊢
      rw [lay_w1 _ _ _ _ g1 g2 g5 g6 v1 v2 v3 v4]
      obtain ⟨rfl, rfl, rfl, rfl, rfl, rfl, rfl, rfl, rfl⟩ := lay_fit HG.out v1 v2 v3 v4 hfit HL.out
      rfl
  · have HG := Lib.hid hg
    clear hg
    go_enter Try.func7, Try.ntmps7
    go_wp2
    go_rounds 6
    all_goals go_light
    all_goals clear i0 i1 i2 i3 i4
    all_goals first | (exfalso; exact HG.out ⟨decide_eq_true (by omega), by omega, by omega, by omega, by omega⟩) | (go_returns; refine ⟨?_, by go_grown⟩; obtain ⟨rfl, rfl, rfl, rfl, rfl, rfl, rfl, rfl, rfl⟩ := lay_bad HG.out HL.out; rfl)

theorem image_Lay.c (a0_0 : Int) (a0_1 : Int) (a0_2 : Int) (a0_3 : Int) (a0_4 : Int) (a1 : Int) (a2 : Int) (r1 : Int) (r2 : Int) (r3 : Int) (r4 : Int) (r5 : Int) (r6 : Int) (r7 : Int) (r8 : Int) (r9 : Int) (w : World) (h : layOf a0_0 a0_1 a0_2 a0_3 a0_4 a1 a2 = (r1, r2, r3, r4, r5, r6, r7, r8, r9)) :
    Calls Try.prog 7 #[.agg #[.int .i64 a0_0, .int .i64 a0_1, .int .i64 a0_2, .int .i64 a0_3, .int .i64 a0_4], .int .i64 a1, .int .i64 a2] w fun e w' => e = .returned (.tuple #[.agg #[.int .u64 r1, .int .u64 r2, .int .u64 r3, .int .u64 r4, .int .u64 r5, .int .u64 r6, .int .u64 r7, .int .i64 r8], .int .i64 r9]) ∧ Below w.heap.size w w' := image_Lay.calls _ _ _ _ _ _ _ _ _ _ _ _ _ _ _ _ w (congrArg some h)

theorem ref20_in (n l h : Int) (w : World) : Calls Try.prog 19 #[.int .i64 n, .int .i64 l, .int .i64 h] w fun e w' => e = .returned (.bool (decide (l ≤ n ∧ n ≤ h))) ∧ w = w' := by
  by_cases c1 : l ≤ n
  · by_cases c2 : n ≤ h
    · rw [decide_eq_true ⟨c1, c2⟩]
      go_enter Try.func19, Try.ntmps19
      go_wp2
      go_ret
      exact ⟨rfl, rfl⟩
    · rw [decide_eq_false (by omega)]
      have d : decide (n ≤ h) = false := decide_eq_false c2
      go_enter Try.func19, Try.ntmps19
      go_wp2
      go_ret
      exact ⟨rfl, rfl⟩
  · rw [decide_eq_false (by omega)]
    have d : decide (l ≤ n) = false := decide_eq_false c1
    go_enter Try.func19, Try.ntmps19
    go_wp2
    go_ret
    exact ⟨rfl, rfl⟩
set_option maxHeartbeats 4000000 in
theorem postbagref20_Good.c (a0_0 : Int) (a0_1 : Int) (a0_2 : Int) (a0_3 : Int) (a0_4 : Int) (w : World) :
    Calls Try.prog 11 #[.agg #[.int .i64 a0_0, .int .i64 a0_1, .int .i64 a0_2, .int .i64 a0_3, .int .i64 a0_4]] w fun e w' => e = .returned (.bool (goodOf a0_0 a0_1 a0_2 a0_3 a0_4)) ∧ Below w.heap.size w w' := by
  have e : goodOf a0_0 a0_1 a0_2 a0_3 a0_4 = (decide (1 ≤ a0_0 ∧ a0_0 ≤ 8) && decide (1 ≤ a0_1 ∧ a0_1 ≤ 64) && decide (1 ≤ a0_2 ∧ a0_2 ≤ 256) && decide (8 ≤ a0_3 ∧ a0_3 ≤ 1024) && decide (1 ≤ a0_4 ∧ a0_4 ≤ 1000)) := by
    unfold goodOf; rw [Bool.eq_iff_iff]; simp [and_assoc]
  rw [e]
  have H1 := Lib.hid (fun W => ref20_in a0_0 1 8 W)
  have H2 := Lib.hid (fun W => ref20_in a0_1 1 64 W)
  have H3 := Lib.hid (fun W => ref20_in a0_2 1 256 W)
  have H4 := Lib.hid (fun W => ref20_in a0_3 8 1024 W)
  have H5 := Lib.hid (fun W => ref20_in a0_4 1 1000 W)
  generalize decide (1 ≤ a0_0 ∧ a0_0 ≤ 8) = b1 at *
  generalize decide (1 ≤ a0_1 ∧ a0_1 ≤ 64) = b2 at *
  generalize decide (1 ≤ a0_2 ∧ a0_2 ≤ 256) = b3 at *
  generalize decide (8 ≤ a0_3 ∧ a0_3 ≤ 1024) = b4 at *
  generalize decide (1 ≤ a0_4 ∧ a0_4 ≤ 1000) = b5 at *
  clear e
  rcases (show b1 = false ∨ b1 = true ∧ b2 = false ∨ b1 = true ∧ b2 = true ∧ b3 = false ∨ b1 = true ∧ b2 = true ∧ b3 = true ∧ b4 = false ∨ b1 = true ∧ b2 = true ∧ b3 = true ∧ b4 = true by cases b1 <;> cases b2 <;> cases b3 <;> cases b4 <;> simp) with rfl | ⟨rfl, rfl⟩ | ⟨rfl, rfl, rfl⟩ | ⟨rfl, rfl, rfl, rfl⟩ | ⟨rfl, rfl, rfl, rfl⟩
  all_goals (
    go_enter Try.func11, Try.ntmps11
    go_wp2_with (go_at_call 19; with_reducible first | (refine (H1.out _).mono ?_; rintro e w' ⟨rfl, rfl⟩) | (refine (H2.out _).mono ?_; rintro e w' ⟨rfl, rfl⟩) | (refine (H3.out _).mono ?_; rintro e w' ⟨rfl, rfl⟩) | (refine (H4.out _).mono ?_; rintro e w' ⟨rfl, rfl⟩) | (refine (H5.out _).mono ?_; rintro e w' ⟨rfl, rfl⟩))
    go_ret
    exact ⟨rfl, by go_grown⟩)
def postbagref20_Lay.f (a0_0 : Int) (a0_1 : Int) (a0_2 : Int) (a0_3 : Int) (a0_4 : Int) (a1 : Int) (a2 : Int) : Option (Int × Int × Int × Int × Int × Int × Int × Int × Int) := some (layOf a0_0 a0_1 a0_2 a0_3 a0_4 a1 a2)
set_option maxHeartbeats 4000000 in
theorem postbagref20_Lay.good (a0_0 : Int) (a0_1 : Int) (a0_2 : Int) (a0_3 : Int) (a0_4 : Int) (a1 : Int) (a2 : Int) (r1 : Int) (r2 : Int) (r3 : Int) (r4 : Int) (r5 : Int) (r6 : Int) (r7 : Int) (r8 : Int) (r9 : Int) (w : World) (HL : Hid (layOf a0_0 a0_1 a0_2 a0_3 a0_4 a1 a2 = (r1, r2, r3, r4, r5, r6, r7, r8, r9)))
    (g : goodOf a0_0 a0_1 a0_2 a0_3 a0_4 = true) (v1 : 0 ≤ a1) (v2 : a1 ≤ 65536) (v3 : 1 ≤ a2) (v4 : a2 ≤ 256) :
    Calls Try.prog 9 #[.agg #[.int .i64 a0_0, .int .i64 a0_1, .int .i64 a0_2, .int .i64 a0_3, .int .i64 a0_4], .int .i64 a1, .int .i64 a2] w fun e w' => e = .returned (.tuple #[.agg #[.int .u64 r1, .int .u64 r2, .int .u64 r3, .int .u64 r4, .int .u64 r5, .int .u64 r6, .int .u64 r7, .int .i64 r8], .int .i64 r9]) ∧ Below w.heap.size w w' := by
  obtain ⟨⟨p1, p2⟩, ⟨g1, g2⟩, ⟨g3, g4⟩, ⟨g5, g6⟩, ⟨p3, p4⟩⟩ := goodOf_yes g
  have HG := Lib.hid g
  clear g
  go_enter Try.func9, Try.ntmps9
  go_wp2
  go_loopg [] ((4 * a1 + 63) / 64).toNat (fun kq w' => ∃ j : Int, 0 ≤ j ∧ j ≤ 4096 ∧ j + kq = (4 * a1 + 63) / 64 ∧ w' = (((w.alloc (Obj.cells #[Value.int IntKind.i64 a0_0, Value.int IntKind.i64 a0_1, Value.int IntKind.i64 a0_2, Value.int IntKind.i64 a0_3, Value.int IntKind.i64 a0_4] 23)).alloc (Obj.cells #[Value.int IntKind.u64 0, Value.int IntKind.u64 0, Value.int IntKind.u64 0, Value.int IntKind.u64 0, Value.int IntKind.u64 0, Value.int IntKind.u64 0, Value.int IntKind.u64 0, Value.int IntKind.i64 0] 26)).alloc (Obj.cells #[Value.int IntKind.i64 a0_0, Value.int IntKind.i64 a0_1, Value.int IntKind.i64 a0_2, Value.int IntKind.i64 a0_3, Value.int IntKind.i64 a0_4] 23)).alloc (Obj.cells #[Value.int IntKind.u64 0, Value.int IntKind.u64 (j * 64), Value.int IntKind.u64 0, Value.int IntKind.u64 0, Value.int IntKind.u64 0, Value.int IntKind.u64 0, Value.int IntKind.u64 0, Value.int IntKind.i64 a2] 26))
  case atStart => exact ⟨0, by omega, by omega, by omega, by simp⟩
  case round =>
    obtain ⟨j, j0, j1, j2, rfl⟩ := hrel
    by_cases hlt : j * 64 < 4 * a1
    · go_wp2
      go_roundg (gk - 1)
      case measure => omega
      case rel => exact ⟨j + 1, by omega, by omega, by omega, by rw [show (j + 1) * 64 = j * 64 + 64 from by omega]⟩
    · have hgl : j * 64 = glOf a1 := by unfold glOf; omega
      have HJ := Lib.hid hgl
      clear hgl
      go_wp2
      all_goals
        go_returns
        refine ⟨?_, by go_grown⟩
        go_light
        rw [HJ.out] at *
        clear HJ
      · have hbig : 16777216 < IntKind.u64.wrap (IntKind.u64.wrap (glOf a1 + 64 + IntKind.u64.wrap (a0_1 * (8 * (12 + a2 + 2 * a0_3)))) + 256 * a0_2) := by assumption
        rw [lay_v2 _ _ _ _ _ g1 g2 g3 g4 g5 g6 v1 v2 v3 v4] at hbig
        obtain ⟨rfl, rfl, rfl, rfl, rfl, rfl, rfl, rfl, rfl⟩ := lay_big HG.out v1 v2 v3 v4 hbig HL.out
        rfl
      · have hfit : IntKind.u64.wrap (IntKind.u64.wrap (glOf a1 + 64 + IntKind.u64.wrap (a0_1 * (8 * (12 + a2 + 2 * a0_3)))) + 256 * a0_2) ≤ 16777216 := by assumption
        rw [lay_v2 _ _ _ _ _ g1 g2 g3 g4 g5 g6 v1 v2 v3 v4] at hfit ⊢
        rw [lay_v1 _ _ _ _ g1 g2 g5 g6 v1 v2 v3 v4]
        obtain ⟨rfl, h2, h3, rfl, rfl, rfl, rfl, rfl, rfl⟩ := lay_fit HG.out v1 v2 v3 v4 hfit HL.out
        rw [show glOf a1 = r2 from by unfold glOf; omega, show r2 + 64 = r3 from by omega]
set_option maxHeartbeats 8000000 in
theorem postbagref20_Lay.calls (a0_0 : Int) (a0_1 : Int) (a0_2 : Int) (a0_3 : Int) (a0_4 : Int) (a1 : Int) (a2 : Int) (r1 : Int) (r2 : Int) (r3 : Int) (r4 : Int) (r5 : Int) (r6 : Int) (r7 : Int) (r8 : Int) (r9 : Int) (w : World) (h : postbagref20_Lay.f a0_0 a0_1 a0_2 a0_3 a0_4 a1 a2 = some (r1, r2, r3, r4, r5, r6, r7, r8, r9)) :
    Calls Try.prog 9 #[.agg #[.int .i64 a0_0, .int .i64 a0_1, .int .i64 a0_2, .int .i64 a0_3, .int .i64 a0_4], .int .i64 a1, .int .i64 a2] w fun e w' => e = .returned (.tuple #[.agg #[.int .u64 r1, .int .u64 r2, .int .u64 r3, .int .u64 r4, .int .u64 r5, .int .u64 r6, .int .u64 r7, .int .i64 r8], .int .i64 r9]) ∧ Below w.heap.size w w' := by
  have HL := Lib.hid (Option.some.inj h)
  clear h
  by_cases hg : goodOf a0_0 a0_1 a0_2 a0_3 a0_4 = true ∧ 0 ≤ a1 ∧ a1 ≤ 65536 ∧ 1 ≤ a2 ∧ a2 ≤ 256
  · exact postbagref20_Lay.good _ _ _ _ _ _ _ _ _ _ _ _ _ _ _ _ w HL hg.1 hg.2.1 hg.2.2.1 hg.2.2.2.1 hg.2.2.2.2
  · have HG := Lib.hid hg
    have hn : ¬ (((1 ≤ a0_0 ∧ a0_0 ≤ 8) ∧ (1 ≤ a0_1 ∧ a0_1 ≤ 64) ∧ (1 ≤ a0_2 ∧ a0_2 ≤ 256) ∧ (8 ≤ a0_3 ∧ a0_3 ≤ 1024) ∧ (1 ≤ a0_4 ∧ a0_4 ≤ 1000)) ∧ 0 ≤ a1 ∧ a1 ≤ 65536 ∧ 1 ≤ a2 ∧ a2 ≤ 256) := fun h => hg ⟨decide_eq_true h.1, h.2⟩
    clear hg
    go_enter Try.func9, Try.ntmps9
    by_cases d0 : a0_0 < 1
    · have d' : decide (1 ≤ a0_0) = false := decide_eq_false (by omega)
      clear hn
      go_wp2
      go_returns
      refine ⟨?_, by go_grown⟩
      obtain ⟨rfl, rfl, rfl, rfl, rfl, rfl, rfl, rfl, rfl⟩ := lay_bad HG.out HL.out
      rfl
    · replace d0 : 1 ≤ a0_0 := by omega
      by_cases e0 : 8 < a0_0
      · have d' : decide (a0_0 ≤ 8) = false := decide_eq_false (by omega)
        clear hn
        go_wp2
        go_returns
        refine ⟨?_, by go_grown⟩
        obtain ⟨rfl, rfl, rfl, rfl, rfl, rfl, rfl, rfl, rfl⟩ := lay_bad HG.out HL.out
        rfl
      · replace e0 : a0_0 ≤ 8 := by omega
        by_cases d1 : a0_1 < 1
        · have d' : decide (1 ≤ a0_1) = false := decide_eq_false (by omega)
          clear hn
          go_wp2
          go_returns
          refine ⟨?_, by go_grown⟩
          obtain ⟨rfl, rfl, rfl, rfl, rfl, rfl, rfl, rfl, rfl⟩ := lay_bad HG.out HL.out
          rfl
        · replace d1 : 1 ≤ a0_1 := by omega
          by_cases e1 : 64 < a0_1
          · have d' : decide (a0_1 ≤ 64) = false := decide_eq_false (by omega)
            clear hn
            go_wp2
            go_returns
            refine ⟨?_, by go_grown⟩
            obtain ⟨rfl, rfl, rfl, rfl, rfl, rfl, rfl, rfl, rfl⟩ := lay_bad HG.out HL.out
            rfl
          · replace e1 : a0_1 ≤ 64 := by omega
            by_cases d2 : a0_2 < 1
            · have d' : decide (1 ≤ a0_2) = false := decide_eq_false (by omega)
              clear hn
              go_wp2
              go_returns
              refine ⟨?_, by go_grown⟩
              obtain ⟨rfl, rfl, rfl, rfl, rfl, rfl, rfl, rfl, rfl⟩ := lay_bad HG.out HL.out
              rfl
            · replace d2 : 1 ≤ a0_2 := by omega
              by_cases e2 : 256 < a0_2
              · have d' : decide (a0_2 ≤ 256) = false := decide_eq_false (by omega)
                clear hn
                go_wp2
                go_returns
                refine ⟨?_, by go_grown⟩
                obtain ⟨rfl, rfl, rfl, rfl, rfl, rfl, rfl, rfl, rfl⟩ := lay_bad HG.out HL.out
                rfl
              · replace e2 : a0_2 ≤ 256 := by omega
                by_cases d3 : a0_3 < 8
                · have d' : decide (8 ≤ a0_3) = false := decide_eq_false (by omega)
                  clear hn
                  go_wp2
                  go_returns
                  refine ⟨?_, by go_grown⟩
                  obtain ⟨rfl, rfl, rfl, rfl, rfl, rfl, rfl, rfl, rfl⟩ := lay_bad HG.out HL.out
                  rfl
                · replace d3 : 8 ≤ a0_3 := by omega
                  by_cases e3 : 1024 < a0_3
                  · have d' : decide (a0_3 ≤ 1024) = false := decide_eq_false (by omega)
                    clear hn
                    go_wp2
                    go_returns
                    refine ⟨?_, by go_grown⟩
                    obtain ⟨rfl, rfl, rfl, rfl, rfl, rfl, rfl, rfl, rfl⟩ := lay_bad HG.out HL.out
                    rfl
                  · replace e3 : a0_3 ≤ 1024 := by omega
                    by_cases d4 : a0_4 < 1
                    · have d' : decide (1 ≤ a0_4) = false := decide_eq_false (by omega)
                      clear hn
                      go_wp2
                      go_returns
                      refine ⟨?_, by go_grown⟩
                      obtain ⟨rfl, rfl, rfl, rfl, rfl, rfl, rfl, rfl, rfl⟩ := lay_bad HG.out HL.out
                      rfl
                    · replace d4 : 1 ≤ a0_4 := by omega
                      by_cases e4 : 1000 < a0_4
                      · have d' : decide (a0_4 ≤ 1000) = false := decide_eq_false (by omega)
                        clear hn
                        go_wp2
                        go_returns
                        refine ⟨?_, by go_grown⟩
                        obtain ⟨rfl, rfl, rfl, rfl, rfl, rfl, rfl, rfl, rfl⟩ := lay_bad HG.out HL.out
                        rfl
                      · replace e4 : a0_4 ≤ 1000 := by omega
                        by_cases d5 : a1 < 0
                        · have d' : decide (0 ≤ a1) = false := decide_eq_false (by omega)
                          clear hn
                          go_wp2
                          go_returns
                          refine ⟨?_, by go_grown⟩
                          obtain ⟨rfl, rfl, rfl, rfl, rfl, rfl, rfl, rfl, rfl⟩ := lay_bad HG.out HL.out
                          rfl
                        · replace d5 : 0 ≤ a1 := by omega
                          by_cases e5 : 65536 < a1
                          · have d' : decide (a1 ≤ 65536) = false := decide_eq_false (by omega)
                            clear hn
                            go_wp2
                            go_returns
                            refine ⟨?_, by go_grown⟩
                            obtain ⟨rfl, rfl, rfl, rfl, rfl, rfl, rfl, rfl, rfl⟩ := lay_bad HG.out HL.out
                            rfl
                          · replace e5 : a1 ≤ 65536 := by omega
                            by_cases d6 : a2 < 1
                            · have d' : decide (1 ≤ a2) = false := decide_eq_false (by omega)
                              clear hn
                              go_wp2
                              go_returns
                              refine ⟨?_, by go_grown⟩
                              obtain ⟨rfl, rfl, rfl, rfl, rfl, rfl, rfl, rfl, rfl⟩ := lay_bad HG.out HL.out
                              rfl
                            · replace d6 : 1 ≤ a2 := by omega
                              by_cases e6 : 256 < a2
                              · have d' : decide (a2 ≤ 256) = false := decide_eq_false (by omega)
                                clear hn
                                go_wp2
                                go_returns
                                refine ⟨?_, by go_grown⟩
                                obtain ⟨rfl, rfl, rfl, rfl, rfl, rfl, rfl, rfl, rfl⟩ := lay_bad HG.out HL.out
                                rfl
                              · exact absurd hn (by omega)

theorem postbagref20_Lay.c (a0_0 : Int) (a0_1 : Int) (a0_2 : Int) (a0_3 : Int) (a0_4 : Int) (a1 : Int) (a2 : Int) (r1 : Int) (r2 : Int) (r3 : Int) (r4 : Int) (r5 : Int) (r6 : Int) (r7 : Int) (r8 : Int) (r9 : Int) (w : World) (h : layOf a0_0 a0_1 a0_2 a0_3 a0_4 a1 a2 = (r1, r2, r3, r4, r5, r6, r7, r8, r9)) :
    Calls Try.prog 9 #[.agg #[.int .i64 a0_0, .int .i64 a0_1, .int .i64 a0_2, .int .i64 a0_3, .int .i64 a0_4], .int .i64 a1, .int .i64 a2] w fun e w' => e = .returned (.tuple #[.agg #[.int .u64 r1, .int .u64 r2, .int .u64 r3, .int .u64 r4, .int .u64 r5, .int .u64 r6, .int .u64 r7, .int .i64 r8], .int .i64 r9]) ∧ Below w.heap.size w w' := postbagref20_Lay.calls _ _ _ _ _ _ _ _ _ _ _ _ _ _ _ _ w (congrArg some h)

end Go.Proofs.Ytaimncgdpnjhiaa.M
