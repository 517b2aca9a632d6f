/- DERIVED. The given statement InstTellsSaid: the law answers true for every input, and its arguments read as before; no condition. -/
import Derived.Test.YteidfegohdilbaaRows
import Derived.Test.YteidfegohdilbaaPInstTellsx13
import Derived.Test.YteidfegohdilbaaPureInstTells
import Derived.Test.YteidfegohdilbaaMRow
import Derived.WalkKit
import Derived.ProofKit
import Derived.OpenShut
import Derived.ShutString
import Derived.ChangeOld
import Derived.Below
import Derived.SizedLaws
namespace Go.Proofs.Yteidfegohdilbaa.instTells
open Go.ChangeShapes Go.WideShapes Go.ChangeAt Go.RowKit Go.Proofs.Yteidfegohdilbaa.M
open Go.ChangeMaps (open_string shut_string)
set_option linter.unusedVariables false
theorem own : ownKnob Try.prog.godebug = none := by kernel_rfl
theorem laidOut : laidOutB Try.prog = true := by kernel_rfl
open Go.RowKit Go.Proofs.Yteidfegohdilbaa.PInstTells Go.Proofs.YteidfegohdilbaaW.PrintWords Go.Proofs.YteidfegohdilbaaW.PrintLast Go.Proofs.Yteidfegohdilbaa.M
theorem postbaglaw02_InstTells.all (a0 : Int) (a1_0 : Int) (a1_1 : Int) (a1_2 : Int) (a1_3 : Int) (a1_4 : Int) (a1_5 : Bool) (a1_6 : Bool) (w : World) (w0 : (Lit.int .i64 a0).wf = true) (w1_0 : (Lit.int .i64 a1_0).wf = true) (w1_1 : (Lit.int .i64 a1_1).wf = true) (w1_2 : (Lit.int .i64 a1_2).wf = true) (w1_3 : (Lit.int .i64 a1_3).wf = true) (w1_4 : (Lit.int .i64 a1_4).wf = true) :
    Calls Try.prog 8 #[.int .i64 a0, .agg #[.int .i64 a1_0, .int .i64 a1_1, .int .i64 a1_2, .int .i64 a1_3, .int .i64 a1_4, .bool a1_5, .bool a1_6]] w fun e w' => e = .returned (.bool true) ∧ Below w.heap.size w w' := by
  obtain ⟨k, h⟩ := Pure.InstTells a0 a1_0 a1_1 a1_2 a1_3 a1_4 a1_5 a1_6 w0 w1_0 w1_1 w1_2 w1_3 w1_4
  refine (PInstTells.postbaglaw02_InstTells.calls k a0 a1_0 a1_1 a1_2 a1_3 a1_4 a1_5 a1_6 w h).mono ?_
  rintro e w' ⟨rfl, hd⟩
  exact ⟨rfl, hd⟩
set_option maxRecDepth 100000 in
theorem lifted (os : Os) (started : os.Started) (H : Type) (enc : TypeId × Value → H) :
    ReturnsInHanded {} Try.checked os 8 .any (Rows.instTellsSpec.pre6 enc Try.prog Try.f8 Rows.instTellsRow.domain false) (Rows.instTellsSpec.post enc Try.prog Try.f8 false true false false) := by
  refine returnsInHanded_of_change_sized (C := Try.checked) own started (by kernel_rfl) Try.func8
    (ChangeSpec.witness6 (enc := enc) (C := Try.checked) false ⟨#[], #[.int .i64 0, .agg #[.int .i64 0, .int .i64 0, .int .i64 0, .int .i64 0, .int .i64 0, .bool false, .bool false]], []⟩ 8 (by kernel_rfl) (by kernel_rfl) (by kernel_rfl) (by kernel_rfl)) ?_
  intro W base args ds gs before hval0 hW hcnd hsz0 _
  have hsz : (DataW.weightsEach Try.prog (Try.f8.params.toList ++ Rows.instTellsSpec.plain.varTypes Try.prog) (ds ++ gs)).all (· ≤ reachBytes) = true := hsz0
  have hval : ∀ (j : Nat) t v, Try.f8.params[j]? = some t → args[j]? = some v → Value.okWide Try.prog W .any base t v := hval0
  have hW' := hW
  obtain ⟨p, q, hA0, hV, rfl, hfz, hnd⟩ := hW
  have hA : DataW.TrodAll enc Try.prog W 0 (fun _ => true) true Try.f8.params.toList args.toList ds p := hA0
  rw [Try.params8] at hA hval hsz
  obtain ⟨v0, vs0, d0, ds0, p0, q0, hargs, rfl, rfl, h0, r0⟩ := trodAll_cons hA
  obtain ⟨v1, vs1, d1, ds1, p1, q1, rfl, rfl, rfl, h1, r1⟩ := trodAll_cons r0
  obtain ⟨rfl, rfl, rfl⟩ := trodAll_nil r1
  obtain rfl : args = #[v0, v1] := by cases args; simp_all
  obtain ⟨rfl, rfl⟩ := trodVars_none hV
  obtain ⟨a0, rfl, rfl, rfl, w0⟩ := open_int Try.underlying3 (hval 0 3 v0 rfl rfl) h0
  have k1 := h1
  have lt1 : ∀ x ∈ p1, x.block < W.heap.size := by obtain ⟨m, hm⟩ := k1; exact DataW.trod_lt m _ _ _ hm
  obtain ⟨cs1, rfl, sz1⟩ := okWide_struct Try.underlying23 (hval 1 23 v1 rfl rfl)
  obtain ⟨fu1, hf1⟩ := h1
  obtain ⟨c1_0, c1_1, c1_2, c1_3, c1_4, c1_5, c1_6, e1⟩ := list7 (show cs1.toList.length = 7 by rw [Array.length_toList, sz1]; kernel_rfl)
  obtain rfl := array_of _ _ e1
  simp only [Value.cells] at hf1
  obtain ⟨a1_0, rfl, w1_0⟩ := int_field Try.underlying23 hf1 0 _ rfl Try.underlying3 (by rw [show Try.prog.cellsOf _ = 1 from by kernel_rfl]; rfl)
  obtain ⟨a1_1, rfl, w1_1⟩ := int_field Try.underlying23 hf1 1 _ rfl Try.underlying3 (by rw [show Try.prog.cellsOf _ = 1 from by kernel_rfl]; rfl)
  obtain ⟨a1_2, rfl, w1_2⟩ := int_field Try.underlying23 hf1 2 _ rfl Try.underlying3 (by rw [show Try.prog.cellsOf _ = 1 from by kernel_rfl]; rfl)
  obtain ⟨a1_3, rfl, w1_3⟩ := int_field Try.underlying23 hf1 3 _ rfl Try.underlying3 (by rw [show Try.prog.cellsOf _ = 1 from by kernel_rfl]; rfl)
  obtain ⟨a1_4, rfl, w1_4⟩ := int_field Try.underlying23 hf1 4 _ rfl Try.underlying3 (by rw [show Try.prog.cellsOf _ = 1 from by kernel_rfl]; rfl)
  obtain ⟨a1_5, rfl⟩ := bool_field Try.underlying23 hf1 5 _ rfl Try.underlying4 (by rw [show Try.prog.cellsOf _ = 1 from by kernel_rfl]; rfl)
  obtain ⟨a1_6, rfl⟩ := bool_field Try.underlying23 hf1 6 _ rfl Try.underlying4 (by rw [show Try.prog.cellsOf _ = 1 from by kernel_rfl]; rfl)
  clear hA0 hval0 hsz0 hsz
  refine (postbaglaw02_InstTells.all a0 a1_0 a1_1 a1_2 a1_3 a1_4 a1_5 a1_6 W w0 w1_0 w1_1 w1_2 w1_3 w1_4).mono fun e W' ⟨he, bel⟩ => ?_
  subst he
  exact ⟨_, rfl, _, _, _, [], _, [], hW', trodAll_mk1 (shut_bool Try.underlying4 _), (trodAll_cons_mk (shut_int Try.underlying3 w0) (trodAll_cons_mk (Below.trod laidOut (by kernel_rfl) (of_decide_eq_true (by kernel_rfl)) k1 bel lt1) trodAll_mk0)), rfl, bel.frame _, fun h => by cases h⟩
theorem over : Rows.instTellsRow.holds Try.pinned (OpenSpec.ofChange Rows.instTellsSpec) :=
  OpenClaim.holds_of_wide 8 Try.f8 rfl rfl rfl rfl rfl rfl rfl ⟨rfl, rfl, rfl, rfl, rfl⟩ rfl rfl rfl rfl rfl (by kernel_rfl) Try.func8 (by kernel_rfl)
    (of_decide_eq_true (by kernel_rfl)) (by unfold Func.isWrapper; first | (rw [if_pos (by decide +kernel)]; kernel_rfl) | (rw [if_neg (by decide +kernel)]; exact ⟨rfl, rfl⟩))
    (fun os started H enc _ => lifted os started H enc)
theorem proved : Rows.InstTellsSaid := over
#print axioms proved
end Go.Proofs.Yteidfegohdilbaa.instTells
namespace Go.Proofs.Yteidfegohdilbaa
/-- The row, under a short name, for the claim. -/
theorem instTells_holds : Rows.InstTellsSaid := instTells.proved
end Go.Proofs.Yteidfegohdilbaa
