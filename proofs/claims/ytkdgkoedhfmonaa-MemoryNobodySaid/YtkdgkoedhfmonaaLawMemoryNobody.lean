/- DERIVED. The given statement MemoryNobodySaid: the law answers true for every input, and its arguments read as before; no condition. -/
import Derived.Test.YtkdgkoedhfmonaaRows
import Derived.Test.YtkdgkoedhfmonaaPAllx1
import Derived.WalkKit
import Derived.ProofKit
import Derived.OpenShut
import Derived.ShutString
import Derived.ChangeOld
import Derived.Below
import Derived.SizedLaws
namespace Go.Proofs.Ytkdgkoedhfmonaa.memoryNobody
open Go.ChangeShapes Go.WideShapes Go.ChangeAt Go.RowKit Go.Proofs.Ytkdgkoedhfmonaa.M
open Go.ChangeMaps (open_string shut_string)
set_option linter.unusedVariables false
theorem own : ownKnob Try.prog.godebug = none := by kernel_rfl
theorem laidOut : laidOutB Try.prog = true := by kernel_rfl
set_option maxRecDepth 100000 in
theorem lifted (os : Os) (started : os.Started) (H : Type) (enc : TypeId × Value → H) :
    ReturnsInHanded {} Try.checked os 4 .any (Rows.memoryNobodySpec.pre6 enc Try.prog Try.f4 Rows.memoryNobodyRow.domain false) (Rows.memoryNobodySpec.post enc Try.prog Try.f4 false true false false) := by
  refine returnsInHanded_of_change_sized (C := Try.checked) own started (by kernel_rfl) Try.func4
    (ChangeSpec.witness6 (enc := enc) (C := Try.checked) false ⟨#[], #[.agg #[.int .i64 0, .int .i64 0, .int .u64 0, .int .u64 0, .slice none 0 0]], []⟩ 8 (by kernel_rfl) (by kernel_rfl) (by kernel_rfl) (by kernel_rfl)) ?_
  intro W base args ds gs before hval0 hW hcnd hsz0 _
  have hval : ∀ (j : Nat) t v, Try.f4.params[j]? = some t → args[j]? = some v → Value.okWide Try.prog W .any base t v := hval0
  have hW' := hW
  obtain ⟨p, q, hA0, hV, rfl, hfz, hnd⟩ := hW
  have hA : DataW.TrodAll enc Try.prog W 0 (fun _ => true) true Try.f4.params.toList args.toList ds p := hA0
  rw [Try.params4] at hA hval
  obtain ⟨v0, vs0, d0, ds0, p0, q0, hargs, rfl, rfl, h0, r0⟩ := trodAll_cons hA
  obtain ⟨rfl, rfl, rfl⟩ := trodAll_nil r0
  obtain rfl : args = #[v0] := by cases args; simp_all
  obtain ⟨rfl, rfl⟩ := trodVars_none hV
  have k0 := h0
  have lt0 : ∀ x ∈ p0, x.block < W.heap.size := by obtain ⟨m, hm⟩ := k0; exact DataW.trod_lt m _ _ _ hm
  obtain ⟨cs0, rfl, sz0⟩ := okWide_struct Try.underlying35 (hval 0 35 v0 rfl rfl)
  obtain ⟨fu0, hf0⟩ := h0
  obtain ⟨c0_0, c0_1, c0_2, c0_3, c0_4, e0⟩ := list5 (show cs0.toList.length = 5 by rw [Array.length_toList, sz0]; kernel_rfl)
  obtain rfl := array_of _ _ e0
  simp only [Value.cells] at hf0
  obtain ⟨a0_0, rfl, w0_0⟩ := int_field Try.underlying35 hf0 0 _ rfl Try.underlying3 (by rw [show Try.prog.cellsOf _ = 1 from by kernel_rfl]; rfl)
  obtain ⟨a0_1, rfl, w0_1⟩ := int_field Try.underlying35 hf0 1 _ rfl Try.underlying3 (by rw [show Try.prog.cellsOf _ = 1 from by kernel_rfl]; rfl)
  obtain ⟨a0_2, rfl, w0_2⟩ := int_field Try.underlying35 hf0 2 _ rfl Try.underlying23 (by rw [show Try.prog.cellsOf _ = 1 from by kernel_rfl]; rfl)
  obtain ⟨a0_3, rfl, w0_3⟩ := int_field Try.underlying35 hf0 3 _ rfl Try.underlying23 (by rw [show Try.prog.cellsOf _ = 1 from by kernel_rfl]; rfl)
  obtain ⟨A0_4, n0_4, c0_4, rfl, w0_4⟩ := slice_field Try.underlying35 hf0 4 _ rfl Try.underlying22 (by rw [show Try.prog.cellsOf _ = 1 from by kernel_rfl]; rfl)
  clear hA0 hval0 hsz0
  refine (PAll.postbaglaw05_MemoryNobody.all a0_0 a0_1 a0_2 a0_3 A0_4 n0_4 c0_4 W w0_4).mono fun e W' ⟨he, bel⟩ => ?_
  subst he
  exact ⟨_, rfl, _, _, _, [], _, [], hW', trodAll_mk1 (shut_bool Try.underlying4 _), (trodAll_cons_mk (Below.trod laidOut (by kernel_rfl) (of_decide_eq_true (by kernel_rfl)) k0 bel lt0) trodAll_mk0), rfl, bel.frame _, fun h => by cases h⟩
theorem over : Rows.memoryNobodyRow.holds Try.pinned (OpenSpec.ofChange Rows.memoryNobodySpec) :=
  OpenClaim.holds_of_wide 4 Try.f4 rfl rfl rfl rfl rfl rfl rfl ⟨rfl, rfl, rfl, rfl, rfl⟩ rfl rfl rfl rfl rfl (by kernel_rfl) Try.func4 (by kernel_rfl)
    (of_decide_eq_true (by kernel_rfl)) (by unfold Func.isWrapper; first | (rw [if_pos (by decide +kernel)]; kernel_rfl) | (rw [if_neg (by decide +kernel)]; exact ⟨rfl, rfl⟩))
    (fun os started H enc _ => lifted os started H enc)
theorem proved : Rows.MemoryNobodySaid := over
#print axioms proved
end Go.Proofs.Ytkdgkoedhfmonaa.memoryNobody
namespace Go.Proofs.Ytkdgkoedhfmonaa
/-- The row, under a short name, for the claim. -/
theorem memoryNobody_holds : Rows.MemoryNobodySaid := memoryNobody.proved
end Go.Proofs.Ytkdgkoedhfmonaa
