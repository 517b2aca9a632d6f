/- DERIVED. The given statement ImageBuildsSaid: the law answers true for every input, and its arguments read as before; no condition. -/
import Derived.Test.YtaimncgdpnjhiaaRows
import Derived.Test.YtaimncgdpnjhiaaHImageBuilds
import Derived.Test.YtaimncgdpnjhiaaMRow
import Derived.Test.YtaimncgdpnjhiaaMArg
import Derived.WalkKit
import Derived.ProofKit
import Derived.OpenShut
import Derived.ShutString
import Derived.ChangeOld
import Derived.Below
import Derived.SizedLaws
namespace Go.Proofs.Ytaimncgdpnjhiaa.imageBuilds
open Go.ChangeShapes Go.WideShapes Go.ChangeAt Go.RowKit Go.Proofs.Ytaimncgdpnjhiaa.M
open Go.ChangeMaps (open_string shut_string)
set_option linter.unusedVariables false
theorem own : ownKnob Try.prog.godebug = none := by kernel_rfl
theorem laidOut : laidOutB Try.prog = true := by kernel_rfl
set_option maxRecDepth 100000 in
theorem lifted (os : Os) (started : os.Started) (H : Type) (enc : TypeId × Value → H) :
    ReturnsInHanded {} Try.checked os 6 .any (Rows.imageBuildsSpec.pre6 enc Try.prog Try.f6 Rows.imageBuildsRow.domain false) (Rows.imageBuildsSpec.post enc Try.prog Try.f6 false true false false) := by
  refine returnsInHanded_of_change_sized (C := Try.checked) own started (by kernel_rfl) Try.func6
    (ChangeSpec.witness6 (enc := enc) (C := Try.checked) false ⟨#[], #[.agg #[.int .i64 0, .int .i64 0, .int .i64 0, .int .i64 0, .int .i64 0], .slice none 0 0, .int .i64 0, .agg #[.int .u64 0, .int .u64 0, .int .u64 0, .int .u64 0, .int .u64 0, .int .u64 0, .int .u64 0, .int .i64 0]], []⟩ 8 (by kernel_rfl) (by kernel_rfl) (by kernel_rfl) (by kernel_rfl)) ?_
  intro W base args ds gs before hval0 hW hcnd hsz0 _
  have hsz : (DataW.weightsEach Try.prog (Try.f6.params.toList ++ Rows.imageBuildsSpec.plain.varTypes Try.prog) (ds ++ gs)).all (· ≤ reachBytes) = true := hsz0
  have hval : ∀ (j : Nat) t v, Try.f6.params[j]? = some t → args[j]? = some v → Value.okWide Try.prog W .any base t v := hval0
  have hW' := hW
  obtain ⟨p, q, hA0, hV, rfl, hfz, hnd⟩ := hW
  have hA : DataW.TrodAll enc Try.prog W 0 (fun _ => true) true Try.f6.params.toList args.toList ds p := hA0
  rw [Try.params6] at hA hval hsz
  obtain ⟨v0, vs0, d0, ds0, p0, q0, hargs, rfl, rfl, h0, r0⟩ := trodAll_cons hA
  obtain ⟨v1, vs1, d1, ds1, p1, q1, rfl, rfl, rfl, h1, r1⟩ := trodAll_cons r0
  obtain ⟨v2, vs2, d2, ds2, p2, q2, rfl, rfl, rfl, h2, r2⟩ := trodAll_cons r1
  obtain ⟨v3, vs3, d3, ds3, p3, q3, rfl, rfl, rfl, h3, r3⟩ := trodAll_cons r2
  obtain ⟨rfl, rfl, rfl⟩ := trodAll_nil r3
  obtain rfl : args = #[v0, v1, v2, v3] := by cases args; simp_all
  obtain ⟨rfl, rfl⟩ := trodVars_none hV
  have k0 := h0
  have lt0 : ∀ x ∈ p0, x.block < W.heap.size := by obtain ⟨m, hm⟩ := k0; exact DataW.trod_lt m _ _ _ hm
  obtain ⟨cs0, rfl, sz0⟩ := okWide_struct Try.underlying23 (hval 0 23 v0 rfl rfl)
  obtain ⟨fu0, hf0⟩ := h0
  obtain ⟨c0_0, c0_1, c0_2, c0_3, c0_4, e0⟩ := list5 (show cs0.toList.length = 5 by rw [Array.length_toList, sz0]; kernel_rfl)
  obtain rfl := array_of _ _ e0
  simp only [Value.cells] at hf0
  obtain ⟨a0_0, rfl, w0_0⟩ := int_field Try.underlying23 hf0 0 _ rfl Try.underlying3 (by rw [show Try.prog.cellsOf _ = 1 from by kernel_rfl]; rfl)
  obtain ⟨a0_1, rfl, w0_1⟩ := int_field Try.underlying23 hf0 1 _ rfl Try.underlying3 (by rw [show Try.prog.cellsOf _ = 1 from by kernel_rfl]; rfl)
  obtain ⟨a0_2, rfl, w0_2⟩ := int_field Try.underlying23 hf0 2 _ rfl Try.underlying3 (by rw [show Try.prog.cellsOf _ = 1 from by kernel_rfl]; rfl)
  obtain ⟨a0_3, rfl, w0_3⟩ := int_field Try.underlying23 hf0 3 _ rfl Try.underlying3 (by rw [show Try.prog.cellsOf _ = 1 from by kernel_rfl]; rfl)
  obtain ⟨a0_4, rfl, w0_4⟩ := int_field Try.underlying23 hf0 4 _ rfl Try.underlying3 (by rw [show Try.prog.cellsOf _ = 1 from by kernel_rfl]; rfl)
  obtain ⟨A1, n1, c1, rfl⟩ := okWide_slice Try.underlying38 (hval 1 38 v1 rfl rfl)
  have k1 := h1
  have lt1 : ∀ x ∈ p1, x.block < W.heap.size := by obtain ⟨m, hm⟩ := k1; exact DataW.trod_lt m _ _ _ hm
  obtain ⟨z1, w1, y1⟩ := open_row (k := .u32) (B := 4) hsz (j := 1) (t := 38) rfl rfl Try.underlying38 Try.underlying57 (by kernel_rfl) (by kernel_rfl) h1
  obtain ⟨a2, rfl, rfl, rfl, w2⟩ := open_int Try.underlying3 (hval 2 3 v2 rfl rfl) h2
  have k3 := h3
  have lt3 : ∀ x ∈ p3, x.block < W.heap.size := by obtain ⟨m, hm⟩ := k3; exact DataW.trod_lt m _ _ _ hm
  obtain ⟨cs3, rfl, sz3⟩ := okWide_struct Try.underlying26 (hval 3 26 v3 rfl rfl)
  obtain ⟨fu3, hf3⟩ := h3
  obtain ⟨c3_0, c3_1, c3_2, c3_3, c3_4, c3_5, c3_6, c3_7, e3⟩ := list8 (show cs3.toList.length = 8 by rw [Array.length_toList, sz3]; kernel_rfl)
  obtain rfl := array_of _ _ e3
  simp only [Value.cells] at hf3
  obtain ⟨a3_0, rfl, w3_0⟩ := int_field Try.underlying26 hf3 0 _ rfl Try.underlying24 (by rw [show Try.prog.cellsOf _ = 1 from by kernel_rfl]; rfl)
  obtain ⟨a3_1, rfl, w3_1⟩ := int_field Try.underlying26 hf3 1 _ rfl Try.underlying24 (by rw [show Try.prog.cellsOf _ = 1 from by kernel_rfl]; rfl)
  obtain ⟨a3_2, rfl, w3_2⟩ := int_field Try.underlying26 hf3 2 _ rfl Try.underlying24 (by rw [show Try.prog.cellsOf _ = 1 from by kernel_rfl]; rfl)
  obtain ⟨a3_3, rfl, w3_3⟩ := int_field Try.underlying26 hf3 3 _ rfl Try.underlying24 (by rw [show Try.prog.cellsOf _ = 1 from by kernel_rfl]; rfl)
  obtain ⟨a3_4, rfl, w3_4⟩ := int_field Try.underlying26 hf3 4 _ rfl Try.underlying24 (by rw [show Try.prog.cellsOf _ = 1 from by kernel_rfl]; rfl)
  obtain ⟨a3_5, rfl, w3_5⟩ := int_field Try.underlying26 hf3 5 _ rfl Try.underlying24 (by rw [show Try.prog.cellsOf _ = 1 from by kernel_rfl]; rfl)
  obtain ⟨a3_6, rfl, w3_6⟩ := int_field Try.underlying26 hf3 6 _ rfl Try.underlying24 (by rw [show Try.prog.cellsOf _ = 1 from by kernel_rfl]; rfl)
  obtain ⟨a3_7, rfl, w3_7⟩ := int_field Try.underlying26 hf3 7 _ rfl Try.underlying3 (by rw [show Try.prog.cellsOf _ = 1 from by kernel_rfl]; rfl)
  clear hA0 hval0 hsz0 hsz
  refine (Hand.ImageBuilds.all a0_0 a0_1 a0_2 a0_3 a0_4 A1 n1 c1 z1 a2 a3_0 a3_1 a3_2 a3_3 a3_4 a3_5 a3_6 a3_7 W w0_0 w0_1 w0_2 w0_3 w0_4 w1 y1 w2 w3_0 w3_1 w3_2 w3_3 w3_4 w3_5 w3_6 w3_7).mono fun e W' ⟨he, bel⟩ => ?_
  subst he
  exact ⟨_, rfl, _, _, _, [], _, [], hW', trodAll_mk1 (shut_bool Try.underlying4 _), (trodAll_cons_mk (Below.trod laidOut (by kernel_rfl) (of_decide_eq_true (by kernel_rfl)) k0 bel lt0) (trodAll_cons_mk (Below.trod laidOut (by kernel_rfl) (of_decide_eq_true (by kernel_rfl)) k1 bel lt1) (trodAll_cons_mk (shut_int Try.underlying3 w2) (trodAll_cons_mk (Below.trod laidOut (by kernel_rfl) (of_decide_eq_true (by kernel_rfl)) k3 bel lt3) trodAll_mk0)))), rfl, bel.frame _, fun h => by cases h⟩
theorem over : Rows.imageBuildsRow.holds Try.pinned (OpenSpec.ofChange Rows.imageBuildsSpec) :=
  OpenClaim.holds_of_wide 6 Try.f6 rfl rfl rfl rfl rfl rfl rfl ⟨rfl, rfl, rfl, rfl, rfl⟩ rfl rfl rfl rfl rfl (by kernel_rfl) Try.func6 (by kernel_rfl)
    (of_decide_eq_true (by kernel_rfl)) (by unfold Func.isWrapper; first | (rw [if_pos (by decide +kernel)]; kernel_rfl) | (rw [if_neg (by decide +kernel)]; exact ⟨rfl, rfl⟩))
    (fun os started H enc _ => lifted os started H enc)
theorem proved : Rows.ImageBuildsSaid := over
#print axioms proved
end Go.Proofs.Ytaimncgdpnjhiaa.imageBuilds
namespace Go.Proofs.Ytaimncgdpnjhiaa
/-- The row, under a short name, for the claim. -/
theorem imageBuilds_holds : Rows.ImageBuildsSaid := imageBuilds.proved
end Go.Proofs.Ytaimncgdpnjhiaa
