/- DERIVED. The given statement AluGoesSaid: the law answers true for every input, and its arguments read as before; no condition. -/
import Derived.Test.YtjdidadafccepaaRows
import Derived.Test.YtjdidadafccepaaPAllx17
import Derived.Test.YtjdidadafccepaaPureAluGoes
import Derived.Test.YtjdidadafccepaaMRow
import Derived.WalkKit
import Derived.ProofKit
import Derived.OpenShut
import Derived.ShutString
import Derived.ChangeOld
import Derived.Below
import Derived.SizedLaws
namespace Go.Proofs.Ytjdidadafccepaa.aluGoes
open Go.ChangeShapes Go.WideShapes Go.ChangeAt Go.RowKit Go.Proofs.Ytjdidadafccepaa.M
open Go.ChangeMaps (open_string shut_string)
set_option linter.unusedVariables false
theorem own : ownKnob Try.prog.godebug = none := by kernel_rfl
theorem laidOut : laidOutB Try.prog = true := by kernel_rfl
open Go.RowKit Go.Proofs.Ytjdidadafccepaa.PAll Go.Proofs.YtjdidadafccepaaW.PrintWords Go.Proofs.YtjdidadafccepaaW.PrintLast Go.Proofs.Ytjdidadafccepaa.M
theorem postbaglaw04_AluGoes.all (a0_0 : Int) (a0_1 : Int) (a0_2 : Int) (a0_3 : Int) (a0_4 : Int) (a0_5 : Bool) (a0_6 : Bool) (a1 : Int) (a2 : Int) (a3 : Int) (w : World) (w0_0 : (Lit.int .i64 a0_0).wf = true) (w0_1 : (Lit.int .i64 a0_1).wf = true) (w0_2 : (Lit.int .i64 a0_2).wf = true) (w0_3 : (Lit.int .i64 a0_3).wf = true) (w0_4 : (Lit.int .i64 a0_4).wf = true) (w1 : (Lit.int .u64 a1).wf = true) (w2 : (Lit.int .u64 a2).wf = true) (w3 : (Lit.int .u64 a3).wf = true) :
    Calls Try.prog 7 #[.agg #[.int .i64 a0_0, .int .i64 a0_1, .int .i64 a0_2, .int .i64 a0_3, .int .i64 a0_4, .bool a0_5, .bool a0_6], .int .u64 a1, .int .u64 a2, .int .u64 a3] w fun e w' => e = .returned (.bool true) ∧ Below w.heap.size w w' := by
  obtain ⟨k, h⟩ := Pure.AluGoes a0_0 a0_1 a0_2 a0_3 a0_4 a0_5 a0_6 a1 a2 a3 w0_0 w0_1 w0_2 w0_3 w0_4 w1 w2 w3
  refine (PAll.postbaglaw04_AluGoes.calls k a0_0 a0_1 a0_2 a0_3 a0_4 a0_5 a0_6 a1 a2 a3 w h).mono ?_
  rintro e w' ⟨rfl, hd⟩
  exact ⟨rfl, hd⟩
set_option maxRecDepth 100000 in
theorem lifted (os : Os) (started : os.Started) (H : Type) (enc : TypeId × Value → H) :
    ReturnsInHanded {} Try.checked os 7 .any (Rows.aluGoesSpec.pre6 enc Try.prog Try.f7 Rows.aluGoesRow.domain false) (Rows.aluGoesSpec.post enc Try.prog Try.f7 false true false false) := by
  refine returnsInHanded_of_change_sized (C := Try.checked) own started (by kernel_rfl) Try.func7
    (ChangeSpec.witness6 (enc := enc) (C := Try.checked) false ⟨#[], #[.agg #[.int .i64 0, .int .i64 0, .int .i64 0, .int .i64 0, .int .i64 0, .bool false, .bool false], .int .u64 0, .int .u64 0, .int .u64 0], []⟩ 8 (by kernel_rfl) (by kernel_rfl) (by kernel_rfl) (by kernel_rfl)) ?_
  intro W base args ds gs before hval0 hW hcnd hsz0 _
  have hsz : (DataW.weightsEach Try.prog (Try.f7.params.toList ++ Rows.aluGoesSpec.plain.varTypes Try.prog) (ds ++ gs)).all (· ≤ reachBytes) = true := hsz0
  have hval : ∀ (j : Nat) t v, Try.f7.params[j]? = some t → args[j]? = some v → Value.okWide Try.prog W .any base t v := hval0
  have hW' := hW
  obtain ⟨p, q, hA0, hV, rfl, hfz, hnd⟩ := hW
  have hA : DataW.TrodAll enc Try.prog W 0 (fun _ => true) true Try.f7.params.toList args.toList ds p := hA0
  rw [Try.params7] at hA hval hsz
  obtain ⟨v0, vs0, d0, ds0, p0, q0, hargs, rfl, rfl, h0, r0⟩ := trodAll_cons hA
  obtain ⟨v1, vs1, d1, ds1, p1, q1, rfl, rfl, rfl, h1, r1⟩ := trodAll_cons r0
  obtain ⟨v2, vs2, d2, ds2, p2, q2, rfl, rfl, rfl, h2, r2⟩ := trodAll_cons r1
  obtain ⟨v3, vs3, d3, ds3, p3, q3, rfl, rfl, rfl, h3, r3⟩ := trodAll_cons r2
  obtain ⟨rfl, rfl, rfl⟩ := trodAll_nil r3
  obtain rfl : args = #[v0, v1, v2, v3] := by cases args; simp_all
  obtain ⟨rfl, rfl⟩ := trodVars_none hV
  have k0 := h0
  have lt0 : ∀ x ∈ p0, x.block < W.heap.size := by obtain ⟨m, hm⟩ := k0; exact DataW.trod_lt m _ _ _ hm
  obtain ⟨cs0, rfl, sz0⟩ := okWide_struct Try.underlying23 (hval 0 23 v0 rfl rfl)
  obtain ⟨fu0, hf0⟩ := h0
  obtain ⟨c0_0, c0_1, c0_2, c0_3, c0_4, c0_5, c0_6, e0⟩ := list7 (show cs0.toList.length = 7 by rw [Array.length_toList, sz0]; kernel_rfl)
  obtain rfl := array_of _ _ e0
  simp only [Value.cells] at hf0
  obtain ⟨a0_0, rfl, w0_0⟩ := int_field Try.underlying23 hf0 0 _ rfl Try.underlying3 (by rw [show Try.prog.cellsOf _ = 1 from by kernel_rfl]; rfl)
  obtain ⟨a0_1, rfl, w0_1⟩ := int_field Try.underlying23 hf0 1 _ rfl Try.underlying3 (by rw [show Try.prog.cellsOf _ = 1 from by kernel_rfl]; rfl)
  obtain ⟨a0_2, rfl, w0_2⟩ := int_field Try.underlying23 hf0 2 _ rfl Try.underlying3 (by rw [show Try.prog.cellsOf _ = 1 from by kernel_rfl]; rfl)
  obtain ⟨a0_3, rfl, w0_3⟩ := int_field Try.underlying23 hf0 3 _ rfl Try.underlying3 (by rw [show Try.prog.cellsOf _ = 1 from by kernel_rfl]; rfl)
  obtain ⟨a0_4, rfl, w0_4⟩ := int_field Try.underlying23 hf0 4 _ rfl Try.underlying3 (by rw [show Try.prog.cellsOf _ = 1 from by kernel_rfl]; rfl)
  obtain ⟨a0_5, rfl⟩ := bool_field Try.underlying23 hf0 5 _ rfl Try.underlying4 (by rw [show Try.prog.cellsOf _ = 1 from by kernel_rfl]; rfl)
  obtain ⟨a0_6, rfl⟩ := bool_field Try.underlying23 hf0 6 _ rfl Try.underlying4 (by rw [show Try.prog.cellsOf _ = 1 from by kernel_rfl]; rfl)
  obtain ⟨a1, rfl, rfl, rfl, w1⟩ := open_int Try.underlying24 (hval 1 24 v1 rfl rfl) h1
  obtain ⟨a2, rfl, rfl, rfl, w2⟩ := open_int Try.underlying24 (hval 2 24 v2 rfl rfl) h2
  obtain ⟨a3, rfl, rfl, rfl, w3⟩ := open_int Try.underlying24 (hval 3 24 v3 rfl rfl) h3
  clear hA0 hval0 hsz0 hsz
  refine (postbaglaw04_AluGoes.all a0_0 a0_1 a0_2 a0_3 a0_4 a0_5 a0_6 a1 a2 a3 W w0_0 w0_1 w0_2 w0_3 w0_4 w1 w2 w3).mono fun e W' ⟨he, bel⟩ => ?_
  subst he
  exact ⟨_, rfl, _, _, _, [], _, [], hW', trodAll_mk1 (shut_bool Try.underlying4 _), (trodAll_cons_mk (Below.trod laidOut (by kernel_rfl) (of_decide_eq_true (by kernel_rfl)) k0 bel lt0) (trodAll_cons_mk (shut_int Try.underlying24 w1) (trodAll_cons_mk (shut_int Try.underlying24 w2) (trodAll_cons_mk (shut_int Try.underlying24 w3) trodAll_mk0)))), rfl, bel.frame _, fun h => by cases h⟩
theorem over : Rows.aluGoesRow.holds Try.pinned (OpenSpec.ofChange Rows.aluGoesSpec) :=
  OpenClaim.holds_of_wide 7 Try.f7 rfl rfl rfl rfl rfl rfl rfl ⟨rfl, rfl, rfl, rfl, rfl⟩ rfl rfl rfl rfl rfl (by kernel_rfl) Try.func7 (by kernel_rfl)
    (of_decide_eq_true (by kernel_rfl)) (by unfold Func.isWrapper; first | (rw [if_pos (by decide +kernel)]; kernel_rfl) | (rw [if_neg (by decide +kernel)]; exact ⟨rfl, rfl⟩))
    (fun os started H enc _ => lifted os started H enc)
theorem proved : Rows.AluGoesSaid := over
#print axioms proved
end Go.Proofs.Ytjdidadafccepaa.aluGoes
namespace Go.Proofs.Ytjdidadafccepaa
/-- The row, under a short name, for the claim. -/
theorem aluGoes_holds : Rows.AluGoesSaid := aluGoes.proved
end Go.Proofs.Ytjdidadafccepaa
