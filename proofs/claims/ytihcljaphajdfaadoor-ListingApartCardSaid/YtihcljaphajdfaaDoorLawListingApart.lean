/- DERIVED. The given statement ListingApartCardSaid: the law answers true for every input, and its arguments read as before; no condition, but that the listed variables start as the program's text lays them, which the card ties. -/
import Derived.Test.YtihcljaphajdfaaDoorRows
import Derived.Test.YtihcljaphajdfaaDoorHListingApart
import Derived.Test.YtihcljaphajdfaaDoorMRow
import Derived.Test.YtihcljaphajdfaaDoorMArg
import Derived.Test.YtihcljaphajdfaaDoorTie
import Derived.Test.YtihcljaphajdfaaDoorCards
import Derived.WalkKit
import Derived.ProofKit
import Derived.OpenShut
import Derived.ShutString
import Derived.ChangeOld
import Derived.Below
import Derived.SizedLaws
import Derived.LaidMore
import Derived.LaidLaws
import Derived.Stop.Joined
import Derived.SevenTiedAt
import Derived.Lay
namespace Go.Proofs.YtihcljaphajdfaaDoor.listingApart
open Go.ChangeShapes Go.WideShapes Go.ChangeAt Go.RowKit Go.Proofs.YtihcljaphajdfaaDoor.M
open Go.ChangeMaps (open_string shut_string)
set_option linter.unusedVariables false
theorem own : ownKnob Tryd.prog.godebug = none := by kernel_rfl
theorem laidOut : laidOutB Tryd.prog = true := by kernel_rfl
set_option maxRecDepth 100000 in
theorem lifted (os : Os) (started : os.Started) (H : Type) (enc : TypeId × Value → H) :
    ReturnsInHanded {} Tryd.checked os 5 .any (fun w args => (Rows.listingApartSpec.pre enc Tryd.prog Tryd.f5 [] false w args ∧ laidMetH Tryd.prog Hand.laidL w) ∧ sizedMet enc Tryd.prog Tryd.f5 (OpenSpec.ofChange Rows.listingApartSpec) false w args) (Rows.listingApartSpec.post enc Tryd.prog Tryd.f5 false true false false) := by
  refine Hand.handed_shaped (C := Tryd.checked) (X := fun w _ => laidMetH Tryd.prog Hand.laidL w) (fun _ _ _ hh h => h.of_heap hh) own started (by kernel_rfl) Tryd.func5
    (ChangeSpec.witness_shaped (enc := enc) (C := Tryd.checked) (os := os) (X := fun w _ => laidMetH Tryd.prog Hand.laidL w) false (Hand.doorW os) #[.agg #[.int .i64 0, .int .i64 0, .int .i64 0, .int .i64 0, .int .i64 0, .bool false, .bool false], .agg #[.int .i64 0, .int .i64 0, .int .i64 0, .int .i64 0, .int .i64 0, .bool false, .bool false]] 8 (World.laidAll_os _ _ _) (World.shaped_of_ZipB (by kernel_rfl) (by kernel_rfl)) (by kernel_rfl) (by kernel_rfl) (by kernel_rfl) (Hand.door_met os _)) ?_
  intro W base args ds gs before hval0 hW _ hsz0 hLaid hShaped _
  have hL : Hand.LaidOk W := Hand.laid_ok hLaid hShaped
  have hsz : (DataW.weightsEach Tryd.prog (Tryd.f5.params.toList ++ Rows.listingApartSpec.plain.varTypes Tryd.prog) (ds ++ gs)).all (· ≤ reachBytes) = true := hsz0
  have hval : ∀ (j : Nat) t v, Tryd.f5.params[j]? = some t → args[j]? = some v → Value.okWide Tryd.prog W .any base t v := hval0
  have hW' := hW
  obtain ⟨p, q, hA0, hV, rfl, hfz, hnd⟩ := hW
  have hA : DataW.TrodAll enc Tryd.prog W 0 (fun _ => true) true Tryd.f5.params.toList args.toList ds p := hA0
  rw [Tryd.params5] at hA hval hsz
  obtain ⟨v0, vs0, d0, ds0, p0, q0, hargs, rfl, rfl, h0, r0⟩ := trodAll_cons hA
  obtain ⟨v1, vs1, d1, ds1, p1, q1, rfl, rfl, rfl, h1, r1⟩ := trodAll_cons r0
  obtain ⟨rfl, rfl, rfl⟩ := trodAll_nil r1
  obtain rfl : args = #[v0, v1] := by cases args; simp_all
  obtain ⟨rfl, rfl⟩ := trodVars_none hV
  have k0 := h0
  have lt0 : ∀ x ∈ p0, x.block < W.heap.size := by obtain ⟨m, hm⟩ := k0; exact DataW.trod_lt m _ _ _ hm
  obtain ⟨cs0, rfl, sz0⟩ := okWide_struct Tryd.underlying23 (hval 0 23 v0 rfl rfl)
  obtain ⟨fu0, hf0⟩ := h0
  obtain ⟨c0_0, c0_1, c0_2, c0_3, c0_4, c0_5, c0_6, e0⟩ := list7 (show cs0.toList.length = 7 by rw [Array.length_toList, sz0]; kernel_rfl)
  obtain rfl := array_of _ _ e0
  simp only [Value.cells] at hf0
  obtain ⟨a0_0, rfl, w0_0⟩ := int_field Tryd.underlying23 hf0 0 _ rfl Tryd.underlying3 (by rw [show Tryd.prog.cellsOf _ = 1 from by kernel_rfl]; rfl)
  obtain ⟨a0_1, rfl, w0_1⟩ := int_field Tryd.underlying23 hf0 1 _ rfl Tryd.underlying3 (by rw [show Tryd.prog.cellsOf _ = 1 from by kernel_rfl]; rfl)
  obtain ⟨a0_2, rfl, w0_2⟩ := int_field Tryd.underlying23 hf0 2 _ rfl Tryd.underlying3 (by rw [show Tryd.prog.cellsOf _ = 1 from by kernel_rfl]; rfl)
  obtain ⟨a0_3, rfl, w0_3⟩ := int_field Tryd.underlying23 hf0 3 _ rfl Tryd.underlying3 (by rw [show Tryd.prog.cellsOf _ = 1 from by kernel_rfl]; rfl)
  obtain ⟨a0_4, rfl, w0_4⟩ := int_field Tryd.underlying23 hf0 4 _ rfl Tryd.underlying3 (by rw [show Tryd.prog.cellsOf _ = 1 from by kernel_rfl]; rfl)
  obtain ⟨a0_5, rfl⟩ := bool_field Tryd.underlying23 hf0 5 _ rfl Tryd.underlying4 (by rw [show Tryd.prog.cellsOf _ = 1 from by kernel_rfl]; rfl)
  obtain ⟨a0_6, rfl⟩ := bool_field Tryd.underlying23 hf0 6 _ rfl Tryd.underlying4 (by rw [show Tryd.prog.cellsOf _ = 1 from by kernel_rfl]; rfl)
  have k1 := h1
  have lt1 : ∀ x ∈ p1, x.block < W.heap.size := by obtain ⟨m, hm⟩ := k1; exact DataW.trod_lt m _ _ _ hm
  obtain ⟨cs1, rfl, sz1⟩ := okWide_struct Tryd.underlying23 (hval 1 23 v1 rfl rfl)
  obtain ⟨fu1, hf1⟩ := h1
  obtain ⟨c1_0, c1_1, c1_2, c1_3, c1_4, c1_5, c1_6, e1⟩ := list7 (show cs1.toList.length = 7 by rw [Array.length_toList, sz1]; kernel_rfl)
  obtain rfl := array_of _ _ e1
  simp only [Value.cells] at hf1
  obtain ⟨a1_0, rfl, w1_0⟩ := int_field Tryd.underlying23 hf1 0 _ rfl Tryd.underlying3 (by rw [show Tryd.prog.cellsOf _ = 1 from by kernel_rfl]; rfl)
  obtain ⟨a1_1, rfl, w1_1⟩ := int_field Tryd.underlying23 hf1 1 _ rfl Tryd.underlying3 (by rw [show Tryd.prog.cellsOf _ = 1 from by kernel_rfl]; rfl)
  obtain ⟨a1_2, rfl, w1_2⟩ := int_field Tryd.underlying23 hf1 2 _ rfl Tryd.underlying3 (by rw [show Tryd.prog.cellsOf _ = 1 from by kernel_rfl]; rfl)
  obtain ⟨a1_3, rfl, w1_3⟩ := int_field Tryd.underlying23 hf1 3 _ rfl Tryd.underlying3 (by rw [show Tryd.prog.cellsOf _ = 1 from by kernel_rfl]; rfl)
  obtain ⟨a1_4, rfl, w1_4⟩ := int_field Tryd.underlying23 hf1 4 _ rfl Tryd.underlying3 (by rw [show Tryd.prog.cellsOf _ = 1 from by kernel_rfl]; rfl)
  obtain ⟨a1_5, rfl⟩ := bool_field Tryd.underlying23 hf1 5 _ rfl Tryd.underlying4 (by rw [show Tryd.prog.cellsOf _ = 1 from by kernel_rfl]; rfl)
  obtain ⟨a1_6, rfl⟩ := bool_field Tryd.underlying23 hf1 6 _ rfl Tryd.underlying4 (by rw [show Tryd.prog.cellsOf _ = 1 from by kernel_rfl]; rfl)
  clear hA0 hval0 hsz0 hsz
  refine (Hand.ListingApart.all a0_0 a0_1 a0_2 a0_3 a0_4 a0_5 a0_6 a1_0 a1_1 a1_2 a1_3 a1_4 a1_5 a1_6 W hL w0_0 w0_1 w0_2 w0_3 w0_4 w1_0 w1_1 w1_2 w1_3 w1_4).mono fun e W' ⟨he, bel⟩ => ?_
  subst he
  exact ⟨_, rfl, _, _, _, [], _, [], hW', trodAll_mk1 (shut_bool Tryd.underlying4 _), (trodAll_cons_mk (Below.trod laidOut (by kernel_rfl) (of_decide_eq_true (by kernel_rfl)) k0 bel lt0) (trodAll_cons_mk (Below.trod laidOut (by kernel_rfl) (of_decide_eq_true (by kernel_rfl)) k1 bel lt1) trodAll_mk0)), rfl, bel.frame _, fun h => by cases h⟩
theorem over : Rows.listingApartRow.holds Tryd.pinned (OpenSpec.ofChange Rows.listingApartSpec) :=
  OpenClaim.holds_of_wide 5 Tryd.f5 rfl rfl rfl rfl rfl rfl rfl ⟨rfl, rfl, rfl, rfl, rfl⟩ rfl rfl rfl rfl rfl (by kernel_rfl) Tryd.func5 (by kernel_rfl)
    (of_decide_eq_true (by kernel_rfl)) (by unfold Func.isWrapper; first | (rw [if_pos (by decide +kernel)]; kernel_rfl) | (rw [if_neg (by decide +kernel)]; exact ⟨rfl, rfl⟩))
    (fun os started H enc _ => lifted os started H enc)
theorem proved : Rows.ListingApartSaid := over
theorem card : Rows.ListingApartCardSaid :=
  Claim7.holds_tied_plain_at .later [] [.data, .data, .data, .data, .sentinel, .sentinel, .pinned] true (true, "03ef004af4273e5de6907ece06e1b81b2d52620c1e3ce7af33e9fa2cbf26e0f0") true
    proved (fun _ h => by cases h) (by kernel_rfl) (fun _ h => by cases h) listingApart_row_tie rfl ⟨rfl, rfl⟩ (by kernel_rfl) rfl
    (fun f fn hf hfn => by
      obtain rfl : f = 5 := Option.some.inj ((show Tryd.prog.funcNamed "postbag/postbaglaw03.ListingApart" = some 5 by kernel_rfl).symm.trans hf) |>.symm
      obtain rfl : fn = Tryd.f5 := (Option.some.inj (Tryd.func5.symm.trans hfn)).symm
      exact ⟨by kernel_rfl, fun j t ht => by
        rw [Tryd.params5] at ht
        have hm : t ∈ [23, 23] := by simpa using Array.mem_of_getElem? ht
        have hall : ([23, 23].all fun u => !Tryd.prog.wantsStandIn u) = true := by kernel_rfl
        exact (show Tryd.prog.wantsStandIn t = false by simpa using List.all_eq_true.1 hall t hm)⟩)
    (by kernel_rfl)
#print axioms card
end Go.Proofs.YtihcljaphajdfaaDoor.listingApart
namespace Go.Proofs.YtihcljaphajdfaaDoor
/-- The statement, under a short name, for the claim. -/
theorem listingApartCard_holds : Rows.ListingApartCardSaid := listingApart.card
end Go.Proofs.YtihcljaphajdfaaDoor
