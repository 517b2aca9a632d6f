/- DERIVED. DERIVED. An sc stores just if the hart holds that very place. -/
import Derived.Test.YtcjfafhbohkhlaaProg
import Derived.Test.YtcjfafhbohkhlaaMBits
import Derived.Test.YtcjfafhbohkhlaaMWalk
import Derived.Test.YtcjfafhbohkhlaaMTab
import Derived.Test.YtcjfafhbohkhlaaMInst
import Derived.Test.YtcjfafhbohkhlaaMDec
import Derived.Test.YtcjfafhbohkhlaaMDec2
import Derived.Test.YtcjfafhbohkhlaaMQTail
import Derived.Test.YtcjfafhbohkhlaaMArg
import Derived.Test.YtcjfafhbohkhlaaMMem
import Derived.Test.YtcjfafhbohkhlaaMMemK
import Derived.Test.YtcjfafhbohkhlaaMMemR
import Derived.Test.YtcjfafhbohkhlaaMHart
import Derived.Test.YtcjfafhbohkhlaaHG
import Derived.Test.YtcjfafhbohkhlaaPAllx1
import Derived.Test.YtcjfafhbohkhlaaPAllx2
import Derived.Test.YtcjfafhbohkhlaaPAllx3
import Derived.Test.YtcjfafhbohkhlaaPAllx4
import Derived.Test.YtcjfafhbohkhlaaPAllx5
import Derived.Test.YtcjfafhbohkhlaaPAllx6
import Derived.Test.YtcjfafhbohkhlaaPAllx7
import Derived.Test.YtcjfafhbohkhlaaPAllx8
import Derived.Test.YtcjfafhbohkhlaaPAllx9
import Derived.Test.YtcjfafhbohkhlaaPAllx10
import Derived.Test.YtcjfafhbohkhlaaPAllx11
import Derived.Below
import Derived.Deep.Draws
import Derived.Deep.AppendLies
import Derived.Maps.AppendAt
import Derived.OwnWalk
import Derived.Laws.BytesArg
import Derived.Laws.MakeOwn
import Derived.Laws.OwnMore
import Derived.Deep.OwnRows
import Derived.Tactics
import Derived.Lib.ConvBytes
import Derived.Laws.Slices
import Derived.WalkKit
import Derived.KernelRfl
import Derived.RowKit3
import Derived.Deep.LoopGhost
import Derived.Deep.QuietTactic
import Derived.BigQuiet
import Derived.WideLaws
import Derived.Deep.DeepCutAuto
import Derived.Deep.CutBlock
import Derived.Deep.RegionHeld3
import Derived.Laws.Rows
import Derived.Lib.AppendStr
import Derived.ArgAppend
import Derived.Laws.IdiomCopy
import Derived.OrdersHeld
import Derived.Laws.BitsLemmas
import Derived.Laws.Bits64
import Derived.RowKit
import Derived.Outline
import Derived.Handy
import Derived.Lib.Hide
import Derived.Deep.Light
import Derived.Laws.CopyOwn
namespace Go.Proofs.Ytcjfafhbohkhlaa.Hand
open Go Go.RowKit Go.Proofs.Ytcjfafhbohkhlaa.M Go.Proofs.Ytcjfafhbohkhlaa.PAll Go.Proofs.YtcjfafhbohkhlaaW.PrintWords
set_option linter.unusedVariables false
set_option linter.unusedSimpArgs false
def scI (op : Int) : InstS := ⟨op, 3, 1, 2, 0, false, false⟩
def scBs (op : Int) : List Int := laidTo 1064 [scI op] 1
def hS (at_ v : Int) (held : Bool) (ad sz : Int) : HartS := ⟨0, 0 :: at_ :: v :: List.replicate 29 0, held, ad, sz⟩
def hX (at_ v r : Int) : HartS := ⟨4, 0 :: at_ :: v :: r :: List.replicate 28 0, false, 0, 0⟩
theorem sc_do (op n : Int) (hop : op = 67 ∧ n = 4 ∨ op = 78 ∧ n = 8) (bs : List Int) (at_ v ad sz : Int) (held : Bool) (hE : numE bs.length at_ n = 0) :
    doOf (hS at_ v held ad sz) bs op 3 1 2 0 = if held = true ∧ ad = at_ ∧ sz = n then (hX at_ v 0, storeOf bs at_ n (storedOf op 0 v), 0) else (hX at_ v 1, bs, 0) := by
  have e1 : ((hS at_ v held ad sz).set 0 0).reg 1 = at_ := rfl
  have e2 : ((hS at_ v held ad sz).set 0 0).reg 2 = v := rfl
  have e3 : PAll.sizeOf op = n ∧ 0 < n ∧ addrOf op 0 at_ = at_ ∧ (op = 67 ∨ op = 78) ∧ targetOf op 0 0 at_ = 4 ∧ ¬ (5 ≤ op ∧ op ≤ 10) := by
    rcases hop with ⟨rfl, rfl⟩ | ⟨rfl, rfl⟩
    · exact ⟨rfl, by decide, rfl, .inl rfl, rfl, by decide⟩
    · exact ⟨rfl, by decide, rfl, .inr rfl, rfl, by decide⟩
  obtain ⟨s1, s2, s3, s4, s5, s6⟩ := e3
  have e4 : touchAt ((hS at_ v held ad sz).set 0 0) bs op at_ n v = if held = true ∧ ad = at_ ∧ sz = n then (0, 0, { (hS at_ v held ad sz).set 0 0 with held := false, ad := 0, sz := 0 }, storeOf bs at_ n (storedOf op 0 v)) else (1, 0, { (hS at_ v held ad sz).set 0 0 with held := false, ad := 0, sz := 0 }, bs) := by
    unfold touchAt
    rw [if_pos s4]
    show (if held = true ∧ ad = at_ ∧ sz = n then _ else _) = _
    rw [hE]; rfl
  unfold doOf
  dsimp only
  rw [e1, e2, s1, if_pos s2, s3, e4]
  rw [if_neg (show ¬ (5 ≤ op ∧ op ≤ 10 ∧ takenOf op at_ v = false) from fun h => s6 ⟨h.1, h.2.1⟩)]
  rw [show (hS at_ v held ad sz).pc = 0 from rfl, s5]
  by_cases hc : held = true ∧ ad = at_ ∧ sz = n
  · rw [if_pos hc, if_pos hc]; rfl
  · rw [if_neg hc, if_neg hc]; rfl
theorem sc_len (op : Int) : (scBs op).length = 1064 := by
  unfold scBs laidTo laidTo; rw [storeOf_length _ _ _ _ (by omega), List.length_replicate]
theorem sc_step (op n : Int) (hop : op = 67 ∧ n = 4 ∨ op = 78 ∧ n = 8) (at_ v ad sz : Int) (held : Bool) (hE : numE (scBs op).length at_ n = 0) :
    stepOf (hS at_ v held ad sz) (scBs op) = if held = true ∧ ad = at_ ∧ sz = n then (hX at_ v 0, storeOf (scBs op) at_ n (storedOf op 0 v), 0) else (hX at_ v 1, scBs op, 0) := by
  rw [← sc_do op n hop (scBs op) at_ v ad sz held hE]
  unfold stepOf
  rw [show (hS at_ v held ad sz).pc = 0 from rfl]
  rcases hop with ⟨rfl, rfl⟩ | ⟨rfl, rfl⟩
  · have f : numE (scBs 67).length 0 4 = 0 := by kernel_rfl
    have g1 : decOp (IntKind.u32.wrap (loadOf (scBs 67) 0 4)) = 67 := by kernel_rfl
    have g2 : decRd 67 (IntKind.u32.wrap (loadOf (scBs 67) 0 4)) = 3 := by kernel_rfl
    have g3 : decRs1 67 (IntKind.u32.wrap (loadOf (scBs 67) 0 4)) = 1 := by kernel_rfl
    have g4 : decRs2 67 (IntKind.u32.wrap (loadOf (scBs 67) 0 4)) = 2 := by kernel_rfl
    have g5 : decImm (formOf 67) (IntKind.u32.wrap (loadOf (scBs 67) 0 4)) = 0 := by kernel_rfl
    rw [if_neg (fun h => h f)]
    dsimp only
    rw [g1, g2, g3, g4, g5, if_neg (by decide), if_neg (by decide)]
  · have f : numE (scBs 78).length 0 4 = 0 := by kernel_rfl
    have g1 : decOp (IntKind.u32.wrap (loadOf (scBs 78) 0 4)) = 78 := by kernel_rfl
    have g2 : decRd 78 (IntKind.u32.wrap (loadOf (scBs 78) 0 4)) = 3 := by kernel_rfl
    have g3 : decRs1 78 (IntKind.u32.wrap (loadOf (scBs 78) 0 4)) = 1 := by kernel_rfl
    have g4 : decRs2 78 (IntKind.u32.wrap (loadOf (scBs 78) 0 4)) = 2 := by kernel_rfl
    have g5 : decImm (formOf 78) (IntKind.u32.wrap (loadOf (scBs 78) 0 4)) = 0 := by kernel_rfl
    rw [if_neg (fun h => h f)]
    dsimp only
    rw [g1, g2, g3, g4, g5, if_neg (by decide), if_neg (by decide)]
theorem sc_zero (op n : Int) (hop : op = 67 ∧ n = 4 ∨ op = 78 ∧ n = 8) : ∀ k : Fin 50, loadOf (scBs op) (64 + 8 * (k.val : Int)) n = 0 ∧ numE (scBs op).length (64 + 8 * (k.val : Int)) n = 0 := by
  rcases hop with ⟨rfl, rfl⟩ | ⟨rfl, rfl⟩
  · decide +kernel
  · decide +kernel
theorem load_store (bs : List Int) (at_ n v : Int) (h0 : 0 ≤ at_) (hE : numE bs.length at_ n = 0) : loadOf (storeOf bs at_ n v) at_ n = v % 2 ^ (8 * n.toNat) := by
  have hl := storeOf_length bs at_ n v h0
  have hk := numE_ok.1 hE
  unfold loadOf
  rw [hl, if_pos hE, ← leOf_lowBytes]
  congr 1
  have hL := lowBytes_length v n.toNat
  unfold segOf storeOf
  rw [if_pos hE]
  apply List.ext_getElem?
  intro i
  by_cases hi : i < n.toNat
  · rw [List.getElem?_take_of_lt hi, List.getElem?_drop, splice_get _ _ _ (by omega), if_pos ⟨by omega, by omega⟩]; congr 1; omega
  · rw [List.getElem?_eq_none (by simp; omega), List.getElem?_eq_none (by omega)]
theorem sc_stored (op n v : Int) (hop : op = 67 ∧ n = 4 ∨ op = 78 ∧ n = 8) (hv : U64 v) : storedOf op 0 v % 2 ^ (8 * n.toNat) = v % 2 ^ (8 * n.toNat) ∧ U64 (storedOf op 0 v) := by
  refine ⟨?_, stored_range op 0 v (by decide) hv⟩
  have h1 := hv.1
  have h2 := hv.2
  rcases hop with ⟨rfl, rfl⟩ | ⟨rfl, rfl⟩
  · have e : storedOf 67 0 v = fieldOf (signOf v 32) 0 32 := rfl
    rw [e]
    unfold fieldOf signOf
    simp only [show ¬ ((0 : Int) < 0 ∨ (0 : Int) > 63 ∨ (32 : Int) < 1) by decide, show ¬ ((32 : Int) < 1 ∨ (32 : Int) > 63) by decide, if_false]
    simp only [show (32 : Int).toNat = 32 from rfl, show ((32 : Int) - 1).toNat = 31 from rfl, show (0 : Int).toNat = 0 from rfl, show (min (32 : Int) 64).toNat = 32 from rfl, show 8 * (4 : Int).toNat = 32 from rfl]
    split <;> omega
  · have e : storedOf 78 0 v = fieldOf (signOf v 64) 0 64 := rfl
    rw [e]
    unfold fieldOf signOf
    simp only [show ¬ ((0 : Int) < 0 ∨ (0 : Int) > 63 ∨ (64 : Int) < 1) by decide, show ((64 : Int) < 1 ∨ (64 : Int) > 63) by decide, if_false, if_true]
    simp only [show (0 : Int).toNat = 0 from rfl, show (min (64 : Int) 64).toNat = 64 from rfl, show 8 * (8 : Int).toNat = 64 from rfl]
    omega
/-- What the statement looks at: the step, and the load behind it. -/
theorem sc_all (op n : Int) (hop : op = 67 ∧ n = 4 ∨ op = 78 ∧ n = 8) (a v ad sz : Int) (held : Bool) (ha : 0 ≤ a) (hv : U64 v) :
    numE (scBs op).length (64 + 8 * (a % 50)) n = 0 ∧ stepOf (hS (64 + 8 * (a % 50)) v held ad sz) (scBs op) = (if held = true ∧ ad = 64 + 8 * (a % 50) ∧ sz = n then (hX (64 + 8 * (a % 50)) v 0, storeOf (scBs op) (64 + 8 * (a % 50)) n (storedOf op 0 v), 0) else (hX (64 + 8 * (a % 50)) v 1, scBs op, 0)) ∧
      loadOf (scBs op) (64 + 8 * (a % 50)) n = 0 ∧ loadOf (storeOf (scBs op) (64 + 8 * (a % 50)) n (storedOf op 0 v)) (64 + 8 * (a % 50)) n = v % 2 ^ (8 * n.toNat) := by
  have h := sc_zero op n hop ⟨(a % 50).toNat, by omega⟩
  have e : (((a % 50).toNat : Nat) : Int) = a % 50 := by omega
  simp only [e] at h
  refine ⟨h.2, sc_step op n hop _ v ad sz held h.2, h.1, ?_⟩
  rw [load_store _ _ _ _ (by omega) h.2]
  exact (sc_stored op n v hop hv).1
def hZ (Q sz : Int) (held : Bool) : HartS := ⟨0, List.replicate 32 0, held, Q, sz⟩
theorem hZ_ok (Q sz : Int) (held : Bool) (h1 : U64 Q) (h2 : I64 sz) : (hZ Q sz held).Ok := ⟨rfl, (by decide : U64 0), fun y hy => by rw [List.eq_of_mem_replicate hy]; decide, h1, h2⟩
theorem fresh_row {w W Z : World} {g q : Nat} {bs : List Int} {zc cs : Array Value} (hB : Below w.heap.size w W) (hM : MemAt W g q bs) (e : (W.alloc (.cells zc 25)).setRow W.heap.size cs = Z) : Blk Z W.heap.size cs 25 ∧ Below w.heap.size w Z ∧ MemAt Z g q bs := by
  rw [World.setRow_alloc_new] at e
  exact ⟨Blk.new_eq e, e ▸ hB.alloc hB.size _, hM.below (e ▸ ((Below.refl W.heap.size W).alloc (Nat.le_refl _) _))⟩
theorem fresh_set {w W Z : World} {b g q T : Nat} {bs : List Int} {cs : Array Value} (B : Blk W b cs T) (hB : Below w.heap.size w W) (hM : MemAt W g q bs) (hb : w.heap.size ≤ b ∧ g ≠ b ∧ q ≠ b) (i : Nat) (u : Value) (e : W.setCell ⟨b, i, none⟩ u = Z) : Blk Z b (cs.setIfInBounds i u) T ∧ Below w.heap.size w Z ∧ MemAt Z g q bs :=
  ⟨e ▸ B.set i u, e ▸ hB.setCell hb.1 u, e ▸ mem_far hM hb.2.1 hb.2.2⟩
theorem size_1000 : sizeAt 1000 = 1064 := by decide
theorem hS_ok (P v Q sz : Int) (held : Bool) (h1 : U64 P) (h2 : U64 v) (h3 : U64 Q) (h4 : I64 sz) : (hS P v held Q sz).Ok := ⟨rfl, (by decide : U64 0), fun y hy => by
  have : y = 0 ∨ y = P ∨ y = v := by
    rcases List.mem_cons.1 hy with h | h
    · exact .inl h
    rcases List.mem_cons.1 h with h | h
    · exact .inr (.inl h)
    rcases List.mem_cons.1 h with h | h
    · exact .inr (.inr h)
    · exact .inl (List.eq_of_mem_replicate h)
  rcases this with rfl | rfl | rfl
  · decide
  · exact h1
  · exact h2, h3, h4⟩
theorem hX_ok (P v R : Int) (h1 : U64 P) (h2 : U64 v) (h3 : U64 R) : (hX P v R).Ok := ⟨rfl, (by decide : U64 4), fun y hy => by
  have : y = 0 ∨ y = P ∨ y = v ∨ y = R := by
    rcases List.mem_cons.1 hy with h | h
    · exact .inl h
    rcases List.mem_cons.1 h with h | h
    · exact .inr (.inl h)
    rcases List.mem_cons.1 h with h | h
    · exact .inr (.inr (.inl h))
    rcases List.mem_cons.1 h with h | h
    · exact .inr (.inr (.inr h))
    · exact .inl (List.eq_of_mem_replicate h)
  rcases this with rfl | rfl | rfl | rfl
  · decide
  · exact h1
  · exact h2
  · exact h3, (by decide : U64 0), (by decide : I64 0)⟩
theorem wpList_store_i64 {P : Program} {ops : Array Oper} {rest : List Oper} {op : Oper} {a : Act} {w : World} {Q : Exit → Act → World → Prop} (hgd : op.guard = none) (ty : TypeId) (x y : Operand) (ho : op.op = .store ty x y)
    (b i : Nat) (v : Int) (hx : a.eval x = .pointer (some ⟨b, i, none⟩)) (hy : a.eval y = .int .i64 v) (cs : Array Value) (T : Nat) (B : Blk w b cs T) (hi : i < cs.size) (hn : (P.info? ty).map (·.size) = some 1)
    (h : wpList P ops Q rest (a.put op.dst undef) (w.setCell ⟨b, i, none⟩ (.int .i64 v))) : wpList P ops Q (op :: rest) a w := by
  refine wpList_plain hgd fun K hK => ?_
  have hc : w.cell? ⟨b, i, none⟩ = some cs[i] := (B.cell i).trans (Array.getElem?_eq_getElem hi)
  have hf := B.frozen i
  have e : (storeVar ty ⟨b, i, none⟩ (.int .i64 v)).run P w = .ok () (w.setCell ⟨b, i, none⟩ (.int .i64 v)) := by
    cases hq : P.info? ty with
    | none => simp [hq] at hn
    | some t =>
      have ht : t.size = 1 := by simpa [hq] using hn
      have h0 : ∀ j, j < [Value.int .i64 v].length → j = 0 := fun j hj => by simpa using hj
      have := run_storeCells_cells (P := P) b i [.int .i64 v] 0 w (fun j hj => by obtain rfl := h0 j hj; simp [hc]) (fun j hj => by obtain rfl := h0 j hj; simpa using hf) (fun u hu => by obtain rfl : u = .int .i64 v := (by simpa using hu); rfl)
      simp only [Nat.add_zero] at this
      simp [storeVar, sizeOf, typeInfo, hq, Value.cells, ht, this, World.setCells]
  unfold Oper.wp execOp
  simp only [ho, hx, hy, Instr.storeAt, Instr.sureAddr, Sem.run_bind, Sem.run_pure, Result.andThen_ok, e]
  exact hK _ _ h
theorem i64_info : (Try.prog.info? 3).map (·.size) = some 1 := by kernel_rfl
set_option maxHeartbeats 16000000 in
set_option maxRecDepth 100000 in
theorem holds_67_1 (a b v P Q L : Int) (bs' : List Int) (w : World) (hv : U64 v) (uP : U64 P) (uQ : U64 Q) (hA : IntKind.u64.wrap (64 + IntKind.u64.wrap (8 * a.tmod 50)) = P) (hB : IntKind.u64.wrap (64 + IntKind.u64.wrap (8 * b.tmod 50)) = Q)
    (HSt : Hid (stepOf (hS P v false Q 4) (scBs 67) = (hX P v 1, bs', 0))) (HL : Hid (loadOf bs' P 4 = L)) (HN : Hid (numE bs'.length P 4 = 0)) (h0 : L = 0) :
    Calls Try.prog 4 #[.int .u64 a, .int .u64 b, .bool false, .bool false, .int .u64 v, .bool false] w fun e w' => e = .returned (.bool true) ∧ Below w.heap.size w w' := by
  go_enter Try.func4, Try.ntmps4
  go_wp2_with fail
  generalize hX : World.alloc w _ = X
  have HB := Lib.hid (hX ▸ ((Below.refl w.heap.size w).alloc (Nat.le_refl _) _) : Below w.heap.size w X)
  have HI := Lib.hid (inst_row (l := [scI 67]) (Blk.new_eq hX))
  clear hX
  refine (laid_any 1000 _ 1 1 [scI 67] X rfl (by decide) HI.out (by decide)).mono ?_
  rintro e W1 ⟨g, q, gr, qr, rfl, M, l5, hg, hq, l4, l3, l2, l1, l0, d⟩
  have HB1 := Lib.hid (HB.out.trans (d.mono HB.out.size))
  have hq0 : w.heap.size ≤ q := Nat.le_trans HB.out.size hq
  rw [show laidTo (sizeAt 1000) [scI 67] 1 = scBs 67 by rw [size_1000]; rfl] at M
  have HM := Lib.hid M
  have hq1 : w.heap.size ≤ W1.heap.size ∧ g ≠ W1.heap.size ∧ q ≠ W1.heap.size := by have := HB1.out.size; have := M.1.lt; have := M.2.1.lt; exact ⟨by omega, by omega, by omega⟩
  clear M d hg hq HB HI l0 l1 l2 l3 l4 l5
  have hz := hZ_ok Q 4 false uQ (by decide)
  have hy := hZ_ok Q 4 false uQ (by decide)
  have hy2 := hy.set 1 P uP
  go_wp2_with (first | (refine wpList_store_row rfl 25 _ _ rfl (W1.heap.size) (hZ Q 4 false).cells rfl rfl 25 _ (Blk.new _ _ _) (hart_info.trans (congrArg some (HartS.size hz).symm)) (HartS.size hz).symm (HartS.one _) ?_; (generalize hX : World.setRow _ _ _ = Z1; obtain ⟨b1, b2, b3⟩ := fresh_row HB1.out HM.out hX; have C1 := Lib.hid b1; have C2 := Lib.hid b2; have C3 := Lib.hid b3; clear hX b1 b2 b3 HB1 HM)) |  (refine wpList_store_u64 rfl 22 _ _ rfl (W1.heap.size) (1 + 1) P rfl rfl _ _ C1.out (by rw [HartS.size hy]; omega) u64_info ?_; (generalize hX : World.setCell _ _ _ = Z2; obtain ⟨b1, b2, b3⟩ := fresh_set C1.out C2.out C3.out hq1 (1 + 1) _ hX; have b1 : Blk Z2 W1.heap.size ((hZ Q 4 false).set 1 P).cells 25 := (HartS.sx hy 1 (by decide) P) ▸ b1; have D1 := Lib.hid b1; have D2 := Lib.hid b2; have D3 := Lib.hid b3; clear hX b1 b2 b3 C1 C2 C3)) | (refine wpList_store_u64 rfl 22 _ _ rfl (W1.heap.size) (1 + 2) v rfl rfl _ _ D1.out (by rw [HartS.size hy2]; omega) u64_info ?_; (generalize hX : World.setCell _ _ _ = X1; obtain ⟨b1, b2, b3⟩ := fresh_set D1.out D2.out D3.out hq1 (1 + 2) _ hX; have b1 := (HartS.sx hy2 2 (by decide) v) ▸ b1; have HB3 := Lib.hid (show Blk X1 W1.heap.size (hS P v false Q 4).cells 25 from b1); have HB2 := Lib.hid b2; have HM1 := Lib.hid b3; clear hX b1 b2 b3 D1 D2 D3)) | (refine wpList_load_row rfl 25 _ rfl (W1.heap.size) rfl 25 _ _ _ HB3.out Try.underlying25 rfl (hart_info.trans (congrArg some (HartS.size (hS_ok P v Q 4 false uP hv uQ (by decide))).symm)) ?_))
  refine (step_any (hS P v false Q 4) g q (scBs 67) X1 (hS_ok P v Q 4 false uP hv uQ (by decide)) HM1.out).mono ?_
  rintro e W2 ⟨he, hM, hG⟩
  rw [HSt.out] at he hM
  subst he
  have HB4 := Lib.hid (below_grown HB2.out hG hq0 HB2.out.size)
  have HB5 := Lib.hid (show Blk W2 W1.heap.size _ _ from (hG.block _ HB3.out.lt (fun e => by injection e with e; omega)).trans HB3.out)
  have HM2 := Lib.hid (show MemAt W2 g q bs' from hM)
  clear hM hG HM1 HB2 HB3
  have c34 := (HB5.out.cell 34).trans (show _ = some (.int .u64 Q) from rfl)
  have hxk := hX_ok P v 1 uP hv (by decide)
  go_wp2_with (refine wpList_store_row rfl 25 _ _ rfl (W2.heap.size) (hX P v 1).cells rfl rfl 25 _ (Blk.new _ _ _) (hart_info.trans (congrArg some (HartS.size hxk).symm)) (HartS.size hxk).symm (HartS.one _) ?_; (generalize hZ : World.setRow _ _ _ = Z; rw [World.setRow_alloc_new] at hZ; have B := Blk.new_eq hZ; have HB6 := Lib.hid (hZ ▸ HB4.out.alloc HB4.out.size _ : Below w.heap.size w Z); have HB7 := Lib.hid (HB5.out.alloc_eq hZ); have HM3 := Lib.hid (HM2.out.below (hZ ▸ ((Below.refl W2.heap.size W2).alloc (Nat.le_refl _) _))); have HB8 := Lib.hid B; have d34 := (HB7.out.cell 34).trans (show _ = some (.int .u64 Q) from rfl); clear hZ B HB4 HB5 HM2 c34))
  refine (Load_any _ g q bs' P 4 HM3.out uP (by decide)).mono ?_
  rintro e W3 ⟨rfl, rfl⟩
  rw [HL.out, HN.out]
  have e3 := (HB8.out.cell 4).trans (show _ = some (.int .u64 1) from rfl)
  have e4 := (HB8.out.cell 33).trans (show _ = some (.bool false) from rfl)
  have e5 := (HB8.out.cell 34).trans (show _ = some (.int .u64 0) from rfl)
  have e6 := (HB8.out.cell 35).trans (show _ = some (.int .i64 0) from rfl)
  go_wp2_with fail
  refine (c_lives _).mono ?_
  rintro e W4 ⟨rfl, hd⟩
  have HB9 := Lib.hid (HB6.out.trans (hd.mono HB6.out.size))
  clear hd
  go_wp2_with fail
  go_ret
  exact ⟨rfl, HB9.out⟩
set_option maxHeartbeats 16000000 in
set_option maxRecDepth 100000 in
theorem holds_67_2 (a b v P Q L : Int) (bs' : List Int) (w : World) (hv : U64 v) (uP : U64 P) (uQ : U64 Q) (hA : IntKind.u64.wrap (64 + IntKind.u64.wrap (8 * a.tmod 50)) = P) (hB : IntKind.u64.wrap (64 + IntKind.u64.wrap (8 * b.tmod 50)) = Q)
    (HSt : Hid (stepOf (hS P v false Q 8) (scBs 67) = (hX P v 1, bs', 0))) (HL : Hid (loadOf bs' P 4 = L)) (HN : Hid (numE bs'.length P 4 = 0)) (h0 : L = 0) :
    Calls Try.prog 4 #[.int .u64 a, .int .u64 b, .bool false, .bool true, .int .u64 v, .bool false] w fun e w' => e = .returned (.bool true) ∧ Below w.heap.size w w' := by
  go_enter Try.func4, Try.ntmps4
  go_wp2_with fail
  generalize hX : World.alloc w _ = X
  have HB := Lib.hid (hX ▸ ((Below.refl w.heap.size w).alloc (Nat.le_refl _) _) : Below w.heap.size w X)
  have HI := Lib.hid (inst_row (l := [scI 67]) (Blk.new_eq hX))
  clear hX
  refine (laid_any 1000 _ 1 1 [scI 67] X rfl (by decide) HI.out (by decide)).mono ?_
  rintro e W1 ⟨g, q, gr, qr, rfl, M, l5, hg, hq, l4, l3, l2, l1, l0, d⟩
  have HB1 := Lib.hid (HB.out.trans (d.mono HB.out.size))
  have hq0 : w.heap.size ≤ q := Nat.le_trans HB.out.size hq
  rw [show laidTo (sizeAt 1000) [scI 67] 1 = scBs 67 by rw [size_1000]; rfl] at M
  have HM := Lib.hid M
  have hq1 : w.heap.size ≤ W1.heap.size ∧ g ≠ W1.heap.size ∧ q ≠ W1.heap.size := by have := HB1.out.size; have := M.1.lt; have := M.2.1.lt; exact ⟨by omega, by omega, by omega⟩
  clear M d hg hq HB HI l0 l1 l2 l3 l4 l5
  have hz := hZ_ok Q 4 false uQ (by decide)
  have hy := hZ_ok Q 8 false uQ (by decide)
  have hy2 := hy.set 1 P uP
  go_wp2_with (first | (refine wpList_store_row rfl 25 _ _ rfl (W1.heap.size) (hZ Q 4 false).cells rfl rfl 25 _ (Blk.new _ _ _) (hart_info.trans (congrArg some (HartS.size hz).symm)) (HartS.size hz).symm (HartS.one _) ?_; (generalize hX : World.setRow _ _ _ = Z1; obtain ⟨b1, b2, b3⟩ := fresh_row HB1.out HM.out hX; have C1 := Lib.hid b1; have C2 := Lib.hid b2; have C3 := Lib.hid b3; clear hX b1 b2 b3 HB1 HM)) | (refine wpList_store_i64 rfl 3 _ _ rfl (W1.heap.size) 35 (8) rfl rfl _ _ C1.out (by rw [HartS.size hz]; omega) i64_info ?_; (generalize hX : World.setCell _ _ _ = Z3; obtain ⟨b1, b2, b3⟩ := fresh_set C1.out C2.out C3.out hq1 35 _ hX; have b1 : Blk Z3 W1.heap.size (hZ Q 8 false).cells 25 := (HartS.s35 hz.1 8) ▸ b1; have E1 := Lib.hid b1; have E2 := Lib.hid b2; have E3 := Lib.hid b3; clear hX b1 b2 b3 C1 C2 C3)) |  (refine wpList_store_u64 rfl 22 _ _ rfl (W1.heap.size) (1 + 1) P rfl rfl _ _ E1.out (by rw [HartS.size hy]; omega) u64_info ?_; (generalize hX : World.setCell _ _ _ = Z2; obtain ⟨b1, b2, b3⟩ := fresh_set E1.out E2.out E3.out hq1 (1 + 1) _ hX; have b1 : Blk Z2 W1.heap.size ((hZ Q 8 false).set 1 P).cells 25 := (HartS.sx hy 1 (by decide) P) ▸ b1; have D1 := Lib.hid b1; have D2 := Lib.hid b2; have D3 := Lib.hid b3; clear hX b1 b2 b3 E1 E2 E3)) | (refine wpList_store_u64 rfl 22 _ _ rfl (W1.heap.size) (1 + 2) v rfl rfl _ _ D1.out (by rw [HartS.size hy2]; omega) u64_info ?_; (generalize hX : World.setCell _ _ _ = X1; obtain ⟨b1, b2, b3⟩ := fresh_set D1.out D2.out D3.out hq1 (1 + 2) _ hX; have b1 := (HartS.sx hy2 2 (by decide) v) ▸ b1; have HB3 := Lib.hid (show Blk X1 W1.heap.size (hS P v false Q 8).cells 25 from b1); have HB2 := Lib.hid b2; have HM1 := Lib.hid b3; clear hX b1 b2 b3 D1 D2 D3)) | (refine wpList_load_row rfl 25 _ rfl (W1.heap.size) rfl 25 _ _ _ HB3.out Try.underlying25 rfl (hart_info.trans (congrArg some (HartS.size (hS_ok P v Q 8 false uP hv uQ (by decide))).symm)) ?_))
  refine (step_any (hS P v false Q 8) g q (scBs 67) X1 (hS_ok P v Q 8 false uP hv uQ (by decide)) HM1.out).mono ?_
  rintro e W2 ⟨he, hM, hG⟩
  rw [HSt.out] at he hM
  subst he
  have HB4 := Lib.hid (below_grown HB2.out hG hq0 HB2.out.size)
  have HB5 := Lib.hid (show Blk W2 W1.heap.size _ _ from (hG.block _ HB3.out.lt (fun e => by injection e with e; omega)).trans HB3.out)
  have HM2 := Lib.hid (show MemAt W2 g q bs' from hM)
  clear hM hG HM1 HB2 HB3
  have c34 := (HB5.out.cell 34).trans (show _ = some (.int .u64 Q) from rfl)
  have hxk := hX_ok P v 1 uP hv (by decide)
  go_wp2_with (refine wpList_store_row rfl 25 _ _ rfl (W2.heap.size) (hX P v 1).cells rfl rfl 25 _ (Blk.new _ _ _) (hart_info.trans (congrArg some (HartS.size hxk).symm)) (HartS.size hxk).symm (HartS.one _) ?_; (generalize hZ : World.setRow _ _ _ = Z; rw [World.setRow_alloc_new] at hZ; have B := Blk.new_eq hZ; have HB6 := Lib.hid (hZ ▸ HB4.out.alloc HB4.out.size _ : Below w.heap.size w Z); have HB7 := Lib.hid (HB5.out.alloc_eq hZ); have HM3 := Lib.hid (HM2.out.below (hZ ▸ ((Below.refl W2.heap.size W2).alloc (Nat.le_refl _) _))); have HB8 := Lib.hid B; have d34 := (HB7.out.cell 34).trans (show _ = some (.int .u64 Q) from rfl); clear hZ B HB4 HB5 HM2 c34))
  refine (Load_any _ g q bs' P 4 HM3.out uP (by decide)).mono ?_
  rintro e W3 ⟨rfl, rfl⟩
  rw [HL.out, HN.out]
  have e3 := (HB8.out.cell 4).trans (show _ = some (.int .u64 1) from rfl)
  have e4 := (HB8.out.cell 33).trans (show _ = some (.bool false) from rfl)
  have e5 := (HB8.out.cell 34).trans (show _ = some (.int .u64 0) from rfl)
  have e6 := (HB8.out.cell 35).trans (show _ = some (.int .i64 0) from rfl)
  go_wp2_with fail
  refine (c_lives _).mono ?_
  rintro e W4 ⟨rfl, hd⟩
  have HB9 := Lib.hid (HB6.out.trans (hd.mono HB6.out.size))
  clear hd
  go_wp2_with fail
  go_ret
  exact ⟨rfl, HB9.out⟩
set_option maxHeartbeats 16000000 in
set_option maxRecDepth 100000 in
theorem holds_67_3 (a b v P Q L : Int) (bs' : List Int) (w : World) (hv : U64 v) (uP : U64 P) (uQ : U64 Q) (hA : IntKind.u64.wrap (64 + IntKind.u64.wrap (8 * a.tmod 50)) = P) (hB : IntKind.u64.wrap (64 + IntKind.u64.wrap (8 * b.tmod 50)) = Q)
    (HSt : Hid (stepOf (hS P v true Q 4) (scBs 67) = (hX P v 1, bs', 0))) (HL : Hid (loadOf bs' P 4 = L)) (HN : Hid (numE bs'.length P 4 = 0)) (hq : (Q == P) = false) (h0 : L = 0) :
    Calls Try.prog 4 #[.int .u64 a, .int .u64 b, .bool false, .bool false, .int .u64 v, .bool true] w fun e w' => e = .returned (.bool true) ∧ Below w.heap.size w w' := by
  go_enter Try.func4, Try.ntmps4
  go_wp2_with fail
  generalize hX : World.alloc w _ = X
  have HB := Lib.hid (hX ▸ ((Below.refl w.heap.size w).alloc (Nat.le_refl _) _) : Below w.heap.size w X)
  have HI := Lib.hid (inst_row (l := [scI 67]) (Blk.new_eq hX))
  clear hX
  refine (laid_any 1000 _ 1 1 [scI 67] X rfl (by decide) HI.out (by decide)).mono ?_
  rintro e W1 ⟨g, q, gr, qr, rfl, M, l5, hg, hq, l4, l3, l2, l1, l0, d⟩
  have HB1 := Lib.hid (HB.out.trans (d.mono HB.out.size))
  have hq0 : w.heap.size ≤ q := Nat.le_trans HB.out.size hq
  rw [show laidTo (sizeAt 1000) [scI 67] 1 = scBs 67 by rw [size_1000]; rfl] at M
  have HM := Lib.hid M
  have hq1 : w.heap.size ≤ W1.heap.size ∧ g ≠ W1.heap.size ∧ q ≠ W1.heap.size := by have := HB1.out.size; have := M.1.lt; have := M.2.1.lt; exact ⟨by omega, by omega, by omega⟩
  clear M d hg hq HB HI l0 l1 l2 l3 l4 l5
  have hz := hZ_ok Q 4 true uQ (by decide)
  have hy := hZ_ok Q 4 true uQ (by decide)
  have hy2 := hy.set 1 P uP
  go_wp2_with (first | (refine wpList_store_row rfl 25 _ _ rfl (W1.heap.size) (hZ Q 4 true).cells rfl rfl 25 _ (Blk.new _ _ _) (hart_info.trans (congrArg some (HartS.size hz).symm)) (HartS.size hz).symm (HartS.one _) ?_; (generalize hX : World.setRow _ _ _ = Z1; obtain ⟨b1, b2, b3⟩ := fresh_row HB1.out HM.out hX; have C1 := Lib.hid b1; have C2 := Lib.hid b2; have C3 := Lib.hid b3; clear hX b1 b2 b3 HB1 HM)) |  (refine wpList_store_u64 rfl 22 _ _ rfl (W1.heap.size) (1 + 1) P rfl rfl _ _ C1.out (by rw [HartS.size hy]; omega) u64_info ?_; (generalize hX : World.setCell _ _ _ = Z2; obtain ⟨b1, b2, b3⟩ := fresh_set C1.out C2.out C3.out hq1 (1 + 1) _ hX; have b1 : Blk Z2 W1.heap.size ((hZ Q 4 true).set 1 P).cells 25 := (HartS.sx hy 1 (by decide) P) ▸ b1; have D1 := Lib.hid b1; have D2 := Lib.hid b2; have D3 := Lib.hid b3; clear hX b1 b2 b3 C1 C2 C3)) | (refine wpList_store_u64 rfl 22 _ _ rfl (W1.heap.size) (1 + 2) v rfl rfl _ _ D1.out (by rw [HartS.size hy2]; omega) u64_info ?_; (generalize hX : World.setCell _ _ _ = X1; obtain ⟨b1, b2, b3⟩ := fresh_set D1.out D2.out D3.out hq1 (1 + 2) _ hX; have b1 := (HartS.sx hy2 2 (by decide) v) ▸ b1; have HB3 := Lib.hid (show Blk X1 W1.heap.size (hS P v true Q 4).cells 25 from b1); have HB2 := Lib.hid b2; have HM1 := Lib.hid b3; clear hX b1 b2 b3 D1 D2 D3)) | (refine wpList_load_row rfl 25 _ rfl (W1.heap.size) rfl 25 _ _ _ HB3.out Try.underlying25 rfl (hart_info.trans (congrArg some (HartS.size (hS_ok P v Q 4 true uP hv uQ (by decide))).symm)) ?_))
  refine (step_any (hS P v true Q 4) g q (scBs 67) X1 (hS_ok P v Q 4 true uP hv uQ (by decide)) HM1.out).mono ?_
  rintro e W2 ⟨he, hM, hG⟩
  rw [HSt.out] at he hM
  subst he
  have HB4 := Lib.hid (below_grown HB2.out hG hq0 HB2.out.size)
  have HB5 := Lib.hid (show Blk W2 W1.heap.size _ _ from (hG.block _ HB3.out.lt (fun e => by injection e with e; omega)).trans HB3.out)
  have HM2 := Lib.hid (show MemAt W2 g q bs' from hM)
  clear hM hG HM1 HB2 HB3
  have c34 := (HB5.out.cell 34).trans (show _ = some (.int .u64 Q) from rfl)
  have hxk := hX_ok P v 1 uP hv (by decide)
  go_wp2_with (refine wpList_store_row rfl 25 _ _ rfl (W2.heap.size) (hX P v 1).cells rfl rfl 25 _ (Blk.new _ _ _) (hart_info.trans (congrArg some (HartS.size hxk).symm)) (HartS.size hxk).symm (HartS.one _) ?_; (generalize hZ : World.setRow _ _ _ = Z; rw [World.setRow_alloc_new] at hZ; have B := Blk.new_eq hZ; have HB6 := Lib.hid (hZ ▸ HB4.out.alloc HB4.out.size _ : Below w.heap.size w Z); have HB7 := Lib.hid (HB5.out.alloc_eq hZ); have HM3 := Lib.hid (HM2.out.below (hZ ▸ ((Below.refl W2.heap.size W2).alloc (Nat.le_refl _) _))); have HB8 := Lib.hid B; have d34 := (HB7.out.cell 34).trans (show _ = some (.int .u64 Q) from rfl); clear hZ B HB4 HB5 HM2 c34))
  refine (Load_any _ g q bs' P 4 HM3.out uP (by decide)).mono ?_
  rintro e W3 ⟨rfl, rfl⟩
  rw [HL.out, HN.out]
  have e3 := (HB8.out.cell 4).trans (show _ = some (.int .u64 1) from rfl)
  have e4 := (HB8.out.cell 33).trans (show _ = some (.bool false) from rfl)
  have e5 := (HB8.out.cell 34).trans (show _ = some (.int .u64 0) from rfl)
  have e6 := (HB8.out.cell 35).trans (show _ = some (.int .i64 0) from rfl)
  go_wp2_with fail
  refine (c_lives _).mono ?_
  rintro e W4 ⟨rfl, hd⟩
  have HB9 := Lib.hid (HB6.out.trans (hd.mono HB6.out.size))
  clear hd
  go_wp2_with fail
  go_ret
  exact ⟨rfl, HB9.out⟩
set_option maxHeartbeats 16000000 in
set_option maxRecDepth 100000 in
theorem holds_67_4 (a b v P Q L : Int) (bs' : List Int) (w : World) (hv : U64 v) (uP : U64 P) (uQ : U64 Q) (hA : IntKind.u64.wrap (64 + IntKind.u64.wrap (8 * a.tmod 50)) = P) (hB : IntKind.u64.wrap (64 + IntKind.u64.wrap (8 * b.tmod 50)) = Q)
    (HSt : Hid (stepOf (hS P v true Q 8) (scBs 67) = (hX P v 1, bs', 0))) (HL : Hid (loadOf bs' P 4 = L)) (HN : Hid (numE bs'.length P 4 = 0)) (hq : (Q == P) = false) (h0 : L = 0) :
    Calls Try.prog 4 #[.int .u64 a, .int .u64 b, .bool false, .bool true, .int .u64 v, .bool true] w fun e w' => e = .returned (.bool true) ∧ Below w.heap.size w w' := by
  go_enter Try.func4, Try.ntmps4
  go_wp2_with fail
  generalize hX : World.alloc w _ = X
  have HB := Lib.hid (hX ▸ ((Below.refl w.heap.size w).alloc (Nat.le_refl _) _) : Below w.heap.size w X)
  have HI := Lib.hid (inst_row (l := [scI 67]) (Blk.new_eq hX))
  clear hX
  refine (laid_any 1000 _ 1 1 [scI 67] X rfl (by decide) HI.out (by decide)).mono ?_
  rintro e W1 ⟨g, q, gr, qr, rfl, M, l5, hg, hq, l4, l3, l2, l1, l0, d⟩
  have HB1 := Lib.hid (HB.out.trans (d.mono HB.out.size))
  have hq0 : w.heap.size ≤ q := Nat.le_trans HB.out.size hq
  rw [show laidTo (sizeAt 1000) [scI 67] 1 = scBs 67 by rw [size_1000]; rfl] at M
  have HM := Lib.hid M
  have hq1 : w.heap.size ≤ W1.heap.size ∧ g ≠ W1.heap.size ∧ q ≠ W1.heap.size := by have := HB1.out.size; have := M.1.lt; have := M.2.1.lt; exact ⟨by omega, by omega, by omega⟩
  clear M d hg hq HB HI l0 l1 l2 l3 l4 l5
  have hz := hZ_ok Q 4 true uQ (by decide)
  have hy := hZ_ok Q 8 true uQ (by decide)
  have hy2 := hy.set 1 P uP
  go_wp2_with (first | (refine wpList_store_row rfl 25 _ _ rfl (W1.heap.size) (hZ Q 4 true).cells rfl rfl 25 _ (Blk.new _ _ _) (hart_info.trans (congrArg some (HartS.size hz).symm)) (HartS.size hz).symm (HartS.one _) ?_; (generalize hX : World.setRow _ _ _ = Z1; obtain ⟨b1, b2, b3⟩ := fresh_row HB1.out HM.out hX; have C1 := Lib.hid b1; have C2 := Lib.hid b2; have C3 := Lib.hid b3; clear hX b1 b2 b3 HB1 HM)) | (refine wpList_store_i64 rfl 3 _ _ rfl (W1.heap.size) 35 (8) rfl rfl _ _ C1.out (by rw [HartS.size hz]; omega) i64_info ?_; (generalize hX : World.setCell _ _ _ = Z3; obtain ⟨b1, b2, b3⟩ := fresh_set C1.out C2.out C3.out hq1 35 _ hX; have b1 : Blk Z3 W1.heap.size (hZ Q 8 true).cells 25 := (HartS.s35 hz.1 8) ▸ b1; have E1 := Lib.hid b1; have E2 := Lib.hid b2; have E3 := Lib.hid b3; clear hX b1 b2 b3 C1 C2 C3)) |  (refine wpList_store_u64 rfl 22 _ _ rfl (W1.heap.size) (1 + 1) P rfl rfl _ _ E1.out (by rw [HartS.size hy]; omega) u64_info ?_; (generalize hX : World.setCell _ _ _ = Z2; obtain ⟨b1, b2, b3⟩ := fresh_set E1.out E2.out E3.out hq1 (1 + 1) _ hX; have b1 : Blk Z2 W1.heap.size ((hZ Q 8 true).set 1 P).cells 25 := (HartS.sx hy 1 (by decide) P) ▸ b1; have D1 := Lib.hid b1; have D2 := Lib.hid b2; have D3 := Lib.hid b3; clear hX b1 b2 b3 E1 E2 E3)) | (refine wpList_store_u64 rfl 22 _ _ rfl (W1.heap.size) (1 + 2) v rfl rfl _ _ D1.out (by rw [HartS.size hy2]; omega) u64_info ?_; (generalize hX : World.setCell _ _ _ = X1; obtain ⟨b1, b2, b3⟩ := fresh_set D1.out D2.out D3.out hq1 (1 + 2) _ hX; have b1 := (HartS.sx hy2 2 (by decide) v) ▸ b1; have HB3 := Lib.hid (show Blk X1 W1.heap.size (hS P v true Q 8).cells 25 from b1); have HB2 := Lib.hid b2; have HM1 := Lib.hid b3; clear hX b1 b2 b3 D1 D2 D3)) | (refine wpList_load_row rfl 25 _ rfl (W1.heap.size) rfl 25 _ _ _ HB3.out Try.underlying25 rfl (hart_info.trans (congrArg some (HartS.size (hS_ok P v Q 8 true uP hv uQ (by decide))).symm)) ?_))
  refine (step_any (hS P v true Q 8) g q (scBs 67) X1 (hS_ok P v Q 8 true uP hv uQ (by decide)) HM1.out).mono ?_
  rintro e W2 ⟨he, hM, hG⟩
  rw [HSt.out] at he hM
  subst he
  have HB4 := Lib.hid (below_grown HB2.out hG hq0 HB2.out.size)
  have HB5 := Lib.hid (show Blk W2 W1.heap.size _ _ from (hG.block _ HB3.out.lt (fun e => by injection e with e; omega)).trans HB3.out)
  have HM2 := Lib.hid (show MemAt W2 g q bs' from hM)
  clear hM hG HM1 HB2 HB3
  have c34 := (HB5.out.cell 34).trans (show _ = some (.int .u64 Q) from rfl)
  have hxk := hX_ok P v 1 uP hv (by decide)
  go_wp2_with (refine wpList_store_row rfl 25 _ _ rfl (W2.heap.size) (hX P v 1).cells rfl rfl 25 _ (Blk.new _ _ _) (hart_info.trans (congrArg some (HartS.size hxk).symm)) (HartS.size hxk).symm (HartS.one _) ?_; (generalize hZ : World.setRow _ _ _ = Z; rw [World.setRow_alloc_new] at hZ; have B := Blk.new_eq hZ; have HB6 := Lib.hid (hZ ▸ HB4.out.alloc HB4.out.size _ : Below w.heap.size w Z); have HB7 := Lib.hid (HB5.out.alloc_eq hZ); have HM3 := Lib.hid (HM2.out.below (hZ ▸ ((Below.refl W2.heap.size W2).alloc (Nat.le_refl _) _))); have HB8 := Lib.hid B; have d34 := (HB7.out.cell 34).trans (show _ = some (.int .u64 Q) from rfl); clear hZ B HB4 HB5 HM2 c34))
  refine (Load_any _ g q bs' P 4 HM3.out uP (by decide)).mono ?_
  rintro e W3 ⟨rfl, rfl⟩
  rw [HL.out, HN.out]
  have e3 := (HB8.out.cell 4).trans (show _ = some (.int .u64 1) from rfl)
  have e4 := (HB8.out.cell 33).trans (show _ = some (.bool false) from rfl)
  have e5 := (HB8.out.cell 34).trans (show _ = some (.int .u64 0) from rfl)
  have e6 := (HB8.out.cell 35).trans (show _ = some (.int .i64 0) from rfl)
  go_wp2_with fail
  refine (c_lives _).mono ?_
  rintro e W4 ⟨rfl, hd⟩
  have HB9 := Lib.hid (HB6.out.trans (hd.mono HB6.out.size))
  clear hd
  go_wp2_with fail
  go_ret
  exact ⟨rfl, HB9.out⟩
set_option maxHeartbeats 16000000 in
set_option maxRecDepth 100000 in
theorem holds_67_5 (a b v P Q L : Int) (bs' : List Int) (w : World) (hv : U64 v) (uP : U64 P) (uQ : U64 Q) (hA : IntKind.u64.wrap (64 + IntKind.u64.wrap (8 * a.tmod 50)) = P) (hB : IntKind.u64.wrap (64 + IntKind.u64.wrap (8 * b.tmod 50)) = Q)
    (HSt : Hid (stepOf (hS P v true Q 8) (scBs 67) = (hX P v 1, bs', 0))) (HL : Hid (loadOf bs' P 4 = L)) (HN : Hid (numE bs'.length P 4 = 0)) (hq : (Q == P) = true) (h0 : L = 0) :
    Calls Try.prog 4 #[.int .u64 a, .int .u64 b, .bool false, .bool true, .int .u64 v, .bool true] w fun e w' => e = .returned (.bool true) ∧ Below w.heap.size w w' := by
  go_enter Try.func4, Try.ntmps4
  go_wp2_with fail
  generalize hX : World.alloc w _ = X
  have HB := Lib.hid (hX ▸ ((Below.refl w.heap.size w).alloc (Nat.le_refl _) _) : Below w.heap.size w X)
  have HI := Lib.hid (inst_row (l := [scI 67]) (Blk.new_eq hX))
  clear hX
  refine (laid_any 1000 _ 1 1 [scI 67] X rfl (by decide) HI.out (by decide)).mono ?_
  rintro e W1 ⟨g, q, gr, qr, rfl, M, l5, hg, hq, l4, l3, l2, l1, l0, d⟩
  have HB1 := Lib.hid (HB.out.trans (d.mono HB.out.size))
  have hq0 : w.heap.size ≤ q := Nat.le_trans HB.out.size hq
  rw [show laidTo (sizeAt 1000) [scI 67] 1 = scBs 67 by rw [size_1000]; rfl] at M
  have HM := Lib.hid M
  have hq1 : w.heap.size ≤ W1.heap.size ∧ g ≠ W1.heap.size ∧ q ≠ W1.heap.size := by have := HB1.out.size; have := M.1.lt; have := M.2.1.lt; exact ⟨by omega, by omega, by omega⟩
  clear M d hg hq HB HI l0 l1 l2 l3 l4 l5
  have hz := hZ_ok Q 4 true uQ (by decide)
  have hy := hZ_ok Q 8 true uQ (by decide)
  have hy2 := hy.set 1 P uP
  go_wp2_with (first | (refine wpList_store_row rfl 25 _ _ rfl (W1.heap.size) (hZ Q 4 true).cells rfl rfl 25 _ (Blk.new _ _ _) (hart_info.trans (congrArg some (HartS.size hz).symm)) (HartS.size hz).symm (HartS.one _) ?_; (generalize hX : World.setRow _ _ _ = Z1; obtain ⟨b1, b2, b3⟩ := fresh_row HB1.out HM.out hX; have C1 := Lib.hid b1; have C2 := Lib.hid b2; have C3 := Lib.hid b3; clear hX b1 b2 b3 HB1 HM)) | (refine wpList_store_i64 rfl 3 _ _ rfl (W1.heap.size) 35 (8) rfl rfl _ _ C1.out (by rw [HartS.size hz]; omega) i64_info ?_; (generalize hX : World.setCell _ _ _ = Z3; obtain ⟨b1, b2, b3⟩ := fresh_set C1.out C2.out C3.out hq1 35 _ hX; have b1 : Blk Z3 W1.heap.size (hZ Q 8 true).cells 25 := (HartS.s35 hz.1 8) ▸ b1; have E1 := Lib.hid b1; have E2 := Lib.hid b2; have E3 := Lib.hid b3; clear hX b1 b2 b3 C1 C2 C3)) |  (refine wpList_store_u64 rfl 22 _ _ rfl (W1.heap.size) (1 + 1) P rfl rfl _ _ E1.out (by rw [HartS.size hy]; omega) u64_info ?_; (generalize hX : World.setCell _ _ _ = Z2; obtain ⟨b1, b2, b3⟩ := fresh_set E1.out E2.out E3.out hq1 (1 + 1) _ hX; have b1 : Blk Z2 W1.heap.size ((hZ Q 8 true).set 1 P).cells 25 := (HartS.sx hy 1 (by decide) P) ▸ b1; have D1 := Lib.hid b1; have D2 := Lib.hid b2; have D3 := Lib.hid b3; clear hX b1 b2 b3 E1 E2 E3)) | (refine wpList_store_u64 rfl 22 _ _ rfl (W1.heap.size) (1 + 2) v rfl rfl _ _ D1.out (by rw [HartS.size hy2]; omega) u64_info ?_; (generalize hX : World.setCell _ _ _ = X1; obtain ⟨b1, b2, b3⟩ := fresh_set D1.out D2.out D3.out hq1 (1 + 2) _ hX; have b1 := (HartS.sx hy2 2 (by decide) v) ▸ b1; have HB3 := Lib.hid (show Blk X1 W1.heap.size (hS P v true Q 8).cells 25 from b1); have HB2 := Lib.hid b2; have HM1 := Lib.hid b3; clear hX b1 b2 b3 D1 D2 D3)) | (refine wpList_load_row rfl 25 _ rfl (W1.heap.size) rfl 25 _ _ _ HB3.out Try.underlying25 rfl (hart_info.trans (congrArg some (HartS.size (hS_ok P v Q 8 true uP hv uQ (by decide))).symm)) ?_))
  refine (step_any (hS P v true Q 8) g q (scBs 67) X1 (hS_ok P v Q 8 true uP hv uQ (by decide)) HM1.out).mono ?_
  rintro e W2 ⟨he, hM, hG⟩
  rw [HSt.out] at he hM
  subst he
  have HB4 := Lib.hid (below_grown HB2.out hG hq0 HB2.out.size)
  have HB5 := Lib.hid (show Blk W2 W1.heap.size _ _ from (hG.block _ HB3.out.lt (fun e => by injection e with e; omega)).trans HB3.out)
  have HM2 := Lib.hid (show MemAt W2 g q bs' from hM)
  clear hM hG HM1 HB2 HB3
  have c34 := (HB5.out.cell 34).trans (show _ = some (.int .u64 Q) from rfl)
  have hxk := hX_ok P v 1 uP hv (by decide)
  go_wp2_with (refine wpList_store_row rfl 25 _ _ rfl (W2.heap.size) (hX P v 1).cells rfl rfl 25 _ (Blk.new _ _ _) (hart_info.trans (congrArg some (HartS.size hxk).symm)) (HartS.size hxk).symm (HartS.one _) ?_; (generalize hZ : World.setRow _ _ _ = Z; rw [World.setRow_alloc_new] at hZ; have B := Blk.new_eq hZ; have HB6 := Lib.hid (hZ ▸ HB4.out.alloc HB4.out.size _ : Below w.heap.size w Z); have HB7 := Lib.hid (HB5.out.alloc_eq hZ); have HM3 := Lib.hid (HM2.out.below (hZ ▸ ((Below.refl W2.heap.size W2).alloc (Nat.le_refl _) _))); have HB8 := Lib.hid B; have d34 := (HB7.out.cell 34).trans (show _ = some (.int .u64 Q) from rfl); clear hZ B HB4 HB5 HM2 c34))
  refine (Load_any _ g q bs' P 4 HM3.out uP (by decide)).mono ?_
  rintro e W3 ⟨rfl, rfl⟩
  rw [HL.out, HN.out]
  have e3 := (HB8.out.cell 4).trans (show _ = some (.int .u64 1) from rfl)
  have e4 := (HB8.out.cell 33).trans (show _ = some (.bool false) from rfl)
  have e5 := (HB8.out.cell 34).trans (show _ = some (.int .u64 0) from rfl)
  have e6 := (HB8.out.cell 35).trans (show _ = some (.int .i64 0) from rfl)
  go_wp2_with fail
  refine (c_lives _).mono ?_
  rintro e W4 ⟨rfl, hd⟩
  have HB9 := Lib.hid (HB6.out.trans (hd.mono HB6.out.size))
  clear hd
  go_wp2_with fail
  go_ret
  exact ⟨rfl, HB9.out⟩
set_option maxHeartbeats 16000000 in
set_option maxRecDepth 100000 in
theorem holds_67_6 (a b v P Q L : Int) (bs' : List Int) (w : World) (hv : U64 v) (uP : U64 P) (uQ : U64 Q) (hA : IntKind.u64.wrap (64 + IntKind.u64.wrap (8 * a.tmod 50)) = P) (hB : IntKind.u64.wrap (64 + IntKind.u64.wrap (8 * b.tmod 50)) = Q)
    (HSt : Hid (stepOf (hS P v true Q 4) (scBs 67) = (hX P v 0, bs', 0))) (HL : Hid (loadOf bs' P 4 = L)) (HN : Hid (numE bs'.length P 4 = 0)) (hq : (Q == P) = true) (hm : Go.bits .and .u64 v 4294967295 = L) :
    Calls Try.prog 4 #[.int .u64 a, .int .u64 b, .bool false, .bool false, .int .u64 v, .bool true] w fun e w' => e = .returned (.bool true) ∧ Below w.heap.size w w' := by
  go_enter Try.func4, Try.ntmps4
  go_wp2_with fail
  generalize hX : World.alloc w _ = X
  have HB := Lib.hid (hX ▸ ((Below.refl w.heap.size w).alloc (Nat.le_refl _) _) : Below w.heap.size w X)
  have HI := Lib.hid (inst_row (l := [scI 67]) (Blk.new_eq hX))
  clear hX
  refine (laid_any 1000 _ 1 1 [scI 67] X rfl (by decide) HI.out (by decide)).mono ?_
  rintro e W1 ⟨g, q, gr, qr, rfl, M, l5, hg, hq, l4, l3, l2, l1, l0, d⟩
  have HB1 := Lib.hid (HB.out.trans (d.mono HB.out.size))
  have hq0 : w.heap.size ≤ q := Nat.le_trans HB.out.size hq
  rw [show laidTo (sizeAt 1000) [scI 67] 1 = scBs 67 by rw [size_1000]; rfl] at M
  have HM := Lib.hid M
  have hq1 : w.heap.size ≤ W1.heap.size ∧ g ≠ W1.heap.size ∧ q ≠ W1.heap.size := by have := HB1.out.size; have := M.1.lt; have := M.2.1.lt; exact ⟨by omega, by omega, by omega⟩
  clear M d hg hq HB HI l0 l1 l2 l3 l4 l5
  have hz := hZ_ok Q 4 true uQ (by decide)
  have hy := hZ_ok Q 4 true uQ (by decide)
  have hy2 := hy.set 1 P uP
  go_wp2_with (first | (refine wpList_store_row rfl 25 _ _ rfl (W1.heap.size) (hZ Q 4 true).cells rfl rfl 25 _ (Blk.new _ _ _) (hart_info.trans (congrArg some (HartS.size hz).symm)) (HartS.size hz).symm (HartS.one _) ?_; (generalize hX : World.setRow _ _ _ = Z1; obtain ⟨b1, b2, b3⟩ := fresh_row HB1.out HM.out hX; have C1 := Lib.hid b1; have C2 := Lib.hid b2; have C3 := Lib.hid b3; clear hX b1 b2 b3 HB1 HM)) |  (refine wpList_store_u64 rfl 22 _ _ rfl (W1.heap.size) (1 + 1) P rfl rfl _ _ C1.out (by rw [HartS.size hy]; omega) u64_info ?_; (generalize hX : World.setCell _ _ _ = Z2; obtain ⟨b1, b2, b3⟩ := fresh_set C1.out C2.out C3.out hq1 (1 + 1) _ hX; have b1 : Blk Z2 W1.heap.size ((hZ Q 4 true).set 1 P).cells 25 := (HartS.sx hy 1 (by decide) P) ▸ b1; have D1 := Lib.hid b1; have D2 := Lib.hid b2; have D3 := Lib.hid b3; clear hX b1 b2 b3 C1 C2 C3)) | (refine wpList_store_u64 rfl 22 _ _ rfl (W1.heap.size) (1 + 2) v rfl rfl _ _ D1.out (by rw [HartS.size hy2]; omega) u64_info ?_; (generalize hX : World.setCell _ _ _ = X1; obtain ⟨b1, b2, b3⟩ := fresh_set D1.out D2.out D3.out hq1 (1 + 2) _ hX; have b1 := (HartS.sx hy2 2 (by decide) v) ▸ b1; have HB3 := Lib.hid (show Blk X1 W1.heap.size (hS P v true Q 4).cells 25 from b1); have HB2 := Lib.hid b2; have HM1 := Lib.hid b3; clear hX b1 b2 b3 D1 D2 D3)) | (refine wpList_load_row rfl 25 _ rfl (W1.heap.size) rfl 25 _ _ _ HB3.out Try.underlying25 rfl (hart_info.trans (congrArg some (HartS.size (hS_ok P v Q 4 true uP hv uQ (by decide))).symm)) ?_))
  refine (step_any (hS P v true Q 4) g q (scBs 67) X1 (hS_ok P v Q 4 true uP hv uQ (by decide)) HM1.out).mono ?_
  rintro e W2 ⟨he, hM, hG⟩
  rw [HSt.out] at he hM
  subst he
  have HB4 := Lib.hid (below_grown HB2.out hG hq0 HB2.out.size)
  have HB5 := Lib.hid (show Blk W2 W1.heap.size _ _ from (hG.block _ HB3.out.lt (fun e => by injection e with e; omega)).trans HB3.out)
  have HM2 := Lib.hid (show MemAt W2 g q bs' from hM)
  clear hM hG HM1 HB2 HB3
  have c34 := (HB5.out.cell 34).trans (show _ = some (.int .u64 Q) from rfl)
  have hxk := hX_ok P v 0 uP hv (by decide)
  go_wp2_with (refine wpList_store_row rfl 25 _ _ rfl (W2.heap.size) (hX P v 0).cells rfl rfl 25 _ (Blk.new _ _ _) (hart_info.trans (congrArg some (HartS.size hxk).symm)) (HartS.size hxk).symm (HartS.one _) ?_; (generalize hZ : World.setRow _ _ _ = Z; rw [World.setRow_alloc_new] at hZ; have B := Blk.new_eq hZ; have HB6 := Lib.hid (hZ ▸ HB4.out.alloc HB4.out.size _ : Below w.heap.size w Z); have HB7 := Lib.hid (HB5.out.alloc_eq hZ); have HM3 := Lib.hid (HM2.out.below (hZ ▸ ((Below.refl W2.heap.size W2).alloc (Nat.le_refl _) _))); have HB8 := Lib.hid B; have d34 := (HB7.out.cell 34).trans (show _ = some (.int .u64 Q) from rfl); clear hZ B HB4 HB5 HM2 c34))
  refine (Load_any _ g q bs' P 4 HM3.out uP (by decide)).mono ?_
  rintro e W3 ⟨rfl, rfl⟩
  rw [HL.out, HN.out]
  have e3 := (HB8.out.cell 4).trans (show _ = some (.int .u64 0) from rfl)
  have e4 := (HB8.out.cell 33).trans (show _ = some (.bool false) from rfl)
  have e5 := (HB8.out.cell 34).trans (show _ = some (.int .u64 0) from rfl)
  have e6 := (HB8.out.cell 35).trans (show _ = some (.int .i64 0) from rfl)
  go_wp2_with fail
  refine (c_lives _).mono ?_
  rintro e W4 ⟨rfl, hd⟩
  have HB9 := Lib.hid (HB6.out.trans (hd.mono HB6.out.size))
  clear hd
  go_wp2_with fail
  go_ret
  exact ⟨rfl, HB9.out⟩
set_option maxHeartbeats 16000000 in
set_option maxRecDepth 100000 in
theorem holds_78_1 (a b v P Q L : Int) (bs' : List Int) (w : World) (hv : U64 v) (uP : U64 P) (uQ : U64 Q) (hA : IntKind.u64.wrap (64 + IntKind.u64.wrap (8 * a.tmod 50)) = P) (hB : IntKind.u64.wrap (64 + IntKind.u64.wrap (8 * b.tmod 50)) = Q)
    (HSt : Hid (stepOf (hS P v false Q 8) (scBs 78) = (hX P v 1, bs', 0))) (HL : Hid (loadOf bs' P 8 = L)) (HN : Hid (numE bs'.length P 8 = 0)) (h0 : L = 0) :
    Calls Try.prog 4 #[.int .u64 a, .int .u64 b, .bool true, .bool false, .int .u64 v, .bool false] w fun e w' => e = .returned (.bool true) ∧ Below w.heap.size w w' := by
  go_enter Try.func4, Try.ntmps4
  go_wp2_with fail
  generalize hX : World.alloc w _ = X
  have HB := Lib.hid (hX ▸ ((Below.refl w.heap.size w).alloc (Nat.le_refl _) _) : Below w.heap.size w X)
  have HI := Lib.hid (inst_row (l := [scI 78]) (Blk.new_eq hX))
  clear hX
  refine (laid_any 1000 _ 1 1 [scI 78] X rfl (by decide) HI.out (by decide)).mono ?_
  rintro e W1 ⟨g, q, gr, qr, rfl, M, l5, hg, hq, l4, l3, l2, l1, l0, d⟩
  have HB1 := Lib.hid (HB.out.trans (d.mono HB.out.size))
  have hq0 : w.heap.size ≤ q := Nat.le_trans HB.out.size hq
  rw [show laidTo (sizeAt 1000) [scI 78] 1 = scBs 78 by rw [size_1000]; rfl] at M
  have HM := Lib.hid M
  have hq1 : w.heap.size ≤ W1.heap.size ∧ g ≠ W1.heap.size ∧ q ≠ W1.heap.size := by have := HB1.out.size; have := M.1.lt; have := M.2.1.lt; exact ⟨by omega, by omega, by omega⟩
  clear M d hg hq HB HI l0 l1 l2 l3 l4 l5
  have hz := hZ_ok Q 8 false uQ (by decide)
  have hy := hZ_ok Q 8 false uQ (by decide)
  have hy2 := hy.set 1 P uP
  go_wp2_with (first | (refine wpList_store_row rfl 25 _ _ rfl (W1.heap.size) (hZ Q 8 false).cells rfl rfl 25 _ (Blk.new _ _ _) (hart_info.trans (congrArg some (HartS.size hz).symm)) (HartS.size hz).symm (HartS.one _) ?_; (generalize hX : World.setRow _ _ _ = Z1; obtain ⟨b1, b2, b3⟩ := fresh_row HB1.out HM.out hX; have C1 := Lib.hid b1; have C2 := Lib.hid b2; have C3 := Lib.hid b3; clear hX b1 b2 b3 HB1 HM)) |  (refine wpList_store_u64 rfl 22 _ _ rfl (W1.heap.size) (1 + 1) P rfl rfl _ _ C1.out (by rw [HartS.size hy]; omega) u64_info ?_; (generalize hX : World.setCell _ _ _ = Z2; obtain ⟨b1, b2, b3⟩ := fresh_set C1.out C2.out C3.out hq1 (1 + 1) _ hX; have b1 : Blk Z2 W1.heap.size ((hZ Q 8 false).set 1 P).cells 25 := (HartS.sx hy 1 (by decide) P) ▸ b1; have D1 := Lib.hid b1; have D2 := Lib.hid b2; have D3 := Lib.hid b3; clear hX b1 b2 b3 C1 C2 C3)) | (refine wpList_store_u64 rfl 22 _ _ rfl (W1.heap.size) (1 + 2) v rfl rfl _ _ D1.out (by rw [HartS.size hy2]; omega) u64_info ?_; (generalize hX : World.setCell _ _ _ = X1; obtain ⟨b1, b2, b3⟩ := fresh_set D1.out D2.out D3.out hq1 (1 + 2) _ hX; have b1 := (HartS.sx hy2 2 (by decide) v) ▸ b1; have HB3 := Lib.hid (show Blk X1 W1.heap.size (hS P v false Q 8).cells 25 from b1); have HB2 := Lib.hid b2; have HM1 := Lib.hid b3; clear hX b1 b2 b3 D1 D2 D3)) | (refine wpList_load_row rfl 25 _ rfl (W1.heap.size) rfl 25 _ _ _ HB3.out Try.underlying25 rfl (hart_info.trans (congrArg some (HartS.size (hS_ok P v Q 8 false uP hv uQ (by decide))).symm)) ?_))
  refine (step_any (hS P v false Q 8) g q (scBs 78) X1 (hS_ok P v Q 8 false uP hv uQ (by decide)) HM1.out).mono ?_
  rintro e W2 ⟨he, hM, hG⟩
  rw [HSt.out] at he hM
  subst he
  have HB4 := Lib.hid (below_grown HB2.out hG hq0 HB2.out.size)
  have HB5 := Lib.hid (show Blk W2 W1.heap.size _ _ from (hG.block _ HB3.out.lt (fun e => by injection e with e; omega)).trans HB3.out)
  have HM2 := Lib.hid (show MemAt W2 g q bs' from hM)
  clear hM hG HM1 HB2 HB3
  have c34 := (HB5.out.cell 34).trans (show _ = some (.int .u64 Q) from rfl)
  have hxk := hX_ok P v 1 uP hv (by decide)
  go_wp2_with (refine wpList_store_row rfl 25 _ _ rfl (W2.heap.size) (hX P v 1).cells rfl rfl 25 _ (Blk.new _ _ _) (hart_info.trans (congrArg some (HartS.size hxk).symm)) (HartS.size hxk).symm (HartS.one _) ?_; (generalize hZ : World.setRow _ _ _ = Z; rw [World.setRow_alloc_new] at hZ; have B := Blk.new_eq hZ; have HB6 := Lib.hid (hZ ▸ HB4.out.alloc HB4.out.size _ : Below w.heap.size w Z); have HB7 := Lib.hid (HB5.out.alloc_eq hZ); have HM3 := Lib.hid (HM2.out.below (hZ ▸ ((Below.refl W2.heap.size W2).alloc (Nat.le_refl _) _))); have HB8 := Lib.hid B; have d34 := (HB7.out.cell 34).trans (show _ = some (.int .u64 Q) from rfl); clear hZ B HB4 HB5 HM2 c34))
  refine (Load_any _ g q bs' P 8 HM3.out uP (by decide)).mono ?_
  rintro e W3 ⟨rfl, rfl⟩
  rw [HL.out, HN.out]
  have e3 := (HB8.out.cell 4).trans (show _ = some (.int .u64 1) from rfl)
  have e4 := (HB8.out.cell 33).trans (show _ = some (.bool false) from rfl)
  have e5 := (HB8.out.cell 34).trans (show _ = some (.int .u64 0) from rfl)
  have e6 := (HB8.out.cell 35).trans (show _ = some (.int .i64 0) from rfl)
  go_wp2_with fail
  refine (c_lives _).mono ?_
  rintro e W4 ⟨rfl, hd⟩
  have HB9 := Lib.hid (HB6.out.trans (hd.mono HB6.out.size))
  clear hd
  go_wp2_with fail
  go_ret
  exact ⟨rfl, HB9.out⟩
set_option maxHeartbeats 16000000 in
set_option maxRecDepth 100000 in
theorem holds_78_2 (a b v P Q L : Int) (bs' : List Int) (w : World) (hv : U64 v) (uP : U64 P) (uQ : U64 Q) (hA : IntKind.u64.wrap (64 + IntKind.u64.wrap (8 * a.tmod 50)) = P) (hB : IntKind.u64.wrap (64 + IntKind.u64.wrap (8 * b.tmod 50)) = Q)
    (HSt : Hid (stepOf (hS P v false Q 4) (scBs 78) = (hX P v 1, bs', 0))) (HL : Hid (loadOf bs' P 8 = L)) (HN : Hid (numE bs'.length P 8 = 0)) (h0 : L = 0) :
    Calls Try.prog 4 #[.int .u64 a, .int .u64 b, .bool true, .bool true, .int .u64 v, .bool false] w fun e w' => e = .returned (.bool true) ∧ Below w.heap.size w w' := by
  go_enter Try.func4, Try.ntmps4
  go_wp2_with fail
  generalize hX : World.alloc w _ = X
  have HB := Lib.hid (hX ▸ ((Below.refl w.heap.size w).alloc (Nat.le_refl _) _) : Below w.heap.size w X)
  have HI := Lib.hid (inst_row (l := [scI 78]) (Blk.new_eq hX))
  clear hX
  refine (laid_any 1000 _ 1 1 [scI 78] X rfl (by decide) HI.out (by decide)).mono ?_
  rintro e W1 ⟨g, q, gr, qr, rfl, M, l5, hg, hq, l4, l3, l2, l1, l0, d⟩
  have HB1 := Lib.hid (HB.out.trans (d.mono HB.out.size))
  have hq0 : w.heap.size ≤ q := Nat.le_trans HB.out.size hq
  rw [show laidTo (sizeAt 1000) [scI 78] 1 = scBs 78 by rw [size_1000]; rfl] at M
  have HM := Lib.hid M
  have hq1 : w.heap.size ≤ W1.heap.size ∧ g ≠ W1.heap.size ∧ q ≠ W1.heap.size := by have := HB1.out.size; have := M.1.lt; have := M.2.1.lt; exact ⟨by omega, by omega, by omega⟩
  clear M d hg hq HB HI l0 l1 l2 l3 l4 l5
  have hz := hZ_ok Q 8 false uQ (by decide)
  have hy := hZ_ok Q 4 false uQ (by decide)
  have hy2 := hy.set 1 P uP
  go_wp2_with (first | (refine wpList_store_row rfl 25 _ _ rfl (W1.heap.size) (hZ Q 8 false).cells rfl rfl 25 _ (Blk.new _ _ _) (hart_info.trans (congrArg some (HartS.size hz).symm)) (HartS.size hz).symm (HartS.one _) ?_; (generalize hX : World.setRow _ _ _ = Z1; obtain ⟨b1, b2, b3⟩ := fresh_row HB1.out HM.out hX; have C1 := Lib.hid b1; have C2 := Lib.hid b2; have C3 := Lib.hid b3; clear hX b1 b2 b3 HB1 HM)) | (refine wpList_store_i64 rfl 3 _ _ rfl (W1.heap.size) 35 (4) rfl rfl _ _ C1.out (by rw [HartS.size hz]; omega) i64_info ?_; (generalize hX : World.setCell _ _ _ = Z3; obtain ⟨b1, b2, b3⟩ := fresh_set C1.out C2.out C3.out hq1 35 _ hX; have b1 : Blk Z3 W1.heap.size (hZ Q 4 false).cells 25 := (HartS.s35 hz.1 4) ▸ b1; have E1 := Lib.hid b1; have E2 := Lib.hid b2; have E3 := Lib.hid b3; clear hX b1 b2 b3 C1 C2 C3)) |  (refine wpList_store_u64 rfl 22 _ _ rfl (W1.heap.size) (1 + 1) P rfl rfl _ _ E1.out (by rw [HartS.size hy]; omega) u64_info ?_; (generalize hX : World.setCell _ _ _ = Z2; obtain ⟨b1, b2, b3⟩ := fresh_set E1.out E2.out E3.out hq1 (1 + 1) _ hX; have b1 : Blk Z2 W1.heap.size ((hZ Q 4 false).set 1 P).cells 25 := (HartS.sx hy 1 (by decide) P) ▸ b1; have D1 := Lib.hid b1; have D2 := Lib.hid b2; have D3 := Lib.hid b3; clear hX b1 b2 b3 E1 E2 E3)) | (refine wpList_store_u64 rfl 22 _ _ rfl (W1.heap.size) (1 + 2) v rfl rfl _ _ D1.out (by rw [HartS.size hy2]; omega) u64_info ?_; (generalize hX : World.setCell _ _ _ = X1; obtain ⟨b1, b2, b3⟩ := fresh_set D1.out D2.out D3.out hq1 (1 + 2) _ hX; have b1 := (HartS.sx hy2 2 (by decide) v) ▸ b1; have HB3 := Lib.hid (show Blk X1 W1.heap.size (hS P v false Q 4).cells 25 from b1); have HB2 := Lib.hid b2; have HM1 := Lib.hid b3; clear hX b1 b2 b3 D1 D2 D3)) | (refine wpList_load_row rfl 25 _ rfl (W1.heap.size) rfl 25 _ _ _ HB3.out Try.underlying25 rfl (hart_info.trans (congrArg some (HartS.size (hS_ok P v Q 4 false uP hv uQ (by decide))).symm)) ?_))
  refine (step_any (hS P v false Q 4) g q (scBs 78) X1 (hS_ok P v Q 4 false uP hv uQ (by decide)) HM1.out).mono ?_
  rintro e W2 ⟨he, hM, hG⟩
  rw [HSt.out] at he hM
  subst he
  have HB4 := Lib.hid (below_grown HB2.out hG hq0 HB2.out.size)
  have HB5 := Lib.hid (show Blk W2 W1.heap.size _ _ from (hG.block _ HB3.out.lt (fun e => by injection e with e; omega)).trans HB3.out)
  have HM2 := Lib.hid (show MemAt W2 g q bs' from hM)
  clear hM hG HM1 HB2 HB3
  have c34 := (HB5.out.cell 34).trans (show _ = some (.int .u64 Q) from rfl)
  have hxk := hX_ok P v 1 uP hv (by decide)
  go_wp2_with (refine wpList_store_row rfl 25 _ _ rfl (W2.heap.size) (hX P v 1).cells rfl rfl 25 _ (Blk.new _ _ _) (hart_info.trans (congrArg some (HartS.size hxk).symm)) (HartS.size hxk).symm (HartS.one _) ?_; (generalize hZ : World.setRow _ _ _ = Z; rw [World.setRow_alloc_new] at hZ; have B := Blk.new_eq hZ; have HB6 := Lib.hid (hZ ▸ HB4.out.alloc HB4.out.size _ : Below w.heap.size w Z); have HB7 := Lib.hid (HB5.out.alloc_eq hZ); have HM3 := Lib.hid (HM2.out.below (hZ ▸ ((Below.refl W2.heap.size W2).alloc (Nat.le_refl _) _))); have HB8 := Lib.hid B; have d34 := (HB7.out.cell 34).trans (show _ = some (.int .u64 Q) from rfl); clear hZ B HB4 HB5 HM2 c34))
  refine (Load_any _ g q bs' P 8 HM3.out uP (by decide)).mono ?_
  rintro e W3 ⟨rfl, rfl⟩
  rw [HL.out, HN.out]
  have e3 := (HB8.out.cell 4).trans (show _ = some (.int .u64 1) from rfl)
  have e4 := (HB8.out.cell 33).trans (show _ = some (.bool false) from rfl)
  have e5 := (HB8.out.cell 34).trans (show _ = some (.int .u64 0) from rfl)
  have e6 := (HB8.out.cell 35).trans (show _ = some (.int .i64 0) from rfl)
  go_wp2_with fail
  refine (c_lives _).mono ?_
  rintro e W4 ⟨rfl, hd⟩
  have HB9 := Lib.hid (HB6.out.trans (hd.mono HB6.out.size))
  clear hd
  go_wp2_with fail
  go_ret
  exact ⟨rfl, HB9.out⟩
set_option maxHeartbeats 16000000 in
set_option maxRecDepth 100000 in
theorem holds_78_3 (a b v P Q L : Int) (bs' : List Int) (w : World) (hv : U64 v) (uP : U64 P) (uQ : U64 Q) (hA : IntKind.u64.wrap (64 + IntKind.u64.wrap (8 * a.tmod 50)) = P) (hB : IntKind.u64.wrap (64 + IntKind.u64.wrap (8 * b.tmod 50)) = Q)
    (HSt : Hid (stepOf (hS P v true Q 8) (scBs 78) = (hX P v 1, bs', 0))) (HL : Hid (loadOf bs' P 8 = L)) (HN : Hid (numE bs'.length P 8 = 0)) (hq : (Q == P) = false) (h0 : L = 0) :
    Calls Try.prog 4 #[.int .u64 a, .int .u64 b, .bool true, .bool false, .int .u64 v, .bool true] w fun e w' => e = .returned (.bool true) ∧ Below w.heap.size w w' := by
  go_enter Try.func4, Try.ntmps4
  go_wp2_with fail
  generalize hX : World.alloc w _ = X
  have HB := Lib.hid (hX ▸ ((Below.refl w.heap.size w).alloc (Nat.le_refl _) _) : Below w.heap.size w X)
  have HI := Lib.hid (inst_row (l := [scI 78]) (Blk.new_eq hX))
  clear hX
  refine (laid_any 1000 _ 1 1 [scI 78] X rfl (by decide) HI.out (by decide)).mono ?_
  rintro e W1 ⟨g, q, gr, qr, rfl, M, l5, hg, hq, l4, l3, l2, l1, l0, d⟩
  have HB1 := Lib.hid (HB.out.trans (d.mono HB.out.size))
  have hq0 : w.heap.size ≤ q := Nat.le_trans HB.out.size hq
  rw [show laidTo (sizeAt 1000) [scI 78] 1 = scBs 78 by rw [size_1000]; rfl] at M
  have HM := Lib.hid M
  have hq1 : w.heap.size ≤ W1.heap.size ∧ g ≠ W1.heap.size ∧ q ≠ W1.heap.size := by have := HB1.out.size; have := M.1.lt; have := M.2.1.lt; exact ⟨by omega, by omega, by omega⟩
  clear M d hg hq HB HI l0 l1 l2 l3 l4 l5
  have hz := hZ_ok Q 8 true uQ (by decide)
  have hy := hZ_ok Q 8 true uQ (by decide)
  have hy2 := hy.set 1 P uP
  go_wp2_with (first | (refine wpList_store_row rfl 25 _ _ rfl (W1.heap.size) (hZ Q 8 true).cells rfl rfl 25 _ (Blk.new _ _ _) (hart_info.trans (congrArg some (HartS.size hz).symm)) (HartS.size hz).symm (HartS.one _) ?_; (generalize hX : World.setRow _ _ _ = Z1; obtain ⟨b1, b2, b3⟩ := fresh_row HB1.out HM.out hX; have C1 := Lib.hid b1; have C2 := Lib.hid b2; have C3 := Lib.hid b3; clear hX b1 b2 b3 HB1 HM)) |  (refine wpList_store_u64 rfl 22 _ _ rfl (W1.heap.size) (1 + 1) P rfl rfl _ _ C1.out (by rw [HartS.size hy]; omega) u64_info ?_; (generalize hX : World.setCell _ _ _ = Z2; obtain ⟨b1, b2, b3⟩ := fresh_set C1.out C2.out C3.out hq1 (1 + 1) _ hX; have b1 : Blk Z2 W1.heap.size ((hZ Q 8 true).set 1 P).cells 25 := (HartS.sx hy 1 (by decide) P) ▸ b1; have D1 := Lib.hid b1; have D2 := Lib.hid b2; have D3 := Lib.hid b3; clear hX b1 b2 b3 C1 C2 C3)) | (refine wpList_store_u64 rfl 22 _ _ rfl (W1.heap.size) (1 + 2) v rfl rfl _ _ D1.out (by rw [HartS.size hy2]; omega) u64_info ?_; (generalize hX : World.setCell _ _ _ = X1; obtain ⟨b1, b2, b3⟩ := fresh_set D1.out D2.out D3.out hq1 (1 + 2) _ hX; have b1 := (HartS.sx hy2 2 (by decide) v) ▸ b1; have HB3 := Lib.hid (show Blk X1 W1.heap.size (hS P v true Q 8).cells 25 from b1); have HB2 := Lib.hid b2; have HM1 := Lib.hid b3; clear hX b1 b2 b3 D1 D2 D3)) | (refine wpList_load_row rfl 25 _ rfl (W1.heap.size) rfl 25 _ _ _ HB3.out Try.underlying25 rfl (hart_info.trans (congrArg some (HartS.size (hS_ok P v Q 8 true uP hv uQ (by decide))).symm)) ?_))
  refine (step_any (hS P v true Q 8) g q (scBs 78) X1 (hS_ok P v Q 8 true uP hv uQ (by decide)) HM1.out).mono ?_
  rintro e W2 ⟨he, hM, hG⟩
  rw [HSt.out] at he hM
  subst he
  have HB4 := Lib.hid (below_grown HB2.out hG hq0 HB2.out.size)
  have HB5 := Lib.hid (show Blk W2 W1.heap.size _ _ from (hG.block _ HB3.out.lt (fun e => by injection e with e; omega)).trans HB3.out)
  have HM2 := Lib.hid (show MemAt W2 g q bs' from hM)
  clear hM hG HM1 HB2 HB3
  have c34 := (HB5.out.cell 34).trans (show _ = some (.int .u64 Q) from rfl)
  have hxk := hX_ok P v 1 uP hv (by decide)
  go_wp2_with (refine wpList_store_row rfl 25 _ _ rfl (W2.heap.size) (hX P v 1).cells rfl rfl 25 _ (Blk.new _ _ _) (hart_info.trans (congrArg some (HartS.size hxk).symm)) (HartS.size hxk).symm (HartS.one _) ?_; (generalize hZ : World.setRow _ _ _ = Z; rw [World.setRow_alloc_new] at hZ; have B := Blk.new_eq hZ; have HB6 := Lib.hid (hZ ▸ HB4.out.alloc HB4.out.size _ : Below w.heap.size w Z); have HB7 := Lib.hid (HB5.out.alloc_eq hZ); have HM3 := Lib.hid (HM2.out.below (hZ ▸ ((Below.refl W2.heap.size W2).alloc (Nat.le_refl _) _))); have HB8 := Lib.hid B; have d34 := (HB7.out.cell 34).trans (show _ = some (.int .u64 Q) from rfl); clear hZ B HB4 HB5 HM2 c34))
  refine (Load_any _ g q bs' P 8 HM3.out uP (by decide)).mono ?_
  rintro e W3 ⟨rfl, rfl⟩
  rw [HL.out, HN.out]
  have e3 := (HB8.out.cell 4).trans (show _ = some (.int .u64 1) from rfl)
  have e4 := (HB8.out.cell 33).trans (show _ = some (.bool false) from rfl)
  have e5 := (HB8.out.cell 34).trans (show _ = some (.int .u64 0) from rfl)
  have e6 := (HB8.out.cell 35).trans (show _ = some (.int .i64 0) from rfl)
  go_wp2_with fail
  refine (c_lives _).mono ?_
  rintro e W4 ⟨rfl, hd⟩
  have HB9 := Lib.hid (HB6.out.trans (hd.mono HB6.out.size))
  clear hd
  go_wp2_with fail
  go_ret
  exact ⟨rfl, HB9.out⟩
set_option maxHeartbeats 16000000 in
set_option maxRecDepth 100000 in
theorem holds_78_4 (a b v P Q L : Int) (bs' : List Int) (w : World) (hv : U64 v) (uP : U64 P) (uQ : U64 Q) (hA : IntKind.u64.wrap (64 + IntKind.u64.wrap (8 * a.tmod 50)) = P) (hB : IntKind.u64.wrap (64 + IntKind.u64.wrap (8 * b.tmod 50)) = Q)
    (HSt : Hid (stepOf (hS P v true Q 4) (scBs 78) = (hX P v 1, bs', 0))) (HL : Hid (loadOf bs' P 8 = L)) (HN : Hid (numE bs'.length P 8 = 0)) (hq : (Q == P) = false) (h0 : L = 0) :
    Calls Try.prog 4 #[.int .u64 a, .int .u64 b, .bool true, .bool true, .int .u64 v, .bool true] w fun e w' => e = .returned (.bool true) ∧ Below w.heap.size w w' := by
  go_enter Try.func4, Try.ntmps4
  go_wp2_with fail
  generalize hX : World.alloc w _ = X
  have HB := Lib.hid (hX ▸ ((Below.refl w.heap.size w).alloc (Nat.le_refl _) _) : Below w.heap.size w X)
  have HI := Lib.hid (inst_row (l := [scI 78]) (Blk.new_eq hX))
  clear hX
  refine (laid_any 1000 _ 1 1 [scI 78] X rfl (by decide) HI.out (by decide)).mono ?_
  rintro e W1 ⟨g, q, gr, qr, rfl, M, l5, hg, hq, l4, l3, l2, l1, l0, d⟩
  have HB1 := Lib.hid (HB.out.trans (d.mono HB.out.size))
  have hq0 : w.heap.size ≤ q := Nat.le_trans HB.out.size hq
  rw [show laidTo (sizeAt 1000) [scI 78] 1 = scBs 78 by rw [size_1000]; rfl] at M
  have HM := Lib.hid M
  have hq1 : w.heap.size ≤ W1.heap.size ∧ g ≠ W1.heap.size ∧ q ≠ W1.heap.size := by have := HB1.out.size; have := M.1.lt; have := M.2.1.lt; exact ⟨by omega, by omega, by omega⟩
  clear M d hg hq HB HI l0 l1 l2 l3 l4 l5
  have hz := hZ_ok Q 8 true uQ (by decide)
  have hy := hZ_ok Q 4 true uQ (by decide)
  have hy2 := hy.set 1 P uP
  go_wp2_with (first | (refine wpList_store_row rfl 25 _ _ rfl (W1.heap.size) (hZ Q 8 true).cells rfl rfl 25 _ (Blk.new _ _ _) (hart_info.trans (congrArg some (HartS.size hz).symm)) (HartS.size hz).symm (HartS.one _) ?_; (generalize hX : World.setRow _ _ _ = Z1; obtain ⟨b1, b2, b3⟩ := fresh_row HB1.out HM.out hX; have C1 := Lib.hid b1; have C2 := Lib.hid b2; have C3 := Lib.hid b3; clear hX b1 b2 b3 HB1 HM)) | (refine wpList_store_i64 rfl 3 _ _ rfl (W1.heap.size) 35 (4) rfl rfl _ _ C1.out (by rw [HartS.size hz]; omega) i64_info ?_; (generalize hX : World.setCell _ _ _ = Z3; obtain ⟨b1, b2, b3⟩ := fresh_set C1.out C2.out C3.out hq1 35 _ hX; have b1 : Blk Z3 W1.heap.size (hZ Q 4 true).cells 25 := (HartS.s35 hz.1 4) ▸ b1; have E1 := Lib.hid b1; have E2 := Lib.hid b2; have E3 := Lib.hid b3; clear hX b1 b2 b3 C1 C2 C3)) |  (refine wpList_store_u64 rfl 22 _ _ rfl (W1.heap.size) (1 + 1) P rfl rfl _ _ E1.out (by rw [HartS.size hy]; omega) u64_info ?_; (generalize hX : World.setCell _ _ _ = Z2; obtain ⟨b1, b2, b3⟩ := fresh_set E1.out E2.out E3.out hq1 (1 + 1) _ hX; have b1 : Blk Z2 W1.heap.size ((hZ Q 4 true).set 1 P).cells 25 := (HartS.sx hy 1 (by decide) P) ▸ b1; have D1 := Lib.hid b1; have D2 := Lib.hid b2; have D3 := Lib.hid b3; clear hX b1 b2 b3 E1 E2 E3)) | (refine wpList_store_u64 rfl 22 _ _ rfl (W1.heap.size) (1 + 2) v rfl rfl _ _ D1.out (by rw [HartS.size hy2]; omega) u64_info ?_; (generalize hX : World.setCell _ _ _ = X1; obtain ⟨b1, b2, b3⟩ := fresh_set D1.out D2.out D3.out hq1 (1 + 2) _ hX; have b1 := (HartS.sx hy2 2 (by decide) v) ▸ b1; have HB3 := Lib.hid (show Blk X1 W1.heap.size (hS P v true Q 4).cells 25 from b1); have HB2 := Lib.hid b2; have HM1 := Lib.hid b3; clear hX b1 b2 b3 D1 D2 D3)) | (refine wpList_load_row rfl 25 _ rfl (W1.heap.size) rfl 25 _ _ _ HB3.out Try.underlying25 rfl (hart_info.trans (congrArg some (HartS.size (hS_ok P v Q 4 true uP hv uQ (by decide))).symm)) ?_))
  refine (step_any (hS P v true Q 4) g q (scBs 78) X1 (hS_ok P v Q 4 true uP hv uQ (by decide)) HM1.out).mono ?_
  rintro e W2 ⟨he, hM, hG⟩
  rw [HSt.out] at he hM
  subst he
  have HB4 := Lib.hid (below_grown HB2.out hG hq0 HB2.out.size)
  have HB5 := Lib.hid (show Blk W2 W1.heap.size _ _ from (hG.block _ HB3.out.lt (fun e => by injection e with e; omega)).trans HB3.out)
  have HM2 := Lib.hid (show MemAt W2 g q bs' from hM)
  clear hM hG HM1 HB2 HB3
  have c34 := (HB5.out.cell 34).trans (show _ = some (.int .u64 Q) from rfl)
  have hxk := hX_ok P v 1 uP hv (by decide)
  go_wp2_with (refine wpList_store_row rfl 25 _ _ rfl (W2.heap.size) (hX P v 1).cells rfl rfl 25 _ (Blk.new _ _ _) (hart_info.trans (congrArg some (HartS.size hxk).symm)) (HartS.size hxk).symm (HartS.one _) ?_; (generalize hZ : World.setRow _ _ _ = Z; rw [World.setRow_alloc_new] at hZ; have B := Blk.new_eq hZ; have HB6 := Lib.hid (hZ ▸ HB4.out.alloc HB4.out.size _ : Below w.heap.size w Z); have HB7 := Lib.hid (HB5.out.alloc_eq hZ); have HM3 := Lib.hid (HM2.out.below (hZ ▸ ((Below.refl W2.heap.size W2).alloc (Nat.le_refl _) _))); have HB8 := Lib.hid B; have d34 := (HB7.out.cell 34).trans (show _ = some (.int .u64 Q) from rfl); clear hZ B HB4 HB5 HM2 c34))
  refine (Load_any _ g q bs' P 8 HM3.out uP (by decide)).mono ?_
  rintro e W3 ⟨rfl, rfl⟩
  rw [HL.out, HN.out]
  have e3 := (HB8.out.cell 4).trans (show _ = some (.int .u64 1) from rfl)
  have e4 := (HB8.out.cell 33).trans (show _ = some (.bool false) from rfl)
  have e5 := (HB8.out.cell 34).trans (show _ = some (.int .u64 0) from rfl)
  have e6 := (HB8.out.cell 35).trans (show _ = some (.int .i64 0) from rfl)
  go_wp2_with fail
  refine (c_lives _).mono ?_
  rintro e W4 ⟨rfl, hd⟩
  have HB9 := Lib.hid (HB6.out.trans (hd.mono HB6.out.size))
  clear hd
  go_wp2_with fail
  go_ret
  exact ⟨rfl, HB9.out⟩
set_option maxHeartbeats 16000000 in
set_option maxRecDepth 100000 in
theorem holds_78_5 (a b v P Q L : Int) (bs' : List Int) (w : World) (hv : U64 v) (uP : U64 P) (uQ : U64 Q) (hA : IntKind.u64.wrap (64 + IntKind.u64.wrap (8 * a.tmod 50)) = P) (hB : IntKind.u64.wrap (64 + IntKind.u64.wrap (8 * b.tmod 50)) = Q)
    (HSt : Hid (stepOf (hS P v true Q 4) (scBs 78) = (hX P v 1, bs', 0))) (HL : Hid (loadOf bs' P 8 = L)) (HN : Hid (numE bs'.length P 8 = 0)) (hq : (Q == P) = true) (h0 : L = 0) :
    Calls Try.prog 4 #[.int .u64 a, .int .u64 b, .bool true, .bool true, .int .u64 v, .bool true] w fun e w' => e = .returned (.bool true) ∧ Below w.heap.size w w' := by
  go_enter Try.func4, Try.ntmps4
  go_wp2_with fail
  generalize hX : World.alloc w _ = X
  have HB := Lib.hid (hX ▸ ((Below.refl w.heap.size w).alloc (Nat.le_refl _) _) : Below w.heap.size w X)
  have HI := Lib.hid (inst_row (l := [scI 78]) (Blk.new_eq hX))
  clear hX
  refine (laid_any 1000 _ 1 1 [scI 78] X rfl (by decide) HI.out (by decide)).mono ?_
  rintro e W1 ⟨g, q, gr, qr, rfl, M, l5, hg, hq, l4, l3, l2, l1, l0, d⟩
  have HB1 := Lib.hid (HB.out.trans (d.mono HB.out.size))
  have hq0 : w.heap.size ≤ q := Nat.le_trans HB.out.size hq
  rw [show laidTo (sizeAt 1000) [scI 78] 1 = scBs 78 by rw [size_1000]; rfl] at M
  have HM := Lib.hid M
  have hq1 : w.heap.size ≤ W1.heap.size ∧ g ≠ W1.heap.size ∧ q ≠ W1.heap.size := by have := HB1.out.size; have := M.1.lt; have := M.2.1.lt; exact ⟨by omega, by omega, by omega⟩
  clear M d hg hq HB HI l0 l1 l2 l3 l4 l5
  have hz := hZ_ok Q 8 true uQ (by decide)
  have hy := hZ_ok Q 4 true uQ (by decide)
  have hy2 := hy.set 1 P uP
  go_wp2_with (first | (refine wpList_store_row rfl 25 _ _ rfl (W1.heap.size) (hZ Q 8 true).cells rfl rfl 25 _ (Blk.new _ _ _) (hart_info.trans (congrArg some (HartS.size hz).symm)) (HartS.size hz).symm (HartS.one _) ?_; (generalize hX : World.setRow _ _ _ = Z1; obtain ⟨b1, b2, b3⟩ := fresh_row HB1.out HM.out hX; have C1 := Lib.hid b1; have C2 := Lib.hid b2; have C3 := Lib.hid b3; clear hX b1 b2 b3 HB1 HM)) | (refine wpList_store_i64 rfl 3 _ _ rfl (W1.heap.size) 35 (4) rfl rfl _ _ C1.out (by rw [HartS.size hz]; omega) i64_info ?_; (generalize hX : World.setCell _ _ _ = Z3; obtain ⟨b1, b2, b3⟩ := fresh_set C1.out C2.out C3.out hq1 35 _ hX; have b1 : Blk Z3 W1.heap.size (hZ Q 4 true).cells 25 := (HartS.s35 hz.1 4) ▸ b1; have E1 := Lib.hid b1; have E2 := Lib.hid b2; have E3 := Lib.hid b3; clear hX b1 b2 b3 C1 C2 C3)) |  (refine wpList_store_u64 rfl 22 _ _ rfl (W1.heap.size) (1 + 1) P rfl rfl _ _ E1.out (by rw [HartS.size hy]; omega) u64_info ?_; (generalize hX : World.setCell _ _ _ = Z2; obtain ⟨b1, b2, b3⟩ := fresh_set E1.out E2.out E3.out hq1 (1 + 1) _ hX; have b1 : Blk Z2 W1.heap.size ((hZ Q 4 true).set 1 P).cells 25 := (HartS.sx hy 1 (by decide) P) ▸ b1; have D1 := Lib.hid b1; have D2 := Lib.hid b2; have D3 := Lib.hid b3; clear hX b1 b2 b3 E1 E2 E3)) | (refine wpList_store_u64 rfl 22 _ _ rfl (W1.heap.size) (1 + 2) v rfl rfl _ _ D1.out (by rw [HartS.size hy2]; omega) u64_info ?_; (generalize hX : World.setCell _ _ _ = X1; obtain ⟨b1, b2, b3⟩ := fresh_set D1.out D2.out D3.out hq1 (1 + 2) _ hX; have b1 := (HartS.sx hy2 2 (by decide) v) ▸ b1; have HB3 := Lib.hid (show Blk X1 W1.heap.size (hS P v true Q 4).cells 25 from b1); have HB2 := Lib.hid b2; have HM1 := Lib.hid b3; clear hX b1 b2 b3 D1 D2 D3)) | (refine wpList_load_row rfl 25 _ rfl (W1.heap.size) rfl 25 _ _ _ HB3.out Try.underlying25 rfl (hart_info.trans (congrArg some (HartS.size (hS_ok P v Q 4 true uP hv uQ (by decide))).symm)) ?_))
  refine (step_any (hS P v true Q 4) g q (scBs 78) X1 (hS_ok P v Q 4 true uP hv uQ (by decide)) HM1.out).mono ?_
  rintro e W2 ⟨he, hM, hG⟩
  rw [HSt.out] at he hM
  subst he
  have HB4 := Lib.hid (below_grown HB2.out hG hq0 HB2.out.size)
  have HB5 := Lib.hid (show Blk W2 W1.heap.size _ _ from (hG.block _ HB3.out.lt (fun e => by injection e with e; omega)).trans HB3.out)
  have HM2 := Lib.hid (show MemAt W2 g q bs' from hM)
  clear hM hG HM1 HB2 HB3
  have c34 := (HB5.out.cell 34).trans (show _ = some (.int .u64 Q) from rfl)
  have hxk := hX_ok P v 1 uP hv (by decide)
  go_wp2_with (refine wpList_store_row rfl 25 _ _ rfl (W2.heap.size) (hX P v 1).cells rfl rfl 25 _ (Blk.new _ _ _) (hart_info.trans (congrArg some (HartS.size hxk).symm)) (HartS.size hxk).symm (HartS.one _) ?_; (generalize hZ : World.setRow _ _ _ = Z; rw [World.setRow_alloc_new] at hZ; have B := Blk.new_eq hZ; have HB6 := Lib.hid (hZ ▸ HB4.out.alloc HB4.out.size _ : Below w.heap.size w Z); have HB7 := Lib.hid (HB5.out.alloc_eq hZ); have HM3 := Lib.hid (HM2.out.below (hZ ▸ ((Below.refl W2.heap.size W2).alloc (Nat.le_refl _) _))); have HB8 := Lib.hid B; have d34 := (HB7.out.cell 34).trans (show _ = some (.int .u64 Q) from rfl); clear hZ B HB4 HB5 HM2 c34))
  refine (Load_any _ g q bs' P 8 HM3.out uP (by decide)).mono ?_
  rintro e W3 ⟨rfl, rfl⟩
  rw [HL.out, HN.out]
  have e3 := (HB8.out.cell 4).trans (show _ = some (.int .u64 1) from rfl)
  have e4 := (HB8.out.cell 33).trans (show _ = some (.bool false) from rfl)
  have e5 := (HB8.out.cell 34).trans (show _ = some (.int .u64 0) from rfl)
  have e6 := (HB8.out.cell 35).trans (show _ = some (.int .i64 0) from rfl)
  go_wp2_with fail
  refine (c_lives _).mono ?_
  rintro e W4 ⟨rfl, hd⟩
  have HB9 := Lib.hid (HB6.out.trans (hd.mono HB6.out.size))
  clear hd
  go_wp2_with fail
  go_ret
  exact ⟨rfl, HB9.out⟩
set_option maxHeartbeats 16000000 in
set_option maxRecDepth 100000 in
theorem holds_78_6 (a b v P Q L : Int) (bs' : List Int) (w : World) (hv : U64 v) (uP : U64 P) (uQ : U64 Q) (hA : IntKind.u64.wrap (64 + IntKind.u64.wrap (8 * a.tmod 50)) = P) (hB : IntKind.u64.wrap (64 + IntKind.u64.wrap (8 * b.tmod 50)) = Q)
    (HSt : Hid (stepOf (hS P v true Q 8) (scBs 78) = (hX P v 0, bs', 0))) (HL : Hid (loadOf bs' P 8 = L)) (HN : Hid (numE bs'.length P 8 = 0)) (hq : (Q == P) = true) (hm : Go.bits .and .u64 v (IntKind.u64.wrap (IntKind.u64.wrap 18446744073709551616 - 1)) = L) :
    Calls Try.prog 4 #[.int .u64 a, .int .u64 b, .bool true, .bool false, .int .u64 v, .bool true] w fun e w' => e = .returned (.bool true) ∧ Below w.heap.size w w' := by
  go_enter Try.func4, Try.ntmps4
  go_wp2_with fail
  generalize hX : World.alloc w _ = X
  have HB := Lib.hid (hX ▸ ((Below.refl w.heap.size w).alloc (Nat.le_refl _) _) : Below w.heap.size w X)
  have HI := Lib.hid (inst_row (l := [scI 78]) (Blk.new_eq hX))
  clear hX
  refine (laid_any 1000 _ 1 1 [scI 78] X rfl (by decide) HI.out (by decide)).mono ?_
  rintro e W1 ⟨g, q, gr, qr, rfl, M, l5, hg, hq, l4, l3, l2, l1, l0, d⟩
  have HB1 := Lib.hid (HB.out.trans (d.mono HB.out.size))
  have hq0 : w.heap.size ≤ q := Nat.le_trans HB.out.size hq
  rw [show laidTo (sizeAt 1000) [scI 78] 1 = scBs 78 by rw [size_1000]; rfl] at M
  have HM := Lib.hid M
  have hq1 : w.heap.size ≤ W1.heap.size ∧ g ≠ W1.heap.size ∧ q ≠ W1.heap.size := by have := HB1.out.size; have := M.1.lt; have := M.2.1.lt; exact ⟨by omega, by omega, by omega⟩
  clear M d hg hq HB HI l0 l1 l2 l3 l4 l5
  have hz := hZ_ok Q 8 true uQ (by decide)
  have hy := hZ_ok Q 8 true uQ (by decide)
  have hy2 := hy.set 1 P uP
  go_wp2_with (first | (refine wpList_store_row rfl 25 _ _ rfl (W1.heap.size) (hZ Q 8 true).cells rfl rfl 25 _ (Blk.new _ _ _) (hart_info.trans (congrArg some (HartS.size hz).symm)) (HartS.size hz).symm (HartS.one _) ?_; (generalize hX : World.setRow _ _ _ = Z1; obtain ⟨b1, b2, b3⟩ := fresh_row HB1.out HM.out hX; have C1 := Lib.hid b1; have C2 := Lib.hid b2; have C3 := Lib.hid b3; clear hX b1 b2 b3 HB1 HM)) |  (refine wpList_store_u64 rfl 22 _ _ rfl (W1.heap.size) (1 + 1) P rfl rfl _ _ C1.out (by rw [HartS.size hy]; omega) u64_info ?_; (generalize hX : World.setCell _ _ _ = Z2; obtain ⟨b1, b2, b3⟩ := fresh_set C1.out C2.out C3.out hq1 (1 + 1) _ hX; have b1 : Blk Z2 W1.heap.size ((hZ Q 8 true).set 1 P).cells 25 := (HartS.sx hy 1 (by decide) P) ▸ b1; have D1 := Lib.hid b1; have D2 := Lib.hid b2; have D3 := Lib.hid b3; clear hX b1 b2 b3 C1 C2 C3)) | (refine wpList_store_u64 rfl 22 _ _ rfl (W1.heap.size) (1 + 2) v rfl rfl _ _ D1.out (by rw [HartS.size hy2]; omega) u64_info ?_; (generalize hX : World.setCell _ _ _ = X1; obtain ⟨b1, b2, b3⟩ := fresh_set D1.out D2.out D3.out hq1 (1 + 2) _ hX; have b1 := (HartS.sx hy2 2 (by decide) v) ▸ b1; have HB3 := Lib.hid (show Blk X1 W1.heap.size (hS P v true Q 8).cells 25 from b1); have HB2 := Lib.hid b2; have HM1 := Lib.hid b3; clear hX b1 b2 b3 D1 D2 D3)) | (refine wpList_load_row rfl 25 _ rfl (W1.heap.size) rfl 25 _ _ _ HB3.out Try.underlying25 rfl (hart_info.trans (congrArg some (HartS.size (hS_ok P v Q 8 true uP hv uQ (by decide))).symm)) ?_))
  refine (step_any (hS P v true Q 8) g q (scBs 78) X1 (hS_ok P v Q 8 true uP hv uQ (by decide)) HM1.out).mono ?_
  rintro e W2 ⟨he, hM, hG⟩
  rw [HSt.out] at he hM
  subst he
  have HB4 := Lib.hid (below_grown HB2.out hG hq0 HB2.out.size)
  have HB5 := Lib.hid (show Blk W2 W1.heap.size _ _ from (hG.block _ HB3.out.lt (fun e => by injection e with e; omega)).trans HB3.out)
  have HM2 := Lib.hid (show MemAt W2 g q bs' from hM)
  clear hM hG HM1 HB2 HB3
  have c34 := (HB5.out.cell 34).trans (show _ = some (.int .u64 Q) from rfl)
  have hxk := hX_ok P v 0 uP hv (by decide)
  go_wp2_with (refine wpList_store_row rfl 25 _ _ rfl (W2.heap.size) (hX P v 0).cells rfl rfl 25 _ (Blk.new _ _ _) (hart_info.trans (congrArg some (HartS.size hxk).symm)) (HartS.size hxk).symm (HartS.one _) ?_; (generalize hZ : World.setRow _ _ _ = Z; rw [World.setRow_alloc_new] at hZ; have B := Blk.new_eq hZ; have HB6 := Lib.hid (hZ ▸ HB4.out.alloc HB4.out.size _ : Below w.heap.size w Z); have HB7 := Lib.hid (HB5.out.alloc_eq hZ); have HM3 := Lib.hid (HM2.out.below (hZ ▸ ((Below.refl W2.heap.size W2).alloc (Nat.le_refl _) _))); have HB8 := Lib.hid B; have d34 := (HB7.out.cell 34).trans (show _ = some (.int .u64 Q) from rfl); clear hZ B HB4 HB5 HM2 c34))
  refine (Load_any _ g q bs' P 8 HM3.out uP (by decide)).mono ?_
  rintro e W3 ⟨rfl, rfl⟩
  rw [HL.out, HN.out]
  have e3 := (HB8.out.cell 4).trans (show _ = some (.int .u64 0) from rfl)
  have e4 := (HB8.out.cell 33).trans (show _ = some (.bool false) from rfl)
  have e5 := (HB8.out.cell 34).trans (show _ = some (.int .u64 0) from rfl)
  have e6 := (HB8.out.cell 35).trans (show _ = some (.int .i64 0) from rfl)
  go_wp2_with fail
  refine (c_lives _).mono ?_
  rintro e W4 ⟨rfl, hd⟩
  have HB9 := Lib.hid (HB6.out.trans (hd.mono HB6.out.size))
  clear hd
  go_wp2_with fail
  go_ret
  exact ⟨rfl, HB9.out⟩
theorem mask4 (v : Int) (hv : U64 v) : Go.bits .and .u64 v 4294967295 = v % 4294967296 := and_mask v hv 32 (by decide)
theorem mask8 (v : Int) (hv : U64 v) : Go.bits .and .u64 v (IntKind.u64.wrap (IntKind.u64.wrap 18446744073709551616 - 1)) = v % 18446744073709551616 := and_mask v hv 64 (by decide)
theorem at_eq (a : Int) (h : U64 a) : IntKind.u64.wrap (64 + IntKind.u64.wrap (8 * a.tmod 50)) = 64 + 8 * (a % 50) := by
  rw [Int.tmod_eq_emod_of_nonneg h.1, IntKind.wrap_u64, IntKind.wrap_u64]; omega
theorem HartHolds.all (a0 a1 : Int) (a2 a3 : Bool) (a4 : Int) (a5 : Bool) (w : World) (w0 : (Lit.int .u64 a0).wf = true) (w1 : (Lit.int .u64 a1).wf = true) (w4 : (Lit.int .u64 a4).wf = true) :
    Calls Try.prog 4 #[.int .u64 a0, .int .u64 a1, .bool a2, .bool a3, .int .u64 a4, .bool a5] w fun e w' => e = .returned (.bool true) ∧ Below w.heap.size w w' := by
  have ha := U64.of_wf w0
  have hb := U64.of_wf w1
  have hv := U64.of_wf w4
  have hA := at_eq a0 ha
  have hB := at_eq a1 hb
  have uP : U64 (64 + 8 * (a0 % 50)) := ⟨by omega, by omega⟩
  have uQ : U64 (64 + 8 * (a1 % 50)) := ⟨by omega, by omega⟩
  cases a2
  · have S := fun ad sz held => sc_all 67 4 (.inl ⟨rfl, rfl⟩) a0 a4 ad sz held ha.1 hv
    generalize 64 + 8 * (a0 % 50) = P at *
    generalize 64 + 8 * (a1 % 50) = Q at *
    have m := mask4 a4 hv
    cases a5
    · cases a3
      · obtain ⟨s1, s2, s3, s4⟩ := S Q 4 false
        rw [if_neg (fun h => by cases h.1)] at s2
        exact holds_67_1 a0 a1 a4 P Q 0 _ w hv uP uQ hA hB (Lib.hid s2) (Lib.hid s3) (Lib.hid s1) rfl
      · obtain ⟨s1, s2, s3, s4⟩ := S Q 8 false
        rw [if_neg (fun h => by cases h.1)] at s2
        exact holds_67_2 a0 a1 a4 P Q 0 _ w hv uP uQ hA hB (Lib.hid s2) (Lib.hid s3) (Lib.hid s1) rfl
    · by_cases hq : Q = P
      · have hq' : (Q == P) = true := by simpa using hq
        cases a3
        · obtain ⟨s1, s2, s3, s4⟩ := S Q 4 true
          rw [if_pos ⟨rfl, hq, rfl⟩] at s2
          exact holds_67_6 a0 a1 a4 P Q _ _ w hv uP uQ hA hB (Lib.hid s2) (Lib.hid s4) (Lib.hid (by rw [storeOf_length _ _ _ _ uP.1]; exact s1)) hq' m
        · obtain ⟨s1, s2, s3, s4⟩ := S Q 8 true
          rw [if_neg (fun h => by have := h.2.2; omega)] at s2
          exact holds_67_5 a0 a1 a4 P Q 0 _ w hv uP uQ hA hB (Lib.hid s2) (Lib.hid s3) (Lib.hid s1) hq' rfl
      · have hq' : (Q == P) = false := by simpa using hq
        cases a3
        · obtain ⟨s1, s2, s3, s4⟩ := S Q 4 true
          rw [if_neg (fun h => hq h.2.1)] at s2
          exact holds_67_3 a0 a1 a4 P Q 0 _ w hv uP uQ hA hB (Lib.hid s2) (Lib.hid s3) (Lib.hid s1) hq' rfl
        · obtain ⟨s1, s2, s3, s4⟩ := S Q 8 true
          rw [if_neg (fun h => hq h.2.1)] at s2
          exact holds_67_4 a0 a1 a4 P Q 0 _ w hv uP uQ hA hB (Lib.hid s2) (Lib.hid s3) (Lib.hid s1) hq' rfl
  · have S := fun ad sz held => sc_all 78 8 (.inr ⟨rfl, rfl⟩) a0 a4 ad sz held ha.1 hv
    generalize 64 + 8 * (a0 % 50) = P at *
    generalize 64 + 8 * (a1 % 50) = Q at *
    have m := mask8 a4 hv
    cases a5
    · cases a3
      · obtain ⟨s1, s2, s3, s4⟩ := S Q 8 false
        rw [if_neg (fun h => by cases h.1)] at s2
        exact holds_78_1 a0 a1 a4 P Q 0 _ w hv uP uQ hA hB (Lib.hid s2) (Lib.hid s3) (Lib.hid s1) rfl
      · obtain ⟨s1, s2, s3, s4⟩ := S Q 4 false
        rw [if_neg (fun h => by cases h.1)] at s2
        exact holds_78_2 a0 a1 a4 P Q 0 _ w hv uP uQ hA hB (Lib.hid s2) (Lib.hid s3) (Lib.hid s1) rfl
    · by_cases hq : Q = P
      · have hq' : (Q == P) = true := by simpa using hq
        cases a3
        · obtain ⟨s1, s2, s3, s4⟩ := S Q 8 true
          rw [if_pos ⟨rfl, hq, rfl⟩] at s2
          exact holds_78_6 a0 a1 a4 P Q _ _ w hv uP uQ hA hB (Lib.hid s2) (Lib.hid s4) (Lib.hid (by rw [storeOf_length _ _ _ _ uP.1]; exact s1)) hq' m
        · obtain ⟨s1, s2, s3, s4⟩ := S Q 4 true
          rw [if_neg (fun h => by have := h.2.2; omega)] at s2
          exact holds_78_5 a0 a1 a4 P Q 0 _ w hv uP uQ hA hB (Lib.hid s2) (Lib.hid s3) (Lib.hid s1) hq' rfl
      · have hq' : (Q == P) = false := by simpa using hq
        cases a3
        · obtain ⟨s1, s2, s3, s4⟩ := S Q 8 true
          rw [if_neg (fun h => hq h.2.1)] at s2
          exact holds_78_3 a0 a1 a4 P Q 0 _ w hv uP uQ hA hB (Lib.hid s2) (Lib.hid s3) (Lib.hid s1) hq' rfl
        · obtain ⟨s1, s2, s3, s4⟩ := S Q 4 true
          rw [if_neg (fun h => hq h.2.1)] at s2
          exact holds_78_4 a0 a1 a4 P Q 0 _ w hv uP uQ hA hB (Lib.hid s2) (Lib.hid s3) (Lib.hid s1) hq' rfl
end Go.Proofs.Ytcjfafhbohkhlaa.Hand
