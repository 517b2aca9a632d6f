/- DERIVED. DERIVED. A memory with instructions. -/
import Derived.Test.YtcjfafhbohkhlaaGreatProg
import Derived.Test.YtcjfafhbohkhlaaGreatMBits
import Derived.Test.YtcjfafhbohkhlaaGreatMWalk
import Derived.Test.YtcjfafhbohkhlaaGreatMTab
import Derived.Test.YtcjfafhbohkhlaaGreatMInst
import Derived.Test.YtcjfafhbohkhlaaGreatMDec
import Derived.Test.YtcjfafhbohkhlaaGreatMDec2
import Derived.Test.YtcjfafhbohkhlaaGreatMQTail
import Derived.Test.YtcjfafhbohkhlaaGreatMArg
import Derived.Test.YtcjfafhbohkhlaaGreatMMem
import Derived.Test.YtcjfafhbohkhlaaGreatMMemK
import Derived.Test.YtcjfafhbohkhlaaGreatMMemR
import Derived.Test.YtcjfafhbohkhlaaGreatMHart
import Derived.Test.YtcjfafhbohkhlaaGreatMRow
import Derived.Test.YtcjfafhbohkhlaaGreatMOpen
import Derived.Test.YtcjfafhbohkhlaaGreatMPart
import Derived.Test.YtcjfafhbohkhlaaGreatMReg
import Derived.Test.YtcjfafhbohkhlaaGreatMQHead
import Derived.Test.YtcjfafhbohkhlaaGreatHE
import Derived.Test.YtcjfafhbohkhlaaGreatPAllx0
import Derived.Test.YtcjfafhbohkhlaaGreatPAllx2
import Derived.Test.YtcjfafhbohkhlaaGreatPAllx4
import Derived.Test.YtcjfafhbohkhlaaGreatPAllx5
import Derived.Test.YtcjfafhbohkhlaaGreatPAllx6
import Derived.Test.YtcjfafhbohkhlaaGreatPAllx9
import Derived.Test.YtcjfafhbohkhlaaGreatPAllx11
import Derived.Test.YtcjfafhbohkhlaaGreatPAllx12
import Derived.Test.YtcjfafhbohkhlaaGreatPAllx14
import Derived.Test.YtcjfafhbohkhlaaGreatPAllx16
import Derived.Test.YtcjfafhbohkhlaaGreatPAllx20
import Derived.Below
import Derived.Deep.Draws
import Derived.Deep.AppendLies
import Derived.Maps.AppendAt
import Derived.OwnWalk
import Derived.Laws.BytesArg
import Derived.Laws.MakeOwn
import Derived.Laws.OwnMore
import Derived.Deep.OwnRows
import Derived.Tactics
import Derived.Lib.ConvBytes
import Derived.Laws.Slices
import Derived.WalkKit
import Derived.KernelRfl
import Derived.RowKit3
import Derived.Deep.LoopGhost
import Derived.Deep.QuietTactic
import Derived.BigQuiet
import Derived.WideLaws
import Derived.Deep.DeepCutAuto
import Derived.Deep.CutBlock
import Derived.Deep.RegionHeld3
import Derived.Laws.Rows
import Derived.Lib.AppendStr
import Derived.ArgAppend
import Derived.Laws.IdiomCopy
import Derived.OrdersHeld
import Derived.Laws.BitsLemmas
import Derived.Laws.Bits64
import Derived.RowKit
import Derived.Outline
import Derived.Handy
import Derived.Lib.Hide
import Derived.Deep.Light
import Derived.Laws.CopyOwn
namespace Go.Proofs.YtcjfafhbohkhlaaGreat.Hand
open Go Go.RowKit Go.Proofs.YtcjfafhbohkhlaaGreat.M Go.Proofs.YtcjfafhbohkhlaaGreat.PAll Go.Proofs.YtcjfafhbohkhlaaGreatW.PrintWords
set_option linter.unusedVariables false
set_option linter.unusedSimpArgs false
structure InstS where
  op : Int
  rd : Int
  rs1 : Int
  rs2 : Int
  imm : Int
  aq : Bool
  rl : Bool
def InstS.cells (i : InstS) : Array Value := insC i.op i.rd i.rs1 i.rs2 i.imm i.aq i.rl
def InstS.good (i : InstS) : Bool := goodOf i.op i.rd i.rs1 i.rs2 i.imm i.aq i.rl
def InstS.word (i : InstS) : Int := if i.good = true then encOf i.op i.rd i.rs1 i.rs2 i.imm i.aq i.rl else 0
def i0 : InstS := ⟨0, 0, 0, 0, 0, false, false⟩
def laidTo (m : Nat) (l : List InstS) : Nat → List Int
  | 0 => List.replicate m 0
  | j + 1 => storeOf (laidTo m l j) (4 * j) 4 ((l.getD j i0).word)
/-- Instructions that lie in a slice. -/
def InstRow (w : World) (A : Option Addr) (l : List InstS) : Prop := l ≠ [] → ∃ ad, A = some ad ∧ ad.block < w.heap.size ∧ ∀ k i, l[k]? = some i → ∀ f v, i.cells[f]? = some v → w.cell? (ad.add (7 * k + f)) = some v
theorem InstRow.below {w w' : World} {A : Option Addr} {l : List InstS} (h : InstRow w A l) (d : Below w.heap.size w w') : InstRow w' A l := fun hn => by
  obtain ⟨ad, e, h2, h3⟩ := h hn
  exact ⟨ad, e, Nat.lt_of_lt_of_le h2 d.size, fun k i hk f v hf => (d.cell (p := ad.add (7 * k + f)) (by rw [block_add]; exact h2)).trans (h3 k i hk f v hf)⟩
def sizeAt (s : Int) : Nat := 64 + (IntKind.u64.wrap s % 2000).toNat
def LaidPost (w : World) (bs : List Int) (e : Ending) (w' : World) : Prop := ∃ g q gr qr, e = .returned (.tuple #[.pointer (some ⟨g, 0, none⟩), .pointer (some ⟨gr, 0, none⟩)]) ∧ MemAt w' g q bs ∧ RefAt w' gr qr bs ∧ w.heap.size ≤ g ∧ w.heap.size ≤ q ∧ w.heap.size ≤ gr ∧ w.heap.size ≤ qr ∧ g ≠ qr ∧ q ≠ gr ∧ q ≠ qr ∧ Below w.heap.size w w'
theorem enc_range (op rd rs1 rs2 imm : Int) (aq rl : Bool) (hg : goodOf op rd rs1 rs2 imm aq rl = true) : 0 ≤ encOf op rd rs1 rs2 imm aq rl ∧ encOf op rd rs1 rs2 imm aq rl < 4294967296 := by
  have G := goodI hg
  obtain ⟨n1, n2, n3, n4, n5, n6, n7, n8⟩ := nums_range op
  have b1 := G.rd0
  have b2 := G.rd1
  have b3 := G.rs10
  have b4 := G.rs11
  have b5 := G.rs20
  have b6 := G.rs21
  have bA := G.aqh
  have d1 := G.rdh
  have d2 := G.rs1h
  have d3 := G.rs2h
  have hc := form_cases op
  clear G hg
  unfold encOf
  generalize codeOf op = c at *
  generalize f3Of op = x3 at *
  generalize f7Of op = x7 at *
  generalize formOf op = f at *
  rcases hc with rfl | rfl | rfl | rfl | rfl | rfl | rfl | rfl | rfl | rfl | rfl | rfl | rfl
  all_goals (try (have hz := bA; simp [hasAq] at hz; obtain ⟨hz1, hz2⟩ := hz; subst hz1 hz2))
  all_goals (try (have hz := d1; simp [hasRd] at hz; subst hz))
  all_goals (try (have hz := d2; simp [hasRs1] at hz; subst hz))
  all_goals (try (have hz := d3; simp [hasRs2] at hz; subst hz))
  all_goals simp [highOf, immWord]
  all_goals (try (cases aq <;> cases rl <;> simp))
  all_goals omega
theorem c_encode (op rd rs1 rs2 imm : Int) (aq rl : Bool) (hI : I64 imm) : ∃ E er : Int, 0 ≤ E ∧ E < 4294967296 ∧ Hid (∀ W, Calls Tryz.prog 16 #[.agg #[.int .i64 op, .int .i64 rd, .int .i64 rs1, .int .i64 rs2, .int .i64 imm, .bool aq, .bool rl]] W fun e w' => e = .returned (.tuple #[.int .u32 E, .int .i64 er]) ∧ Below W.heap.size W w') ∧ (er ≠ 0 → E = 0) ∧ E = InstS.word ⟨op, rd, rs1, rs2, imm, aq, rl⟩ := by
  by_cases hg : goodOf op rd rs1 rs2 imm aq rl = true
  · have hr := enc_range op rd rs1 rs2 imm aq rl hg
    refine ⟨encOf op rd rs1 rs2 imm aq rl, 0, hr.1, hr.2, Lib.hid fun W => inst_Encode.calls op rd rs1 rs2 imm aq rl _ _ W (by unfold inst_Encode.f; rw [if_pos hI, if_pos hg]), fun h => absurd rfl h, ?_⟩
    unfold InstS.word InstS.good; rw [if_pos hg]
  · refine ⟨0, 20, by decide, by decide, Lib.hid fun W => inst_Encode.calls op rd rs1 rs2 imm aq rl _ _ W (by unfold inst_Encode.f; rw [if_pos hI, if_neg hg]), fun _ => rfl, ?_⟩
    unfold InstS.word InstS.good; rw [if_neg hg]
theorem row_cell {w : World} {ad : Addr} {j f : Nat} {v : Value} (h : w.cell? (ad.add (7 * j + (f + 1))) = some v) : w.cell? ⟨(ad.add (j * 7)).block, (ad.add (j * 7)).off + (f + 1), none⟩ = some v := by
  rw [← h]
  have o : ∀ k, (ad.add k).off = ad.off + k := fun k => by unfold Addr.add; split <;> simp_all
  have e : ad.add (7 * j + (f + 1)) = ⟨ad.block, ad.off + (7 * j + (f + 1)), none⟩ := by unfold Addr.add; rw [if_neg (by omega)]
  rw [e, o, block_add, show ad.off + j * 7 + (f + 1) = ad.off + (7 * j + (f + 1)) by omega]
theorem size_at (s : Int) : wrap64 (64 + wrap64 ((IntKind.u64.wrap s).tmod 2000)) = (sizeAt s : Nat) := by
  have h := (U64.wrap s).1
  unfold sizeAt
  rw [Int.tmod_eq_emod_of_nonneg h]
  unfold wrap64; omega
theorem size_at_le (s : Int) : 64 ≤ sizeAt s ∧ sizeAt s ≤ 2063 := by
  have h := (U64.wrap s).1
  unfold sizeAt; omega
set_option maxHeartbeats 16000000 in
set_option maxRecDepth 100000 in
theorem laid_any (s : Int) (A : Option Addr) (n c : Nat) (l : List InstS) (w : World) (hl : l.length = n) (hn : n ≤ 200) (hr : InstRow w A l) (hi : ∀ i ∈ l, I64 i.imm) :
    Calls Tryz.prog 6 #[.int .i64 s, .slice A n c] w (LaidPost w (laidTo (sizeAt s) l n)) := by
  have HR := Lib.hid hr
  have HI := Lib.hid hi
  have hm := size_at s
  have hml := size_at_le s
  generalize sizeAt s = m at *
  clear hr hi
  go_enter Tryz.func6, Tryz.ntmps6
  go_wp2_with fail
  refine (New_ok w m _ rfl (by omega)).mono ?_
  rintro e W1 ⟨g, q, rfl, M, hg, hq, d⟩
  have HM := Lib.hid M
  have hB := Lib.hid d
  have hgl := M.1.lt
  have hql := M.2.1.lt
  have hgq := M.ne
  clear M d
  go_wp2_with fail
  refine (NewRef_ok _ m _ rfl (by omega)).mono ?_
  rintro e W2 ⟨gr, qr, rfl, M, hgr, hqr, d⟩
  have HM2 := Lib.hid (HM.out.below d)
  have HF2 := Lib.hid M
  have hB2 := Lib.hid (hB.out.trans (d.mono hB.out.size))
  have hsz := hB.out.size
  have hpp : g ≠ qr ∧ q ≠ gr ∧ q ≠ qr ∧ g ≠ gr := by omega
  have hww : w.heap.size ≤ g ∧ w.heap.size ≤ q ∧ w.heap.size ≤ gr ∧ w.heap.size ≤ qr := by omega
  clear M d hB HM hgr hqr hg hq hgl hql
  go_wp2_with fail
  go_loopw [27] (fun i wr => ∃ j : Nat, j ≤ n ∧ i = .int .i64 j ∧ Hid (MemAt wr g q (laidTo m l j)) ∧ Hid (RefAt wr gr qr (laidTo m l j)) ∧ Hid (Below w.heap.size w wr) ) (fun i _ => n - (intOf i).toNat)
  case atStart => exact ⟨0, by omega, rfl, HM2, HF2, hB2⟩
  case round =>
    obtain ⟨j, hj, rfl, HM, HF, HB⟩ := hrel
    by_cases hlt : j < n
    · obtain ⟨ad, rfl, had, hc⟩ := (HR.out.below HB.out) (by intro e; rw [e] at hl; simp at hl; omega)
      have hjl : j < l.length := by omega
      have hg := List.getElem?_eq_getElem hjl
      have hin := HI.out _ (List.getElem_mem hjl)
      have hst := Lib.hid (show storeOf (laidTo m l j) (4 * j) 4 (l.getD j i0).word = laidTo m l (j + 1) from rfl)
      rw [show l.getD j i0 = l[j] by rw [List.getD_eq_getElem?_getD, hg]; rfl] at hst
      have hcs := hc j _ hg
      clear hc hg
      generalize l[j] = ins at *
      obtain ⟨op, rd, rs1, rs2, imm, aq, rl⟩ := ins
      have k0 := hcs 0 (.int .i64 op) rfl
      rw [show 7 * j + 0 = j * 7 by omega] at k0
      have k1 := row_cell (f := 0) (hcs 1 (.int .i64 rd) rfl)
      have k2 := row_cell (f := 1) (hcs 2 (.int .i64 rs1) rfl)
      have k3 := row_cell (f := 2) (hcs 3 (.int .i64 rs2) rfl)
      have k4 := row_cell (f := 3) (hcs 4 (.int .i64 imm) rfl)
      have k5 := row_cell (f := 4) (hcs 5 (.bool aq) rfl)
      have k6 := row_cell (f := 5) (hcs 6 (.bool rl) rfl)
      clear hcs
      have j4 : wrap64 (4 * (j : Int)) = 4 * j := by unfold wrap64; omega
      have j5 : IntKind.u64.wrap (4 * (j : Int)) = 4 * j := by rw [IntKind.wrap_u64]; omega
      have key : ∃ E er : Int, 0 ≤ E ∧ E < 4294967296 ∧ Hid (∀ W, Calls Tryz.prog 16 #[.agg #[.int .i64 op, .int .i64 rd, .int .i64 rs1, .int .i64 rs2, .int .i64 imm, .bool aq, .bool rl]] W fun e w' => e = .returned (.tuple #[.int .u32 E, .int .i64 er]) ∧ Below W.heap.size W w') ∧ (er ≠ 0 → E = 0) ∧ E = InstS.word ⟨op, rd, rs1, rs2, imm, aq, rl⟩ := c_encode op rd rs1 rs2 imm aq rl hin
      obtain ⟨E, er, e0, e1, HC, he, hword⟩ := key
      rw [← hword] at hst
      clear hword hin
      have j6 : IntKind.u64.wrap E = E := by rw [IntKind.wrap_u64]; omega
      go_wp2_with fail
      generalize hX : World.alloc wr _ = X
      have d1 : Below wr.heap.size wr X := hX ▸ ((Below.refl wr.heap.size wr).alloc (Nat.le_refl _) _)
      refine (HC.out X).mono ?_
      rintro e W3 ⟨rfl, d2⟩
      have d3 := d1.trans (d2.mono d1.size)
      have HM3 := Lib.hid (HM.out.below d3)
      have HF3 := Lib.hid (RefAt.below HF.out d3)
      have HB3 := Lib.hid (HB.out.trans (d3.mono HB.out.size))
      clear hX d1 d2 d3 HM HF HB HC k0 k1 k2 k3 k4 k5 k6
      have fin : ∀ W4 W5, MemAt W4 g q (storeOf (laidTo m l j) (4 * j) 4 E) → W3.grownBy W4 (some q) → RefAt W5 gr qr (storeOf (laidTo m l j) (4 * j) 4 E) → W4.grownBy W5 (some qr) → Hid (MemAt W5 g q (laidTo m l (j + 1))) ∧ Hid (RefAt W5 gr qr (laidTo m l (j + 1))) ∧ Hid (Below w.heap.size w W5) := by
        intro W4 W5 a1 a2 a3 a4
        rw [hst.out] at a1 a3
        have b1 := below_grown HB3.out a2 hww.2.1 HB3.out.size
        refine ⟨Lib.hid ⟨(a4.block _ a1.1.lt (fun e => by injection e with e; omega)).trans a1.1, (a4.block _ a1.2.1.lt (fun e => by injection e with e; omega)).trans a1.2.1, a1.2.2⟩, Lib.hid a3, Lib.hid (below_grown b1 a4 hww.2.2.2 b1.size)⟩
      have FR : ∀ W4, W3.grownBy W4 (some q) → RefAt W4 gr qr (laidTo m l j) := fun W4 a => ⟨(a.block _ HF3.out.1.lt (fun e => by injection e with e; omega)).trans HF3.out.1, (a.block _ HF3.out.2.1.lt (fun e => by injection e with e; omega)).trans HF3.out.2.1, HF3.out.2.2⟩
      by_cases hz : er = 0
      · subst hz
        go_wp2_with fail
        refine (Store_any _ g q _ (4 * j) 4 E HM3.out ⟨by omega, by omega⟩ ⟨by omega, by omega⟩ ⟨by omega, by omega⟩).mono ?_
        rintro e W4 ⟨rfl, hM4, hG4⟩
        go_wp2_with fail
        refine (StoreRef_any _ gr qr _ (4 * j) 4 E (FR _ hG4) ⟨by omega, by omega⟩ ⟨by omega, by omega⟩ ⟨by omega, by omega⟩).mono ?_
        rintro e W5 ⟨rfl, hM5, hG5⟩
        obtain ⟨f1, f2, f3⟩ := fin W4 W5 hM4 hG4 hM5 hG5
        clear hM4 hG4 hM5 hG5 fin FR
        go_wp2_with fail
        go_roundw
        case rel => exact ⟨j + 1, by omega, by go_num, f1, f2, f3⟩
        case measure => simp [intOf]; omega
      · obtain rfl := he hz
        have dz : (er != 0) = true := by simpa using hz
        go_wp2_with fail
        refine (Store_any _ g q _ (4 * j) 4 0 HM3.out ⟨by omega, by omega⟩ ⟨by omega, by omega⟩ ⟨by omega, by omega⟩).mono ?_
        rintro e W4 ⟨rfl, hM4, hG4⟩
        go_wp2_with fail
        refine (StoreRef_any _ gr qr _ (4 * j) 4 0 (FR _ hG4) ⟨by omega, by omega⟩ ⟨by omega, by omega⟩ ⟨by omega, by omega⟩).mono ?_
        rintro e W5 ⟨rfl, hM5, hG5⟩
        obtain ⟨f1, f2, f3⟩ := fin W4 W5 hM4 hG4 hM5 hG5
        clear hM4 hG4 hM5 hG5 fin FR
        go_wp2_with fail
        go_roundw
        case rel => exact ⟨j + 1, by omega, by go_num, f1, f2, f3⟩
        case measure => simp [intOf]; omega
    · obtain rfl : j = n := by omega
      go_wp2_with fail
      go_ret2
      exact ⟨g, q, gr, qr, rfl, HM.out, HF.out, hww.1, hww.2.1, hww.2.2.1, hww.2.2.2, hpp.1, hpp.2.1, hpp.2.2.1, HB.out⟩
end Go.Proofs.YtcjfafhbohkhlaaGreat.Hand
