/- DERIVED. DERIVED. One step, of any hart and memory. -/
import Derived.Test.YtcjfafhbohkhlaaGreatProg
import Derived.Test.YtcjfafhbohkhlaaGreatMBits
import Derived.Test.YtcjfafhbohkhlaaGreatMWalk
import Derived.Test.YtcjfafhbohkhlaaGreatMTab
import Derived.Test.YtcjfafhbohkhlaaGreatMInst
import Derived.Test.YtcjfafhbohkhlaaGreatMDec
import Derived.Test.YtcjfafhbohkhlaaGreatMDec2
import Derived.Test.YtcjfafhbohkhlaaGreatMQTail
import Derived.Test.YtcjfafhbohkhlaaGreatMArg
import Derived.Test.YtcjfafhbohkhlaaGreatMMem
import Derived.Test.YtcjfafhbohkhlaaGreatMMemK
import Derived.Test.YtcjfafhbohkhlaaGreatMMemR
import Derived.Test.YtcjfafhbohkhlaaGreatMHart
import Derived.Test.YtcjfafhbohkhlaaGreatMRow
import Derived.Test.YtcjfafhbohkhlaaGreatMOpen
import Derived.Test.YtcjfafhbohkhlaaGreatMPart
import Derived.Test.YtcjfafhbohkhlaaGreatMReg
import Derived.Test.YtcjfafhbohkhlaaGreatMQHead
import Derived.Test.YtcjfafhbohkhlaaGreatHC
import Derived.Test.YtcjfafhbohkhlaaGreatPAllx0
import Derived.Test.YtcjfafhbohkhlaaGreatPAllx2
import Derived.Test.YtcjfafhbohkhlaaGreatPAllx4
import Derived.Test.YtcjfafhbohkhlaaGreatPAllx5
import Derived.Test.YtcjfafhbohkhlaaGreatPAllx6
import Derived.Test.YtcjfafhbohkhlaaGreatPAllx9
import Derived.Test.YtcjfafhbohkhlaaGreatPAllx11
import Derived.Test.YtcjfafhbohkhlaaGreatPAllx12
import Derived.Test.YtcjfafhbohkhlaaGreatPAllx14
import Derived.Test.YtcjfafhbohkhlaaGreatPAllx16
import Derived.Test.YtcjfafhbohkhlaaGreatPAllx20
import Derived.Below
import Derived.Deep.Draws
import Derived.Deep.AppendLies
import Derived.Maps.AppendAt
import Derived.OwnWalk
import Derived.Laws.BytesArg
import Derived.Laws.MakeOwn
import Derived.Laws.OwnMore
import Derived.Deep.OwnRows
import Derived.Tactics
import Derived.Lib.ConvBytes
import Derived.Laws.Slices
import Derived.WalkKit
import Derived.KernelRfl
import Derived.RowKit3
import Derived.Deep.LoopGhost
import Derived.Deep.QuietTactic
import Derived.BigQuiet
import Derived.WideLaws
import Derived.Deep.DeepCutAuto
import Derived.Deep.CutBlock
import Derived.Deep.RegionHeld3
import Derived.Laws.Rows
import Derived.Lib.AppendStr
import Derived.ArgAppend
import Derived.Laws.IdiomCopy
import Derived.OrdersHeld
import Derived.Laws.BitsLemmas
import Derived.Laws.Bits64
import Derived.RowKit
import Derived.Outline
import Derived.Handy
import Derived.Lib.Hide
import Derived.Deep.Light
import Derived.Laws.CopyOwn
namespace Go.Proofs.YtcjfafhbohkhlaaGreat.Hand
open Go Go.RowKit Go.Proofs.YtcjfafhbohkhlaaGreat.M Go.Proofs.YtcjfafhbohkhlaaGreat.PAll Go.Proofs.YtcjfafhbohkhlaaGreatW.PrintWords
set_option linter.unusedVariables false
set_option linter.unusedSimpArgs false
theorem bits_range (op x y) : U64 (Go.bits op .u64 x y) := by
  unfold Go.bits
  split <;> exact U64.wrap _
theorem target_range (op imm pc a : Int) : U64 (targetOf op imm pc a) := by
  unfold targetOf
  split
  · exact U64.wrap _
  split
  · exact bits_range _ _ _
  · exact U64.wrap _
theorem one_range (b : Bool) : U64 (oneOf b) := by cases b <;> decide
theorem others_range (op a C : Int) : U64 (othersOf op a C).1 := by
  unfold othersOf
  repeat' split
  all_goals first | exact one_range _ | exact bits_range _ _ _ | exact U64.wrap _ | decide
theorem value_range (op imm pc a b : Int) (ha : U64 a) (hb : U64 b) : U64 (valueOf op imm pc a b).1 := by
  unfold valueOf
  have hC : U64 (if immB op = true then IntKind.u64.wrap imm else b) := by split; exact U64.wrap _; exact hb
  generalize (if immB op = true then IntKind.u64.wrap imm else b) = C at *
  unfold valueAt
  split
  · exact U64.wrap _
  split
  · exact U64.wrap _
  split
  · exact U64.wrap _
  split
  · have r := sized_range op a C 32 ha hC
    exact sign_range _ 32 r
  split
  · exact sized_range op a C 64 ha hC
  split
  · exact others_range op a C
  · exact (by decide : U64 0)
theorem touch_ok (h : HartS) (bs : List Int) (op at_ n b : Int) (k : h.Ok) (hbs : Bytes bs) (ha : U64 at_) (hn : I64 n) : U64 (touchAt h bs op at_ n b).1 ∧ (touchAt h bs op at_ n b).2.2.1.Ok := by
  have k0 : ({ h with held := false, ad := 0, sz := 0 } : HartS).Ok := k.hold false 0 0 (by decide) (by decide)
  have hl := loaded_range op _ (load_range bs at_ n hbs)
  have h0 := loaded_range op 0 (by decide)
  unfold touchAt
  split
  · split
    · split
      · exact ⟨(by decide : U64 0), k0⟩
      · exact ⟨(by decide : U64 0), k⟩
    · exact ⟨(by decide : U64 1), k0⟩
  · split
    · split
      · refine ⟨hl, ?_⟩
        show HartS.Ok (if op = 66 ∨ op = 77 then _ else h)
        split
        · exact k.hold true at_ n ha hn
        · exact k
      · exact ⟨hl, k⟩
    · split
      · exact ⟨h0, k⟩
      · exact ⟨h0, k⟩
theorem size_pos (op : Int) (h : 0 < PAll.sizeOf op) : 11 ≤ op ∧ (loadsB op = true ∨ storesB op = true) := by
  unfold PAll.sizeOf at h
  unfold loadsB storesB
  simp only [decide_eq_true_eq]
  repeat' split at h
  all_goals omega
theorem u32_range (x : Int) : 0 ≤ IntKind.u32.wrap x ∧ IntKind.u32.wrap x < 4294967296 := by
  rw [IntKind.wrap_u32]; omega
theorem c_decode (wd : Int) (h : 0 ≤ wd ∧ wd < 4294967296) (W : World) : Calls Tryz.prog 24 #[.int .u32 wd] W fun e w' => e = .returned (.tuple #[.agg (insC (decTup wd (decOp wd)).1 (decTup wd (decOp wd)).2.1 (decTup wd (decOp wd)).2.2.1 (decTup wd (decOp wd)).2.2.2.1 (decTup wd (decOp wd)).2.2.2.2.1 (decTup wd (decOp wd)).2.2.2.2.2.1 (decTup wd (decOp wd)).2.2.2.2.2.2.1), .int .i64 (decTup wd (decOp wd)).2.2.2.2.2.2.2]) ∧ Below W.heap.size W w' :=
  inst_Decode.calls wd _ _ _ _ _ _ _ _ W (by unfold inst_Decode.f; rw [if_pos h])
theorem step_any (h : HartS) (g q : Nat) (bs : List Int) (w : World) (hk : h.Ok) (M : MemAt w g q bs) :
    Calls Tryz.prog 12 #[.agg h.cells, .pointer (some ⟨g, 0, none⟩)] w (StepPost w g q (stepOf h bs)) := by
  unfold stepOf
  by_cases hE : numE bs.length h.pc 4 ≠ 0
  · rw [if_pos hE]; exact step_1 h g q bs w hk M hE
  rw [if_neg hE]
  have hE : numE bs.length h.pc 4 = 0 := Classical.not_not.1 hE
  have HD := c_decode _ (u32_range (loadOf bs h.pc 4))
  have hbs := M.2.2.1
  generalize hw : IntKind.u32.wrap (loadOf bs h.pc 4) = wd at *
  show Calls _ _ _ _ (StepPost w g q (if decOp wd = 0 then (h, bs, 21) else if decOp wd = 51 ∨ decOp wd = 52 then (h, bs, 60) else doOf h bs (decOp wd) (decRd (decOp wd) wd) (decRs1 (decOp wd) wd) (decRs2 (decOp wd) wd) (decImm (formOf (decOp wd)) wd)))
  by_cases h0 : decOp wd = 0
  · rw [if_pos h0]
    rw [h0] at HD
    exact step_2 h g q bs w wd 21 0 0 0 0 0 false false hk M hE hw (Lib.hid HD) (by decide)
  rw [if_neg h0]
  have e : decTup wd (decOp wd) = (decOp wd, decRd (decOp wd) wd, decRs1 (decOp wd) wd, decRs2 (decOp wd) wd, decImm (formOf (decOp wd)) wd, decAq (decOp wd) wd, decRl (decOp wd) wd, 0) := by unfold decTup; rw [if_neg h0]
  rw [e] at HD
  have hg := hit_good (decOp_hit wd h0)
  have hI := decImm_I64 (formOf (decOp wd)) wd
  clear e
  generalize decOp wd = op at *
  generalize decImm (formOf op) wd = imm at *
  generalize decAq op wd = aq at *
  generalize decRl op wd = rl at *
  have G := goodI hg
  obtain ⟨rd, e1⟩ : ∃ k : Nat, decRd op wd = k := ⟨(decRd op wd).toNat, by have := G.rd0; omega⟩
  obtain ⟨rs1, e2⟩ : ∃ k : Nat, decRs1 op wd = k := ⟨(decRs1 op wd).toNat, by have := G.rs10; omega⟩
  obtain ⟨rs2, e3⟩ : ∃ k : Nat, decRs2 op wd = k := ⟨(decRs2 op wd).toNat, by have := G.rs20; omega⟩
  have l0 : rd < 32 := by have := G.rd1; omega
  have l1 : rs1 < 32 := by have := G.rs11; omega
  have l2 : rs2 < 32 := by have := G.rs21; omega
  rw [e1, e2, e3] at HD hg ⊢
  clear e1 e2 e3 G
  by_cases hc : op = 51 ∨ op = 52
  · rw [if_pos hc]
    exact step_3 h g q bs w wd 0 op rd rs1 rs2 imm aq rl hk M hE hw (Lib.hid HD) rfl hc
  rw [if_neg hc]
  have n1 : op ≠ 51 := fun e => hc (.inl e)
  have n2 : op ≠ 52 := fun e => hc (.inr e)
  unfold doOf
  dsimp only
  have ko : (h.set 0 0).Ok := hk.set 0 0 (by decide)
  have hra := ko.reg rs1
  have hrb := ko.reg rs2
  have HS := Lib.hid (c_size op)
  have HTg := Lib.hid (c_target op rd rs1 rs2 imm ((h.set 0 0).reg rs1) aq rl)
  have HTk := Lib.hid (fun W => c_taken op rd rs1 rs2 imm ((h.set 0 0).reg rs1) ((h.set 0 0).reg rs2) aq rl W hI hg)
  have utg := target_range op imm h.pc ((h.set 0 0).reg rs1)
  have HTg := Lib.hid (fun W => HTg.out W h.pc)
  have HTo := Lib.hid (fun O W B M hne hls => touch_any op rd rs1 rs2 imm ((h.set 0 0).reg rs1) ((h.set 0 0).reg rs2) aq rl (h.set 0 0) O g q bs W ko B M hne hra hrb hls)
  have tk := touch_ok (h.set 0 0) bs op (addrOf op imm ((h.set 0 0).reg rs1)) (PAll.sizeOf op) ((h.set 0 0).reg rs2) ko hbs (addr_range _ _ _ hra) (by have := size_range op; exact ⟨by omega, by omega⟩)
  have vr := value_range op imm h.pc _ _ hra hrb
  have HV := Lib.hid (fun W => alu_Value.calls op rd rs1 rs2 imm aq rl h.pc ((h.set 0 0).reg rs1) ((h.set 0 0).reg rs2) _ _ W (by unfold alu_Value.f; rw [if_pos ⟨hI, hra, hrb⟩, if_pos hg]))
  have hsp := size_pos op
  generalize ha : (h.set 0 0).reg (rs1 : Int) = a at *
  generalize hb : (h.set 0 0).reg (rs2 : Int) = b at *
  generalize targetOf op imm h.pc a = tg at *
  generalize hvv : valueOf op imm h.pc a b = vv at *
  obtain ⟨v, ve⟩ := vv
  generalize PAll.sizeOf op = n at *
  by_cases n0 : 0 < n
  · obtain ⟨h11, hls⟩ := hsp n0
    rw [if_pos n0]
    generalize touchAt (h.set 0 0) bs op (addrOf op imm a) n b = t at *
    obtain ⟨v2, err, o', bs'⟩ := t
    have HT := Lib.hid (fun O W B M hne => HTo.out O W B M hne hls)
    by_cases he : err ≠ 0
    · rw [if_pos he]
      exact step_4A h g q bs w wd op imm a b n rd rs1 rs2 aq rl hk M hE hw l0 l1 l2 (Lib.hid HD) n1 n2 ha hb HS n0 v2 err o' bs' tk.2 tk.1 HT he
    · rw [if_neg he, if_neg (by omega)]
      exact step_4B h g q bs w wd op imm a b n rd rs1 rs2 aq rl hk M hE hw l0 l1 l2 (Lib.hid HD) n1 n2 ha hb HS n0 v2 err o' bs' tk.2 tk.1 HT (Classical.not_not.1 he) h11 tg 0 _ utg (by decide) HTg HTk
  · rw [if_neg n0, if_neg (show ¬ (((v, ve).1, (0 : Int), h.set 0 0, bs) : Int × Int × HartS × List Int).2.1 ≠ 0 from fun h => h rfl)]
    by_cases c5 : 5 ≤ op ∧ op ≤ 10
    · cases ht : takenOf op a b
      · rw [ht] at HTk
        rw [if_pos ⟨c5.1, c5.2, rfl⟩]
        exact step_4E h g q bs w wd op imm a b n rd rs1 rs2 aq rl hk M hE hw l0 l1 l2 (Lib.hid HD) n1 n2 ha hb HS n0 v ve vr HV c5.1 c5.2 tg 0 utg (by decide) HTg HTk
      · rw [ht] at HTk
        rw [if_neg (fun h => by cases h.2.2)]
        exact step_4D h g q bs w wd op imm a b n rd rs1 rs2 aq rl hk M hE hw l0 l1 l2 (Lib.hid HD) n1 n2 ha hb HS n0 v ve vr HV c5.1 c5.2 tg 0 utg (by decide) HTg HTk
    · rw [if_neg (fun h => c5 ⟨h.1, h.2.1⟩)]
      exact step_4C h g q bs w wd op imm a b n rd rs1 rs2 aq rl hk M hE hw l0 l1 l2 (Lib.hid HD) n1 n2 ha hb HS n0 v ve vr HV (by omega) tg 0 _ utg (by decide) HTg HTk
end Go.Proofs.YtcjfafhbohkhlaaGreat.Hand
