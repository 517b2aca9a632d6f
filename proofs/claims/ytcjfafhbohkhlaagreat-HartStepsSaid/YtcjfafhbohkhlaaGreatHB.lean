/- DERIVED. DERIVED. What an instruction does to the memory. -/
import Derived.Test.YtcjfafhbohkhlaaGreatProg
import Derived.Test.YtcjfafhbohkhlaaGreatMBits
import Derived.Test.YtcjfafhbohkhlaaGreatMWalk
import Derived.Test.YtcjfafhbohkhlaaGreatMTab
import Derived.Test.YtcjfafhbohkhlaaGreatMInst
import Derived.Test.YtcjfafhbohkhlaaGreatMDec
import Derived.Test.YtcjfafhbohkhlaaGreatMDec2
import Derived.Test.YtcjfafhbohkhlaaGreatMQTail
import Derived.Test.YtcjfafhbohkhlaaGreatMArg
import Derived.Test.YtcjfafhbohkhlaaGreatMMem
import Derived.Test.YtcjfafhbohkhlaaGreatMMemK
import Derived.Test.YtcjfafhbohkhlaaGreatMMemR
import Derived.Test.YtcjfafhbohkhlaaGreatMHart
import Derived.Test.YtcjfafhbohkhlaaGreatMRow
import Derived.Test.YtcjfafhbohkhlaaGreatMOpen
import Derived.Test.YtcjfafhbohkhlaaGreatMPart
import Derived.Test.YtcjfafhbohkhlaaGreatMReg
import Derived.Test.YtcjfafhbohkhlaaGreatMQHead
import Derived.Test.YtcjfafhbohkhlaaGreatHA
import Derived.Test.YtcjfafhbohkhlaaGreatPAllx0
import Derived.Test.YtcjfafhbohkhlaaGreatPAllx2
import Derived.Test.YtcjfafhbohkhlaaGreatPAllx4
import Derived.Test.YtcjfafhbohkhlaaGreatPAllx5
import Derived.Test.YtcjfafhbohkhlaaGreatPAllx6
import Derived.Test.YtcjfafhbohkhlaaGreatPAllx9
import Derived.Test.YtcjfafhbohkhlaaGreatPAllx11
import Derived.Test.YtcjfafhbohkhlaaGreatPAllx12
import Derived.Test.YtcjfafhbohkhlaaGreatPAllx14
import Derived.Test.YtcjfafhbohkhlaaGreatPAllx16
import Derived.Test.YtcjfafhbohkhlaaGreatPAllx20
import Derived.Below
import Derived.Deep.Draws
import Derived.Deep.AppendLies
import Derived.Maps.AppendAt
import Derived.OwnWalk
import Derived.Laws.BytesArg
import Derived.Laws.MakeOwn
import Derived.Laws.OwnMore
import Derived.Deep.OwnRows
import Derived.Tactics
import Derived.Lib.ConvBytes
import Derived.Laws.Slices
import Derived.WalkKit
import Derived.KernelRfl
import Derived.RowKit3
import Derived.Deep.LoopGhost
import Derived.Deep.QuietTactic
import Derived.BigQuiet
import Derived.WideLaws
import Derived.Deep.DeepCutAuto
import Derived.Deep.CutBlock
import Derived.Deep.RegionHeld3
import Derived.Laws.Rows
import Derived.Lib.AppendStr
import Derived.ArgAppend
import Derived.Laws.IdiomCopy
import Derived.OrdersHeld
import Derived.Laws.BitsLemmas
import Derived.Laws.Bits64
import Derived.RowKit
import Derived.Outline
import Derived.Handy
import Derived.Lib.Hide
import Derived.Deep.Light
import Derived.Laws.CopyOwn
namespace Go.Proofs.YtcjfafhbohkhlaaGreat.Hand
open Go Go.RowKit Go.Proofs.YtcjfafhbohkhlaaGreat.M Go.Proofs.YtcjfafhbohkhlaaGreat.PAll Go.Proofs.YtcjfafhbohkhlaaGreatW.PrintWords
set_option linter.unusedVariables false
set_option linter.unusedSimpArgs false
/-- Behind a call: as before, but for two blocks and new ones. -/
structure Two (w w' : World) (p q : Nat) : Prop where
  os : w'.os = w.os
  tape : w'.tape = w.tape
  output : w'.output = w.output
  size : w.heap.size ≤ w'.heap.size
  block : ∀ k, k < w.heap.size → k ≠ p → k ≠ q → w'.heap[k]? = w.heap[k]?
theorem Two.of_below {w w' : World} {p q : Nat} (h : Below w.heap.size w w') : Two w w' p q := ⟨h.os, h.tape, h.output, h.size, fun k hk _ _ => h.block k hk⟩
theorem Two.trans {a b c : World} {p q : Nat} (h : Two a b p q) (g : Two b c p q) : Two a c p q :=
  ⟨g.os.trans h.os, g.tape.trans h.tape, g.output.trans h.output, Nat.le_trans h.size g.size, fun k hk h1 h2 => (g.block k (Nat.lt_of_lt_of_le hk h.size) h1 h2).trans (h.block k hk h1 h2)⟩
theorem Two.below {a b c : World} {p q : Nat} (h : Two a b p q) (g : Below b.heap.size b c) : Two a c p q := h.trans (.of_below g)
theorem Two.grown {a b c : World} {p q : Nat} (h : Two a b p q) (g : b.grownBy c (some q)) : Two a c p q := h.trans ⟨g.os, g.tape, g.output, g.size, fun k hk h1 h2 => g.block k hk (fun e => h2 (by injection e))⟩
theorem Two.set {a b : World} {p q : Nat} (h : Two a b p q) (i : Nat) (u : Value) : Two a (b.setCell ⟨p, i, none⟩ u) p q :=
  h.trans ⟨rfl, rfl, rfl, by simp [World.setCell], fun k hk h1 h2 => Below.heap_setCell b ⟨p, i, none⟩ u k h1⟩
theorem mem_far {w : World} {g b p i : Nat} {bs : List Int} (h : MemAt w g b bs) (h1 : g ≠ p) (h2 : b ≠ p) {u : Value} : MemAt (w.setCell ⟨p, i, none⟩ u) g b bs := ⟨h.1.far (p := ⟨p, i, none⟩) h1 u, h.2.1.far (p := ⟨p, i, none⟩) h2 u, h.2.2⟩
/-- What touch does at a place, with a size: the register's number, the error, the hart, the bytes. -/
def touchAt (h : HartS) (bs : List Int) (op at_ n b : Int) : Int × Int × HartS × List Int :=
  if op = 67 ∨ op = 78 then
    if h.held = true ∧ h.ad = at_ ∧ h.sz = n then
      if numE bs.length at_ n = 0 then (0, 0, { h with held := false, ad := 0, sz := 0 }, storeOf bs at_ n (storedOf op 0 b))
      else (0, numE bs.length at_ n, h, bs)
    else (1, 0, { h with held := false, ad := 0, sz := 0 }, bs)
  else if loadsB op = true then
    if numE bs.length at_ n = 0 then
      (loadedOf op (loadOf bs at_ n), 0, if op = 66 ∨ op = 77 then { h with held := true, ad := at_, sz := n } else h,
        if storesB op = true then storeOf bs at_ n (storedOf op (loadOf bs at_ n) b) else bs)
    else (loadedOf op (loadOf bs at_ n), numE bs.length at_ n, h, bs)
  else if storesB op = true then (loadedOf op 0, numE bs.length at_ n, h, storeOf bs at_ n (storedOf op 0 b))
  else (loadedOf op 0, 0, h, bs)
def TouchPost (w : World) (p g q : Nat) (r : Int × Int × HartS × List Int) (e : Ending) (w' : World) : Prop :=
  e = .returned (.tuple #[.int .u64 r.1, .int .i64 r.2.1]) ∧ Blk w' p r.2.2.1.cells 25 ∧ MemAt w' g q r.2.2.2 ∧ Two w w' p q
theorem hart_info : (Tryz.prog.info? 25).map (·.size) = some 36 := by kernel_rfl
/-- The cells of a hart's block, one by one. -/
theorem hart_cells {w : World} {p T : Nat} {h : HartS} (B : Blk w p h.cells T) (k : h.Ok) : w.cell? ⟨p, 0, none⟩ = some (.int .u64 h.pc) ∧ w.cell? ⟨p, 33, none⟩ = some (.bool h.held) ∧ w.cell? ⟨p, 34, none⟩ = some (.int .u64 h.ad) ∧ w.cell? ⟨p, 35, none⟩ = some (.int .i64 h.sz) :=
  ⟨(B.cell 0).trans h.c0, (B.cell 33).trans (h.c33 k), (B.cell 34).trans (h.c34 k), (B.cell 35).trans (h.c35 k)⟩
set_option maxHeartbeats 16000000 in
set_option maxRecDepth 100000 in
theorem touch_sc (op rd rs1 rs2 imm a b at_ n st : Int) (aq rl : Bool) (h : HartS) (p g q : Nat) (bs : List Int) (w : World) (hk : h.Ok) (B : Blk w p h.cells 25) (M : MemAt w g q bs) (hpq : p ≠ q) (hat : U64 at_) (hn : I64 n) (hst : U64 st)
    (HA : Hid (∀ W, Calls Tryz.prog 50 #[.agg #[.int .i64 op, .int .i64 rd, .int .i64 rs1, .int .i64 rs2, .int .i64 imm, .bool aq, .bool rl], .int .u64 a] W fun e w' => e = .returned (.int .u64 at_) ∧ Below W.heap.size W w'))
    (HS : Hid (∀ W, Calls Tryz.prog 26 #[.int .i64 op] W fun e w' => e = .returned (.int .i64 n) ∧ Below W.heap.size W w'))
    (HT : Hid (∀ W, Calls Tryz.prog 51 #[.int .i64 op, .int .u64 0, .int .u64 b] W fun e w' => e = .returned (.int .u64 st) ∧ Below W.heap.size W w'))
    (hc : op = 67 ∨ op = 78) (r1 r2 : Int) (h' : HartS) (bs' : List Int)
    (hr : Hid (h.held = true ∧ h.ad = at_ ∧ h.sz = n ∧ numE bs.length at_ n = 0 ∧ r1 = 0 ∧ r2 = 0 ∧ h' = { h with held := false, ad := 0, sz := 0 } ∧ bs' = storeOf bs at_ n st ∨ h.held = true ∧ h.ad = at_ ∧ h.sz = n ∧ numE bs.length at_ n ≠ 0 ∧ r1 = 0 ∧ r2 = numE bs.length at_ n ∧ h' = h ∧ bs' = bs ∨
      ¬ (h.held = true ∧ h.ad = at_ ∧ h.sz = n) ∧ r1 = 1 ∧ r2 = 0 ∧ h' = { h with held := false, ad := 0, sz := 0 } ∧ bs' = bs)) :
    Calls Tryz.prog 27 #[.pointer (some ⟨p, 0, none⟩), .pointer (some ⟨g, 0, none⟩), .agg #[.int .i64 op, .int .i64 rd, .int .i64 rs1, .int .i64 rs2, .int .i64 imm, .bool aq, .bool rl], .int .u64 a, .int .u64 b] w (TouchPost w p g q (r1, r2, h', bs')) := by
  have HB := Lib.hid B
  have HM := Lib.hid M
  have HK := Lib.hid hk
  clear B M hk
  rcases hc with rfl | rfl
  all_goals (
    go_enter Tryz.func27, Tryz.ntmps27
    go_wp2_with fail
    generalize hX : World.alloc w _ = X
    have B2 := Blk.new_eq hX
    have HB1 := Lib.hid (HB.out.alloc_eq hX)
    have HX := Lib.hid (hX ▸ ((Below.refl w.heap.size w).alloc (Nat.le_refl _) _) : Below w.heap.size w X)
    have HM1 := Lib.hid (HM.out.below ((HX.out)))
    clear hX
    have k2 := B2.gcell
    have HB2 := Lib.hid B2
    clear B2
    refine wp_region_quiet_below (by kernel_rfl) (by kernel_rfl) ?_
    repeat (first | go_big_quiet_step ((first | (go_at_call 50; exact in_grow HA.out _ _) | (go_at_call 26; exact in_grow HS.out _ _))) | quiet_step ((first | (go_at_call 50; exact in_grow HA.out _ _) | (go_at_call 26; exact in_grow HS.out _ _))))
    refine wpQuiet_nil ?_
    intro _ hw'
    obtain ⟨⟨dq, osq⟩, hw''⟩ := hw'
    subst hw''
    have hd := below_regrown X dq osq
    have HX2 := Lib.hid (HX.out.trans (hd.mono HX.out.size))
    have HB3 := Lib.hid (HB1.out.below hd)
    have HM3 := Lib.hid (HM1.out.below hd)
    have HB4 := Lib.hid (HB2.out.below hd)
    generalize Sort.grow _ _ = Y at *
    clear hd k2 HB1 HB2 HM1 HX
    have c2 := HB4.out.cell
    have l2 := HB4.out.lt
    go_wp2_with fail
    generalize hZ : World.alloc Y _ = Z
    have K5 := Lib.hid (Blk.new_eq hZ)
    have K4 := Lib.hid (HB4.out.alloc_eq hZ)
    have K3 := Lib.hid (HB3.out.alloc_eq hZ)
    have HX3 := Lib.hid (below_alloc_eq HX2.out HX2.out.size hZ)
    have KM := Lib.hid (show MemAt Z g q bs from hZ ▸ HM3.out.below ((Below.refl _ _).alloc (Nat.le_refl _) _))
    have hY := l2
    clear hZ c2 l2 HB4 HB3 HX2 HM3
    obtain ⟨-, c33, c34, c35⟩ := hart_cells K3.out HK.out
    have c4 := K4.out.cell
    have c5 := K5.out.cell
    have l3 := K3.out.lt
    have l4 := K4.out.lt
    have l5 := K5.out.lt
    have hYZ : Y.heap.size ≤ Z.heap.size := by omega
    go_wp2_with fail
    go_region
    generalize hV : World.drew (World.alloc Z _) = V
    have J3 := Lib.hid (show Blk V p h.cells _ from hV ▸ (K3.out.alloc _).drew)
    have J4 := Lib.hid (show Blk V w.heap.size _ _ from hV ▸ (K4.out.alloc _).drew)
    have J5 := Lib.hid (show Blk V Y.heap.size _ _ from hV ▸ (K5.out.alloc _).drew)
    have J6 := Lib.hid (show Blk V Z.heap.size #[.bool h.held, .int .u64 h.ad, .int .i64 h.sz] _ from hV ▸ (Blk.new Z _ _).drew)
    have HX4 := Lib.hid (show Below w.heap.size w V from hV ▸ below_drewN (HX3.out.alloc HX3.out.size _) 1)
    have JM := Lib.hid (show MemAt V g q bs from hV ▸ KM.out.below (below_drewN ((Below.refl _ _).alloc (Nat.le_refl _) _) 1))
    have hpw : p < w.heap.size := HB.out.lt
    have hqw : q < w.heap.size := HM.out.2.1.lt
    have hpg : g ≠ p := HM.out.1.ne HB.out (by decide)
    clear hV K3 K4 K5 KM HX3 c33 c34 c35 c4 c5 l3 l4 l5
    have c4 := J4.out.cell
    have c5 := J5.out.cell
    have c6 := J6.out.cell
    rcases hr.out with ⟨e1, e2, e3, hE, rfl, rfl, rfl, rfl⟩ | ⟨e1, e2, e3, hE, rfl, rfl, rfl, rfl⟩ | ⟨hno, rfl, rfl, rfl, rfl⟩
    · clear hr
      rw [e1, e2, e3] at c6 J6
      go_wp2_with fail
      refine (HT.out _).mono ?_
      rintro e w1 ⟨rfl, hd⟩
      have I3 := Lib.hid (J3.out.below hd)
      have I4 := Lib.hid (J4.out.below hd)
      have I5 := Lib.hid (J5.out.below hd)
      have I6 := Lib.hid (J6.out.below hd)
      have HX5 := Lib.hid (HX4.out.trans (hd.mono HX4.out.size))
      have IM := Lib.hid (JM.out.below hd)
      clear J3 J4 J5 J6 JM HX4 hd c4 c5 c6
      go_wp2_with fail
      refine (Store_any _ g q bs at_ n st IM.out hat hn hst).mono ?_
      rintro e w2 ⟨rfl, hM, hG⟩
      have G3 := Lib.hid (show Blk w2 p h.cells _ from (hG.block p I3.out.lt (fun e => by injection e with e; omega)).trans I3.out)
      have G5 := Lib.hid (show Blk w2 Y.heap.size _ _ from (hG.block _ I5.out.lt (fun e => by injection e with e; omega)).trans I5.out)
      have G6 := Lib.hid (show Blk w2 Z.heap.size _ _ from (hG.block _ I6.out.lt (fun e => by injection e with e; omega)).trans I6.out)
      have T2 := Lib.hid ((Two.of_below HX5.out : Two w w1 p q).grown hG)
      have GM := Lib.hid hM
      clear I3 I4 I5 I6 IM HX5 hM hG
      obtain ⟨-, c33, c34, c35⟩ := hart_cells G3.out HK.out
      have f3 := G3.out.frozen
      have c5 := G5.out.cell
      have c6 := G6.out.cell
      go_wp2_with fail
      go_ret2
      exact ⟨rfl, HartS.s3 HK.out _ _ _ ▸ ((G3.out.set 33 _).set 34 _).set 35 _, mem_far (mem_far (mem_far GM.out hpg hpq.symm) hpg hpq.symm) hpg hpq.symm, ((T2.out.set 33 _).set 34 _).set 35 _⟩
    · clear hr
      have d0 : (numE bs'.length at_ n != 0) = true := by simpa using hE
      have es : storeOf bs' at_ n st = bs' := by unfold storeOf; rw [if_neg hE]
      rw [e1, e2, e3] at c6 J6
      go_wp2_with fail
      refine (HT.out _).mono ?_
      rintro e w1 ⟨rfl, hd⟩
      have I3 := Lib.hid (J3.out.below hd)
      have HX5 := Lib.hid (HX4.out.trans (hd.mono HX4.out.size))
      have IM := Lib.hid (JM.out.below hd)
      clear J3 J4 J5 J6 JM HX4 hd c4 c5 c6
      go_wp2_with fail
      refine (Store_any _ g q bs' at_ n st IM.out hat hn hst).mono ?_
      rintro e w2 ⟨rfl, hM, hG⟩
      rw [es] at hM
      have G3 := Lib.hid (show Blk w2 p h'.cells _ from (hG.block p I3.out.lt (fun e => by injection e with e; omega)).trans I3.out)
      have T2 := Lib.hid ((Two.of_below HX5.out : Two w w1 p q).grown hG)
      have GM := Lib.hid hM
      clear I3 IM HX5 hM hG
      go_wp2_with fail
      go_ret2
      exact ⟨rfl, G3.out, GM.out, T2.out⟩
    · clear hr
      obtain ⟨-, c33, c34, c35⟩ := hart_cells J3.out HK.out
      have f3 := J3.out.frozen
      have T2 := Lib.hid (Two.of_below HX4.out : Two w V p q)
      have cs : h.held = false ∨ h.held = true ∧ (h.ad == at_) = false ∨ h.held = true ∧ h.ad = at_ ∧ (h.sz == n) = false := by
        by_cases q1 : h.held = true
        · by_cases q2 : h.ad = at_
          · by_cases q3 : h.sz = n
            · exact absurd ⟨q1, q2, q3⟩ hno
            · exact .inr (.inr ⟨q1, q2, by simpa using q3⟩)
          · exact .inr (.inl ⟨q1, by simpa using q2⟩)
        · exact .inl (by simpa using q1)
      clear hno HX4
      rcases cs with q1 | ⟨q1, q2⟩ | ⟨q1, q2, q3⟩
      all_goals (
        first | rw [q1, q2] at c6 | rw [q1] at c6
        go_wp2_with fail
        go_ret2
        exact ⟨rfl, HartS.s3 HK.out _ _ _ ▸ ((J3.out.set 33 _).set 34 _).set 35 _, mem_far (mem_far (mem_far JM.out hpg hpq.symm) hpg hpq.symm) hpg hpq.symm, ((T2.out.set 33 _).set 34 _).set 35 _⟩))
set_option maxHeartbeats 16000000 in
set_option maxRecDepth 100000 in
theorem touch_other (op rd rs1 rs2 imm a b at_ n st raw v : Int) (aq rl lb sb : Bool) (h : HartS) (p g q : Nat) (bs : List Int) (w : World) (hk : h.Ok) (B : Blk w p h.cells 25) (M : MemAt w g q bs) (hpq : p ≠ q) (hat : U64 at_) (hn : I64 n) (hst : U64 st)
    (HA : Hid (∀ W, Calls Tryz.prog 50 #[.agg #[.int .i64 op, .int .i64 rd, .int .i64 rs1, .int .i64 rs2, .int .i64 imm, .bool aq, .bool rl], .int .u64 a] W fun e w' => e = .returned (.int .u64 at_) ∧ Below W.heap.size W w'))
    (HS : Hid (∀ W, Calls Tryz.prog 26 #[.int .i64 op] W fun e w' => e = .returned (.int .i64 n) ∧ Below W.heap.size W w'))
    (HLo : Hid (∀ W, Calls Tryz.prog 52 #[.int .i64 op] W fun e w' => e = .returned (.bool lb) ∧ Below W.heap.size W w'))
    (HSt : Hid (∀ W, Calls Tryz.prog 53 #[.int .i64 op] W fun e w' => e = .returned (.bool sb) ∧ Below W.heap.size W w'))
    (HT : Hid (∀ W, Calls Tryz.prog 51 #[.int .i64 op, .int .u64 raw, .int .u64 b] W fun e w' => e = .returned (.int .u64 st) ∧ Below W.heap.size W w'))
    (HV : Hid (∀ W, Calls Tryz.prog 54 #[.int .i64 op, .int .u64 raw] W fun e w' => e = .returned (.int .u64 v) ∧ Below W.heap.size W w'))
    (d67 : (op == 67) = false) (d78 : (op == 78) = false) (r2 : Int) (h' : HartS) (bs' : List Int) (hraw : Hid (lb = true → loadOf bs at_ n = raw)) (hraw0 : Hid (lb = false → raw = 0))
    (hr : Hid (lb = true ∧ numE bs.length at_ n ≠ 0 ∧ r2 = numE bs.length at_ n ∧ h = h' ∧ bs = bs' ∨
      lb = true ∧ numE bs.length at_ n = 0 ∧ sb = true ∧ op ≠ 66 ∧ op ≠ 77 ∧ r2 = 0 ∧ h = h' ∧ bs' = storeOf bs at_ n st ∨
      lb = true ∧ numE bs.length at_ n = 0 ∧ sb = false ∧ op ≠ 66 ∧ op ≠ 77 ∧ r2 = 0 ∧ h = h' ∧ bs = bs' ∨
      lb = true ∧ numE bs.length at_ n = 0 ∧ sb = false ∧ (op = 66 ∨ op = 77) ∧ r2 = 0 ∧ h' = { h with held := true, ad := at_, sz := n } ∧ bs = bs' ∨
      lb = false ∧ sb = true ∧ op ≠ 66 ∧ op ≠ 77 ∧ r2 = numE bs.length at_ n ∧ h = h' ∧ bs' = storeOf bs at_ n st)) :
    Calls Tryz.prog 27 #[.pointer (some ⟨p, 0, none⟩), .pointer (some ⟨g, 0, none⟩), .agg #[.int .i64 op, .int .i64 rd, .int .i64 rs1, .int .i64 rs2, .int .i64 imm, .bool aq, .bool rl], .int .u64 a, .int .u64 b] w (TouchPost w p g q (v, r2, h', bs')) := by
  have HB := Lib.hid B
  have HM := Lib.hid M
  have HK := Lib.hid hk
  have hpw : p < w.heap.size := HB.out.lt
  have hqw : q < w.heap.size := HM.out.2.1.lt
  have hpg : g ≠ p := HM.out.1.ne HB.out (by decide)
  clear B M hk
  go_enter Tryz.func27, Tryz.ntmps27
  go_wp2_with fail
  generalize hX : World.alloc w _ = X
  have B2 := Blk.new_eq hX
  have HB1 := Lib.hid (HB.out.alloc_eq hX)
  have HX := Lib.hid (hX ▸ ((Below.refl w.heap.size w).alloc (Nat.le_refl _) _) : Below w.heap.size w X)
  have HM1 := Lib.hid (HM.out.below ((HX.out)))
  clear hX
  have k2 := B2.gcell
  have HB2 := Lib.hid B2
  clear B2
  refine wp_region_quiet_below (by kernel_rfl) (by kernel_rfl) ?_
  repeat (first | go_big_quiet_step ((first | (go_at_call 50; exact in_grow HA.out _ _) | (go_at_call 26; exact in_grow HS.out _ _))) | quiet_step ((first | (go_at_call 50; exact in_grow HA.out _ _) | (go_at_call 26; exact in_grow HS.out _ _))))
  refine wpQuiet_nil ?_
  intro _ hw'
  obtain ⟨⟨dq, osq⟩, hw''⟩ := hw'
  subst hw''
  have hd := below_regrown X dq osq
  have HX2 := Lib.hid (HX.out.trans (hd.mono HX.out.size))
  have HB3 := Lib.hid (HB1.out.below hd)
  have HM3 := Lib.hid (HM1.out.below hd)
  have HB4 := Lib.hid (HB2.out.below hd)
  generalize Sort.grow _ _ = Y at *
  clear hd k2 HB1 HB2 HM1 HX
  have c2 := HB4.out.cell
  have l2 := HB4.out.lt
  go_wp2_with fail
  generalize hZ : World.alloc Y _ = Z
  have K4 := Lib.hid (HB4.out.alloc_eq hZ)
  have K3 := Lib.hid (HB3.out.alloc_eq hZ)
  have HX3 := Lib.hid (below_alloc_eq HX2.out HX2.out.size hZ)
  have KM := Lib.hid (show MemAt Z g q bs from hZ ▸ HM3.out.below ((Below.refl _ _).alloc (Nat.le_refl _) _))
  clear hZ c2 l2 HB4 HB3 HX2 HM3
  have c4 := K4.out.cell
  have l4 := K4.out.lt
  go_wp2_with fail
  refine (HLo.out _).mono ?_
  rintro e W1 ⟨rfl, hd⟩
  have J4 := Lib.hid (K4.out.below hd)
  have J3 := Lib.hid (K3.out.below hd)
  have JM := Lib.hid (KM.out.below hd)
  have HX4 := Lib.hid (HX3.out.trans (hd.mono HX3.out.size))
  clear K4 K3 KM HX3 hd c4 l4
  have c4 := J4.out.cell
  rcases hr.out with ⟨rfl, hE, rfl, rfl, rfl⟩ | ⟨rfl, hE, rfl, n1, n2, rfl, rfl, rfl⟩ | ⟨rfl, hE, rfl, n1, n2, rfl, rfl, rfl⟩ | ⟨rfl, hE, rfl, n1, rfl, rfl, rfl⟩ | ⟨rfl, rfl, n1, n2, rfl, rfl, rfl⟩
  · clear hr
    have HLd := Load_any W1 g q bs at_ n JM.out hat hn
    rw [hraw.out rfl] at HLd
    replace HLd := Lib.hid HLd
    have d0 : (numE bs.length at_ n == 0) = false := by simpa using hE
    go_wp2_with fail
    refine HLd.out.mono ?_
    rintro e w2 ⟨rfl, rfl⟩
    go_wp2_with fail
    refine (HV.out _).mono ?_
    rintro e w2 ⟨rfl, hd⟩
    have I3 := Lib.hid (J3.out.below hd)
    have IM := Lib.hid (JM.out.below hd)
    have T2 := Lib.hid (Two.of_below (HX4.out.trans (hd.mono HX4.out.size)) : Two w w2 p q)
    clear J3 J4 JM HX4 hd c4
    go_wp2_with fail
    go_ret2
    exact ⟨rfl, I3.out, IM.out, T2.out⟩
  · clear hr
    have HLd := Load_any W1 g q bs at_ n JM.out hat hn
    rw [hE] at HLd
    rw [hraw.out rfl] at HLd
    replace HLd := Lib.hid HLd
    have d66 : (op == 66) = false := by simpa using n1
    have d77 : (op == 77) = false := by simpa using n2
    go_wp2_with fail
    refine HLd.out.mono ?_
    rintro e w2 ⟨rfl, rfl⟩
    go_wp2_with fail
    refine (HSt.out _).mono ?_
    rintro e W2 ⟨rfl, hd⟩
    have I4 := Lib.hid (J4.out.below hd)
    have I3 := Lib.hid (J3.out.below hd)
    have IM := Lib.hid (JM.out.below hd)
    have HX5 := Lib.hid (HX4.out.trans (hd.mono HX4.out.size))
    clear J3 J4 JM HX4 hd c4
    have c4 := I4.out.cell
    go_wp2_with fail
    refine (HT.out _).mono ?_
    rintro e W3 ⟨rfl, hd⟩
    have G4 := Lib.hid (I4.out.below hd)
    have G3 := Lib.hid (I3.out.below hd)
    have GM := Lib.hid (IM.out.below hd)
    have HX6 := Lib.hid (HX5.out.trans (hd.mono HX5.out.size))
    clear I3 I4 IM HX5 hd c4
    go_wp2_with fail
    refine (Store_any _ g q bs at_ n st GM.out hat hn hst).mono ?_
    rintro e W4 ⟨rfl, hM, hG⟩
    have F3 := Lib.hid (show Blk W4 p h.cells _ from (hG.block p G3.out.lt (fun e => by injection e with e; omega)).trans G3.out)
    have F4 := Lib.hid (show Blk W4 w.heap.size _ _ from (hG.block _ G4.out.lt (fun e => by injection e with e; omega)).trans G4.out)
    have T2 := Lib.hid ((Two.of_below HX6.out : Two w W3 p q).grown hG)
    have FM := Lib.hid hM
    clear G3 G4 GM HX6 hM hG
    have c4 := F4.out.cell
    go_wp2_with fail
    refine (HV.out _).mono ?_
    rintro e W5 ⟨rfl, hd⟩
    have E3 := Lib.hid (F3.out.below hd)
    have EM := Lib.hid (FM.out.below hd)
    have T3 := Lib.hid (T2.out.below hd)
    clear F3 F4 FM hd c4
    go_wp2_with fail
    go_ret2
    exact ⟨rfl, E3.out, EM.out, T3.out⟩
  · clear hr
    have HLd := Load_any W1 g q bs at_ n JM.out hat hn
    rw [hE] at HLd
    rw [hraw.out rfl] at HLd
    replace HLd := Lib.hid HLd
    have d66 : (op == 66) = false := by simpa using n1
    have d77 : (op == 77) = false := by simpa using n2
    go_wp2_with fail
    refine HLd.out.mono ?_
    rintro e w2 ⟨rfl, rfl⟩
    go_wp2_with fail
    refine (HSt.out _).mono ?_
    rintro e W2 ⟨rfl, hd⟩
    have I4 := Lib.hid (J4.out.below hd)
    have I3 := Lib.hid (J3.out.below hd)
    have IM := Lib.hid (JM.out.below hd)
    have HX5 := Lib.hid (HX4.out.trans (hd.mono HX4.out.size))
    clear J3 J4 JM HX4 hd c4
    have c4 := I4.out.cell
    go_wp2_with fail
    refine (HV.out _).mono ?_
    rintro e W3 ⟨rfl, hd⟩
    have G3 := Lib.hid (I3.out.below hd)
    have GM := Lib.hid (IM.out.below hd)
    have T2 := Lib.hid (Two.of_below (HX5.out.trans (hd.mono HX5.out.size)) : Two w W3 p q)
    clear I3 I4 IM HX5 hd c4
    go_wp2_with fail
    go_ret2
    exact ⟨rfl, G3.out, GM.out, T2.out⟩
  · clear hr
    have HLd := Load_any W1 g q bs at_ n JM.out hat hn
    rw [hE] at HLd
    rw [hraw.out rfl] at HLd
    replace HLd := Lib.hid HLd
    rcases n1 with rfl | rfl
    all_goals (
      go_wp2_with fail
      refine HLd.out.mono ?_
      rintro e w2 ⟨rfl, rfl⟩
      go_wp2_with fail
      refine (HSt.out _).mono ?_
      rintro e W2 ⟨rfl, hd⟩
      have I4 := Lib.hid (J4.out.below hd)
      have I3 := Lib.hid (J3.out.below hd)
      have IM := Lib.hid (JM.out.below hd)
      have HX5 := Lib.hid (HX4.out.trans (hd.mono HX4.out.size))
      clear J3 J4 JM HX4 hd c4
      have c4 := I4.out.cell
      obtain ⟨-, c33, c34, c35⟩ := hart_cells I3.out HK.out
      have f3 := I3.out.frozen
      have hpne : w.heap.size ≠ p := by omega
      go_wp2_with fail
      refine (HV.out _).mono ?_
      rintro e W3 ⟨rfl, hd⟩
      have R3 : Blk (((W2.setCell ⟨p, 33, none⟩ (.bool true)).setCell ⟨p, 34, none⟩ (.int .u64 at_)).setCell ⟨p, 35, none⟩ (.int .i64 n)) p _ _ := HartS.s3 HK.out _ _ _ ▸ ((I3.out.set 33 _).set 34 _).set 35 _
      have R5 : Two w _ p q := ((((Two.of_below HX5.out : Two w W2 p q).set 33 (.bool true)).set 34 (.int .u64 at_)).set 35 (.int .i64 n)).below hd
      have G3 := Lib.hid (R3.below hd)
      have T3 := Lib.hid R5
      have hGM := mem_far (i := 35) (u := .int .i64 n) (mem_far (i := 34) (u := .int .u64 at_) (mem_far (i := 33) (u := .bool true) IM.out hpg hpq.symm) hpg hpq.symm) hpg hpq.symm
      have GM := Lib.hid (hGM.below hd)
      clear I3 I4 IM HX5 hd c4 R3 R5 hGM c33 c34 c35 f3
      go_wp2_with fail
      go_ret2
      exact ⟨rfl, G3.out, GM.out, T3.out⟩)
  · clear hr
    have d66 : (op == 66) = false := by simpa using n1
    have d77 : (op == 77) = false := by simpa using n2
    have h0 := hraw0.out rfl
    subst h0
    go_wp2_with fail
    refine (HSt.out _).mono ?_
    rintro e W2 ⟨rfl, hd⟩
    have I4 := Lib.hid (J4.out.below hd)
    have I3 := Lib.hid (J3.out.below hd)
    have IM := Lib.hid (JM.out.below hd)
    have HX5 := Lib.hid (HX4.out.trans (hd.mono HX4.out.size))
    clear J3 J4 JM HX4 hd c4
    have c4 := I4.out.cell
    go_wp2_with fail
    refine (HT.out _).mono ?_
    rintro e W3 ⟨rfl, hd⟩
    have G4 := Lib.hid (I4.out.below hd)
    have G3 := Lib.hid (I3.out.below hd)
    have GM := Lib.hid (IM.out.below hd)
    have HX6 := Lib.hid (HX5.out.trans (hd.mono HX5.out.size))
    clear I3 I4 IM HX5 hd c4
    go_wp2_with fail
    refine (Store_any _ g q bs at_ n st GM.out hat hn hst).mono ?_
    rintro e W4 ⟨rfl, hM, hG⟩
    have F3 := Lib.hid (show Blk W4 p h.cells _ from (hG.block p G3.out.lt (fun e => by injection e with e; omega)).trans G3.out)
    have F4 := Lib.hid (show Blk W4 w.heap.size _ _ from (hG.block _ G4.out.lt (fun e => by injection e with e; omega)).trans G4.out)
    have T2 := Lib.hid ((Two.of_below HX6.out : Two w W3 p q).grown hG)
    have FM := Lib.hid hM
    clear G3 G4 GM HX6 hM hG
    have c4 := F4.out.cell
    generalize numE bs.length at_ n = E at *
    by_cases hE : E = 0
    · subst hE
      go_wp2_with fail
      refine (HV.out _).mono ?_
      rintro e W5 ⟨rfl, hd⟩
      have E3 := Lib.hid (F3.out.below hd)
      have EM := Lib.hid (FM.out.below hd)
      have T3 := Lib.hid (T2.out.below hd)
      clear F3 F4 FM hd c4
      go_wp2_with fail
      go_ret2
      exact ⟨rfl, E3.out, EM.out, T3.out⟩
    · have d0 : (E == 0) = false := by simpa using hE
      go_wp2_with fail
      refine (HV.out _).mono ?_
      rintro e W5 ⟨rfl, hd⟩
      have E3 := Lib.hid (F3.out.below hd)
      have EM := Lib.hid (FM.out.below hd)
      have T3 := Lib.hid (T2.out.below hd)
      clear F3 F4 FM hd c4
      go_wp2_with fail
      go_ret2
      exact ⟨rfl, E3.out, EM.out, T3.out⟩
theorem addr_range (op imm a : Int) (ha : U64 a) : U64 (addrOf op imm a) := by
  unfold addrOf; split
  · exact U64.wrap _
  · split
    · exact ha
    · decide
theorem amo_range (kind n old b : Int) (ho : U64 old) (hb : U64 b) : U64 (amoOf kind n old b) := by
  have so := sign_range old n ho
  have sb := sign_range b n hb
  have fo := field_range old 0 n ho
  have fb := field_range b 0 n hb
  unfold amoOf
  repeat' split
  all_goals first | exact field_range _ _ _ (U64.wrap _) | exact field_range _ _ _ (xor_comm' _ _ so sb).2 | exact field_range _ _ _ (and_comm' _ _ so sb).2 | exact field_range _ _ _ (or_comm' _ _ so sb).2 | exact field_range _ _ _ (mn_range _ _ fo fb) | exact field_range _ _ _ (mx_range _ _ fo fb) | exact field_range _ _ _ sb
theorem stored_range (op old b : Int) (ho : U64 old) (hb : U64 b) : U64 (storedOf op old b) := by
  unfold storedOf; split
  · exact amo_range _ _ _ _ ho hb
  · decide
theorem load_range (bs : List Int) (at_ n : Int) (hb : Bytes bs) : U64 (loadOf bs at_ n) := by
  unfold loadOf; split
  · rename_i h
    have hn := numE_ok.1 h
    have := leOf_range (segOf bs at_ n) (segOf_bytes hb)
    have hl : (segOf bs at_ n).length ≤ 8 := by simp [segOf]; omega
    have h2 := ipow_le (8 * (segOf bs at_ n).length) 64 (by omega)
    exact ⟨this.1, by have e : (2 : Int) ^ 64 = 18446744073709551616 := rfl; omega⟩
  · decide
theorem loaded_range (op raw : Int) (hr : U64 raw) : U64 (loadedOf op raw) := by
  unfold loadedOf; repeat' split
  · exact field_range _ _ _ hr
  · exact sign_range _ _ hr
  · decide
/-- touch, of any instruction that loads or stores. -/
theorem touch_any (op rd rs1 rs2 imm a b : Int) (aq rl : Bool) (h : HartS) (p g q : Nat) (bs : List Int) (w : World) (hk : h.Ok) (B : Blk w p h.cells 25) (M : MemAt w g q bs) (hpq : p ≠ q) (ha : U64 a) (hb : U64 b) (hls : loadsB op = true ∨ storesB op = true) :
    Calls Tryz.prog 27 #[.pointer (some ⟨p, 0, none⟩), .pointer (some ⟨g, 0, none⟩), .agg #[.int .i64 op, .int .i64 rd, .int .i64 rs1, .int .i64 rs2, .int .i64 imm, .bool aq, .bool rl], .int .u64 a, .int .u64 b] w (TouchPost w p g q (touchAt h bs op (addrOf op imm a) (PAll.sizeOf op) b)) := by
  have HA := Lib.hid (fun W => c_addr op rd rs1 rs2 imm a aq rl W)
  have HS := Lib.hid (fun W => c_size op W)
  have hat := addr_range op imm a ha
  have hsz := size_range op
  have hn : I64 (PAll.sizeOf op) := ⟨by omega, by omega⟩
  have z0 : U64 0 := by decide
  have hbs := M.2.2.1
  generalize addrOf op imm a = at_ at *
  by_cases hc : op = 67 ∨ op = 78
  · have hst := stored_range op 0 b z0 hb
    have key : ∀ r1 r2 h' bs', _ → Calls Tryz.prog 27 #[.pointer (some ⟨p, 0, none⟩), .pointer (some ⟨g, 0, none⟩), .agg #[.int .i64 op, .int .i64 rd, .int .i64 rs1, .int .i64 rs2, .int .i64 imm, .bool aq, .bool rl], .int .u64 a, .int .u64 b] w (TouchPost w p g q (r1, r2, h', bs')) :=
      fun r1 r2 h' bs' hr => touch_sc op rd rs1 rs2 imm a b at_ (PAll.sizeOf op) (storedOf op 0 b) aq rl h p g q bs w hk B M hpq hat hn hst HA HS (Lib.hid fun W => c_stored op b W 0 z0 hb) hc r1 r2 h' bs' (Lib.hid hr)
    unfold touchAt
    rw [if_pos hc]
    by_cases h1 : h.held = true ∧ h.ad = at_ ∧ h.sz = PAll.sizeOf op
    · rw [if_pos h1]
      by_cases h2 : numE bs.length at_ (PAll.sizeOf op) = 0
      · rw [if_pos h2]; exact key _ _ _ _ (.inl ⟨h1.1, h1.2.1, h1.2.2, h2, rfl, rfl, rfl, rfl⟩)
      · rw [if_neg h2]; exact key _ _ _ _ (.inr (.inl ⟨h1.1, h1.2.1, h1.2.2, h2, rfl, rfl, rfl, rfl⟩))
    · rw [if_neg h1]; exact key _ _ _ _ (.inr (.inr ⟨h1, rfl, rfl, rfl, rfl⟩))
  · have e66 : (op = 66 ∨ op = 77) → storesB op = false := by rintro (rfl | rfl) <;> rfl
    have key : ∀ raw, U64 raw → (loadsB op = true → loadOf bs at_ (PAll.sizeOf op) = raw) → (loadsB op = false → raw = 0) → ∀ r2 h' bs', _ → Calls Tryz.prog 27 #[.pointer (some ⟨p, 0, none⟩), .pointer (some ⟨g, 0, none⟩), .agg #[.int .i64 op, .int .i64 rd, .int .i64 rs1, .int .i64 rs2, .int .i64 imm, .bool aq, .bool rl], .int .u64 a, .int .u64 b] w (TouchPost w p g q (loadedOf op raw, r2, h', bs')) :=
      fun raw hraw h1 h2 r2 h' bs' hr => touch_other op rd rs1 rs2 imm a b at_ (PAll.sizeOf op) (storedOf op raw b) raw (loadedOf op raw) aq rl (loadsB op) (storesB op) h p g q bs w hk B M hpq hat hn (stored_range op raw b hraw hb) HA HS (Lib.hid fun W => c_loads op W) (Lib.hid fun W => c_stores op W) (Lib.hid fun W => c_stored op b W raw hraw hb) (Lib.hid fun W => c_loaded op W raw hraw)
        (beq_eq_false_iff_ne.2 fun e => hc (.inl e)) (beq_eq_false_iff_ne.2 fun e => hc (.inr e)) r2 h' bs' (Lib.hid h1) (Lib.hid h2) (Lib.hid hr)
    unfold touchAt
    rw [if_neg hc]
    by_cases hl : loadsB op = true
    · rw [if_pos hl]
      have k1 := key _ (load_range bs at_ (PAll.sizeOf op) hbs) (fun _ => rfl) (fun e => by rw [hl] at e; cases e)
      by_cases hE : numE bs.length at_ (PAll.sizeOf op) = 0
      · rw [if_pos hE]
        by_cases hs : storesB op = true
        · have n6 : ¬ (op = 66 ∨ op = 77) := fun e => by rw [e66 e] at hs; cases hs
          rw [if_neg n6, if_pos hs]
          exact k1 _ _ _ (.inr (.inl ⟨hl, hE, hs, fun e => n6 (.inl e), fun e => n6 (.inr e), rfl, rfl, rfl⟩))
        · have hs' : storesB op = false := by simpa using hs
          rw [if_neg hs]
          by_cases n6 : op = 66 ∨ op = 77
          · rw [if_pos n6]; exact k1 _ _ _ (.inr (.inr (.inr (.inl ⟨hl, hE, hs', n6, rfl, rfl, rfl⟩))))
          · rw [if_neg n6]; exact k1 _ _ _ (.inr (.inr (.inl ⟨hl, hE, hs', fun e => n6 (.inl e), fun e => n6 (.inr e), rfl, rfl, rfl⟩)))
      · rw [if_neg hE]; exact k1 _ _ _ (.inl ⟨hl, hE, rfl, rfl, rfl⟩)
    · rw [if_neg hl]
      have hl' : loadsB op = false := by simpa using hl
      have hs : storesB op = true := hls.resolve_left hl
      have n6 : ¬ (op = 66 ∨ op = 77) := fun e => by rw [e66 e] at hs; cases hs
      rw [if_pos hs]
      exact key 0 z0 (fun e => absurd e hl) (fun _ => rfl) _ _ _ (.inr (.inr (.inr (.inr ⟨hl', hs, fun e => n6 (.inl e), fun e => n6 (.inr e), rfl, rfl, rfl⟩))))
end Go.Proofs.YtcjfafhbohkhlaaGreat.Hand
