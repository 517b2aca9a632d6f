/- DERIVED. DERIVED. One step of a hart. -/
import Derived.Test.YtcjfafhbohkhlaaGreatProg
import Derived.Test.YtcjfafhbohkhlaaGreatMBits
import Derived.Test.YtcjfafhbohkhlaaGreatMWalk
import Derived.Test.YtcjfafhbohkhlaaGreatMTab
import Derived.Test.YtcjfafhbohkhlaaGreatMInst
import Derived.Test.YtcjfafhbohkhlaaGreatMDec
import Derived.Test.YtcjfafhbohkhlaaGreatMDec2
import Derived.Test.YtcjfafhbohkhlaaGreatMQTail
import Derived.Test.YtcjfafhbohkhlaaGreatMArg
import Derived.Test.YtcjfafhbohkhlaaGreatMMem
import Derived.Test.YtcjfafhbohkhlaaGreatMMemK
import Derived.Test.YtcjfafhbohkhlaaGreatMMemR
import Derived.Test.YtcjfafhbohkhlaaGreatMHart
import Derived.Test.YtcjfafhbohkhlaaGreatMRow
import Derived.Test.YtcjfafhbohkhlaaGreatMOpen
import Derived.Test.YtcjfafhbohkhlaaGreatMPart
import Derived.Test.YtcjfafhbohkhlaaGreatMReg
import Derived.Test.YtcjfafhbohkhlaaGreatMQHead
import Derived.Test.YtcjfafhbohkhlaaGreatHB
import Derived.Test.YtcjfafhbohkhlaaGreatPAllx0
import Derived.Test.YtcjfafhbohkhlaaGreatPAllx2
import Derived.Test.YtcjfafhbohkhlaaGreatPAllx4
import Derived.Test.YtcjfafhbohkhlaaGreatPAllx5
import Derived.Test.YtcjfafhbohkhlaaGreatPAllx6
import Derived.Test.YtcjfafhbohkhlaaGreatPAllx9
import Derived.Test.YtcjfafhbohkhlaaGreatPAllx11
import Derived.Test.YtcjfafhbohkhlaaGreatPAllx12
import Derived.Test.YtcjfafhbohkhlaaGreatPAllx14
import Derived.Test.YtcjfafhbohkhlaaGreatPAllx16
import Derived.Test.YtcjfafhbohkhlaaGreatPAllx20
import Derived.Below
import Derived.Deep.Draws
import Derived.Deep.AppendLies
import Derived.Maps.AppendAt
import Derived.OwnWalk
import Derived.Laws.BytesArg
import Derived.Laws.MakeOwn
import Derived.Laws.OwnMore
import Derived.Deep.OwnRows
import Derived.Tactics
import Derived.Lib.ConvBytes
import Derived.Laws.Slices
import Derived.WalkKit
import Derived.KernelRfl
import Derived.RowKit3
import Derived.Deep.LoopGhost
import Derived.Deep.QuietTactic
import Derived.BigQuiet
import Derived.WideLaws
import Derived.Deep.DeepCutAuto
import Derived.Deep.CutBlock
import Derived.Deep.RegionHeld3
import Derived.Laws.Rows
import Derived.Lib.AppendStr
import Derived.ArgAppend
import Derived.Laws.IdiomCopy
import Derived.OrdersHeld
import Derived.Laws.BitsLemmas
import Derived.Laws.Bits64
import Derived.RowKit
import Derived.Outline
import Derived.Handy
import Derived.Lib.Hide
import Derived.Deep.Light
import Derived.Laws.CopyOwn
namespace Go.Proofs.YtcjfafhbohkhlaaGreat.Hand
open Go Go.RowKit Go.Proofs.YtcjfafhbohkhlaaGreat.M Go.Proofs.YtcjfafhbohkhlaaGreat.PAll Go.Proofs.YtcjfafhbohkhlaaGreatW.PrintWords
set_option linter.unusedVariables false
set_option linter.unusedSimpArgs false
/-- What the instruction of a word does. -/
def doOf (h : HartS) (bs : List Int) (op rd rs1 rs2 imm : Int) : HartS × List Int × Int :=
  let o := h.set 0 0
  let a := o.reg rs1
  let b := o.reg rs2
  let t := if 0 < PAll.sizeOf op then touchAt o bs op (addrOf op imm a) (PAll.sizeOf op) b else ((valueOf op imm h.pc a b).1, 0, o, bs)
  if t.2.1 ≠ 0 then (h, t.2.2.2, t.2.1)
  else
    let pc := if 5 ≤ op ∧ op ≤ 10 ∧ takenOf op a b = false then IntKind.u64.wrap (h.pc + 4) else targetOf op imm h.pc a
    ((({ t.2.2.1 with pc := pc } : HartS).set rd t.1).set 0 0, t.2.2.2, 0)
def stepOf (h : HartS) (bs : List Int) : HartS × List Int × Int :=
  if numE bs.length h.pc 4 ≠ 0 then (h, bs, numE bs.length h.pc 4)
  else
    let w := IntKind.u32.wrap (loadOf bs h.pc 4)
    let op := decOp w
    if op = 0 then (h, bs, 21)
    else if op = 51 ∨ op = 52 then (h, bs, 60)
    else doOf h bs op (decRd op w) (decRs1 op w) (decRs2 op w) (decImm (formOf op) w)
def StepPost (w : World) (g q : Nat) (r : HartS × List Int × Int) (e : Ending) (w' : World) : Prop :=
  e = .returned (.tuple #[.agg r.1.cells, .int .i64 r.2.2]) ∧ MemAt w' g q r.2.1 ∧ w.grownBy w' (some q)
def H0 : HartS := ⟨0, List.replicate 32 0, false, 0, 0⟩
/-- In the midst of a step: the hart that came in, the one that goes out, the memory. -/
structure S1 (w Z : World) (g q : Nat) (h : HartS) (bs : List Int) : Prop where
  k : h.Ok
  b1 : Blk Z w.heap.size h.cells 25
  b2 : Blk Z (w.heap.size + 1) H0.cells 25
  m : MemAt Z g q bs
  f : w.grownBy Z (some q)
  hq : q < w.heap.size
  hg : g < w.heap.size
  hs : w.heap.size + 2 ≤ Z.heap.size
section
variable {w Z Z' : World} {g q I O T : Nat} {h o : HartS} {bs : List Int} {ic : Array Value}
theorem grown_below {x : Option Nat} (f : w.grownBy Z x) (d : Below Z.heap.size Z Z') : w.grownBy Z' x :=
  ⟨d.os.trans f.os, d.tape.trans f.tape, d.output.trans f.output, Nat.le_trans f.size d.size, fun k hk hne => (d.block k (Nat.lt_of_lt_of_le hk f.size)).trans (f.block k hk hne)⟩
theorem S1.below (H : S1 w Z g q h bs) (d : Below Z.heap.size Z Z') : S1 w Z' g q h bs :=
  ⟨H.k, H.b1.below d, H.b2.below d, H.m.below d, grown_below H.f d, H.hq, H.hg, Nat.le_trans H.hs d.size⟩
theorem S1.alloc (H : S1 w Z g q h bs) {c : Obj} (e : Z.alloc c = Z') : S1 w Z' g q h bs := H.below (e ▸ ((Below.refl Z.heap.size Z).alloc (Nat.le_refl _) _))
theorem S1.set (H : S1 w Z g q h bs) (hp : w.heap.size + 2 ≤ O) (i : Nat) (u : Value) : S1 w (Z.setCell ⟨O, i, none⟩ u) g q h bs :=
  ⟨H.k, H.b1.far (p := ⟨O, i, none⟩) (by show _ ≠ O; omega) u, H.b2.far (p := ⟨O, i, none⟩) (by show _ ≠ O; omega) u, mem_far H.m (by have := H.hg; omega) (by have := H.hq; omega),
    ⟨H.f.os, H.f.tape, H.f.output, by rw [size_setCell]; exact H.f.size, fun k hk hne => (Below.heap_setCell Z ⟨O, i, none⟩ u k (by show k ≠ O; omega)).trans (H.f.block k hk hne)⟩, H.hq, H.hg, by rw [size_setCell]; exact H.hs⟩
/-- The hart that goes out is changed, and the memory. -/
theorem S1.two {bs' : List Int} (H : S1 w Z g q h bs) (hO : w.heap.size + 2 ≤ O) (t : Two Z Z' O q) (m : MemAt Z' g q bs') : S1 w Z' g q h bs' :=
  have l := H.hs
  ⟨H.k, (t.block _ (by omega) (by omega) (by have := H.hq; omega)).trans H.b1, (t.block _ (by omega) (by omega) (by have := H.hq; omega)).trans H.b2, m,
    ⟨t.os.trans H.f.os, t.tape.trans H.f.tape, t.output.trans H.f.output, Nat.le_trans H.f.size t.size, fun k hk hne => (t.block k (Nat.lt_of_lt_of_le hk H.f.size) (by omega) (fun e => hne (by rw [e]))).trans (H.f.block k hk hne)⟩, H.hq, H.hg, Nat.le_trans H.hs t.size⟩
theorem S1.row (H : S1 w Z g q h bs) (cs : Array Value) : MemAt (Z.setRow (w.heap.size + 1) cs) g q bs ∧ w.grownBy (Z.setRow (w.heap.size + 1) cs) (some q) ∧ Blk (Z.setRow (w.heap.size + 1) cs) (w.heap.size + 1) cs 25 := by
  have h1 := H.hq
  have h2 := H.hg
  refine ⟨⟨(setRow_other _ _ _ _ (by omega)).trans H.m.1, (setRow_other _ _ _ _ (by omega)).trans H.m.2.1, H.m.2.2⟩, ⟨H.f.os, H.f.tape, H.f.output, by rw [size_setRow]; exact H.f.size, fun k hk hne => (setRow_other _ _ _ _ (by omega)).trans (H.f.block k hk hne)⟩, setRow_heap _ _ _ _ _ _ H.b2⟩
theorem s1_start {X Y : World} (M : MemAt w g q bs) (hk : h.Ok) (hX : w.alloc (.cells h.cells 25) = X) (hY : X.alloc (.cells H0.cells 25) = Y) : S1 w Y g q h bs := by
  have hs : X.heap.size = w.heap.size + 1 := by rw [← hX, World.size_alloc]
  have hs2 : Y.heap.size = X.heap.size + 1 := by rw [← hY, World.size_alloc]
  have d : Below w.heap.size w X := hX ▸ ((Below.refl w.heap.size w).alloc (Nat.le_refl _) _)
  have d2 : Below w.heap.size w Y := hY ▸ (d.alloc d.size _)
  have b2 := Blk.new_eq hY
  rw [hs] at b2
  exact ⟨hk, (Blk.new_eq hX).alloc_eq hY, b2, M.below d2, ⟨d2.os, d2.tape, d2.output, d2.size, fun k hk _ => d2.block k hk⟩, M.2.1.lt, M.1.lt, by omega⟩
/-- What a step hands back. -/
theorem S1.back (H : S1 w Z g q h bs) (r : HartS) (kr : r.Ok) (e : Int) (tmps : Array Value) (ds) (h4 : tmps.getD 4 undef = .pointer (some ⟨w.heap.size + 1, 0, none⟩)) (h5 : tmps.getD 5 undef = .int .i64 e) (hd : ds = []) :
    bodyPost Tryz.prog Tryz.f12 (StepPost w g q (r, bs, e)) .ret ⟨tmps, ds⟩ (Z.setRow (w.heap.size + 1) r.cells) := by
  obtain ⟨m, f, b⟩ := H.row r.cells
  subst hd
  refine bodyPost_ret (v := .tuple #[.agg r.cells, .int .i64 e]) ?_ rfl ⟨rfl, m, f⟩
  rw [← h5]
  exact M.results_cell_tmp (fn := Tryz.f12) (by kernel_rfl) tmps _ _ _ _ _ h4 b Tryz.underlying25 rfl (hart_info.trans (congrArg some (HartS.size kr).symm))
end
set_option maxHeartbeats 16000000 in
set_option maxRecDepth 100000 in
theorem step_1 (h : HartS) (g q : Nat) (bs : List Int) (w : World) (hk : h.Ok) (M : MemAt w g q bs) (hE : numE bs.length h.pc 4 ≠ 0) :
    Calls Tryz.prog 12 #[.agg h.cells, .pointer (some ⟨g, 0, none⟩)] w (StepPost w g q (h, bs, numE bs.length h.pc 4)) := by
  have HM := Lib.hid M
  have HK := Lib.hid hk
  have c0 := h.c0
  clear M hk
  go_enter Tryz.func12, Tryz.ntmps12
  go_wp2_with fail
  generalize hX : World.alloc w _ = X
  generalize hY : World.alloc X _ = Y
  have H := Lib.hid (s1_start HM.out HK.out hX hY)
  clear hX hY c0
  refine (Load_any _ g q bs _ 4 H.out.m HK.out.2.1 (by decide)).mono ?_
  rintro e W ⟨rfl, rfl⟩
  go_wp2_with (first | refine wpList_load_row rfl 25 _ rfl w.heap.size rfl 25 _ _ _ H.out.b1 Tryz.underlying25 rfl (hart_info.trans (congrArg some (HartS.size HK.out).symm)) ?_ | refine wpList_store_row rfl 25 _ _ rfl (w.heap.size + 1) h.cells rfl rfl 25 _ H.out.b2 (hart_info.trans (congrArg some (HartS.size HK.out).symm)) (HartS.size HK.out).symm h.one ?_)
  exact H.out.back h HK.out _ _ _ (by rfl) (by rfl) rfl
abbrev insC (op rd rs1 rs2 imm : Int) (aq rl : Bool) : Array Value := #[.int .i64 op, .int .i64 rd, .int .i64 rs1, .int .i64 rs2, .int .i64 imm, .bool aq, .bool rl]
set_option maxHeartbeats 16000000 in
set_option maxRecDepth 100000 in
theorem step_2 (h : HartS) (g q : Nat) (bs : List Int) (w : World) (wd err op rd rs1 rs2 imm : Int) (aq rl : Bool) (hk : h.Ok) (M : MemAt w g q bs) (hE : numE bs.length h.pc 4 = 0) (hw : IntKind.u32.wrap (loadOf bs h.pc 4) = wd)
    (HD : Hid (∀ W, Calls Tryz.prog 24 #[.int .u32 wd] W fun e w' => e = .returned (.tuple #[.agg (insC op rd rs1 rs2 imm aq rl), .int .i64 err]) ∧ Below W.heap.size W w')) (he : err ≠ 0) :
    Calls Tryz.prog 12 #[.agg h.cells, .pointer (some ⟨g, 0, none⟩)] w (StepPost w g q (h, bs, 21)) := by
  have HM := Lib.hid M
  have HK := Lib.hid hk
  have c0 := h.c0
  clear M hk
  have d0 : (err != 0) = true := by simpa using he
  go_enter Tryz.func12, Tryz.ntmps12
  go_wp2_with fail
  generalize hX : World.alloc w _ = X
  generalize hY : World.alloc X _ = Y
  have H := Lib.hid (s1_start HM.out HK.out hX hY)
  clear hX hY c0
  refine (Load_any _ g q bs _ 4 H.out.m HK.out.2.1 (by decide)).mono ?_
  rintro e W ⟨rfl, rfl⟩
  rw [hE]
  go_wp2_with fail
  refine (HD.out _).mono ?_
  rintro e W1 ⟨rfl, hd⟩
  have H1 := Lib.hid (H.out.below hd)
  clear H hd
  go_wp2_with (first | refine wpList_load_row rfl 25 _ rfl w.heap.size rfl 25 _ _ _ (H1.out.alloc rfl).b1 Tryz.underlying25 rfl (hart_info.trans (congrArg some (HartS.size HK.out).symm)) ?_ | refine wpList_store_row rfl 25 _ _ rfl (w.heap.size + 1) h.cells rfl rfl 25 _ (H1.out.alloc rfl).b2 (hart_info.trans (congrArg some (HartS.size HK.out).symm)) (HartS.size HK.out).symm h.one ?_)
  exact (H1.out.alloc rfl).back h HK.out _ _ _ (by rfl) (by rfl) rfl
set_option maxHeartbeats 16000000 in
set_option maxRecDepth 100000 in
theorem step_3 (h : HartS) (g q : Nat) (bs : List Int) (w : World) (wd err op rd rs1 rs2 imm : Int) (aq rl : Bool) (hk : h.Ok) (M : MemAt w g q bs) (hE : numE bs.length h.pc 4 = 0) (hw : IntKind.u32.wrap (loadOf bs h.pc 4) = wd)
    (HD : Hid (∀ W, Calls Tryz.prog 24 #[.int .u32 wd] W fun e w' => e = .returned (.tuple #[.agg (insC op rd rs1 rs2 imm aq rl), .int .i64 err]) ∧ Below W.heap.size W w')) (he : err = 0) (ho : op = 51 ∨ op = 52) :
    Calls Tryz.prog 12 #[.agg h.cells, .pointer (some ⟨g, 0, none⟩)] w (StepPost w g q (h, bs, 60)) := by
  subst he
  rcases ho with rfl | rfl
  all_goals (
    have HM := Lib.hid M
    have HK := Lib.hid hk
    have c0 := h.c0
    clear M hk
    go_enter Tryz.func12, Tryz.ntmps12
    go_wp2_with fail
    generalize hX : World.alloc w _ = X
    generalize hY : World.alloc X _ = Y
    have H := Lib.hid (s1_start HM.out HK.out hX hY)
    clear hX hY c0
    refine (Load_any _ g q bs _ 4 H.out.m HK.out.2.1 (by decide)).mono ?_
    rintro e W ⟨rfl, rfl⟩
    rw [hE]
    go_wp2_with fail
    refine (HD.out _).mono ?_
    rintro e W1 ⟨rfl, hd⟩
    have H1 := Lib.hid (H.out.below hd)
    clear H hd
    go_wp2_with (first | refine wpList_load_row rfl 25 _ rfl w.heap.size rfl 25 _ _ _ (H1.out.alloc rfl).b1 Tryz.underlying25 rfl (hart_info.trans (congrArg some (HartS.size HK.out).symm)) ?_ | refine wpList_store_row rfl 25 _ _ rfl (w.heap.size + 1) h.cells rfl rfl 25 _ (H1.out.alloc rfl).b2 (hart_info.trans (congrArg some (HartS.size HK.out).symm)) (HartS.size HK.out).symm h.one ?_)
    exact (H1.out.alloc rfl).back h HK.out _ _ _ (by rfl) (by rfl) rfl)
/-- As S1; the instruction's block, and that of the hart that goes out. -/
structure S3 (w Z : World) (g q : Nat) (h : HartS) (bs : List Int) (I O : Nat) (o : HartS) (ic : Array Value) : Prop where
  s : S1 w Z g q h bs
  ok : o.Ok
  bi : Blk Z I ic 50
  bo : Blk Z O o.cells 25
  hI : w.heap.size + 2 ≤ I
  hO : w.heap.size + 2 ≤ O
  ne : I ≠ O
section
variable {w Z Z' : World} {g q I O T : Nat} {h o : HartS} {bs : List Int} {ic : Array Value}
theorem S3.below (H : S3 w Z g q h bs I O o ic) (d : Below Z.heap.size Z Z') : S3 w Z' g q h bs I O o ic :=
  ⟨H.s.below d, H.ok, H.bi.below d, H.bo.below d, H.hI, H.hO, H.ne⟩
theorem S3.set (H : S3 w Z g q h bs I O o ic) (i : Nat) (u : Value) (o' : HartS) (k : o'.Ok) (e : o.cells.setIfInBounds i u = o'.cells) : S3 w (Z.setCell ⟨O, i, none⟩ u) g q h bs I O o' ic :=
  ⟨H.s.set H.hO i u, k, H.bi.far (p := ⟨O, i, none⟩) H.ne u, e ▸ H.bo.set i u, H.hI, H.hO, H.ne⟩
theorem S3.two {bs' : List Int} {o' : HartS} (H : S3 w Z g q h bs I O o ic) (k : o'.Ok) (b : Blk Z' O o'.cells 25) (m : MemAt Z' g q bs') (t : Two Z Z' O q) : S3 w Z' g q h bs' I O o' ic :=
  ⟨H.s.two H.hO t m, k, (t.block _ H.bi.lt H.ne (by have := H.s.hq; have := H.hI; omega)).trans H.bi, b, H.hI, H.hO, H.ne⟩
theorem s3_start {W1 : World} {zc : Array Value} (H : S1 w W1 g q h bs) (e : ((W1.alloc (.cells ic 50)).alloc (.cells zc 25)).setRow (W1.heap.size + 1) h.cells = Z) : S3 w Z g q h bs W1.heap.size (W1.heap.size + 1) h ic := by
  have e2 := World.setRow_alloc_new (W1.alloc (.cells ic 50)) zc h.cells 25
  rw [World.size_alloc] at e2
  rw [e2] at e
  have hs := H.hs
  have b := Blk.new (W1.alloc (.cells ic 50)) h.cells 25
  rw [World.size_alloc, e] at b
  exact ⟨(H.alloc rfl).alloc e, H.k, (Blk.new W1 ic 50).alloc_eq e, b, hs, by omega, by omega⟩
end
set_option maxHeartbeats 4000000 in
set_option maxRecDepth 100000 in
theorem c_read (r : Nat) (o : HartS) (O : Nat) (W : World) (hr : r < 32) (k : o.Ok) (B : Blk W O o.cells 25) :
    Calls Tryz.prog 25 #[.int .i64 (r : Int), .pointer (some ⟨O, 0, none⟩)] W fun e w' => e = .returned (.int .u64 (o.reg r)) ∧ Below W.heap.size W w' := by
  have c := (B.cell (1 + r)).trans (HartS.cx k r hr)
  have k1 : (r : Int) < 32 := by omega
  have k0 : (0 : Int) ≤ (r : Int) := by omega
  have HB := Lib.hid B
  clear B
  go_enter Tryz.func25, Tryz.ntmps25
  go_wp2_with fail
  go_ret
  exact ⟨rfl, Below.refl _ _⟩
theorem wpList_store_u64 {P : Program} {ops : Array Oper} {rest : List Oper} {op : Oper} {a : Act} {w : World} {Q : Exit → Act → World → Prop} (hgd : op.guard = none) (ty : TypeId) (x y : Operand) (ho : op.op = .store ty x y)
    (b i : Nat) (v : Int) (hx : a.eval x = .pointer (some ⟨b, i, none⟩)) (hy : a.eval y = .int .u64 v) (cs : Array Value) (T : Nat) (B : Blk w b cs T) (hi : i < cs.size) (hn : (P.info? ty).map (·.size) = some 1)
    (h : wpList P ops Q rest (a.put op.dst undef) (w.setCell ⟨b, i, none⟩ (.int .u64 v))) : wpList P ops Q (op :: rest) a w := by
  refine wpList_plain hgd fun K hK => ?_
  have hc : w.cell? ⟨b, i, none⟩ = some cs[i] := (B.cell i).trans (Array.getElem?_eq_getElem hi)
  have hf := B.frozen i
  have e : (storeVar ty ⟨b, i, none⟩ (.int .u64 v)).run P w = .ok () (w.setCell ⟨b, i, none⟩ (.int .u64 v)) := by
    cases hq : P.info? ty with
    | none => simp [hq] at hn
    | some t =>
      have ht : t.size = 1 := by simpa [hq] using hn
      have h0 : ∀ j, j < [Value.int .u64 v].length → j = 0 := fun j hj => by simpa using hj
      have := run_storeCells_cells (P := P) b i [.int .u64 v] 0 w (fun j hj => by obtain rfl := h0 j hj; simp [hc]) (fun j hj => by obtain rfl := h0 j hj; simpa using hf) (fun u hu => by obtain rfl : u = .int .u64 v := (by simpa using hu); rfl)
      simp only [Nat.add_zero] at this
      simp [storeVar, sizeOf, typeInfo, hq, Value.cells, ht, this, World.setCells]
  unfold Oper.wp execOp
  simp only [ho, hx, hy, Instr.storeAt, Instr.sureAddr, Sem.run_bind, Sem.run_pure, Result.andThen_ok, e]
  exact hK _ _ h
theorem u64_info : (Tryz.prog.info? 22).map (·.size) = some 1 := by kernel_rfl
set_option maxHeartbeats 16000000 in
set_option maxRecDepth 100000 in
theorem step_4A (h : HartS) (g q : Nat) (bs : List Int) (w : World) (wd op imm a b n : Int) (rd rs1 rs2 : Nat) (aq rl : Bool) (hk : h.Ok) (M : MemAt w g q bs) (hE : numE bs.length h.pc 4 = 0) (hw : IntKind.u32.wrap (loadOf bs h.pc 4) = wd) (l0 : rd < 32) (l1 : rs1 < 32) (l2 : rs2 < 32)
    (HD : Hid (∀ W, Calls Tryz.prog 24 #[.int .u32 wd] W fun e w' => e = .returned (.tuple #[.agg (insC op rd rs1 rs2 imm aq rl), .int .i64 0]) ∧ Below W.heap.size W w')) (n1 : op ≠ 51) (n2 : op ≠ 52)
    (ha : (h.set 0 0).reg rs1 = a) (hb : (h.set 0 0).reg rs2 = b)
    (HS : Hid (∀ W, Calls Tryz.prog 26 #[.int .i64 op] W fun e w' => e = .returned (.int .i64 n) ∧ Below W.heap.size W w'))
    (n0 : 0 < n) (v err : Int) (o' : HartS) (bs' : List Int) (ko : o'.Ok) (hv : U64 v)
    (HT : Hid (∀ O W, Blk W O (h.set 0 0).cells 25 → MemAt W g q bs → O ≠ q → Calls Tryz.prog 27 #[.pointer (some ⟨O, 0, none⟩), .pointer (some ⟨g, 0, none⟩), .agg (insC op rd rs1 rs2 imm aq rl), .int .u64 a, .int .u64 b] W (TouchPost W O g q (v, err, o', bs')))) (he : err ≠ 0) :
    Calls Tryz.prog 12 #[.agg h.cells, .pointer (some ⟨g, 0, none⟩)] w (StepPost w g q (h, bs', err)) := by
  have de : (err != 0) = true := by simpa using he
  have HM := Lib.hid M
  have HK := Lib.hid hk
  have c0 := h.c0
  clear M hk
  have d1 : (op == 51) = false := by simpa using n1
  have d2 : (op == 52) = false := by simpa using n2
  go_enter Tryz.func12, Tryz.ntmps12
  go_wp2_with fail
  generalize hX : World.alloc w _ = X
  generalize hY : World.alloc X _ = Y
  have H := Lib.hid (s1_start HM.out HK.out hX hY)
  clear hX hY c0
  refine (Load_any _ g q bs _ 4 H.out.m HK.out.2.1 (by decide)).mono ?_
  rintro e W ⟨rfl, rfl⟩
  rw [hE]
  go_wp2_with fail
  refine (HD.out _).mono ?_
  rintro e W1 ⟨rfl, hd⟩
  have H1 := Lib.hid (H.out.below hd)
  clear H hd
  go_wp2_with (first | refine wpList_load_row rfl 25 _ rfl w.heap.size rfl 25 _ _ _ (H1.out.alloc rfl).b1 Tryz.underlying25 rfl (hart_info.trans (congrArg some (HartS.size HK.out).symm)) ?_ | (refine wpList_store_row rfl 25 _ _ rfl (W1.heap.size + 1) h.cells rfl rfl 25 _ (new2b _ _ _ _ _) (hart_info.trans (congrArg some (HartS.size HK.out).symm)) (HartS.size HK.out).symm h.one ?_; (generalize hZ : World.setRow _ _ _ = Z; have H3 := s3_start H1.out hZ; have fz := H3.bo.frozen 1; have cz := (H3.bo.cell 1).trans (HartS.cx H3.ok 0 (by decide)); have H3 := Lib.hid H3; clear hZ H1)))
  generalize hV : World.setCell Z _ _ = V
  have H4 : S3 w V g q h bs W1.heap.size (W1.heap.size + 1) (h.set 0 0) (insC op rd rs1 rs2 imm aq rl) := hV ▸ H3.out.set 1 _ (h.set 0 0) (H3.out.ok.set 0 0 (by decide)) (HartS.sx H3.out.ok 0 (by decide) 0)
  have ki := H4.bi.gcell
  have H4 := Lib.hid H4
  clear hV fz cz H3
  refine wp_region_quiet_below (by kernel_rfl) (by kernel_rfl) ?_
  go_big_quiet_step (fail)
  go_big_quiet_step (fail)
  go_big_quiet_step (fail)
  go_big_quiet_step ((go_at_call 25; exact Calls.regrown_of (c_read rs1 _ _ _ l1 H4.out.ok (H4.out.bo.grow _ _))))
  go_big_quiet_step (fail)
  go_big_quiet_step (fail)
  go_big_quiet_step (fail)
  go_big_quiet_step ((go_at_call 25; exact Calls.regrown_of (c_read rs2 _ _ _ l2 H4.out.ok (H4.out.bo.grow _ _))))
  go_big_quiet_step (fail)
  go_big_quiet_step (fail)
  refine wpQuiet_nil ?_
  intro _ hw'
  obtain ⟨⟨dq, osq⟩, hw''⟩ := hw'
  subst hw''
  rw [ha, hb]
  generalize hG : Sort.grow (redrawn V dq) osq = G
  have H5 := Lib.hid (H4.out.below (hG ▸ below_regrown V dq osq))
  have i0 := H5.out.bi.cell 0
  clear hG H4 ki
  go_wp2_with fail
  refine (HS.out _).mono ?_
  rintro e W2 ⟨rfl, hd⟩
  have H6 := Lib.hid (H5.out.below hd)
  clear H5 i0 hd
  go_wp2_with (first | refine wpList_load_row rfl 50 _ rfl W1.heap.size rfl 50 _ _ _ H6.out.bi Tryz.underlying50 rfl (by kernel_rfl) ?_)
  refine (HT.out _ _ H6.out.bo H6.out.s.m (by have := H6.out.s.hq; have := H6.out.hO; omega)).mono ?_
  rintro e W3 ⟨rfl, b3, m3, t3⟩
  have H7 := Lib.hid (H6.out.two ko b3 m3 t3)
  clear H6 b3 m3 t3
  go_wp2_with (first | refine wpList_load_row rfl 25 _ rfl w.heap.size rfl 25 _ _ _ H7.out.s.b1 Tryz.underlying25 rfl (hart_info.trans (congrArg some (HartS.size HK.out).symm)) ?_ | refine wpList_store_row rfl 25 _ _ rfl (w.heap.size + 1) h.cells rfl rfl 25 _ H7.out.s.b2 (hart_info.trans (congrArg some (HartS.size HK.out).symm)) (HartS.size HK.out).symm h.one ?_)
  exact H7.out.s.back h HK.out _ _ _ (by rfl) (by rfl) rfl
set_option maxHeartbeats 16000000 in
set_option maxRecDepth 100000 in
theorem step_4B (h : HartS) (g q : Nat) (bs : List Int) (w : World) (wd op imm a b n : Int) (rd rs1 rs2 : Nat) (aq rl : Bool) (hk : h.Ok) (M : MemAt w g q bs) (hE : numE bs.length h.pc 4 = 0) (hw : IntKind.u32.wrap (loadOf bs h.pc 4) = wd) (l0 : rd < 32) (l1 : rs1 < 32) (l2 : rs2 < 32)
    (HD : Hid (∀ W, Calls Tryz.prog 24 #[.int .u32 wd] W fun e w' => e = .returned (.tuple #[.agg (insC op rd rs1 rs2 imm aq rl), .int .i64 0]) ∧ Below W.heap.size W w')) (n1 : op ≠ 51) (n2 : op ≠ 52)
    (ha : (h.set 0 0).reg rs1 = a) (hb : (h.set 0 0).reg rs2 = b)
    (HS : Hid (∀ W, Calls Tryz.prog 26 #[.int .i64 op] W fun e w' => e = .returned (.int .i64 n) ∧ Below W.heap.size W w'))
    (n0 : 0 < n) (v err : Int) (o' : HartS) (bs' : List Int) (ko : o'.Ok) (hv : U64 v)
    (HT : Hid (∀ O W, Blk W O (h.set 0 0).cells 25 → MemAt W g q bs → O ≠ q → Calls Tryz.prog 27 #[.pointer (some ⟨O, 0, none⟩), .pointer (some ⟨g, 0, none⟩), .agg (insC op rd rs1 rs2 imm aq rl), .int .u64 a, .int .u64 b] W (TouchPost W O g q (v, err, o', bs')))) (he : err = 0) (h11 : 11 ≤ op) (tg pc : Int) (tk : Bool) (utg : U64 tg) (upc : U64 pc) (HTg : Hid (∀ W, Calls Tryz.prog 29 #[.agg (insC op rd rs1 rs2 imm aq rl), .int .u64 h.pc, .int .u64 a] W fun e w' => e = .returned (.int .u64 tg) ∧ Below W.heap.size W w'))
    (HTk : Hid (∀ W, Calls Tryz.prog 30 #[.agg (insC op rd rs1 rs2 imm aq rl), .int .u64 a, .int .u64 b] W fun e w' => e = .returned (.bool tk) ∧ Below W.heap.size W w')) :
    Calls Tryz.prog 12 #[.agg h.cells, .pointer (some ⟨g, 0, none⟩)] w (StepPost w g q ((({ o' with pc := tg } : HartS).set rd v).set 0 0, bs', 0)) := by
  subst he
  have r1 : (rd : Int) < 32 := by omega
  have r0 : (0 : Int) ≤ (rd : Int) := by omega
  have g5 : op ≥ 5 := by omega
  have g10 : decide (op ≤ 10) = false := decide_eq_false (by omega)
  have HM := Lib.hid M
  have HK := Lib.hid hk
  have c0 := h.c0
  clear M hk
  have d1 : (op == 51) = false := by simpa using n1
  have d2 : (op == 52) = false := by simpa using n2
  go_enter Tryz.func12, Tryz.ntmps12
  go_wp2_with fail
  generalize hX : World.alloc w _ = X
  generalize hY : World.alloc X _ = Y
  have H := Lib.hid (s1_start HM.out HK.out hX hY)
  clear hX hY c0
  refine (Load_any _ g q bs _ 4 H.out.m HK.out.2.1 (by decide)).mono ?_
  rintro e W ⟨rfl, rfl⟩
  rw [hE]
  go_wp2_with fail
  refine (HD.out _).mono ?_
  rintro e W1 ⟨rfl, hd⟩
  have H1 := Lib.hid (H.out.below hd)
  clear H hd
  go_wp2_with (first | refine wpList_load_row rfl 25 _ rfl w.heap.size rfl 25 _ _ _ (H1.out.alloc rfl).b1 Tryz.underlying25 rfl (hart_info.trans (congrArg some (HartS.size HK.out).symm)) ?_ | (refine wpList_store_row rfl 25 _ _ rfl (W1.heap.size + 1) h.cells rfl rfl 25 _ (new2b _ _ _ _ _) (hart_info.trans (congrArg some (HartS.size HK.out).symm)) (HartS.size HK.out).symm h.one ?_; (generalize hZ : World.setRow _ _ _ = Z; have H3 := s3_start H1.out hZ; have fz := H3.bo.frozen 1; have cz := (H3.bo.cell 1).trans (HartS.cx H3.ok 0 (by decide)); have H3 := Lib.hid H3; clear hZ H1)))
  generalize hV : World.setCell Z _ _ = V
  have H4 : S3 w V g q h bs W1.heap.size (W1.heap.size + 1) (h.set 0 0) (insC op rd rs1 rs2 imm aq rl) := hV ▸ H3.out.set 1 _ (h.set 0 0) (H3.out.ok.set 0 0 (by decide)) (HartS.sx H3.out.ok 0 (by decide) 0)
  have ki := H4.bi.gcell
  have H4 := Lib.hid H4
  clear hV fz cz H3
  refine wp_region_quiet_below (by kernel_rfl) (by kernel_rfl) ?_
  go_big_quiet_step (fail)
  go_big_quiet_step (fail)
  go_big_quiet_step (fail)
  go_big_quiet_step ((go_at_call 25; exact Calls.regrown_of (c_read rs1 _ _ _ l1 H4.out.ok (H4.out.bo.grow _ _))))
  go_big_quiet_step (fail)
  go_big_quiet_step (fail)
  go_big_quiet_step (fail)
  go_big_quiet_step ((go_at_call 25; exact Calls.regrown_of (c_read rs2 _ _ _ l2 H4.out.ok (H4.out.bo.grow _ _))))
  go_big_quiet_step (fail)
  go_big_quiet_step (fail)
  refine wpQuiet_nil ?_
  intro _ hw'
  obtain ⟨⟨dq, osq⟩, hw''⟩ := hw'
  subst hw''
  rw [ha, hb]
  generalize hG : Sort.grow (redrawn V dq) osq = G
  have H5 := Lib.hid (H4.out.below (hG ▸ below_regrown V dq osq))
  have i0 := H5.out.bi.cell 0
  clear hG H4 ki
  go_wp2_with fail
  refine (HS.out _).mono ?_
  rintro e W2 ⟨rfl, hd⟩
  have H6 := Lib.hid (H5.out.below hd)
  clear H5 i0 hd
  go_wp2_with (first | refine wpList_load_row rfl 50 _ rfl W1.heap.size rfl 50 _ _ _ H6.out.bi Tryz.underlying50 rfl (by kernel_rfl) ?_)
  refine (HT.out _ _ H6.out.bo H6.out.s.m (by have := H6.out.s.hq; have := H6.out.hO; omega)).mono ?_
  rintro e W3 ⟨rfl, b3, m3, t3⟩
  have H7 := Lib.hid (H6.out.two ko b3 m3 t3)
  clear H6 b3 m3 t3
  have c0 := (H7.out.s.b1.cell 0).trans h.c0
  go_wp2_with (first | refine wpList_load_row rfl 50 _ rfl W1.heap.size rfl 50 _ _ _ H7.out.bi Tryz.underlying50 rfl (by kernel_rfl) ?_)
  refine (HTg.out _).mono ?_
  rintro e W4 ⟨rfl, hd⟩
  have H8 := Lib.hid (H7.out.below hd)
  clear H7 c0 hd
  go_wp2_with (first | (refine wpList_store_u64 rfl 22 _ _ rfl (W1.heap.size + 1) 0 tg rfl rfl _ _ H8.out.bo (by rw [HartS.size H8.out.ok]; omega) u64_info ?_; (generalize hZ : World.setCell _ _ _ = Z2; have H9 := hZ ▸ H8.out.set 0 _ (({ o' with pc := tg } : HartS)) (H8.out.ok.pc _ utg) (HartS.s0 _ _); have i0 := H9.bi.cell 0; have i1 := H9.bi.cell 1; have c0 := (H9.s.b1.cell 0).trans h.c0; have H9 := Lib.hid H9; clear hZ H8)) | (refine wpList_store_u64 rfl 22 _ _ rfl (W1.heap.size + 1) (1 + rd) v rfl rfl _ _ H9.out.bo (by rw [HartS.size H9.out.ok]; omega) u64_info ?_; (generalize hZ : World.setCell _ _ _ = Z2; have HP := hZ ▸ H9.out.set (1 + rd) _ ((({ o' with pc := tg } : HartS).set rd v)) (H9.out.ok.set _ _ hv) (HartS.sx H9.out.ok rd l0 v); skip; have HP := Lib.hid HP; clear hZ H9 i0 i1 c0)) | (refine wpList_store_u64 rfl 22 _ _ rfl (W1.heap.size + 1) (1 + 0) 0 rfl rfl _ _ HP.out.bo (by rw [HartS.size HP.out.ok]; omega) u64_info ?_; (generalize hZ : World.setCell _ _ _ = Z2; have HR := hZ ▸ HP.out.set (1 + 0) _ (((({ o' with pc := tg } : HartS).set rd v).set 0 0)) (HP.out.ok.set 0 0 (by decide)) (HartS.sx HP.out.ok 0 (by decide) 0); skip; have HR := Lib.hid HR; clear hZ HP)) | (refine wpList_load_row rfl 25 _ rfl (W1.heap.size + 1) rfl 25 _ _ _ HR.out.bo Tryz.underlying25 rfl (hart_info.trans (congrArg some (HartS.size HR.out.ok).symm)) ?_) | (refine wpList_store_row rfl 25 _ _ rfl (w.heap.size + 1) _ rfl rfl 25 _ HR.out.s.b2 (hart_info.trans (congrArg some (HartS.size HR.out.ok).symm)) (HartS.size HR.out.ok).symm (HartS.one _) ?_))
  exact HR.out.s.back _ HR.out.ok _ _ _ (by rfl) (by rfl) rfl
set_option maxHeartbeats 16000000 in
set_option maxRecDepth 100000 in
theorem step_4C (h : HartS) (g q : Nat) (bs : List Int) (w : World) (wd op imm a b n : Int) (rd rs1 rs2 : Nat) (aq rl : Bool) (hk : h.Ok) (M : MemAt w g q bs) (hE : numE bs.length h.pc 4 = 0) (hw : IntKind.u32.wrap (loadOf bs h.pc 4) = wd) (l0 : rd < 32) (l1 : rs1 < 32) (l2 : rs2 < 32)
    (HD : Hid (∀ W, Calls Tryz.prog 24 #[.int .u32 wd] W fun e w' => e = .returned (.tuple #[.agg (insC op rd rs1 rs2 imm aq rl), .int .i64 0]) ∧ Below W.heap.size W w')) (n1 : op ≠ 51) (n2 : op ≠ 52)
    (ha : (h.set 0 0).reg rs1 = a) (hb : (h.set 0 0).reg rs2 = b)
    (HS : Hid (∀ W, Calls Tryz.prog 26 #[.int .i64 op] W fun e w' => e = .returned (.int .i64 n) ∧ Below W.heap.size W w'))
    (n0 : ¬ 0 < n) (v err : Int) (hv : U64 v)
    (HT : Hid (∀ W, Calls Tryz.prog 28 #[.agg (insC op rd rs1 rs2 imm aq rl), .int .u64 h.pc, .int .u64 a, .int .u64 b] W fun e w' => e = .returned (.tuple #[.int .u64 v, .int .i64 err]) ∧ Below W.heap.size W w')) (hc : op < 5 ∨ 10 < op) (tg pc : Int) (tk : Bool) (utg : U64 tg) (upc : U64 pc) (HTg : Hid (∀ W, Calls Tryz.prog 29 #[.agg (insC op rd rs1 rs2 imm aq rl), .int .u64 h.pc, .int .u64 a] W fun e w' => e = .returned (.int .u64 tg) ∧ Below W.heap.size W w'))
    (HTk : Hid (∀ W, Calls Tryz.prog 30 #[.agg (insC op rd rs1 rs2 imm aq rl), .int .u64 a, .int .u64 b] W fun e w' => e = .returned (.bool tk) ∧ Below W.heap.size W w')) :
    Calls Tryz.prog 12 #[.agg h.cells, .pointer (some ⟨g, 0, none⟩)] w (StepPost w g q ((({ h.set 0 0 with pc := tg } : HartS).set rd v).set 0 0, bs, 0)) := by
  have r1 : (rd : Int) < 32 := by omega
  have r0 : (0 : Int) ≤ (rd : Int) := by omega
  rcases hc with hc | hc
  · have g5 : decide (op ≥ 5) = false := decide_eq_false (by omega)
    have HM := Lib.hid M
    have HK := Lib.hid hk
    have c0 := h.c0
    clear M hk
    have d1 : (op == 51) = false := by simpa using n1
    have d2 : (op == 52) = false := by simpa using n2
    go_enter Tryz.func12, Tryz.ntmps12
    go_wp2_with fail
    generalize hX : World.alloc w _ = X
    generalize hY : World.alloc X _ = Y
    have H := Lib.hid (s1_start HM.out HK.out hX hY)
    clear hX hY c0
    refine (Load_any _ g q bs _ 4 H.out.m HK.out.2.1 (by decide)).mono ?_
    rintro e W ⟨rfl, rfl⟩
    rw [hE]
    go_wp2_with fail
    refine (HD.out _).mono ?_
    rintro e W1 ⟨rfl, hd⟩
    have H1 := Lib.hid (H.out.below hd)
    clear H hd
    go_wp2_with (first | refine wpList_load_row rfl 25 _ rfl w.heap.size rfl 25 _ _ _ (H1.out.alloc rfl).b1 Tryz.underlying25 rfl (hart_info.trans (congrArg some (HartS.size HK.out).symm)) ?_ | (refine wpList_store_row rfl 25 _ _ rfl (W1.heap.size + 1) h.cells rfl rfl 25 _ (new2b _ _ _ _ _) (hart_info.trans (congrArg some (HartS.size HK.out).symm)) (HartS.size HK.out).symm h.one ?_; (generalize hZ : World.setRow _ _ _ = Z; have H3 := s3_start H1.out hZ; have fz := H3.bo.frozen 1; have cz := (H3.bo.cell 1).trans (HartS.cx H3.ok 0 (by decide)); have H3 := Lib.hid H3; clear hZ H1)))
    generalize hV : World.setCell Z _ _ = V
    have H4 : S3 w V g q h bs W1.heap.size (W1.heap.size + 1) (h.set 0 0) (insC op rd rs1 rs2 imm aq rl) := hV ▸ H3.out.set 1 _ (h.set 0 0) (H3.out.ok.set 0 0 (by decide)) (HartS.sx H3.out.ok 0 (by decide) 0)
    have ki := H4.bi.gcell
    have H4 := Lib.hid H4
    clear hV fz cz H3
    refine wp_region_quiet_below (by kernel_rfl) (by kernel_rfl) ?_
    go_big_quiet_step (fail)
    go_big_quiet_step (fail)
    go_big_quiet_step (fail)
    go_big_quiet_step ((go_at_call 25; exact Calls.regrown_of (c_read rs1 _ _ _ l1 H4.out.ok (H4.out.bo.grow _ _))))
    go_big_quiet_step (fail)
    go_big_quiet_step (fail)
    go_big_quiet_step (fail)
    go_big_quiet_step ((go_at_call 25; exact Calls.regrown_of (c_read rs2 _ _ _ l2 H4.out.ok (H4.out.bo.grow _ _))))
    go_big_quiet_step (fail)
    go_big_quiet_step (fail)
    refine wpQuiet_nil ?_
    intro _ hw'
    obtain ⟨⟨dq, osq⟩, hw''⟩ := hw'
    subst hw''
    rw [ha, hb]
    generalize hG : Sort.grow (redrawn V dq) osq = G
    have H5 := Lib.hid (H4.out.below (hG ▸ below_regrown V dq osq))
    have i0 := H5.out.bi.cell 0
    clear hG H4 ki
    go_wp2_with fail
    refine (HS.out _).mono ?_
    rintro e W2 ⟨rfl, hd⟩
    have H6 := Lib.hid (H5.out.below hd)
    clear H5 i0 hd
    have c0 := (H6.out.s.b1.cell 0).trans h.c0
    have gn : decide (n > 0) = false := decide_eq_false (by omega)
    go_wp2_with (first | refine wpList_load_row rfl 50 _ rfl W1.heap.size rfl 50 _ _ _ H6.out.bi Tryz.underlying50 rfl (by kernel_rfl) ?_)
    refine (HT.out _).mono ?_
    rintro e W3 ⟨rfl, hd⟩
    have H7 := Lib.hid (H6.out.below hd)
    clear H6 c0 hd gn
    have c0 := (H7.out.s.b1.cell 0).trans h.c0
    go_wp2_with (first | refine wpList_load_row rfl 50 _ rfl W1.heap.size rfl 50 _ _ _ H7.out.bi Tryz.underlying50 rfl (by kernel_rfl) ?_)
    refine (HTg.out _).mono ?_
    rintro e W4 ⟨rfl, hd⟩
    have H8 := Lib.hid (H7.out.below hd)
    clear H7 c0 hd
    go_wp2_with (first | (refine wpList_store_u64 rfl 22 _ _ rfl (W1.heap.size + 1) 0 tg rfl rfl _ _ H8.out.bo (by rw [HartS.size H8.out.ok]; omega) u64_info ?_; (generalize hZ : World.setCell _ _ _ = Z2; have H9 := hZ ▸ H8.out.set 0 _ (({ h.set 0 0 with pc := tg } : HartS)) (H8.out.ok.pc _ utg) (HartS.s0 _ _); have i0 := H9.bi.cell 0; have i1 := H9.bi.cell 1; have c0 := (H9.s.b1.cell 0).trans h.c0; have H9 := Lib.hid H9; clear hZ H8)) | (refine wpList_store_u64 rfl 22 _ _ rfl (W1.heap.size + 1) (1 + rd) v rfl rfl _ _ H9.out.bo (by rw [HartS.size H9.out.ok]; omega) u64_info ?_; (generalize hZ : World.setCell _ _ _ = Z2; have HP := hZ ▸ H9.out.set (1 + rd) _ ((({ h.set 0 0 with pc := tg } : HartS).set rd v)) (H9.out.ok.set _ _ hv) (HartS.sx H9.out.ok rd l0 v); skip; have HP := Lib.hid HP; clear hZ H9)) | (refine wpList_store_u64 rfl 22 _ _ rfl (W1.heap.size + 1) (1 + 0) 0 rfl rfl _ _ HP.out.bo (by rw [HartS.size HP.out.ok]; omega) u64_info ?_; (generalize hZ : World.setCell _ _ _ = Z2; have HR := hZ ▸ HP.out.set (1 + 0) _ (((({ h.set 0 0 with pc := tg } : HartS).set rd v).set 0 0)) (HP.out.ok.set 0 0 (by decide)) (HartS.sx HP.out.ok 0 (by decide) 0); skip; have HR := Lib.hid HR; clear hZ HP)) | (refine wpList_load_row rfl 25 _ rfl (W1.heap.size + 1) rfl 25 _ _ _ HR.out.bo Tryz.underlying25 rfl (hart_info.trans (congrArg some (HartS.size HR.out.ok).symm)) ?_) | (refine wpList_store_row rfl 25 _ _ rfl (w.heap.size + 1) _ rfl rfl 25 _ HR.out.s.b2 (hart_info.trans (congrArg some (HartS.size HR.out.ok).symm)) (HartS.size HR.out.ok).symm (HartS.one _) ?_))
    exact HR.out.s.back _ HR.out.ok _ _ _ (by rfl) (by rfl) rfl
  · have g5 : op ≥ 5 := by omega
    have g10 : decide (op ≤ 10) = false := decide_eq_false (by omega)
    have HM := Lib.hid M
    have HK := Lib.hid hk
    have c0 := h.c0
    clear M hk
    have d1 : (op == 51) = false := by simpa using n1
    have d2 : (op == 52) = false := by simpa using n2
    go_enter Tryz.func12, Tryz.ntmps12
    go_wp2_with fail
    generalize hX : World.alloc w _ = X
    generalize hY : World.alloc X _ = Y
    have H := Lib.hid (s1_start HM.out HK.out hX hY)
    clear hX hY c0
    refine (Load_any _ g q bs _ 4 H.out.m HK.out.2.1 (by decide)).mono ?_
    rintro e W ⟨rfl, rfl⟩
    rw [hE]
    go_wp2_with fail
    refine (HD.out _).mono ?_
    rintro e W1 ⟨rfl, hd⟩
    have H1 := Lib.hid (H.out.below hd)
    clear H hd
    go_wp2_with (first | refine wpList_load_row rfl 25 _ rfl w.heap.size rfl 25 _ _ _ (H1.out.alloc rfl).b1 Tryz.underlying25 rfl (hart_info.trans (congrArg some (HartS.size HK.out).symm)) ?_ | (refine wpList_store_row rfl 25 _ _ rfl (W1.heap.size + 1) h.cells rfl rfl 25 _ (new2b _ _ _ _ _) (hart_info.trans (congrArg some (HartS.size HK.out).symm)) (HartS.size HK.out).symm h.one ?_; (generalize hZ : World.setRow _ _ _ = Z; have H3 := s3_start H1.out hZ; have fz := H3.bo.frozen 1; have cz := (H3.bo.cell 1).trans (HartS.cx H3.ok 0 (by decide)); have H3 := Lib.hid H3; clear hZ H1)))
    generalize hV : World.setCell Z _ _ = V
    have H4 : S3 w V g q h bs W1.heap.size (W1.heap.size + 1) (h.set 0 0) (insC op rd rs1 rs2 imm aq rl) := hV ▸ H3.out.set 1 _ (h.set 0 0) (H3.out.ok.set 0 0 (by decide)) (HartS.sx H3.out.ok 0 (by decide) 0)
    have ki := H4.bi.gcell
    have H4 := Lib.hid H4
    clear hV fz cz H3
    refine wp_region_quiet_below (by kernel_rfl) (by kernel_rfl) ?_
    go_big_quiet_step (fail)
    go_big_quiet_step (fail)
    go_big_quiet_step (fail)
    go_big_quiet_step ((go_at_call 25; exact Calls.regrown_of (c_read rs1 _ _ _ l1 H4.out.ok (H4.out.bo.grow _ _))))
    go_big_quiet_step (fail)
    go_big_quiet_step (fail)
    go_big_quiet_step (fail)
    go_big_quiet_step ((go_at_call 25; exact Calls.regrown_of (c_read rs2 _ _ _ l2 H4.out.ok (H4.out.bo.grow _ _))))
    go_big_quiet_step (fail)
    go_big_quiet_step (fail)
    refine wpQuiet_nil ?_
    intro _ hw'
    obtain ⟨⟨dq, osq⟩, hw''⟩ := hw'
    subst hw''
    rw [ha, hb]
    generalize hG : Sort.grow (redrawn V dq) osq = G
    have H5 := Lib.hid (H4.out.below (hG ▸ below_regrown V dq osq))
    have i0 := H5.out.bi.cell 0
    clear hG H4 ki
    go_wp2_with fail
    refine (HS.out _).mono ?_
    rintro e W2 ⟨rfl, hd⟩
    have H6 := Lib.hid (H5.out.below hd)
    clear H5 i0 hd
    have c0 := (H6.out.s.b1.cell 0).trans h.c0
    have gn : decide (n > 0) = false := decide_eq_false (by omega)
    go_wp2_with (first | refine wpList_load_row rfl 50 _ rfl W1.heap.size rfl 50 _ _ _ H6.out.bi Tryz.underlying50 rfl (by kernel_rfl) ?_)
    refine (HT.out _).mono ?_
    rintro e W3 ⟨rfl, hd⟩
    have H7 := Lib.hid (H6.out.below hd)
    clear H6 c0 hd gn
    have c0 := (H7.out.s.b1.cell 0).trans h.c0
    go_wp2_with (first | refine wpList_load_row rfl 50 _ rfl W1.heap.size rfl 50 _ _ _ H7.out.bi Tryz.underlying50 rfl (by kernel_rfl) ?_)
    refine (HTg.out _).mono ?_
    rintro e W4 ⟨rfl, hd⟩
    have H8 := Lib.hid (H7.out.below hd)
    clear H7 c0 hd
    go_wp2_with (first | (refine wpList_store_u64 rfl 22 _ _ rfl (W1.heap.size + 1) 0 tg rfl rfl _ _ H8.out.bo (by rw [HartS.size H8.out.ok]; omega) u64_info ?_; (generalize hZ : World.setCell _ _ _ = Z2; have H9 := hZ ▸ H8.out.set 0 _ (({ h.set 0 0 with pc := tg } : HartS)) (H8.out.ok.pc _ utg) (HartS.s0 _ _); have i0 := H9.bi.cell 0; have i1 := H9.bi.cell 1; have c0 := (H9.s.b1.cell 0).trans h.c0; have H9 := Lib.hid H9; clear hZ H8)) | (refine wpList_store_u64 rfl 22 _ _ rfl (W1.heap.size + 1) (1 + rd) v rfl rfl _ _ H9.out.bo (by rw [HartS.size H9.out.ok]; omega) u64_info ?_; (generalize hZ : World.setCell _ _ _ = Z2; have HP := hZ ▸ H9.out.set (1 + rd) _ ((({ h.set 0 0 with pc := tg } : HartS).set rd v)) (H9.out.ok.set _ _ hv) (HartS.sx H9.out.ok rd l0 v); skip; have HP := Lib.hid HP; clear hZ H9)) | (refine wpList_store_u64 rfl 22 _ _ rfl (W1.heap.size + 1) (1 + 0) 0 rfl rfl _ _ HP.out.bo (by rw [HartS.size HP.out.ok]; omega) u64_info ?_; (generalize hZ : World.setCell _ _ _ = Z2; have HR := hZ ▸ HP.out.set (1 + 0) _ (((({ h.set 0 0 with pc := tg } : HartS).set rd v).set 0 0)) (HP.out.ok.set 0 0 (by decide)) (HartS.sx HP.out.ok 0 (by decide) 0); skip; have HR := Lib.hid HR; clear hZ HP)) | (refine wpList_load_row rfl 25 _ rfl (W1.heap.size + 1) rfl 25 _ _ _ HR.out.bo Tryz.underlying25 rfl (hart_info.trans (congrArg some (HartS.size HR.out.ok).symm)) ?_) | (refine wpList_store_row rfl 25 _ _ rfl (w.heap.size + 1) _ rfl rfl 25 _ HR.out.s.b2 (hart_info.trans (congrArg some (HartS.size HR.out.ok).symm)) (HartS.size HR.out.ok).symm (HartS.one _) ?_))
    exact HR.out.s.back _ HR.out.ok _ _ _ (by rfl) (by rfl) rfl
set_option maxHeartbeats 16000000 in
set_option maxRecDepth 100000 in
theorem step_4D (h : HartS) (g q : Nat) (bs : List Int) (w : World) (wd op imm a b n : Int) (rd rs1 rs2 : Nat) (aq rl : Bool) (hk : h.Ok) (M : MemAt w g q bs) (hE : numE bs.length h.pc 4 = 0) (hw : IntKind.u32.wrap (loadOf bs h.pc 4) = wd) (l0 : rd < 32) (l1 : rs1 < 32) (l2 : rs2 < 32)
    (HD : Hid (∀ W, Calls Tryz.prog 24 #[.int .u32 wd] W fun e w' => e = .returned (.tuple #[.agg (insC op rd rs1 rs2 imm aq rl), .int .i64 0]) ∧ Below W.heap.size W w')) (n1 : op ≠ 51) (n2 : op ≠ 52)
    (ha : (h.set 0 0).reg rs1 = a) (hb : (h.set 0 0).reg rs2 = b)
    (HS : Hid (∀ W, Calls Tryz.prog 26 #[.int .i64 op] W fun e w' => e = .returned (.int .i64 n) ∧ Below W.heap.size W w'))
    (n0 : ¬ 0 < n) (v err : Int) (hv : U64 v)
    (HT : Hid (∀ W, Calls Tryz.prog 28 #[.agg (insC op rd rs1 rs2 imm aq rl), .int .u64 h.pc, .int .u64 a, .int .u64 b] W fun e w' => e = .returned (.tuple #[.int .u64 v, .int .i64 err]) ∧ Below W.heap.size W w')) (c5 : 5 ≤ op) (c10 : op ≤ 10) (tg pc : Int) (utg : U64 tg) (upc : U64 pc) (HTg : Hid (∀ W, Calls Tryz.prog 29 #[.agg (insC op rd rs1 rs2 imm aq rl), .int .u64 h.pc, .int .u64 a] W fun e w' => e = .returned (.int .u64 tg) ∧ Below W.heap.size W w'))
    (HTk : Hid (∀ W, Calls Tryz.prog 30 #[.agg (insC op rd rs1 rs2 imm aq rl), .int .u64 a, .int .u64 b] W fun e w' => e = .returned (.bool true) ∧ Below W.heap.size W w')) :
    Calls Tryz.prog 12 #[.agg h.cells, .pointer (some ⟨g, 0, none⟩)] w (StepPost w g q ((({ h.set 0 0 with pc := tg } : HartS).set rd v).set 0 0, bs, 0)) := by
  have r1 : (rd : Int) < 32 := by omega
  have r0 : (0 : Int) ≤ (rd : Int) := by omega
  have g5 : op ≥ 5 := c5
  have HM := Lib.hid M
  have HK := Lib.hid hk
  have c0 := h.c0
  clear M hk
  have d1 : (op == 51) = false := by simpa using n1
  have d2 : (op == 52) = false := by simpa using n2
  go_enter Tryz.func12, Tryz.ntmps12
  go_wp2_with fail
  generalize hX : World.alloc w _ = X
  generalize hY : World.alloc X _ = Y
  have H := Lib.hid (s1_start HM.out HK.out hX hY)
  clear hX hY c0
  refine (Load_any _ g q bs _ 4 H.out.m HK.out.2.1 (by decide)).mono ?_
  rintro e W ⟨rfl, rfl⟩
  rw [hE]
  go_wp2_with fail
  refine (HD.out _).mono ?_
  rintro e W1 ⟨rfl, hd⟩
  have H1 := Lib.hid (H.out.below hd)
  clear H hd
  go_wp2_with (first | refine wpList_load_row rfl 25 _ rfl w.heap.size rfl 25 _ _ _ (H1.out.alloc rfl).b1 Tryz.underlying25 rfl (hart_info.trans (congrArg some (HartS.size HK.out).symm)) ?_ | (refine wpList_store_row rfl 25 _ _ rfl (W1.heap.size + 1) h.cells rfl rfl 25 _ (new2b _ _ _ _ _) (hart_info.trans (congrArg some (HartS.size HK.out).symm)) (HartS.size HK.out).symm h.one ?_; (generalize hZ : World.setRow _ _ _ = Z; have H3 := s3_start H1.out hZ; have fz := H3.bo.frozen 1; have cz := (H3.bo.cell 1).trans (HartS.cx H3.ok 0 (by decide)); have H3 := Lib.hid H3; clear hZ H1)))
  generalize hV : World.setCell Z _ _ = V
  have H4 : S3 w V g q h bs W1.heap.size (W1.heap.size + 1) (h.set 0 0) (insC op rd rs1 rs2 imm aq rl) := hV ▸ H3.out.set 1 _ (h.set 0 0) (H3.out.ok.set 0 0 (by decide)) (HartS.sx H3.out.ok 0 (by decide) 0)
  have ki := H4.bi.gcell
  have H4 := Lib.hid H4
  clear hV fz cz H3
  refine wp_region_quiet_below (by kernel_rfl) (by kernel_rfl) ?_
  go_big_quiet_step (fail)
  go_big_quiet_step (fail)
  go_big_quiet_step (fail)
  go_big_quiet_step ((go_at_call 25; exact Calls.regrown_of (c_read rs1 _ _ _ l1 H4.out.ok (H4.out.bo.grow _ _))))
  go_big_quiet_step (fail)
  go_big_quiet_step (fail)
  go_big_quiet_step (fail)
  go_big_quiet_step ((go_at_call 25; exact Calls.regrown_of (c_read rs2 _ _ _ l2 H4.out.ok (H4.out.bo.grow _ _))))
  go_big_quiet_step (fail)
  go_big_quiet_step (fail)
  refine wpQuiet_nil ?_
  intro _ hw'
  obtain ⟨⟨dq, osq⟩, hw''⟩ := hw'
  subst hw''
  rw [ha, hb]
  generalize hG : Sort.grow (redrawn V dq) osq = G
  have H5 := Lib.hid (H4.out.below (hG ▸ below_regrown V dq osq))
  have i0 := H5.out.bi.cell 0
  clear hG H4 ki
  go_wp2_with fail
  refine (HS.out _).mono ?_
  rintro e W2 ⟨rfl, hd⟩
  have H6 := Lib.hid (H5.out.below hd)
  clear H5 i0 hd
  have c0 := (H6.out.s.b1.cell 0).trans h.c0
  have gn : decide (n > 0) = false := decide_eq_false (by omega)
  go_wp2_with (first | refine wpList_load_row rfl 50 _ rfl W1.heap.size rfl 50 _ _ _ H6.out.bi Tryz.underlying50 rfl (by kernel_rfl) ?_)
  refine (HT.out _).mono ?_
  rintro e W3 ⟨rfl, hd⟩
  have H7 := Lib.hid (H6.out.below hd)
  clear H6 c0 hd gn
  have c0 := (H7.out.s.b1.cell 0).trans h.c0
  go_wp2_with (first | refine wpList_load_row rfl 50 _ rfl W1.heap.size rfl 50 _ _ _ H7.out.bi Tryz.underlying50 rfl (by kernel_rfl) ?_)
  refine (HTg.out _).mono ?_
  rintro e W4 ⟨rfl, hd⟩
  have H8 := Lib.hid (H7.out.below hd)
  clear H7 c0 hd
  go_wp2_with ((refine wpList_store_u64 rfl 22 _ _ rfl (W1.heap.size + 1) 0 tg rfl rfl _ _ H8.out.bo (by rw [HartS.size H8.out.ok]; omega) u64_info ?_; (generalize hZ : World.setCell _ _ _ = Z2; have H9 := hZ ▸ H8.out.set 0 _ (({ h.set 0 0 with pc := tg } : HartS)) (H8.out.ok.pc _ utg) (HartS.s0 _ _); have i0 := H9.bi.cell 0; have i1 := H9.bi.cell 1; have i2 := H9.bi.cell 2; have i3 := H9.bi.cell 3; have i4 := H9.bi.cell 4; have i5 := H9.bi.cell 5; have i6 := H9.bi.cell 6; have c0 := (H9.s.b1.cell 0).trans h.c0; have H9 := Lib.hid H9; clear hZ H8)))
  refine (HTk.out _).mono ?_
  rintro e W5 ⟨rfl, hd⟩
  have HA := Lib.hid (H9.out.below hd)
  clear H9 i0 i1 i2 i3 i4 i5 i6 c0 hd
  have i1 := HA.out.bi.cell 1
  have c0 := (HA.out.s.b1.cell 0).trans h.c0
  go_wp2_with (first | (refine wpList_store_u64 rfl 22 _ _ rfl (W1.heap.size + 1) (1 + rd) v rfl rfl _ _ HA.out.bo (by rw [HartS.size HA.out.ok]; omega) u64_info ?_; (generalize hZ : World.setCell _ _ _ = Z2; have HP := hZ ▸ HA.out.set (1 + rd) _ ((({ h.set 0 0 with pc := tg } : HartS).set rd v)) (HA.out.ok.set _ _ hv) (HartS.sx HA.out.ok rd l0 v); skip; have HP := Lib.hid HP; clear hZ HA)) | (refine wpList_store_u64 rfl 22 _ _ rfl (W1.heap.size + 1) (1 + 0) 0 rfl rfl _ _ HP.out.bo (by rw [HartS.size HP.out.ok]; omega) u64_info ?_; (generalize hZ : World.setCell _ _ _ = Z2; have HR := hZ ▸ HP.out.set (1 + 0) _ (((({ h.set 0 0 with pc := tg } : HartS).set rd v).set 0 0)) (HP.out.ok.set 0 0 (by decide)) (HartS.sx HP.out.ok 0 (by decide) 0); skip; have HR := Lib.hid HR; clear hZ HP)) | (refine wpList_load_row rfl 25 _ rfl (W1.heap.size + 1) rfl 25 _ _ _ HR.out.bo Tryz.underlying25 rfl (hart_info.trans (congrArg some (HartS.size HR.out.ok).symm)) ?_) | (refine wpList_store_row rfl 25 _ _ rfl (w.heap.size + 1) _ rfl rfl 25 _ HR.out.s.b2 (hart_info.trans (congrArg some (HartS.size HR.out.ok).symm)) (HartS.size HR.out.ok).symm (HartS.one _) ?_))
  exact HR.out.s.back _ HR.out.ok _ _ _ (by rfl) (by rfl) rfl
set_option maxHeartbeats 16000000 in
set_option maxRecDepth 100000 in
theorem step_4E (h : HartS) (g q : Nat) (bs : List Int) (w : World) (wd op imm a b n : Int) (rd rs1 rs2 : Nat) (aq rl : Bool) (hk : h.Ok) (M : MemAt w g q bs) (hE : numE bs.length h.pc 4 = 0) (hw : IntKind.u32.wrap (loadOf bs h.pc 4) = wd) (l0 : rd < 32) (l1 : rs1 < 32) (l2 : rs2 < 32)
    (HD : Hid (∀ W, Calls Tryz.prog 24 #[.int .u32 wd] W fun e w' => e = .returned (.tuple #[.agg (insC op rd rs1 rs2 imm aq rl), .int .i64 0]) ∧ Below W.heap.size W w')) (n1 : op ≠ 51) (n2 : op ≠ 52)
    (ha : (h.set 0 0).reg rs1 = a) (hb : (h.set 0 0).reg rs2 = b)
    (HS : Hid (∀ W, Calls Tryz.prog 26 #[.int .i64 op] W fun e w' => e = .returned (.int .i64 n) ∧ Below W.heap.size W w'))
    (n0 : ¬ 0 < n) (v err : Int) (hv : U64 v)
    (HT : Hid (∀ W, Calls Tryz.prog 28 #[.agg (insC op rd rs1 rs2 imm aq rl), .int .u64 h.pc, .int .u64 a, .int .u64 b] W fun e w' => e = .returned (.tuple #[.int .u64 v, .int .i64 err]) ∧ Below W.heap.size W w')) (c5 : 5 ≤ op) (c10 : op ≤ 10) (tg pc : Int) (utg : U64 tg) (upc : U64 pc) (HTg : Hid (∀ W, Calls Tryz.prog 29 #[.agg (insC op rd rs1 rs2 imm aq rl), .int .u64 h.pc, .int .u64 a] W fun e w' => e = .returned (.int .u64 tg) ∧ Below W.heap.size W w'))
    (HTk : Hid (∀ W, Calls Tryz.prog 30 #[.agg (insC op rd rs1 rs2 imm aq rl), .int .u64 a, .int .u64 b] W fun e w' => e = .returned (.bool false) ∧ Below W.heap.size W w')) :
    Calls Tryz.prog 12 #[.agg h.cells, .pointer (some ⟨g, 0, none⟩)] w (StepPost w g q ((({ h.set 0 0 with pc := IntKind.u64.wrap (h.pc + 4) } : HartS).set rd v).set 0 0, bs, 0)) := by
  have r1 : (rd : Int) < 32 := by omega
  have r0 : (0 : Int) ≤ (rd : Int) := by omega
  have g5 : op ≥ 5 := c5
  have HM := Lib.hid M
  have HK := Lib.hid hk
  have c0 := h.c0
  clear M hk
  have d1 : (op == 51) = false := by simpa using n1
  have d2 : (op == 52) = false := by simpa using n2
  go_enter Tryz.func12, Tryz.ntmps12
  go_wp2_with fail
  generalize hX : World.alloc w _ = X
  generalize hY : World.alloc X _ = Y
  have H := Lib.hid (s1_start HM.out HK.out hX hY)
  clear hX hY c0
  refine (Load_any _ g q bs _ 4 H.out.m HK.out.2.1 (by decide)).mono ?_
  rintro e W ⟨rfl, rfl⟩
  rw [hE]
  go_wp2_with fail
  refine (HD.out _).mono ?_
  rintro e W1 ⟨rfl, hd⟩
  have H1 := Lib.hid (H.out.below hd)
  clear H hd
  go_wp2_with (first | refine wpList_load_row rfl 25 _ rfl w.heap.size rfl 25 _ _ _ (H1.out.alloc rfl).b1 Tryz.underlying25 rfl (hart_info.trans (congrArg some (HartS.size HK.out).symm)) ?_ | (refine wpList_store_row rfl 25 _ _ rfl (W1.heap.size + 1) h.cells rfl rfl 25 _ (new2b _ _ _ _ _) (hart_info.trans (congrArg some (HartS.size HK.out).symm)) (HartS.size HK.out).symm h.one ?_; (generalize hZ : World.setRow _ _ _ = Z; have H3 := s3_start H1.out hZ; have fz := H3.bo.frozen 1; have cz := (H3.bo.cell 1).trans (HartS.cx H3.ok 0 (by decide)); have H3 := Lib.hid H3; clear hZ H1)))
  generalize hV : World.setCell Z _ _ = V
  have H4 : S3 w V g q h bs W1.heap.size (W1.heap.size + 1) (h.set 0 0) (insC op rd rs1 rs2 imm aq rl) := hV ▸ H3.out.set 1 _ (h.set 0 0) (H3.out.ok.set 0 0 (by decide)) (HartS.sx H3.out.ok 0 (by decide) 0)
  have ki := H4.bi.gcell
  have H4 := Lib.hid H4
  clear hV fz cz H3
  refine wp_region_quiet_below (by kernel_rfl) (by kernel_rfl) ?_
  go_big_quiet_step (fail)
  go_big_quiet_step (fail)
  go_big_quiet_step (fail)
  go_big_quiet_step ((go_at_call 25; exact Calls.regrown_of (c_read rs1 _ _ _ l1 H4.out.ok (H4.out.bo.grow _ _))))
  go_big_quiet_step (fail)
  go_big_quiet_step (fail)
  go_big_quiet_step (fail)
  go_big_quiet_step ((go_at_call 25; exact Calls.regrown_of (c_read rs2 _ _ _ l2 H4.out.ok (H4.out.bo.grow _ _))))
  go_big_quiet_step (fail)
  go_big_quiet_step (fail)
  refine wpQuiet_nil ?_
  intro _ hw'
  obtain ⟨⟨dq, osq⟩, hw''⟩ := hw'
  subst hw''
  rw [ha, hb]
  generalize hG : Sort.grow (redrawn V dq) osq = G
  have H5 := Lib.hid (H4.out.below (hG ▸ below_regrown V dq osq))
  have i0 := H5.out.bi.cell 0
  clear hG H4 ki
  go_wp2_with fail
  refine (HS.out _).mono ?_
  rintro e W2 ⟨rfl, hd⟩
  have H6 := Lib.hid (H5.out.below hd)
  clear H5 i0 hd
  have c0 := (H6.out.s.b1.cell 0).trans h.c0
  have gn : decide (n > 0) = false := decide_eq_false (by omega)
  go_wp2_with (first | refine wpList_load_row rfl 50 _ rfl W1.heap.size rfl 50 _ _ _ H6.out.bi Tryz.underlying50 rfl (by kernel_rfl) ?_)
  refine (HT.out _).mono ?_
  rintro e W3 ⟨rfl, hd⟩
  have H7 := Lib.hid (H6.out.below hd)
  clear H6 c0 hd gn
  have c0 := (H7.out.s.b1.cell 0).trans h.c0
  go_wp2_with (first | refine wpList_load_row rfl 50 _ rfl W1.heap.size rfl 50 _ _ _ H7.out.bi Tryz.underlying50 rfl (by kernel_rfl) ?_)
  refine (HTg.out _).mono ?_
  rintro e W4 ⟨rfl, hd⟩
  have H8 := Lib.hid (H7.out.below hd)
  clear H7 c0 hd
  go_wp2_with ((refine wpList_store_u64 rfl 22 _ _ rfl (W1.heap.size + 1) 0 tg rfl rfl _ _ H8.out.bo (by rw [HartS.size H8.out.ok]; omega) u64_info ?_; (generalize hZ : World.setCell _ _ _ = Z2; have H9 := hZ ▸ H8.out.set 0 _ (({ h.set 0 0 with pc := tg } : HartS)) (H8.out.ok.pc _ utg) (HartS.s0 _ _); have i0 := H9.bi.cell 0; have i1 := H9.bi.cell 1; have i2 := H9.bi.cell 2; have i3 := H9.bi.cell 3; have i4 := H9.bi.cell 4; have i5 := H9.bi.cell 5; have i6 := H9.bi.cell 6; have c0 := (H9.s.b1.cell 0).trans h.c0; have H9 := Lib.hid H9; clear hZ H8)))
  refine (HTk.out _).mono ?_
  rintro e W5 ⟨rfl, hd⟩
  have HA := Lib.hid (H9.out.below hd)
  clear H9 i0 i1 i2 i3 i4 i5 i6 c0 hd
  have i1 := HA.out.bi.cell 1
  have c0 := (HA.out.s.b1.cell 0).trans h.c0
  go_wp2_with (first | (refine wpList_store_u64 rfl 22 _ _ rfl (W1.heap.size + 1) 0 _ rfl rfl _ _ HA.out.bo (by rw [HartS.size HA.out.ok]; omega) u64_info ?_; (generalize hZ : World.setCell _ _ _ = Z2; have HB := hZ ▸ HA.out.set 0 _ (({ h.set 0 0 with pc := (IntKind.u64.wrap (h.pc + 4)) } : HartS)) (HA.out.ok.pc _ (U64.wrap _)) (HartS.s0 _ _); skip; have HB := Lib.hid HB; clear hZ HA i1 c0; have i1 := HB.out.bi.cell 1)) | (refine wpList_store_u64 rfl 22 _ _ rfl (W1.heap.size + 1) (1 + rd) v rfl rfl _ _ HB.out.bo (by rw [HartS.size HB.out.ok]; omega) u64_info ?_; (generalize hZ : World.setCell _ _ _ = Z2; have HP := hZ ▸ HB.out.set (1 + rd) _ ((({ h.set 0 0 with pc := IntKind.u64.wrap (h.pc + 4) } : HartS).set rd v)) (HB.out.ok.set _ _ hv) (HartS.sx HB.out.ok rd l0 v); skip; have HP := Lib.hid HP; clear hZ HB)) | (refine wpList_store_u64 rfl 22 _ _ rfl (W1.heap.size + 1) (1 + 0) 0 rfl rfl _ _ HP.out.bo (by rw [HartS.size HP.out.ok]; omega) u64_info ?_; (generalize hZ : World.setCell _ _ _ = Z2; have HR := hZ ▸ HP.out.set (1 + 0) _ (((({ h.set 0 0 with pc := IntKind.u64.wrap (h.pc + 4) } : HartS).set rd v).set 0 0)) (HP.out.ok.set 0 0 (by decide)) (HartS.sx HP.out.ok 0 (by decide) 0); skip; have HR := Lib.hid HR; clear hZ HP)) | (refine wpList_load_row rfl 25 _ rfl (W1.heap.size + 1) rfl 25 _ _ _ HR.out.bo Tryz.underlying25 rfl (hart_info.trans (congrArg some (HartS.size HR.out.ok).symm)) ?_) | (refine wpList_store_row rfl 25 _ _ rfl (w.heap.size + 1) _ rfl rfl 25 _ HR.out.s.b2 (hart_info.trans (congrArg some (HartS.size HR.out.ok).symm)) (HartS.size HR.out.ok).symm (HartS.one _) ?_))
  exact HR.out.s.back _ HR.out.ok _ _ _ (by rfl) (by rfl) rfl
end Go.Proofs.YtcjfafhbohkhlaaGreat.Hand
