/- DERIVED. DERIVED. The whole walk of the law OrderRenamed. -/
import Derived.Test.YtdfapbfpmjbnhaaProg
import Derived.Test.YtdfapbfpmjbnhaaMBits
import Derived.Test.YtdfapbfpmjbnhaaMWalk
import Derived.Test.YtdfapbfpmjbnhaaMArg
import Derived.Test.YtdfapbfpmjbnhaaMRow
import Derived.Test.YtdfapbfpmjbnhaaMOpen
import Derived.Test.YtdfapbfpmjbnhaaMPart
import Derived.Test.YtdfapbfpmjbnhaaMGoMap
import Derived.Test.YtdfapbfpmjbnhaaMQTwo
import Derived.Test.YtdfapbfpmjbnhaaHP
import Derived.Below
import Derived.Deep.Draws
import Derived.Deep.AppendLies
import Derived.Maps.AppendAt
import Derived.OwnWalk
import Derived.Laws.BytesArg
import Derived.Laws.MakeOwn
import Derived.Laws.OwnMore
import Derived.Deep.OwnRows
import Derived.Tactics
import Derived.Lib.ConvBytes
import Derived.Laws.Slices
import Derived.WalkKit
import Derived.KernelRfl
import Derived.RowKit3
import Derived.Deep.LoopGhost
import Derived.Deep.QuietTactic
import Derived.BigQuiet
import Derived.WideLaws
import Derived.Deep.DeepCutAuto
import Derived.Deep.CutBlock
import Derived.Deep.RegionHeld3
import Derived.Laws.Rows
import Derived.Lib.AppendStr
import Derived.ArgAppend
import Derived.Laws.IdiomCopy
import Derived.OrdersHeld
import Derived.Laws.BitsLemmas
import Derived.Laws.Bits64
import Derived.RowKit
import Derived.Outline
import Derived.Handy
import Derived.Lib.Hide
import Derived.Deep.Light
import Derived.Laws.CopyOwn
import Derived.Laws.AppendOwnNone
import Derived.RangeFuncNested
import Derived.RangeFuncBound
import Derived.RangeFuncCalls
import Derived.RangeFuncLeaves
import Derived.Shelf.Abstract
import Derived.Shelf.RegionOpen
import Derived.OwnWalkIn
import Derived.TacticsInMore
import Derived.LoopNIn
import Derived.LoopIn
import Derived.Maps.OwnIn
import Derived.Deep.WholeRow
namespace Go.Proofs.Ytdfapbfpmjbnhaa.Hand
open Go Go.RowKit Go.Proofs.Ytdfapbfpmjbnhaa.M
set_option linter.unusedVariables false
set_option linter.unusedSimpArgs false
attribute [local go_sem] Oper.semAt_some
/-- A slice of whole numbers that some call made for itself: its block holds whole numbers and nothing else. -/
def SlT (W : World) (s : Sl) : Prop := W.ownsRow 0 3 1 s.v s.n (s.l.map (Value.int .i64)) ∧ s.l.length = s.n ∧ s.n ≤ 1000 ∧ ∀ x ∈ s.l, (Lit.int .i64 x).wf = true
theorem SlT.at_ {W : World} {s : Sl} (h : SlT W s) : s.At W := by
  obtain ⟨A, N, C, L⟩ := s
  obtain ⟨h1, h2, h3, h4⟩ := h
  dsimp only at *
  refine ⟨fun hne => ?_, h2, by show N ≤ _; omega, h4⟩
  rcases h1.2 with ⟨e, h0⟩ | ⟨g, cap, cur, e, _⟩
  · exact absurd (List.eq_nil_of_length_eq_zero (show L.length = 0 by omega)) hne
  · have e : Value.slice A N C = .slice (some ⟨g, 0, none⟩) N cap := e
    injection e with e1 e2 e3
    subst e1 e3
    exact ⟨_, rfl, (h1.lt g rfl).2, fun j x hj => h1.cells (g := g) rfl j _ (by rw [List.getElem?_map, hj]; rfl)⟩
theorem SlT.of_RL {V W : World} {o : Value} {acc : List Int} (h : RL V W o acc) (hn : acc.length ≤ 1000) : ∃ r : Sl, o = r.v ∧ SlT W r ∧ r.l = acc ∧ r.n = acc.length := by
  rcases h.own.2 with ⟨e, h0⟩ | ⟨g, cap, cur, e, _⟩
  · have : acc = [] := List.eq_nil_of_length_eq_zero h0
    subst this
    exact ⟨noInts, e, ⟨World.ownsRow_nil _ _ _ _, rfl, by show 0 ≤ 1000; omega, fun x hx => by cases hx⟩, rfl, rfl⟩
  · subst e
    exact ⟨⟨some ⟨g, 0, none⟩, acc.length, cap, acc⟩, rfl, ⟨⟨h.own.1, h.own.2.imp id fun ⟨g, cap, cur, h1, h2, h3⟩ => ⟨g, cap, cur, h1, Nat.zero_le _, h3⟩⟩, rfl, hn, h.wf⟩, rfl, rfl⟩
theorem SlT.kept {W W' : World} {s : Sl} {r : Option Nat} (h : SlT W s) (g : W.grownBy W' r) (hne : s.v.ownBlock = none ∨ s.v.ownBlock ≠ r) : SlT W' s := ⟨World.ownsRow.kept h.1 g hne, h.2⟩
theorem SlT.below {W W' : World} {s : Sl} (h : SlT W s) (d : Below W.heap.size W W') : SlT W' s :=
  h.kept (grown_of_below d) (by cases hb : s.v.ownBlock with | none => exact .inl rfl | some k => exact .inr (by simp))
theorem SlT.apart {W : World} {s : Sl} {b T : Nat} {cs : Array Value} (h : SlT W s) (hb : W.heap[b]? = some (.cells cs T)) (hT : T ≠ 3) : s.v.ownBlock = none ∨ s.v.ownBlock ≠ some b := by
  rcases h.1.2 with ⟨e, h0⟩ | ⟨g, cap, cur, e, _, hg, _⟩
  · exact .inl (by rw [e]; rfl)
  · refine .inr fun hh => ?_
    rw [e] at hh
    have : g = b := by simpa [Value.ownBlock] using hh
    subst this
    rw [hg] at hb
    injection hb with hb
    injection hb with _ hb
    exact hT hb.symm
structure OpT (W : World) (o : OpS) : Prop where
  f : SlT W o.frm
  a : SlT W o.addrs
  d : SlT W o.datas
  c : SlT W o.ctrls
  u : U64 o.addr
  z : I64 o.size
theorem OpT.at_ {W : World} {o : OpS} (h : OpT W o) : o.At W := ⟨h.f.at_, h.a.at_, h.d.at_, h.c.at_, h.u, h.z⟩
theorem OpT.below {W W' : World} {o : OpS} (h : OpT W o) (d : Below W.heap.size W W') : OpT W' o := ⟨h.f.below d, h.a.below d, h.d.below d, h.c.below d, h.u, h.z⟩
theorem SlT.far {W : World} {s : Sl} {b T i : Nat} {cs : Array Value} (h : SlT W s) (hb : Blk W b cs T) (hT : T ≠ 3) (u : Value) : SlT (W.setCell ⟨b, i, none⟩ u) s := h.kept (grown_cell W b i u) (h.apart hb hT)
theorem OpT.far {W : World} {o : OpS} {b T i : Nat} {cs : Array Value} (h : OpT W o) (hb : Blk W b cs T) (hT : T ≠ 3) (u : Value) : OpT (W.setCell ⟨b, i, none⟩ u) o := ⟨h.f.far hb hT u, h.a.far hb hT u, h.d.far hb hT u, h.c.far hb hT u, h.u, h.z⟩
theorem own_apart {W : World} {base : Nat} {v : Value} {l : List OpS} (H : OwnOps W base v l) {s : Sl} (h : SlT W s) : s.v.ownBlock = none ∨ s.v.ownBlock ≠ v.ownBlock := by
  rcases H.2 with ⟨e, h0⟩ | ⟨g, cap, cur, e, _, hg, _⟩
  · rw [e]
    cases hb : s.v.ownBlock with
    | none => exact .inl rfl
    | some k => exact .inr (by simp [Value.ownBlock])
  · rw [e]
    exact h.apart hg (by decide)
theorem OpT.append {W W' : World} {base : Nat} {v : Value} {l : List OpS} {o : OpS} (H : OwnOps W base v l) (g : W.grownBy W' v.ownBlock) (h : OpT W o) : OpT W' o :=
  ⟨h.f.kept g (own_apart H h.f), h.a.kept g (own_apart H h.a), h.d.kept g (own_apart H h.d), h.c.kept g (own_apart H h.c), h.u, h.z⟩
theorem one_op {W : World} {g : Nat} {o : OpS} (B : Blk W g o.cells 29) (h : o.At W) : (⟨some ⟨g, 0, none⟩, 1, 1, [o]⟩ : OSl).At W :=
  ⟨fun _ => ⟨_, rfl, B.lt, fun k o' hk => by
    match k, hk with
    | 0, hk =>
      injection hk with e
      subst e
      exact B.cellsAt (o := 0) fun j v hv => by rw [Nat.zero_add]; exact hv
    | k + 1, hk => simp at hk⟩, rfl, by show 1 ≤ _; omega, fun o' ho => by
    rw [List.mem_singleton.1 ho]; exact h⟩
theorem wpList_store_sl {P : Program} {ops : Array Oper} {rest : List Oper} {op : Oper} {a : Act} {w : World} {Q : Exit → Act → World → Prop} (hgd : op.guard = none) (ty : TypeId) (x y : Operand) (ho : op.op = .store ty x y)
    (b i : Nat) (v : Sl) (hx : a.eval x = .pointer (some ⟨b, i, none⟩)) (hy : a.eval y = v.v) (cs : Array Value) (T : Nat) (B : Blk w b cs T) (hi : i < cs.size) (hn : (P.info? ty).map (·.size) = some 1)
    (h : wpList P ops Q rest (a.put op.dst undef) (w.setCell ⟨b, i, none⟩ v.v)) : wpList P ops Q (op :: rest) a w := by
  obtain ⟨A, N, C, L⟩ := v
  change a.eval y = .slice A N C at hy
  change wpList P ops Q rest (a.put op.dst undef) (w.setCell ⟨b, i, none⟩ (.slice A N C)) at h
  refine wpList_plain hgd fun K hK => ?_
  have hc : w.cell? ⟨b, i, none⟩ = some cs[i] := (B.cell i).trans (Array.getElem?_eq_getElem hi)
  have hf := B.frozen i
  have e : (storeVar ty ⟨b, i, none⟩ (.slice A N C)).run P w = .ok () (w.setCell ⟨b, i, none⟩ (.slice A N C)) := by
    cases hq : P.info? ty with
    | none => simp [hq] at hn
    | some t =>
      have ht : t.size = 1 := by simpa [hq] using hn
      have h0 : ∀ j, j < [Value.slice A N C].length → j = 0 := fun j hj => by simpa using hj
      have := run_storeCells_cells (P := P) b i [.slice A N C] 0 w (fun j hj => by obtain rfl := h0 j hj; simp [hc]) (fun j hj => by obtain rfl := h0 j hj; simpa using hf) (fun u hu => by obtain rfl : u = .slice A N C := (by simpa using hu); rfl)
      simp only [Nat.add_zero] at this
      simp [storeVar, sizeOf, typeInfo, hq, Value.cells, ht, this, World.setCells]
  unfold Oper.wp execOp
  simp only [ho, hx, hy, Instr.storeAt, Instr.sureAddr, Sem.run_bind, Sem.run_pure, Result.andThen_ok, e]
  exact hK _ _ h
theorem wpList_store_fn {P : Program} {ops : Array Oper} {rest : List Oper} {op : Oper} {a : Act} {w : World} {Q : Exit → Act → World → Prop} (hgd : op.guard = none) (ty : TypeId) (x y : Operand) (ho : op.op = .store ty x y)
    (b i : Nat) (F : Fn) (fa fb : Array Value) (hx : a.eval x = .pointer (some ⟨b, i, none⟩)) (hy : a.eval y = .func F fa fb) (cs : Array Value) (T : Nat) (B : Blk w b cs T) (hi : i < cs.size) (hn : (P.info? ty).map (·.size) = some 1)
    (h : wpList P ops Q rest (a.put op.dst undef) (w.setCell ⟨b, i, none⟩ (.func F fa fb))) : wpList P ops Q (op :: rest) a w := by
  refine wpList_plain hgd fun K hK => ?_
  have hc : w.cell? ⟨b, i, none⟩ = some cs[i] := (B.cell i).trans (Array.getElem?_eq_getElem hi)
  have hf := B.frozen i
  have e : (storeVar ty ⟨b, i, none⟩ (.func F fa fb)).run P w = .ok () (w.setCell ⟨b, i, none⟩ (.func F fa fb)) := by
    cases hq : P.info? ty with
    | none => simp [hq] at hn
    | some t =>
      have ht : t.size = 1 := by simpa [hq] using hn
      have h0 : ∀ j, j < [Value.func F fa fb].length → j = 0 := fun j hj => by simpa using hj
      have := run_storeCells_cells (P := P) b i [.func F fa fb] 0 w (fun j hj => by obtain rfl := h0 j hj; simp [hc]) (fun j hj => by obtain rfl := h0 j hj; simpa using hf) (fun u hu => by obtain rfl : u = .func F fa fb := (by simpa using hu); rfl)
      simp only [Nat.add_zero] at this
      simp [storeVar, sizeOf, typeInfo, hq, Value.cells, ht, this, World.setCells]
  unfold Oper.wp execOp
  simp only [ho, hx, hy, Instr.storeAt, Instr.sureAddr, Sem.run_bind, Sem.run_pure, Result.andThen_ok, e]
  exact hK _ _ h
theorem ints_info : (Try.prog.info? 27).map (·.size) = some 1 := by kernel_rfl
theorem fn_info : (Try.prog.info? 36).map (·.size) = some 1 := by kernel_rfl
theorem light_op {s : OSl} (h : lightOf s = true) {o : OpS} (ho : o ∈ s.l) : o.frm.n ≤ 60 ∧ o.addrs.n ≤ 60 ∧ o.datas.n ≤ 60 ∧ o.ctrls.n ≤ 60 := by
  unfold lightOf at h
  rw [Bool.and_eq_true, Bool.not_eq_true', List.any_eq_false] at h
  have := h.2 o ho
  unfold heavyOp at this
  simp at this
  omega
theorem great_le {l : List Int} (h : greatOf l = false) : ∀ x ∈ l, x ≤ 1000 := fun x hx => by
  unfold greatOf at h
  rw [List.any_eq_false] at h
  have := h x hx
  simp at this
  exact this
theorem RenL.mem {k : Int} {l l' : List OpS} (h : RenL k l l') : ∀ o' ∈ l', ∃ o ∈ l, Ren k o o' := by
  induction h with
  | nil => intro o' h; cases h
  | cons g1 g2 ih =>
    intro o' ho'
    rcases List.mem_cons.1 ho' with rfl | ho'
    · exact ⟨_, by simp, g1⟩
    · obtain ⟨o, h1, h2⟩ := ih o' ho'
      exact ⟨o, List.mem_cons_of_mem _ h1, h2⟩
theorem at_k (a : Int) : ∃ K : Int, 1 ≤ K ∧ K ≤ 1000 ∧ wrap64 (1 + wrap64 ((IntKind.u64.wrap a).tmod 1000)) = K := by
  have h0 : 0 ≤ IntKind.u64.wrap a := by rw [u64w]; omega
  have h1 := Int.emod_nonneg (IntKind.u64.wrap a) (show (1000 : Int) ≠ 0 by omega)
  have h2 := Int.emod_lt_of_pos (IntKind.u64.wrap a) (show (0 : Int) < 1000 by omega)
  rw [Int.tmod_eq_emod_of_nonneg h0]
  refine ⟨1 + (IntKind.u64.wrap a) % 1000, by omega, by omega, ?_⟩
  unfold wrap64
  omega
set_option maxRecDepth 100000 in
set_option maxHeartbeats 8000000 in
theorem ren_some (s : OSl) (a : Int) (w : World) (hS : s.At w) (cS : s.n ≤ s.c) (zS : s.a = none → s.n = 0 ∧ s.c = 0) (hI : ∀ o ∈ s.l, (Lit.int .i64 o.id).wf = true ∧ (Lit.int .i64 o.pair).wf = true) (b1 : lightOf s = true) :
    Calls Try.prog 5 #[s.v, .int .i64 a] w fun e w' => e = .returned (.bool true) ∧ Below w.heap.size w w' := by
  have L1 : Hid (∀ W, Below w.heap.size w W → Calls Try.prog 6 #[.slice s.a s.n s.c] W fun e w' => e = .returned (.bool true) ∧ Below W.heap.size W w') := Lib.hid fun W d => b1 ▸ Light_any s W (hS.below d)
  have m1 := light_n b1
  have HS := Lib.hid hS
  have l1 := hS.n
  have ZS := Lib.hid zS
  have HI := Lib.hid hI
  have HL := Lib.hid fun o (ho : o ∈ s.l) => light_op b1 ho
  clear hS zS b1 hI
  show Calls Try.prog 5 #[.slice s.a s.n s.c, .int .i64 a] w _
  go_enter Try.func5, Try.ntmps5
  go_upto_region 2 with fail
  obtain ⟨K, hK1, hK2, eK⟩ := at_k a
  simp only [eK]
  generalize wrap64 ((IntKind.u64.wrap a).tmod 1000) = z17 at *
  generalize (IntKind.u64.wrap a).tmod 1000 = z16 at *
  clear eK
  generalize hX : World.alloc w _ = X1
  obtain ⟨bK, dK, sK⟩ := arg_box hX
  clear hX
  replace bK := Lib.hid bK
  have HD := Lib.hid dK
  have hk0 : (K : Int) ≤ 1000 := hK2
  go_upto_region 4 with (first
    | (go_at_call 6; refine (L1.out _ HD.out).mono ?_; clear L1; rintro e G ⟨rfl, dd⟩; replace HD := Lib.hid (HD.out.trans (dd.mono HD.out.size)); replace bK := Lib.hid (bK.out.below dd); clear dd))
  go_upto_region 8 with (refine wpList_store_fn rfl 36 _ _ rfl G.heap.size 0 (.func 12) #[] #[.pointer (some ⟨w.heap.size, 0, none⟩)] rfl rfl _ _ (Blk.new G _ _) (by decide) fn_info ?_; (generalize hX : World.alloc G _ = X2; obtain ⟨bI, dI, sI⟩ := arg_box hX; clear hX; generalize hX : World.setCell X2 _ _ = X3; have bJ := Lib.hid (hX ▸ bI.set 0 (.func (.func 12) #[] #[.pointer (some ⟨w.heap.size, 0, none⟩)])); have bK2 := Lib.hid (hX ▸ (bK.out.below dI).far (p := ⟨G.heap.size, 0, none⟩) (by have := HD.out.size; have := sK; have := bK.out.lt; show w.heap.size ≠ G.heap.size; omega) (.func (.func 12) #[] #[.pointer (some ⟨w.heap.size, 0, none⟩)])); replace HD := Lib.hid (hX ▸ below_cell (HD.out.trans (dI.mono HD.out.size)) HD.out.size (.func (.func 12) #[] #[.pointer (some ⟨w.heap.size, 0, none⟩)])); clear hX bI dI bK))
  have cK := Lib.hid fun W (d : Below X3.heap.size X3 W) => (bK2.out.below d).cell 0
  have cI := Lib.hid fun W (d : Below X3.heap.size X3 W) => (bJ.out.below d).cell 0
  clear bK2 bJ dK
  replace HS := Lib.hid (HS.out.below HD.out)
  try simp only [Act.put]
  go_wp2_with fail
  go_loopw [9, 27] (fun m i wr => ∃ k : Nat, k ≤ s.n ∧ i = .int .i64 k ∧ ∃ ml, Hid (OW X3 wr m ml) ∧ Hid (RenL K (s.l.take k) ml) ∧ Hid (∀ o ∈ ml, OpT wr o)) (fun _ i _ => s.n - (intOf i).toNat)
  case atStart => exact ⟨0, by omega, rfl, [], Lib.hid ⟨World.ownsRow_nil _ _ _ _, Below.refl _ _⟩, Lib.hid .nil, Lib.hid (fun o ho => by cases ho)⟩
  case round =>
    obtain ⟨k, hk, rfl, ml, OM, RM, TM⟩ := hrel
    by_cases hlt : k < s.n
    · obtain ⟨ad, e, h1, h2, h3, h4⟩ := (HS.out.below OM.out.d).cell hlt
      replace h3 := Lib.hid h3
      have w1 := Lib.hid (HI.out s.l[k] (List.getElem_mem _))
      have hA := Lib.hid h4
      have HE := Lib.hid (HL.out s.l[k] (List.getElem_mem _))
      have hT := Lib.hid (show s.l.take (k + 1) = s.l.take k ++ [s.l[k]] by rw [List.take_add_one, List.getElem?_eq_getElem h2]; rfl)
      clear h1 h4
      generalize s.l[k] = o at *
      have hml : ml.length = k := by rw [RM.out.len, List.length_take]; omega
      rw [e]
      go_upto_region 11 with (first | (refine wpList_load_at rfl 29 _ rfl (ad.add (k * 17)) rfl o.cells _ h3.out Try.underlying29 rfl op_info ?_) | (refine wpList_store_row rfl 29 _ _ rfl (wr.heap.size) _ rfl rfl 29 _ (Blk.new _ _ _) op_info (OpS.len' _).symm (OpS.one _) ?_; (generalize hZ : World.setRow _ _ _ = Z; rw [World.setRow_alloc_new] at hZ; obtain ⟨b5, d5, sZ⟩ := arg_box hZ; have B := Lib.hid b5; have D5 := Lib.hid d5; have OZ := Lib.hid (OM.out.below d5); have TZ := Lib.hid fun q (hq : q ∈ ml) => (TM.out q hq).below d5; have AZ := Lib.hid (hA.out.below d5); have c0 := cId B.out; have c12 : Z.cell? ⟨wr.heap.size, 12, none⟩ = some o.frm.v := B.out.cell 12; have c13 : Z.cell? ⟨wr.heap.size, 13, none⟩ = some (.int .i64 o.pair) := B.out.cell 13; have c14 : Z.cell? ⟨wr.heap.size, 14, none⟩ = some o.addrs.v := B.out.cell 14; have c15 : Z.cell? ⟨wr.heap.size, 15, none⟩ = some o.datas.v := B.out.cell 15; have c16 : Z.cell? ⟨wr.heap.size, 16, none⟩ = some o.ctrls.v := B.out.cell 16; clear hZ b5 d5)))
      try simp only [Act.put]
      have HDZ := Lib.hid (HD.out.trans (OZ.out.d.mono HD.out.size))
      have G1 := Lib.hid (great_any o.frm Z AZ.out.f)
      have G2 := Lib.hid (great_any o.addrs Z AZ.out.a)
      have G3 := Lib.hid (great_any o.datas Z AZ.out.d)
      have G4 := Lib.hid (great_any o.ctrls Z AZ.out.c)
      have I1 := Lib.hid fun W (d : Below X3.heap.size X3 W) (n : Int) => id_any K n w.heap.size W hK1 hK2 (cK.out W d)
      have I2 := Lib.hid fun W (d : Below X3.heap.size X3 W) (q : Sl) (hq : q.At W) (hn : q.n ≤ 60) => ids_any K q w.heap.size G.heap.size W hK1 hK2 hq hn (cK.out W d) (cI.out W d)
      obtain ⟨v1, e1⟩ : ∃ v, o.frm.v = v := ⟨_, rfl⟩
      obtain ⟨v2, e2⟩ : ∃ v, o.addrs.v = v := ⟨_, rfl⟩
      obtain ⟨v3, e3⟩ : ∃ v, o.datas.v = v := ⟨_, rfl⟩
      obtain ⟨v4, e4⟩ : ∃ v, o.ctrls.v = v := ⟨_, rfl⟩
      rw [e1] at c12 G1
      rw [e2] at c14 G2
      rw [e3] at c15 G3
      rw [e4] at c16 G4
      replace e1 := Lib.hid e1
      replace e2 := Lib.hid e2
      replace e3 := Lib.hid e3
      replace e4 := Lib.hid e4
      obtain ⟨b1, f1⟩ : ∃ b, greatOf o.frm.l = b := ⟨_, rfl⟩
      obtain ⟨b2, f2⟩ : ∃ b, greatOf o.addrs.l = b := ⟨_, rfl⟩
      obtain ⟨b3, f3⟩ : ∃ b, greatOf o.datas.l = b := ⟨_, rfl⟩
      obtain ⟨b4, f4⟩ : ∃ b, greatOf o.ctrls.l = b := ⟨_, rfl⟩
      rw [f1] at G1
      rw [f2] at G2
      rw [f3] at G3
      rw [f4] at G4
      replace f1 := Lib.hid f1
      replace f2 := Lib.hid f2
      replace f3 := Lib.hid f3
      replace f4 := Lib.hid f4
      replace e := Lib.hid e
      clear h3
      by_cases q1 : o.id < 0
      · go_wp2_with (first | (go_at_call 7; refine (lives_any _).mono ?_; rintro e W ⟨rfl, dd⟩; replace HDZ := Lib.hid (HDZ.out.trans (dd.mono HDZ.out.size)); clear dd))
        go_ret
        exact ⟨rfl, HDZ.out⟩
      · by_cases q2 : 1000 < o.id
        · go_wp2_with (first | (go_at_call 7; refine (lives_any _).mono ?_; rintro e W ⟨rfl, dd⟩; replace HDZ := Lib.hid (HDZ.out.trans (dd.mono HDZ.out.size)); clear dd))
          go_ret
          exact ⟨rfl, HDZ.out⟩
        · by_cases q3 : 1000 < o.pair
          · go_wp2_with (first | (go_at_call 7; refine (lives_any _).mono ?_; rintro e W ⟨rfl, dd⟩; replace HDZ := Lib.hid (HDZ.out.trans (dd.mono HDZ.out.size)); clear dd))
            go_ret
            exact ⟨rfl, HDZ.out⟩
          · cases b1
            · cases b2
              · cases b3
                · cases b4
                  · go_upto_region 13 with (first | (go_at_call 14; refine G1.out.mono ?_; clear G1; rintro e W ⟨rfl, rfl⟩) | (go_at_call 14; refine G2.out.mono ?_; clear G2; rintro e W ⟨rfl, rfl⟩) | (go_at_call 14; refine G3.out.mono ?_; clear G3; rintro e W ⟨rfl, rfl⟩) | (go_at_call 14; refine G4.out.mono ?_; clear G4; rintro e W ⟨rfl, rfl⟩))
                    have DX := Lib.hid fun W (d : Below wr.heap.size wr W) => OM.out.d.trans (d.mono OM.out.d.size)
                    have J0 : Hid (∀ W, Below wr.heap.size wr W → ∀ n : Int, Calls Try.prog 12 #[.int .i64 n, .pointer (some ⟨w.heap.size, 0, none⟩)] W fun e w' => e = .returned (.int .i64 (renI K n)) ∧ W = w') := Lib.hid fun W d n => I1.out W (DX.out W d) n
                    have J1 : Hid (∀ W, Below wr.heap.size wr W → Calls Try.prog 13 #[v1, .pointer (some ⟨G.heap.size, 0, none⟩)] W fun e w' => ∃ x, e = .returned x ∧ RL W w' x (o.frm.l.map (renI K))) := Lib.hid fun W d => e1.out ▸ I2.out W (DX.out W d) o.frm (hA.out.below d).f HE.out.1
                    have J2 : Hid (∀ W, Below wr.heap.size wr W → Calls Try.prog 13 #[v2, .pointer (some ⟨G.heap.size, 0, none⟩)] W fun e w' => ∃ x, e = .returned x ∧ RL W w' x (o.addrs.l.map (renI K))) := Lib.hid fun W d => e2.out ▸ I2.out W (DX.out W d) o.addrs (hA.out.below d).a HE.out.2.1
                    have J3 : Hid (∀ W, Below wr.heap.size wr W → Calls Try.prog 13 #[v3, .pointer (some ⟨G.heap.size, 0, none⟩)] W fun e w' => ∃ x, e = .returned x ∧ RL W w' x (o.datas.l.map (renI K))) := Lib.hid fun W d => e3.out ▸ I2.out W (DX.out W d) o.datas (hA.out.below d).d HE.out.2.2.1
                    have J4 : Hid (∀ W, Below wr.heap.size wr W → Calls Try.prog 13 #[v4, .pointer (some ⟨G.heap.size, 0, none⟩)] W fun e w' => ∃ x, e = .returned x ∧ RL W w' x (o.ctrls.l.map (renI K))) := Lib.hid fun W d => e4.out ▸ I2.out W (DX.out W d) o.ctrls (hA.out.below d).c HE.out.2.2.2
                    try simp only [Act.put]
                    have r0 := cell_regrown c0
                    have r13 := cell_regrown c13
                    have r12 := cell_regrown c12
                    have rI := cell_regrown (cI.out Z OZ.out.d)
                    clear c0 c13 c12 c14 c15 c16
                    refine wp_region_two [13, 15, 17] [0, 1, 2, 4, 5, 6, 8, 9, 10] [{ dst := some 69, op := Op.load 36 (Operand.tmp 6), type := 36, pos := "law.go:130", after := #[], guard := none }, { dst := some 70, op := Op.fieldAddr 29 (Operand.tmp 11) 0, type := 0, pos := "law.go:130", after := #[], guard := none }, { dst := some 71, op := Op.load 3 (Operand.tmp 70), type := 3, pos := "law.go:130", after := #[{ on := 1, ground := Ground.data }], guard := none }, { dst := some 73, op := Op.load 36 (Operand.tmp 6), type := 36, pos := "law.go:130", after := #[], guard := none }, { dst := some 74, op := Op.fieldAddr 29 (Operand.tmp 11) 13, type := 0, pos := "law.go:130", after := #[], guard := none }, { dst := some 75, op := Op.load 3 (Operand.tmp 74), type := 3, pos := "law.go:130", after := #[{ on := 5, ground := Ground.data }], guard := none }, { dst := some 77, op := Op.move (Operand.tmp 7), type := 37, pos := "law.go:130", after := #[], guard := none }, { dst := some 78, op := Op.fieldAddr 29 (Operand.tmp 11) 12, type := 0, pos := "law.go:130", after := #[], guard := none }, { dst := some 79, op := Op.load 27 (Operand.tmp 78), type := 27, pos := "law.go:130", after := #[{ on := 9, ground := Ground.data }], guard := none }] rfl (by kernel_rfl) (by decide) (by kernel_rfl) (by kernel_rfl) (by kernel_rfl) (by kernel_rfl) (fun _ _ _ _ _ h => h) ?_
                    repeat go_big_quiet_step (fail)
                    refine wpQuiet_nil ?_
                    intro _ hw'
                    obtain ⟨⟨dq, osq⟩, hw''⟩ := hw'
                    subst hw''
                    clear r0 r13 r12 rI
                    show wpAnyT Try.prog .any _ _ _ _ 9 _ _ _
                    have bY := below_regrown Z dq osq
                    generalize Sort.grow (redrawn Z dq) osq = Y at *
                    have DY := D5.out.trans (bY.mono D5.out.size)
                    have BY := Lib.hid (B.out.below bY)
                    refine wpAnyT_all (rs := [3]) (by kernel_rfl) (by simp) ?_
                    intro kk hkk
                    simp only [List.mem_singleton] at hkk
                    subst hkk
                    refine wpOp_calls (f := 12) (args := #[.int .i64 o.id, .pointer (some ⟨w.heap.size, 0, none⟩)]) rfl rfl ?hr1 ?_
                    case hr1 => go_simp
                    refine (J0.out Y DY o.id).mono ?_
                    rintro e W ⟨rfl, rfl⟩
                    refine ⟨_, rfl, fun _ => regrown_of_below bY, ?_⟩
                    try simp only [List.getElem_toArray, List.getElem_cons_succ, List.getElem_cons_zero, Act.put, List.setIfInBounds_toArray, List.set_cons_succ, List.set_cons_zero]
                    refine wpAnyT_take (i := 12) (v := .pointer (some ⟨wr.heap.size, 0, none⟩)) rfl (by kernel_rfl) (by kernel_rfl) (by kernel_rfl) (by decide) (fun _ _ _ h => h) (.inl ⟨rfl, fun V hV => ?hr2⟩) (fun _ => regrown_of_below bY) ?_
                    case hr2 => go_simp
                    try simp only [List.getElem_toArray, List.getElem_cons_succ, List.getElem_cons_zero, Act.put, List.setIfInBounds_toArray, List.set_cons_succ, List.set_cons_zero]
                    refine wpAnyT_all (rs := [7]) (by kernel_rfl) (by simp) ?_
                    intro kk hkk
                    simp only [List.mem_singleton] at hkk
                    subst hkk
                    refine wpOp_calls (f := 12) (args := #[.int .i64 o.pair, .pointer (some ⟨w.heap.size, 0, none⟩)]) rfl rfl ?hr3 ?_
                    case hr3 => go_simp
                    refine (J0.out Y DY o.pair).mono ?_
                    rintro e W ⟨rfl, rfl⟩
                    refine ⟨_, rfl, fun _ => regrown_of_below bY, ?_⟩
                    try simp only [List.getElem_toArray, List.getElem_cons_succ, List.getElem_cons_zero, Act.put, List.setIfInBounds_toArray, List.set_cons_succ, List.set_cons_zero]
                    refine wpAnyT_all (rs := [11]) (by kernel_rfl) (by simp) ?_
                    intro kk hkk
                    simp only [List.mem_singleton] at hkk
                    subst hkk
                    refine wpOp_calls (f := 13) (args := #[v1, .pointer (some ⟨G.heap.size, 0, none⟩)]) rfl rfl ?hr4 ?_
                    case hr4 => go_simp
                    refine (J1.out Y DY).mono ?_
                    rintro e W1 ⟨x1, rfl, RL1⟩
                    have bW1 := bY.trans (RL1.d.mono bY.size)
                    have DW1 := DY.trans (RL1.d.mono DY.size)
                    have ddW1 := RL1.d
                    obtain ⟨r1, ee1, S1, rl1, rn1⟩ := SlT.of_RL RL1 (by rw [List.length_map]; have := HE.out; have := AZ.out.f.2.1; omega)
                    subst ee1
                    replace S1 := Lib.hid S1
                    have B1 := Lib.hid (BY.out.below ddW1)
                    clear ddW1
                    clear RL1
                    refine ⟨_, rfl, fun _ => regrown_of_below bW1, ?_⟩
                    try simp only [List.getElem_toArray, List.getElem_cons_succ, List.getElem_cons_zero, Act.put, List.setIfInBounds_toArray, List.set_cons_succ, List.set_cons_zero]
                    refine wpAnyT_all (rs := [13]) (by kernel_rfl) (by simp) ?_
                    intro kk hkk
                    simp only [List.mem_singleton] at hkk
                    subst hkk
                    refine wpOp_of_list rfl ?_
                    refine wpList_store_i64 rfl 3 _ _ rfl wr.heap.size 0 (renI K o.id) rfl rfl _ _ B1.out (by rw [OpS.len']; omega) i64_info ?_
                    refine wpList_thenK ?_
                    refine ⟨fun e => Bool.noConfusion (show false = true from e), ?_⟩
                    generalize hX : World.setCell W1 _ _ = W2
                    have B2 : Hid (Blk W2 wr.heap.size ({ o with id := renI K o.id } : OpS).cells 29) := Lib.hid (hX ▸ B1.out.set 0 (.int .i64 (renI K o.id)))
                    have DW2 := hX ▸ below_cell (i := 0) DW1 (Nat.le_refl _) (.int .i64 (renI K o.id))
                    replace S1 := Lib.hid (hX ▸ S1.out.far B1.out (by decide) (i := 0) (.int .i64 (renI K o.id)))
                    clear hX DW1 B1
                    try simp only [List.getElem_toArray, List.getElem_cons_succ, List.getElem_cons_zero, Act.put, List.setIfInBounds_toArray, List.set_cons_succ, List.set_cons_zero]
                    refine wpAnyT_take (i := 14) (v := .pointer (some ⟨wr.heap.size, 13, none⟩)) rfl (by kernel_rfl) (by kernel_rfl) (by kernel_rfl) (by decide) (fun _ _ _ h => h) (.inl ⟨rfl, fun V hV => ?hr5⟩) (fun e => Bool.noConfusion (show false = true from e)) ?_
                    case hr5 => go_simp
                    try simp only [List.getElem_toArray, List.getElem_cons_succ, List.getElem_cons_zero, Act.put, List.setIfInBounds_toArray, List.set_cons_succ, List.set_cons_zero]
                    refine wpAnyT_all (rs := [15]) (by kernel_rfl) (by simp) ?_
                    intro kk hkk
                    simp only [List.mem_singleton] at hkk
                    subst hkk
                    refine wpOp_of_list rfl ?_
                    refine wpList_store_i64 rfl 3 _ _ rfl wr.heap.size 13 (renI K o.pair) rfl rfl _ _ B2.out (by rw [OpS.len']; omega) i64_info ?_
                    refine wpList_thenK ?_
                    refine ⟨fun e => Bool.noConfusion (show false = true from e), ?_⟩
                    generalize hX : World.setCell W2 _ _ = W3
                    have B3 : Hid (Blk W3 wr.heap.size ({ o with id := renI K o.id, pair := renI K o.pair } : OpS).cells 29) := Lib.hid (hX ▸ B2.out.set 13 (.int .i64 (renI K o.pair)))
                    have DW3 := hX ▸ below_cell (i := 13) DW2 (Nat.le_refl _) (.int .i64 (renI K o.pair))
                    replace S1 := Lib.hid (hX ▸ S1.out.far B2.out (by decide) (i := 13) (.int .i64 (renI K o.pair)))
                    clear hX DW2 B2
                    try simp only [List.getElem_toArray, List.getElem_cons_succ, List.getElem_cons_zero, Act.put, List.setIfInBounds_toArray, List.set_cons_succ, List.set_cons_zero]
                    refine wpAnyT_take (i := 16) (v := .pointer (some ⟨wr.heap.size, 12, none⟩)) rfl (by kernel_rfl) (by kernel_rfl) (by kernel_rfl) (by decide) (fun _ _ _ h => h) (.inl ⟨rfl, fun V hV => ?hr6⟩) (fun e => Bool.noConfusion (show false = true from e)) ?_
                    case hr6 => go_simp
                    try simp only [List.getElem_toArray, List.getElem_cons_succ, List.getElem_cons_zero, Act.put, List.setIfInBounds_toArray, List.set_cons_succ, List.set_cons_zero]
                    refine wpAnyT_all (rs := [17]) (by kernel_rfl) (by simp) ?_
                    intro kk hkk
                    simp only [List.mem_singleton] at hkk
                    subst hkk
                    refine wpOp_of_list rfl ?_
                    refine wpList_store_sl rfl 27 _ _ rfl wr.heap.size 12 r1 rfl rfl _ _ B3.out (by rw [OpS.len']; omega) ints_info ?_
                    refine wpList_thenK ?_
                    refine ⟨fun e => Bool.noConfusion (show false = true from e), ?_⟩
                    generalize hX : World.setCell W3 _ _ = W4
                    have B4 : Hid (Blk W4 wr.heap.size ({ o with id := renI K o.id, pair := renI K o.pair, frm := r1 } : OpS).cells 29) := Lib.hid (hX ▸ B3.out.set 12 (r1.v))
                    have DW4 := hX ▸ below_cell (i := 12) DW3 (Nat.le_refl _) (r1.v)
                    replace S1 := Lib.hid (hX ▸ S1.out.far B3.out (by decide) (i := 12) (r1.v))
                    clear hX DW3 B3
                    try simp only [List.getElem_toArray, List.getElem_cons_succ, List.getElem_cons_zero, Act.put, List.setIfInBounds_toArray, List.set_cons_succ, List.set_cons_zero]
                    refine wpAnyT_done (by kernel_rfl) ?_ _
                    go_upto_region 14 with fail
                    try simp only [Act.put]
                    clear bY DY BY bW1 B D5 OZ TZ HDZ I1 I2 J0 J1 AZ
                    have c14 : W4.cell? ⟨wr.heap.size, 14, none⟩ = some v2 := (B4.out.cell 14).trans (congrArg some e2.out)
                    have c15 : W4.cell? ⟨wr.heap.size, 15, none⟩ = some v3 := (B4.out.cell 15).trans (congrArg some e3.out)
                    have c16 : W4.cell? ⟨wr.heap.size, 16, none⟩ = some v4 := (B4.out.cell 16).trans (congrArg some e4.out)
                    have r14 := cell_regrown c14
                    have r15 := cell_regrown c15
                    have r16 := cell_regrown c16
                    clear c14 c15 c16
                    refine wp_region_two [13, 15, 17] [0, 1, 2, 4, 5, 6, 8, 9, 10] [{ dst := some 84, op := Op.move (Operand.tmp 7), type := 37, pos := "law.go:131", after := #[], guard := none }, { dst := some 85, op := Op.fieldAddr 29 (Operand.tmp 11) 14, type := 0, pos := "law.go:131", after := #[], guard := none }, { dst := some 86, op := Op.load 27 (Operand.tmp 85), type := 27, pos := "law.go:131", after := #[{ on := 1, ground := Ground.data }], guard := none }, { dst := some 88, op := Op.move (Operand.tmp 7), type := 37, pos := "law.go:131", after := #[], guard := none }, { dst := some 89, op := Op.fieldAddr 29 (Operand.tmp 11) 15, type := 0, pos := "law.go:131", after := #[], guard := none }, { dst := some 90, op := Op.load 27 (Operand.tmp 89), type := 27, pos := "law.go:131", after := #[{ on := 5, ground := Ground.data }], guard := none }, { dst := some 92, op := Op.move (Operand.tmp 7), type := 37, pos := "law.go:131", after := #[], guard := none }, { dst := some 93, op := Op.fieldAddr 29 (Operand.tmp 11) 16, type := 0, pos := "law.go:131", after := #[], guard := none }, { dst := some 94, op := Op.load 27 (Operand.tmp 93), type := 27, pos := "law.go:131", after := #[{ on := 9, ground := Ground.data }], guard := none }] rfl (by kernel_rfl) (by decide) (by kernel_rfl) (by kernel_rfl) (by kernel_rfl) (by kernel_rfl) (fun _ _ _ _ _ h => h) ?_
                    repeat go_big_quiet_step (fail)
                    refine wpQuiet_nil ?_
                    intro _ hw'
                    obtain ⟨⟨dq, osq⟩, hw''⟩ := hw'
                    subst hw''
                    clear r14 r15 r16
                    show wpAnyT Try.prog .any _ _ _ _ 9 _ _ _
                    have bY := below_regrown W4 dq osq
                    generalize Sort.grow (redrawn W4 dq) osq = Y at *
                    have DY := DW4.trans (bY.mono DW4.size)
                    have BY := Lib.hid (B4.out.below bY)
                    replace S1 := Lib.hid (S1.out.below bY)
                    refine wpAnyT_all (rs := [3]) (by kernel_rfl) (by simp) ?_
                    intro kk hkk
                    simp only [List.mem_singleton] at hkk
                    subst hkk
                    refine wpOp_calls (f := 13) (args := #[v2, .pointer (some ⟨G.heap.size, 0, none⟩)]) rfl rfl ?hr1 ?_
                    case hr1 => go_simp
                    refine (J2.out Y DY).mono ?_
                    rintro e W5 ⟨x2, rfl, RL2⟩
                    have bW5 := bY.trans (RL2.d.mono bY.size)
                    have DW5 := DY.trans (RL2.d.mono DY.size)
                    have ddW5 := RL2.d
                    obtain ⟨r2, ee2, S2, rl2, rn2⟩ := SlT.of_RL RL2 (by rw [List.length_map]; have := HE.out; have := hA.out.a.2.1; omega)
                    subst ee2
                    replace S2 := Lib.hid S2
                    have B5 := Lib.hid (BY.out.below ddW5)
                    replace S1 := Lib.hid (S1.out.below ddW5)
                    clear ddW5 BY
                    clear RL2
                    refine ⟨_, rfl, fun _ => regrown_of_below bW5, ?_⟩
                    try simp only [List.getElem_toArray, List.getElem_cons_succ, List.getElem_cons_zero, Act.put, List.setIfInBounds_toArray, List.set_cons_succ, List.set_cons_zero]
                    refine wpAnyT_take (i := 12) (v := .pointer (some ⟨wr.heap.size, 14, none⟩)) rfl (by kernel_rfl) (by kernel_rfl) (by kernel_rfl) (by decide) (fun _ _ _ h => h) (.inl ⟨rfl, fun V hV => ?hr2⟩) (fun _ => regrown_of_below bW5) ?_
                    case hr2 => go_simp
                    try simp only [List.getElem_toArray, List.getElem_cons_succ, List.getElem_cons_zero, Act.put, List.setIfInBounds_toArray, List.set_cons_succ, List.set_cons_zero]
                    refine wpAnyT_all (rs := [7]) (by kernel_rfl) (by simp) ?_
                    intro kk hkk
                    simp only [List.mem_singleton] at hkk
                    subst hkk
                    refine wpOp_calls (f := 13) (args := #[v3, .pointer (some ⟨G.heap.size, 0, none⟩)]) rfl rfl ?hr3 ?_
                    case hr3 => go_simp
                    refine (J3.out W5 DW5).mono ?_
                    rintro e W6 ⟨x3, rfl, RL3⟩
                    have bW6 := bW5.trans (RL3.d.mono bW5.size)
                    have DW6 := DW5.trans (RL3.d.mono DW5.size)
                    have ddW6 := RL3.d
                    obtain ⟨r3, ee3, S3, rl3, rn3⟩ := SlT.of_RL RL3 (by rw [List.length_map]; have := HE.out; have := hA.out.d.2.1; omega)
                    subst ee3
                    replace S3 := Lib.hid S3
                    have B6 := Lib.hid (B5.out.below ddW6)
                    replace S1 := Lib.hid (S1.out.below ddW6)
                    replace S2 := Lib.hid (S2.out.below ddW6)
                    clear ddW6 B5
                    clear RL3
                    refine ⟨_, rfl, fun _ => regrown_of_below bW6, ?_⟩
                    try simp only [List.getElem_toArray, List.getElem_cons_succ, List.getElem_cons_zero, Act.put, List.setIfInBounds_toArray, List.set_cons_succ, List.set_cons_zero]
                    refine wpAnyT_all (rs := [11]) (by kernel_rfl) (by simp) ?_
                    intro kk hkk
                    simp only [List.mem_singleton] at hkk
                    subst hkk
                    refine wpOp_calls (f := 13) (args := #[v4, .pointer (some ⟨G.heap.size, 0, none⟩)]) rfl rfl ?hr4 ?_
                    case hr4 => go_simp
                    refine (J4.out W6 DW6).mono ?_
                    rintro e W7 ⟨x4, rfl, RL4⟩
                    have bW7 := bW6.trans (RL4.d.mono bW6.size)
                    have DW7 := DW6.trans (RL4.d.mono DW6.size)
                    have ddW7 := RL4.d
                    obtain ⟨r4, ee4, S4, rl4, rn4⟩ := SlT.of_RL RL4 (by rw [List.length_map]; have := HE.out; have := hA.out.c.2.1; omega)
                    subst ee4
                    replace S4 := Lib.hid S4
                    have B7 := Lib.hid (B6.out.below ddW7)
                    replace S1 := Lib.hid (S1.out.below ddW7)
                    replace S2 := Lib.hid (S2.out.below ddW7)
                    replace S3 := Lib.hid (S3.out.below ddW7)
                    clear ddW7 B6
                    clear RL4
                    refine ⟨_, rfl, fun _ => regrown_of_below bW7, ?_⟩
                    try simp only [List.getElem_toArray, List.getElem_cons_succ, List.getElem_cons_zero, Act.put, List.setIfInBounds_toArray, List.set_cons_succ, List.set_cons_zero]
                    refine wpAnyT_all (rs := [13]) (by kernel_rfl) (by simp) ?_
                    intro kk hkk
                    simp only [List.mem_singleton] at hkk
                    subst hkk
                    refine wpOp_of_list rfl ?_
                    refine wpList_store_sl rfl 27 _ _ rfl wr.heap.size 14 r2 rfl rfl _ _ B7.out (by rw [OpS.len']; omega) ints_info ?_
                    refine wpList_thenK ?_
                    refine ⟨fun e => Bool.noConfusion (show false = true from e), ?_⟩
                    generalize hX : World.setCell W7 _ _ = W8
                    have B8 : Hid (Blk W8 wr.heap.size ({ o with id := renI K o.id, pair := renI K o.pair, frm := r1, addrs := r2 } : OpS).cells 29) := Lib.hid (hX ▸ B7.out.set 14 (r2.v))
                    have DW8 := hX ▸ below_cell (i := 14) DW7 (Nat.le_refl _) (r2.v)
                    replace S1 := Lib.hid (hX ▸ S1.out.far B7.out (by decide) (i := 14) (r2.v))
                    replace S2 := Lib.hid (hX ▸ S2.out.far B7.out (by decide) (i := 14) (r2.v))
                    replace S3 := Lib.hid (hX ▸ S3.out.far B7.out (by decide) (i := 14) (r2.v))
                    replace S4 := Lib.hid (hX ▸ S4.out.far B7.out (by decide) (i := 14) (r2.v))
                    clear hX DW7 B7
                    try simp only [List.getElem_toArray, List.getElem_cons_succ, List.getElem_cons_zero, Act.put, List.setIfInBounds_toArray, List.set_cons_succ, List.set_cons_zero]
                    refine wpAnyT_take (i := 14) (v := .pointer (some ⟨wr.heap.size, 15, none⟩)) rfl (by kernel_rfl) (by kernel_rfl) (by kernel_rfl) (by decide) (fun _ _ _ h => h) (.inl ⟨rfl, fun V hV => ?hr5⟩) (fun e => Bool.noConfusion (show false = true from e)) ?_
                    case hr5 => go_simp
                    try simp only [List.getElem_toArray, List.getElem_cons_succ, List.getElem_cons_zero, Act.put, List.setIfInBounds_toArray, List.set_cons_succ, List.set_cons_zero]
                    refine wpAnyT_all (rs := [15]) (by kernel_rfl) (by simp) ?_
                    intro kk hkk
                    simp only [List.mem_singleton] at hkk
                    subst hkk
                    refine wpOp_of_list rfl ?_
                    refine wpList_store_sl rfl 27 _ _ rfl wr.heap.size 15 r3 rfl rfl _ _ B8.out (by rw [OpS.len']; omega) ints_info ?_
                    refine wpList_thenK ?_
                    refine ⟨fun e => Bool.noConfusion (show false = true from e), ?_⟩
                    generalize hX : World.setCell W8 _ _ = W9
                    have B9 : Hid (Blk W9 wr.heap.size ({ o with id := renI K o.id, pair := renI K o.pair, frm := r1, addrs := r2, datas := r3 } : OpS).cells 29) := Lib.hid (hX ▸ B8.out.set 15 (r3.v))
                    have DW9 := hX ▸ below_cell (i := 15) DW8 (Nat.le_refl _) (r3.v)
                    replace S1 := Lib.hid (hX ▸ S1.out.far B8.out (by decide) (i := 15) (r3.v))
                    replace S2 := Lib.hid (hX ▸ S2.out.far B8.out (by decide) (i := 15) (r3.v))
                    replace S3 := Lib.hid (hX ▸ S3.out.far B8.out (by decide) (i := 15) (r3.v))
                    replace S4 := Lib.hid (hX ▸ S4.out.far B8.out (by decide) (i := 15) (r3.v))
                    clear hX DW8 B8
                    try simp only [List.getElem_toArray, List.getElem_cons_succ, List.getElem_cons_zero, Act.put, List.setIfInBounds_toArray, List.set_cons_succ, List.set_cons_zero]
                    refine wpAnyT_take (i := 16) (v := .pointer (some ⟨wr.heap.size, 16, none⟩)) rfl (by kernel_rfl) (by kernel_rfl) (by kernel_rfl) (by decide) (fun _ _ _ h => h) (.inl ⟨rfl, fun V hV => ?hr6⟩) (fun e => Bool.noConfusion (show false = true from e)) ?_
                    case hr6 => go_simp
                    try simp only [List.getElem_toArray, List.getElem_cons_succ, List.getElem_cons_zero, Act.put, List.setIfInBounds_toArray, List.set_cons_succ, List.set_cons_zero]
                    refine wpAnyT_all (rs := [17]) (by kernel_rfl) (by simp) ?_
                    intro kk hkk
                    simp only [List.mem_singleton] at hkk
                    subst hkk
                    refine wpOp_of_list rfl ?_
                    refine wpList_store_sl rfl 27 _ _ rfl wr.heap.size 16 r4 rfl rfl _ _ B9.out (by rw [OpS.len']; omega) ints_info ?_
                    refine wpList_thenK ?_
                    refine ⟨fun e => Bool.noConfusion (show false = true from e), ?_⟩
                    generalize hX : World.setCell W9 _ _ = V1
                    have BV : Hid (Blk V1 wr.heap.size ({ o with id := renI K o.id, pair := renI K o.pair, frm := r1, addrs := r2, datas := r3, ctrls := r4 } : OpS).cells 29) := Lib.hid (hX ▸ B9.out.set 16 (r4.v))
                    have DV1 := hX ▸ below_cell (i := 16) DW9 (Nat.le_refl _) (r4.v)
                    replace S1 := Lib.hid (hX ▸ S1.out.far B9.out (by decide) (i := 16) (r4.v))
                    replace S2 := Lib.hid (hX ▸ S2.out.far B9.out (by decide) (i := 16) (r4.v))
                    replace S3 := Lib.hid (hX ▸ S3.out.far B9.out (by decide) (i := 16) (r4.v))
                    replace S4 := Lib.hid (hX ▸ S4.out.far B9.out (by decide) (i := 16) (r4.v))
                    clear hX DW9 B9
                    try simp only [List.getElem_toArray, List.getElem_cons_succ, List.getElem_cons_zero, Act.put, List.setIfInBounds_toArray, List.set_cons_succ, List.set_cons_zero]
                    refine wpAnyT_done (by kernel_rfl) ?_ _
                    clear bY DY bW5 bW6 bW7 DW5 DW6 J2 J3 J4
                    have REN : Hid (Ren K o ({ o with id := renI K o.id, pair := renI K o.pair, frm := r1, addrs := r2, datas := r3, ctrls := r4 } : OpS)) := Lib.hid ⟨rfl, rfl, rfl, rfl, rfl, rfl, rfl, rfl, rfl, rfl, rfl, rl1, rn1.trans (by rw [List.length_map]; exact hA.out.f.2.1), rl2, rl3, rl4, q1, q2, q3, great_le f1.out, great_le f2.out, great_le f3.out, great_le f4.out⟩
                    have NEW : Hid (OpT V1 ({ o with id := renI K o.id, pair := renI K o.pair, frm := r1, addrs := r2, datas := r3, ctrls := r4 } : OpS)) := Lib.hid ⟨S1.out, S2.out, S3.out, S4.out, hA.out.u, hA.out.z⟩
                    clear S1 S2 S3 S4 rl1 rl2 rl3 rl4 rn1 rn2 rn3 rn4
                    replace DV1 := Lib.hid DV1
                    go_wp2_with (first
                      | (refine wpList_load_in rfl 29 _ rfl ⟨wr.heap.size, 0, none⟩ rfl #[.int .i64 (renI K o.id), .bool o.load, .bool o.store, .bool o.fence, .int .u64 o.addr, .int .i64 o.size, .bool o.aq, .bool o.rl, .int .i64 o.pred, .int .i64 o.succ, .int .u64 o.value, .int .u64 o.stored, .slice r1.a r1.n r1.c, .int .i64 (renI K o.pair), .slice r2.a r2.n r2.c, .slice r3.a r3.n r3.c, .slice r4.a r4.n r4.c] _ BV.out.whole Try.underlying29 rfl op_info ?_)
                      | (refine wpList_load_at rfl 29 _ rfl ⟨wr.heap.size, 0, none⟩ rfl #[.int .i64 (renI K o.id), .bool o.load, .bool o.store, .bool o.fence, .int .u64 o.addr, .int .i64 o.size, .bool o.aq, .bool o.rl, .int .i64 o.pred, .int .i64 o.succ, .int .u64 o.value, .int .u64 o.stored, .slice r1.a r1.n r1.c, .int .i64 (renI K o.pair), .slice r2.a r2.n r2.c, .slice r3.a r3.n r3.c, .slice r4.a r4.n r4.c] _ BV.out.whole Try.underlying29 rfl op_info ?_)
                      | (at_builtin; (generalize hY : World.alloc V1 _ = V2; obtain ⟨bB, dB, sB⟩ := arg_box (cs := ({ o with id := renI K o.id, pair := renI K o.pair, frm := r1, addrs := r2, datas := r3, ctrls := r4 } : OpS).cells) hY; clear hY; have OB := Lib.hid (OM.out.below (DV1.out.trans (dB.mono DV1.out.size))); have NB := Lib.hid (NEW.out.below dB); have TB := Lib.hid fun q (hq : q ∈ ml) => ((TM.out q hq).below DV1.out).below dB); refine append_ops rfl (.tmp 99) (.tmp 101) rfl X3.heap.size _ ml rfl OB.out.own ⟨some ⟨V1.heap.size, 0, none⟩, 1, 1, [({ o with id := renI K o.id, pair := renI K o.pair, frm := r1, addrs := r2, datas := r3, ctrls := r4 } : OpS)]⟩ rfl (one_op bB NB.out.at_) (by intro h; cases h) (by simp; omega) OB.out.d.size ?_; intro v9 V3 o1 g1; clear dB bB))
                    go_roundw
                    case rel =>
                      exact ⟨k + 1, by omega, by go_num, ml ++ [({ o with id := renI K o.id, pair := renI K o.pair, frm := r1, addrs := r2, datas := r3, ctrls := r4 } : OpS)], Lib.hid (OB.out.more o1 g1), Lib.hid (by rw [hT.out]; exact RM.out.snoc REN.out), Lib.hid (fun q hq => by
                        rcases List.mem_append.1 hq with hq | hq
                        · exact OpT.append OB.out.own g1 (TB.out q hq)
                        · rw [List.mem_singleton.1 hq]; exact OpT.append OB.out.own g1 NB.out)⟩
                    case measure => simp [intOf]; omega
                  · go_wp2_with (first | (go_at_call 14; refine G1.out.mono ?_; clear G1; rintro e W ⟨rfl, rfl⟩) | (go_at_call 14; refine G2.out.mono ?_; clear G2; rintro e W ⟨rfl, rfl⟩) | (go_at_call 14; refine G3.out.mono ?_; clear G3; rintro e W ⟨rfl, rfl⟩) | (go_at_call 14; refine G4.out.mono ?_; clear G4; rintro e W ⟨rfl, rfl⟩) | (go_at_call 7; refine (lives_any _).mono ?_; rintro e W ⟨rfl, dd⟩; replace HDZ := Lib.hid (HDZ.out.trans (dd.mono HDZ.out.size)); clear dd))
                    go_ret
                    exact ⟨rfl, HDZ.out⟩
                · go_wp2_with (first | (go_at_call 14; refine G1.out.mono ?_; clear G1; rintro e W ⟨rfl, rfl⟩) | (go_at_call 14; refine G2.out.mono ?_; clear G2; rintro e W ⟨rfl, rfl⟩) | (go_at_call 14; refine G3.out.mono ?_; clear G3; rintro e W ⟨rfl, rfl⟩) | (go_at_call 7; refine (lives_any _).mono ?_; rintro e W ⟨rfl, dd⟩; replace HDZ := Lib.hid (HDZ.out.trans (dd.mono HDZ.out.size)); clear dd))
                  go_ret
                  exact ⟨rfl, HDZ.out⟩
              · go_wp2_with (first | (go_at_call 14; refine G1.out.mono ?_; clear G1; rintro e W ⟨rfl, rfl⟩) | (go_at_call 14; refine G2.out.mono ?_; clear G2; rintro e W ⟨rfl, rfl⟩) | (go_at_call 7; refine (lives_any _).mono ?_; rintro e W ⟨rfl, dd⟩; replace HDZ := Lib.hid (HDZ.out.trans (dd.mono HDZ.out.size)); clear dd))
                go_ret
                exact ⟨rfl, HDZ.out⟩
            · go_wp2_with (first | (go_at_call 14; refine G1.out.mono ?_; clear G1; rintro e W ⟨rfl, rfl⟩) | (go_at_call 7; refine (lives_any _).mono ?_; rintro e W ⟨rfl, dd⟩; replace HDZ := Lib.hid (HDZ.out.trans (dd.mono HDZ.out.size)); clear dd))
              go_ret
              exact ⟨rfl, HDZ.out⟩
    · obtain rfl : k = s.n := by omega
      have hrl : Hid (RenL K s.l ml) := Lib.hid (by have := RM.out; rwa [List.take_of_length_le (by omega)] at this)
      clear RM
      obtain ⟨m, em, mA, mC, mL⟩ := OwnOps.at_ OM.out.own (by rw [hrl.out.len]; omega) (fun o ho => (TM.out o ho).at_)
      subst em
      have HDW := Lib.hid (HD.out.trans (OM.out.d.mono HD.out.size))
      replace HS := Lib.hid (HS.out.below OM.out.d)
      clear OM TM cK cI
      subst mL
      obtain ⟨V0, hV0⟩ : ∃ V, V = wr := ⟨_, rfl⟩
      subst hV0
      have RS : Hid (∀ W, Below V0.heap.size V0 W → ∀ p q : Int, Calls Try.prog 8 #[.slice s.a s.n s.c, .int .i64 p, .int .i64 q] W fun e w' => ∃ r : Sl, e = .returned r.v ∧ r.At w' ∧ r.l = rulesOf s.l p q ∧ Below W.heap.size W w') := Lib.hid fun W d p q => Rules_any s p q W (HS.out.below d) cS
      have RM : Hid (∀ W, Below V0.heap.size V0 W → ∀ p q : Int, Calls Try.prog 8 #[m.v, .int .i64 p, .int .i64 q] W fun e w' => ∃ r : Sl, e = .returned r.v ∧ r.At w' ∧ r.l = rulesOf m.l p q ∧ Below W.heap.size W w') := Lib.hid fun W d p q => Rules_any m p q W (mA.below d) mC
      have GS : Hid (∀ W, Below V0.heap.size V0 W → Calls Try.prog 15 #[.slice s.a s.n s.c] W fun e w' => e = .returned (.bool (goodOf s.l)) ∧ Below W.heap.size W w') := Lib.hid fun W d => Good_any s W (HS.out.below d) HI.out
      have hg : goodOf m.l = goodOf s.l := ren_good hK1 hrl.out (fun x hx => rfl)
      have GM : Hid (∀ W, Below V0.heap.size V0 W → Calls Try.prog 15 #[m.v] W fun e w' => e = .returned (.bool (goodOf s.l)) ∧ Below W.heap.size W w') := Lib.hid fun W d => hg ▸ Good_any m W (mA.below d) (fun o' ho' => by
        obtain ⟨o, ho, hr⟩ := hrl.out.mem o' ho'
        have hw := HI.out o ho
        rw [hr.id, hr.pair]
        exact ⟨renI_wf K _ hK1 hK2 hw.1, renI_wf K _ hK1 hK2 hw.2⟩)
      clear hg
      obtain ⟨gd, hgd⟩ : ∃ b, goodOf s.l = b := ⟨_, rfl⟩
      rw [hgd] at GS GM
      clear hgd
      have hml : m.l.length = s.n := by rw [hrl.out.len]; exact l1
      go_wp2_with fail
      go_loopw [106] (fun i wq => ∃ p : Nat, p ≤ s.n ∧ i = .int .i64 p ∧ Hid (Below V0.heap.size V0 wq)) (fun i _ => s.n - (intOf i).toNat)
      case atStart => exact ⟨0, by omega, rfl, Lib.hid (Below.refl _ _)⟩
      case round =>
        obtain ⟨p, hp, rfl, HB⟩ := hrel
        by_cases hlp : p < s.n
        · go_wp2_with fail
          go_loopw [111] (fun i wq => ∃ q : Nat, q ≤ s.n ∧ i = .int .i64 q ∧ Hid (Below V0.heap.size V0 wq)) (fun i _ => s.n - (intOf i).toNat)
          case atStart => exact ⟨0, by omega, rfl, HB⟩
          case round =>
            obtain ⟨q, hq, rfl, HB⟩ := hrel
            by_cases hlq : q < s.n
            · go_wp2_with (first
                | (go_at_call 8; refine (RS.out _ HB.out p q).mono ?_; clear RS; rintro e W5 ⟨r1, rfl, A1, E1, dd⟩; replace HB := Lib.hid (HB.out.trans (dd.mono HB.out.size)); clear dd; replace A1 := Lib.hid A1; replace E1 := Lib.hid E1)
                | (go_at_call 8; refine (RM.out _ HB.out p q).mono ?_; clear RM; rintro e W6 ⟨r2, rfl, A2, E2, dd⟩; replace HB := Lib.hid (HB.out.trans (dd.mono HB.out.size)); replace A1 := Lib.hid (A1.out.below dd); clear dd; replace A2 := Lib.hid A2; replace E2 := Lib.hid E2)
                | (go_at_call 11; refine (Ints_any r1 r2 _ A1.out A2.out).mono ?_; rintro e W7 ⟨he, dd⟩; replace he := he.trans (congrArg (fun b => Ending.returned (Value.bool b)) (decide_eq_true (by rw [E1.out, E2.out, ren_rules hK1 hrl.out]))); subst he; replace HB := Lib.hid (HB.out.trans (dd.mono HB.out.size)); clear dd))
              go_roundw
              case rel => exact ⟨q + 1, by omega, by go_num, HB⟩
              case measure => simp [intOf]; omega
            · go_wp2_with fail
              go_roundw
              case rel => exact ⟨p + 1, by omega, by go_num, HB⟩
              case measure => simp [intOf]; omega
        · clear RS RM
          cases gd
          all_goals
            go_wp2_with (first
              | (go_at_call 15; refine (GS.out _ HB.out).mono ?_; clear GS; rintro e W5 ⟨rfl, dd⟩; replace HB := Lib.hid (HB.out.trans (dd.mono HB.out.size)); clear dd)
              | (go_at_call 15; refine (GM.out _ HB.out).mono ?_; clear GM; rintro e W6 ⟨rfl, dd⟩; replace HB := Lib.hid (HB.out.trans (dd.mono HB.out.size)); clear dd)
              | (go_at_call 7; refine (lives_any _).mono ?_; rintro e W7 ⟨rfl, dd⟩; replace HB := Lib.hid (HB.out.trans (dd.mono HB.out.size)); clear dd))
            go_ret
            exact ⟨rfl, HDW.out.trans (HB.out.mono HDW.out.size)⟩
set_option maxHeartbeats 4000000 in
theorem ren_none (s : OSl) (a : Int) (w : World) (hS : s.At w) (hN : lightOf s = false) :
    Calls Try.prog 5 #[s.v, .int .i64 a] w fun e w' => e = .returned (.bool true) ∧ Below w.heap.size w w' := by
  have L1 : Hid (∀ W, Below w.heap.size w W → Calls Try.prog 6 #[s.v] W fun e w' => e = .returned (.bool false) ∧ Below W.heap.size W w') := Lib.hid fun W d => hN ▸ Light_any s W (hS.below d)
  generalize s.v = sv at *
  clear hS hN
  go_enter Try.func5, Try.ntmps5
  go_upto_region 2 with fail
  generalize hX : World.alloc w _ = X1
  obtain ⟨bK, dK, sK⟩ := arg_box hX
  clear hX bK
  have HD := Lib.hid dK
  clear dK
  go_wp2_with (first
      | (go_at_call 6; refine (L1.out _ HD.out).mono ?_; clear L1; rintro e W ⟨rfl, dd⟩; replace HD := Lib.hid (HD.out.trans (dd.mono HD.out.size)); clear dd)
      | (go_at_call 7; refine (lives_any _).mono ?_; rintro e W ⟨rfl, dd⟩; replace HD := Lib.hid (HD.out.trans (dd.mono HD.out.size)); clear dd))
  go_ret
  exact ⟨rfl, HD.out⟩
set_option maxRecDepth 100000 in
set_option maxHeartbeats 4000000 in
theorem ops_open2 {H : Type} {enc : TypeId × Value → H} {W : World} {base b2 : Nat} {spare : Nat → Bool} {held : Bool} {v : Value} {d : DataW H} {ps : List MemPlace} {r} (hv : Value.okWide Try.prog W r b2 22 v)
    (h : DataW.Trod enc Try.prog W base spare held 22 v d ps) : ∃ s : OSl, v = s.v ∧ s.At W ∧ s.n ≤ s.c ∧ (s.a = none → s.n = 0 ∧ s.c = 0) ∧ ∀ o ∈ s.l, (Lit.int .i64 o.id).wf = true ∧ (Lit.int .i64 o.pair).wf = true := by
  obtain ⟨A, n, c, rfl⟩ := Go.WideShapes.okWide_slice Try.underlying22 hv
  obtain ⟨fu, hf⟩ := h
  simp only [Value.cells] at hf
  rcases slice_cells Try.underlying22 hf with h0 | ⟨a, n', c', m, h0, h1, h2, h3⟩
  · exact ⟨⟨none, 0, 0, []⟩, h0, ⟨fun h => absurd rfl h, rfl, by simp, fun o ho => by cases ho⟩, Nat.le_refl _, fun _ => ⟨rfl, rfl⟩, fun o ho => by cases ho⟩
  · injection h0 with a1 a2 a3
    subst a1 a2 a3
    have key : ∀ i, i < n → ∃ s : OpS, CellsAt W (a.add (i * 17)) s.cells ∧ s.At W ∧ (Lit.int .i64 s.id).wf = true ∧ (Lit.int .i64 s.pair).wf = true := by
      intro i hi
      obtain ⟨cs, y, hl, hc, ht⟩ := h3 i hi
      rw [show Try.prog.cellsOf _ = 17 from by kernel_rfl] at hl hc
      obtain ⟨b0, b1, b2, b3, b4, b5, b6, b7, b8, b9, b10, b11, b12, b13, b14, b15, b16, rfl⟩ := list17 hl
      obtain ⟨z0, rfl, w0⟩ := int_field Try.underlying29 ht 0 _ rfl Try.underlying3 (by rw [show Try.prog.cellsOf _ = 1 from by kernel_rfl]; rfl)
      obtain ⟨z1, rfl⟩ := bool_field Try.underlying29 ht 1 _ rfl Try.underlying4 (by rw [show Try.prog.cellsOf _ = 1 from by kernel_rfl]; rfl)
      obtain ⟨z2, rfl⟩ := bool_field Try.underlying29 ht 2 _ rfl Try.underlying4 (by rw [show Try.prog.cellsOf _ = 1 from by kernel_rfl]; rfl)
      obtain ⟨z3, rfl⟩ := bool_field Try.underlying29 ht 3 _ rfl Try.underlying4 (by rw [show Try.prog.cellsOf _ = 1 from by kernel_rfl]; rfl)
      obtain ⟨z4, rfl, w4⟩ := int_field Try.underlying29 ht 4 _ rfl Try.underlying26 (by rw [show Try.prog.cellsOf _ = 1 from by kernel_rfl]; rfl)
      obtain ⟨z5, rfl, w5⟩ := int_field Try.underlying29 ht 5 _ rfl Try.underlying3 (by rw [show Try.prog.cellsOf _ = 1 from by kernel_rfl]; rfl)
      obtain ⟨z6, rfl⟩ := bool_field Try.underlying29 ht 6 _ rfl Try.underlying4 (by rw [show Try.prog.cellsOf _ = 1 from by kernel_rfl]; rfl)
      obtain ⟨z7, rfl⟩ := bool_field Try.underlying29 ht 7 _ rfl Try.underlying4 (by rw [show Try.prog.cellsOf _ = 1 from by kernel_rfl]; rfl)
      obtain ⟨z8, rfl, w8⟩ := int_field Try.underlying29 ht 8 _ rfl Try.underlying3 (by rw [show Try.prog.cellsOf _ = 1 from by kernel_rfl]; rfl)
      obtain ⟨z9, rfl, w9⟩ := int_field Try.underlying29 ht 9 _ rfl Try.underlying3 (by rw [show Try.prog.cellsOf _ = 1 from by kernel_rfl]; rfl)
      obtain ⟨z10, rfl, w10⟩ := int_field Try.underlying29 ht 10 _ rfl Try.underlying26 (by rw [show Try.prog.cellsOf _ = 1 from by kernel_rfl]; rfl)
      obtain ⟨z11, rfl, w11⟩ := int_field Try.underlying29 ht 11 _ rfl Try.underlying26 (by rw [show Try.prog.cellsOf _ = 1 from by kernel_rfl]; rfl)
      obtain ⟨z12, rfl, w12⟩ := ints_field Try.underlying29 ht 12 _ rfl Try.underlying27 Try.underlying3 (by kernel_rfl) (by rw [show Try.prog.cellsOf _ = 1 from by kernel_rfl]; rfl)
      obtain ⟨z13, rfl, w13⟩ := int_field Try.underlying29 ht 13 _ rfl Try.underlying3 (by rw [show Try.prog.cellsOf _ = 1 from by kernel_rfl]; rfl)
      obtain ⟨z14, rfl, w14⟩ := ints_field Try.underlying29 ht 14 _ rfl Try.underlying27 Try.underlying3 (by kernel_rfl) (by rw [show Try.prog.cellsOf _ = 1 from by kernel_rfl]; rfl)
      obtain ⟨z15, rfl, w15⟩ := ints_field Try.underlying29 ht 15 _ rfl Try.underlying27 Try.underlying3 (by kernel_rfl) (by rw [show Try.prog.cellsOf _ = 1 from by kernel_rfl]; rfl)
      obtain ⟨z16, rfl, w16⟩ := ints_field Try.underlying29 ht 16 _ rfl Try.underlying27 Try.underlying3 (by kernel_rfl) (by rw [show Try.prog.cellsOf _ = 1 from by kernel_rfl]; rfl)
      refine ⟨⟨z0, z1, z2, z3, z4, z5, z6, z7, z8, z9, z10, z11, z12, z13, z14, z15, z16⟩, fun f v hv => ?_, ⟨w12, w14, w15, w16, U64.of_wf w4, I64.of_wf w5⟩, w0, w13⟩
      rw [addr_add]
      exact hc f v (by rw [← hv]; exact Array.getElem?_toList)
    obtain ⟨l, hl, hq⟩ := choose_list n key
    refine ⟨⟨some a, n, c, l⟩, rfl, ⟨fun hne => ⟨a, rfl, ?_, fun k i hk => (hq k i hk).1⟩, hl, by unfold maxLen at h2; show n ≤ _; omega, fun i hi => ?_⟩, h1, (fun h => by cases h), fun i hi => ?_⟩
    · have hp : 0 < l.length := List.length_pos_iff.2 hne
      have h4 := (hq 0 _ (List.getElem?_eq_getElem hp)).1 0 _ rfl
      have := lt_of_cell h4
      rwa [block_add, block_add] at this
    · obtain ⟨k, hk, e⟩ := List.mem_iff_getElem.1 hi
      exact (hq k i (by rw [List.getElem?_eq_getElem hk, e])).2.1
    · obtain ⟨k, hk, e⟩ := List.mem_iff_getElem.1 hi
      exact (hq k i (by rw [List.getElem?_eq_getElem hk, e])).2.2
end Go.Proofs.Ytdfapbfpmjbnhaa.Hand
