/- DERIVED. DERIVED. A step changes one register at most, and memory only if its instruction stores, and there alone. -/
import Derived.Test.YtcjfafhbohkhlaaProg
import Derived.Test.YtcjfafhbohkhlaaMBits
import Derived.Test.YtcjfafhbohkhlaaMWalk
import Derived.Test.YtcjfafhbohkhlaaMTab
import Derived.Test.YtcjfafhbohkhlaaMInst
import Derived.Test.YtcjfafhbohkhlaaMDec
import Derived.Test.YtcjfafhbohkhlaaMDec2
import Derived.Test.YtcjfafhbohkhlaaMQTail
import Derived.Test.YtcjfafhbohkhlaaMArg
import Derived.Test.YtcjfafhbohkhlaaMMem
import Derived.Test.YtcjfafhbohkhlaaMMemK
import Derived.Test.YtcjfafhbohkhlaaMMemR
import Derived.Test.YtcjfafhbohkhlaaMHart
import Derived.Test.YtcjfafhbohkhlaaMRow
import Derived.Test.YtcjfafhbohkhlaaMOpen
import Derived.Test.YtcjfafhbohkhlaaHO
import Derived.Test.YtcjfafhbohkhlaaMBack
import Derived.Test.YtcjfafhbohkhlaaPAllx1
import Derived.Test.YtcjfafhbohkhlaaPAllx2
import Derived.Test.YtcjfafhbohkhlaaPAllx3
import Derived.Test.YtcjfafhbohkhlaaPAllx4
import Derived.Test.YtcjfafhbohkhlaaPAllx5
import Derived.Test.YtcjfafhbohkhlaaPAllx6
import Derived.Test.YtcjfafhbohkhlaaPAllx7
import Derived.Test.YtcjfafhbohkhlaaPAllx8
import Derived.Test.YtcjfafhbohkhlaaPAllx9
import Derived.Test.YtcjfafhbohkhlaaPAllx10
import Derived.Test.YtcjfafhbohkhlaaPAllx11
import Derived.Below
import Derived.Deep.Draws
import Derived.Deep.AppendLies
import Derived.Maps.AppendAt
import Derived.OwnWalk
import Derived.Laws.BytesArg
import Derived.Laws.MakeOwn
import Derived.Laws.OwnMore
import Derived.Deep.OwnRows
import Derived.Tactics
import Derived.Lib.ConvBytes
import Derived.Laws.Slices
import Derived.WalkKit
import Derived.KernelRfl
import Derived.RowKit3
import Derived.Deep.LoopGhost
import Derived.Deep.QuietTactic
import Derived.BigQuiet
import Derived.WideLaws
import Derived.Deep.DeepCutAuto
import Derived.Deep.CutBlock
import Derived.Deep.RegionHeld3
import Derived.Laws.Rows
import Derived.Lib.AppendStr
import Derived.ArgAppend
import Derived.Laws.IdiomCopy
import Derived.OrdersHeld
import Derived.Laws.BitsLemmas
import Derived.Laws.Bits64
import Derived.RowKit
import Derived.Outline
import Derived.Handy
import Derived.Lib.Hide
import Derived.Deep.Light
import Derived.Laws.CopyOwn
namespace Go.Proofs.Ytcjfafhbohkhlaa.Hand
open Go Go.RowKit Go.Proofs.Ytcjfafhbohkhlaa.M Go.Proofs.Ytcjfafhbohkhlaa.PAll Go.Proofs.YtcjfafhbohkhlaaW.PrintWords
set_option linter.unusedVariables false
set_option linter.unusedSimpArgs false
theorem store_load (bs : List Int) (at_ n v : Int) (h0 : 0 ≤ at_) (hE : numE bs.length at_ n = 0) : loadOf (storeOf bs at_ n v) at_ n = v % 2 ^ (8 * n.toNat) := by
  have hl := storeOf_length bs at_ n v h0
  have hk := numE_ok.1 hE
  unfold loadOf
  rw [hl, if_pos hE, ← leOf_lowBytes]
  congr 1
  have hL := lowBytes_length v n.toNat
  unfold segOf storeOf
  rw [if_pos hE]
  apply List.ext_getElem?
  intro i
  by_cases hi : i < n.toNat
  · rw [List.getElem?_take_of_lt hi, List.getElem?_drop, splice_get _ _ _ (by omega), if_pos ⟨by omega, by omega⟩]; congr 1; omega
  · rw [List.getElem?_eq_none (by simp; omega), List.getElem?_eq_none (by omega)]
theorem seg_far (bs : List Int) (at_ v : Int) (h : 4 ≤ at_) : segOf (storeOf bs at_ 4 v) 0 4 = segOf bs 0 4 := by
  unfold storeOf
  split
  · next hE =>
    have hk := numE_ok.1 hE
    have hL := lowBytes_length v (4 : Int).toNat
    apply List.ext_getElem?
    intro i
    unfold segOf
    by_cases hi : i < (4 : Int).toNat
    · have hi' : i < 4 := hi
      rw [List.getElem?_take_of_lt hi, List.getElem?_take_of_lt hi, List.getElem?_drop, List.getElem?_drop, splice_get _ _ _ (by rw [hL]; show at_.toNat + 4 ≤ _; omega), if_neg (by rw [hL]; show ¬ (at_.toNat ≤ 0 + i ∧ 0 + i < at_.toNat + 4); omega)]
    · rw [List.getElem?_eq_none (by simp; omega), List.getElem?_eq_none (by simp; omega)]
  · rfl
theorem load_far (bs : List Int) (at_ v : Int) (h : 4 ≤ at_) : loadOf (storeOf bs at_ 4 v) 0 4 = loadOf bs 0 4 := by
  unfold loadOf
  rw [storeOf_length _ _ _ _ (by omega), seg_far bs at_ v h]
theorem word_range (i : InstS) : 0 ≤ i.word ∧ i.word < 4294967296 := by
  unfold InstS.word
  split
  · next h => exact enc_range _ _ _ _ _ _ _ h
  · omega
theorem laid_word (m : Nat) (hm : 64 ≤ m) (l : List InstS) : ∀ j, loadOf (laidTo m l (j + 1)) 0 4 = (l.getD 0 i0).word
  | 0 => by
    have h := word_range (l.getD 0 i0)
    show loadOf (storeOf (List.replicate m 0) (4 * ((0 : Nat) : Int)) 4 (l.getD 0 i0).word) 0 4 = _
    rw [show (4 * ((0 : Nat) : Int)) = 0 from rfl, store_load _ 0 4 _ (by omega) (numE_ok.2 ⟨by omega, by omega, by omega, by simp; omega⟩)]
    show (l.getD 0 i0).word % 4294967296 = _
    omega
  | j + 1 => by
    show loadOf (storeOf (laidTo m l (j + 1)) (4 * ((j + 1 : Nat) : Int)) 4 _) 0 4 = _
    rw [load_far _ _ _ (by omega), laid_word m hm l j]
theorem set_same (y : HartS) (k : y.Ok) (h : y.reg 0 = 0) : y.set 0 0 = y := by
  obtain ⟨pc, x, held, ad, sz⟩ := y
  unfold HartS.set HartS.reg at *
  have hl : x.length = 32 := k.1
  dsimp only at *
  have : x.set (Int.toNat 0) 0 = x := by
    match x, hl, h with
    | a :: t, _, h => simp at h; subst h; rfl
  rw [this]
theorem reg_set (h : HartS) (k : h.x.length = 32) (r v : Int) (q : Nat) (hr : 0 ≤ r ∧ r ≤ 31) : (h.set r v).reg q = if (q : Int) = r then v else h.reg q := by
  unfold HartS.set HartS.reg
  dsimp only
  rw [List.getD_eq_getElem?_getD, List.getD_eq_getElem?_getD, List.getElem?_set]
  by_cases e : (q : Int) = r
  · rw [if_pos (by omega), if_pos (by omega), if_pos e]; rfl
  · rw [if_neg (by omega), if_neg e]
theorem touch_x (h : HartS) (bs : List Int) (op at_ n b : Int) : (touchAt h bs op at_ n b).2.2.1.x = h.x := by
  unfold touchAt
  repeat' split
  all_goals rfl
theorem touch_mem (h : HartS) (bs : List Int) (op at_ n b : Int) : (touchAt h bs op at_ n b).2.2.2 = bs ∨ (touchAt h bs op at_ n b).2.1 = 0 ∧ storesB op = true ∧ ∃ st, (touchAt h bs op at_ n b).2.2.2 = storeOf bs at_ n st := by
  unfold touchAt
  split
  · next hop =>
    have hs : storesB op = true := by unfold storesB; rcases hop with rfl | rfl <;> decide
    split
    · split
      · exact .inr ⟨rfl, hs, _, rfl⟩
      · exact .inl rfl
    · exact .inl rfl
  split
  · split
    · dsimp only
      by_cases hs : storesB op = true
      · rw [if_pos hs]; exact .inr ⟨rfl, hs, _, rfl⟩
      · rw [if_neg hs]; exact .inl rfl
    · exact .inl rfl
  split
  · next hs =>
    by_cases hE : numE bs.length at_ n = 0
    · exact .inr ⟨hE, hs, _, rfl⟩
    · left; show storeOf _ _ _ _ = _; unfold storeOf; rw [if_neg hE]
  · exact .inl rfl
theorem do_keeps (y : HartS) (bs : List Int) (op rd rs1 rs2 imm : Int) (k : y.Ok) (h0 : y.reg 0 = 0) (hr : 0 ≤ rd ∧ rd ≤ 31) :
    (∀ q : Nat, (doOf y bs op rd rs1 rs2 imm).1.reg q ≠ y.reg q → (doOf y bs op rd rs1 rs2 imm).2.2 = 0 ∧ (q : Int) = rd) ∧
    ((doOf y bs op rd rs1 rs2 imm).2.1 = bs ∨ (doOf y bs op rd rs1 rs2 imm).2.2 = 0 ∧ storesB op = true ∧ ∃ at_ st, 0 ≤ at_ ∧ (doOf y bs op rd rs1 rs2 imm).2.1 = storeOf bs at_ (PAll.sizeOf op) st) := by
  have e := set_same y k h0
  unfold doOf
  rw [e]
  have ha := k.reg rs1
  have hat := addr_range op imm _ ha
  dsimp only
  have hx : (if 0 < PAll.sizeOf op then touchAt y bs op (addrOf op imm (y.reg rs1)) (PAll.sizeOf op) (y.reg rs2) else ((valueOf op imm y.pc (y.reg rs1) (y.reg rs2)).1, 0, y, bs)).2.2.1.x = y.x := by
    split
    · exact touch_x _ _ _ _ _ _
    · rfl
  have hm : (if 0 < PAll.sizeOf op then touchAt y bs op (addrOf op imm (y.reg rs1)) (PAll.sizeOf op) (y.reg rs2) else ((valueOf op imm y.pc (y.reg rs1) (y.reg rs2)).1, 0, y, bs)).2.2.2 = bs ∨
      (if 0 < PAll.sizeOf op then touchAt y bs op (addrOf op imm (y.reg rs1)) (PAll.sizeOf op) (y.reg rs2) else ((valueOf op imm y.pc (y.reg rs1) (y.reg rs2)).1, 0, y, bs)).2.1 = 0 ∧ storesB op = true ∧ ∃ at_ st, 0 ≤ at_ ∧
      (if 0 < PAll.sizeOf op then touchAt y bs op (addrOf op imm (y.reg rs1)) (PAll.sizeOf op) (y.reg rs2) else ((valueOf op imm y.pc (y.reg rs1) (y.reg rs2)).1, 0, y, bs)).2.2.2 = storeOf bs at_ (PAll.sizeOf op) st := by
    split
    · rcases touch_mem y bs op (addrOf op imm (y.reg rs1)) (PAll.sizeOf op) (y.reg rs2) with h | ⟨h1, h2, st, h3⟩
      · exact .inl h
      · exact .inr ⟨h1, h2, _, st, hat.1, h3⟩
    · exact .inl rfl
  generalize (if 0 < PAll.sizeOf op then touchAt y bs op (addrOf op imm (y.reg rs1)) (PAll.sizeOf op) (y.reg rs2) else ((valueOf op imm y.pc (y.reg rs1) (y.reg rs2)).1, 0, y, bs)) = t at *
  split
  · next he =>
    refine ⟨fun q hq => absurd rfl hq, ?_⟩
    rcases hm with h | ⟨h1, _⟩
    · exact .inl h
    · exact absurd h1 he
  · next he =>
    refine ⟨fun q hq => ⟨rfl, ?_⟩, ?_⟩
    · apply Decidable.byContradiction
      intro hne
      apply hq
      have hl : t.2.2.1.x.length = 32 := by rw [hx]; exact k.1
      dsimp only
      rw [reg_set _ (by simp [HartS.set, hl]) 0 0 q (by omega)]
      split
      · next h => obtain rfl : q = 0 := by omega
                  exact h0.symm
      · rw [reg_set _ (by exact hl) rd _ q hr, if_neg hne]
        show t.2.2.1.x.getD _ 0 = y.x.getD _ 0
        rw [hx]
    · rcases hm with h | ⟨_, h2⟩
      · exact .inl h
      · exact .inr ⟨rfl, h2⟩
def setsI (i : InstS) : Int := if i.good = true then i.rd else 0
theorem mem_len {Z Z' : World} {g q : Nat} {bs bs' : List Int} (M : MemAt Z g q bs) (hG : Z.grownBy Z' (some q)) (M' : MemAt Z' g q bs') : bs'.length = bs.length := by
  have h1 := (hG.block _ M.1.lt (fun e => M.ne (by injection e))).trans M.1
  have h2 := M'.1
  unfold Blk at h2
  rw [h1] at h2
  simp at h2
  omega
theorem laid_len' (m : Nat) (l : List InstS) : ∀ j, (laidTo m l j).length = m
  | 0 => by simp [laidTo]
  | j + 1 => by rw [laidTo, storeOf_length _ _ _ _ (by omega), laid_len' m l j]
theorem step_keeps (y : HartS) (l : List InstS) (m j : Nat) (hm : 64 ≤ m) (k : y.Ok) (h0 : y.reg 0 = 0) (hpc : y.pc = 0) :
    (∀ q : Nat, (stepOf y (laidTo m l (j + 1))).1.reg q ≠ y.reg q → (stepOf y (laidTo m l (j + 1))).2.2 = 0 ∧ (q : Int) = setsI (l.getD 0 i0)) ∧
    ((stepOf y (laidTo m l (j + 1))).2.1 = laidTo m l (j + 1) ∨ (stepOf y (laidTo m l (j + 1))).2.2 = 0 ∧ storesB (l.getD 0 i0).op = true ∧ ∃ at_ st, 0 ≤ at_ ∧ (stepOf y (laidTo m l (j + 1))).2.1 = storeOf (laidTo m l (j + 1)) at_ (PAll.sizeOf (l.getD 0 i0).op) st) := by
  have hw := laid_word m hm l j
  have hE : numE (laidTo m l (j + 1)).length y.pc 4 = 0 := by rw [laid_len', hpc]; exact numE_ok.2 ⟨by omega, by omega, by omega, by omega⟩
  have hr := word_range (l.getD 0 i0)
  have hu : IntKind.u32.wrap (loadOf (laidTo m l (j + 1)) y.pc 4) = (l.getD 0 i0).word := by rw [hpc, hw, IntKind.wrap_u32]; omega
  unfold stepOf
  rw [if_neg (fun h => h hE), hu]
  dsimp only
  generalize laidTo m l (j + 1) = bs at *
  generalize l.getD 0 i0 = i at *
  by_cases hg : i.good = true
  · have D := dec_enc i.op i.rd i.rs1 i.rs2 i.imm i.aq i.rl hg
    have G := goodI hg
    have e : i.word = encOf i.op i.rd i.rs1 i.rs2 i.imm i.aq i.rl := by unfold InstS.word; rw [if_pos hg]
    rw [← e] at D
    have hop : decOp i.word = i.op := by rw [e]; exact (enc_hit _ _ _ _ _ _ _ hg).2
    rw [hop] at D
    have e2 : setsI i = i.rd := by unfold setsI; rw [if_pos hg]
    have hne : ¬ i.op = 0 := by have := G.op1; omega
    unfold decTup at D
    rw [if_neg hne] at D
    have d1 := congrArg (fun t => t.2.1) D
    have d2 := congrArg (fun t => t.2.2.1) D
    have d3 := congrArg (fun t => t.2.2.2.1) D
    have d4 := congrArg (fun t => t.2.2.2.2.1) D
    dsimp only at d1 d2 d3 d4
    rw [hop, d1, d2, d3, d4, e2, if_neg hne]
    split
    · exact ⟨fun q hq => absurd rfl hq, .inl rfl⟩
    · exact do_keeps y bs i.op i.rd i.rs1 i.rs2 i.imm k h0 ⟨G.rd0, G.rd1⟩
  · have e : i.word = 0 := by unfold InstS.word; rw [if_neg hg]
    have z : decOp 0 = 0 := by decide +kernel
    rw [e, z, if_pos rfl]
    exact ⟨fun q hq => absurd rfl hq, .inl rfl⟩
/-- How many of the first places differ. -/
def diffs (a b : List Int) : Nat → Nat
  | 0 => 0
  | k + 1 => diffs a b k + if a.getD k 0 = b.getD k 0 then 0 else 1
theorem diffs_same (a : List Int) : ∀ k, diffs a a k = 0
  | 0 => rfl
  | k + 1 => by show diffs a a k + _ = 0; rw [diffs_same a k, if_pos rfl]
theorem diffs_splice (a cs : List Int) (o : Nat) (h : o + cs.length ≤ a.length) : ∀ k, diffs a (splice a o cs) k ≤ min (k - o) cs.length
  | 0 => Nat.zero_le _
  | k + 1 => by
    have I := diffs_splice a cs o h k
    show diffs a (splice a o cs) k + _ ≤ _
    have g := splice_get a o cs h k
    by_cases hk : o ≤ k ∧ k < o + cs.length
    · split <;> omega
    · rw [if_neg hk] at g
      rw [if_pos (by rw [List.getD_eq_getElem?_getD, List.getD_eq_getElem?_getD, g])]
      omega
theorem diffs_store (bs : List Int) (at_ n st : Int) (h0 : 0 ≤ at_) (hn : 0 ≤ n) (k : Nat) : (diffs bs (storeOf bs at_ n st) k : Int) ≤ n := by
  unfold storeOf
  split
  · next hE =>
    have hk := numE_ok.1 hE
    have hL := lowBytes_length st n.toNat
    have := diffs_splice bs (lowBytes st n.toNat) at_.toNat (by omega) k
    omega
  · rw [diffs_same]; exact hn
/-- What the law looks at: the hart that came in and the one that came out, the first instruction, the bytes before and after. -/
structure K3 (w Z : World) (bx bi b1 b2 : Nat) (y x : HartS) (i : InstS) (was now : List Int) : Prop where
  hy : Blk Z w.heap.size y.cells 25
  hx : Blk Z bx x.cells 25
  hi : Blk Z bi i.cells 37
  h1 : ∀ j, j < was.length → Z.cell? ⟨b1, j, none⟩ = some (.int .u8 (was.getD j 0))
  h2 : ∀ j, j < was.length → Z.cell? ⟨b2, j, none⟩ = some (.int .u8 (now.getD j 0))
  l1 : b1 < Z.heap.size
  l2 : b2 < Z.heap.size
  d : Below w.heap.size w Z
  ky : y.Ok
  kx : x.Ok
theorem K3.below {w Z Z' : World} {bx bi b1 b2 : Nat} {y x : HartS} {i : InstS} {was now : List Int} (H : K3 w Z bx bi b1 b2 y x i was now) (d : Below Z.heap.size Z Z') : K3 w Z' bx bi b1 b2 y x i was now :=
  ⟨H.hy.below d, H.hx.below d, H.hi.below d, cells_below H.h1 d H.l1, cells_below H.h2 d H.l2, Nat.lt_of_lt_of_le H.l1 d.size, Nat.lt_of_lt_of_le H.l2 d.size, H.d.trans (d.mono H.d.size), H.ky, H.kx⟩
theorem c_sets (i : InstS) (W : World) (hi : I64 i.imm) : Calls Try.prog 13 #[.agg i.cells] W fun e w' => e = .returned (.int .i64 (setsI i)) ∧ Below W.heap.size W w' :=
  inst_Sets.calls i.op i.rd i.rs1 i.rs2 i.imm i.aq i.rl (setsI i) W (by
    unfold inst_Sets.f inst_Good.f setsI InstS.good
    rw [if_pos hi, Option.bind_some]
    split <;> rfl)
theorem set_reg0' (h : HartS) (k : h.Ok) (v : Int) : (h.set 0 v).reg 0 = v := by
  unfold HartS.set HartS.reg
  have := k.1
  simp [List.getElem?_set, this]
theorem keep_set {w V W : World} {g q i : Nat} {bs : List Int} {cs : Array Value} {u : Value} {T : Nat} (M : MemAt W g q bs) (B : Blk W w.heap.size cs T) (d : Below w.heap.size w W) (h1 : w.heap.size < q) (h2 : w.heap.size < g) (e : W.setCell ⟨w.heap.size, i, none⟩ u = V) :
    MemAt V g q bs ∧ Blk V w.heap.size (cs.setIfInBounds i u) T ∧ Below w.heap.size w V := by
  subst e
  exact ⟨mem_far M (by omega) (by omega), B.set i u, d.setCell (Nat.le_refl _) _⟩
theorem keep_cells {w V : World} {q b i n : Nat} {l : List Int} {u : Value} (h : ∀ j, j < n → w.cell? ⟨q, j, none⟩ = some (.int .u8 (l.getD j 0))) (e : w.setCell ⟨b, i, none⟩ u = V) (hne : b ≠ q) : ∀ j, j < n → V.cell? ⟨q, j, none⟩ = some (.int .u8 (l.getD j 0)) := by
  subst e
  intro j hj
  rw [← h j hj]
  exact World.cell?_of_block (a := ⟨q, j, none⟩) (Below.heap_setCell w ⟨b, i, none⟩ u q (fun e => hne e.symm))
theorem diffs_le (a b : List Int) : ∀ k, diffs a b k ≤ k
  | 0 => Nat.le_refl _
  | k + 1 => by
    have := diffs_le a b k
    show diffs a b k + _ ≤ _
    split <;> omega
set_option maxHeartbeats 16000000 in
set_option maxRecDepth 100000 in
theorem HartKeeps.all (y : HartS) (a1 : Int) (A : Option Addr) (n c : Nat) (l : List InstS) (w : World) (hk : y.Ok) (w1 : (Lit.int .i64 a1).wf = true) (hr : InstRow w A l) (hl : l.length = n) (hi : ∀ i ∈ l, I64 i.imm) (hn : n ≤ 9223372036854775807) :
    Calls Try.prog 5 #[.agg y.cells, .int .i64 a1, .slice A n c] w fun e w' => e = .returned (.bool true) ∧ Below w.heap.size w w' := by
  have HK := Lib.hid hk
  have HR := Lib.hid hr
  have HI := Lib.hid hi
  have HL := Lib.hid hl
  have hm := Lib.hid (size_at_le a1)
  clear hk hr hi hl
  by_cases hn2 : n ≤ 200 ∧ 0 < n
  · obtain ⟨hn3, hn4⟩ := hn2
    have dz : ((n : Int) == 0) = false := by simp; omega
    have hl0 : 0 < l.length := by rw [HL.out]; omega
    have hg0 := List.getElem?_eq_getElem hl0
    have hgd := Lib.hid (show l.getD 0 i0 = l[0] by rw [List.getD_eq_getElem?_getD, hg0]; rfl)
    have hin := Lib.hid (HI.out _ (List.getElem_mem hl0))
    have SK : ∀ y : HartS, y.Ok → y.reg 0 = 0 → y.pc = 0 → _ := fun y k h0 h1 => step_keeps y l (sizeAt a1) (n - 1) hm.out.1 k h0 h1
    rw [show n - 1 + 1 = n by omega] at SK
    have SK := Lib.hid SK
    have hbl := Lib.hid (laid_len' (sizeAt a1) l n)
    have LA := Lib.hid fun X h => laid_any a1 A n c l X HL.out hn3 h HI.out
    generalize laidTo (sizeAt a1) l n = bs at *
    replace SK := Lib.hid (hgd.out ▸ SK.out)
    generalize l[0] = i at *
    have hbs : bs.length ≤ 2063 := by rw [hbl.out]; exact hm.out.2
    go_enter Try.func5, Try.ntmps5
    go_wp2_with fail
    generalize hX : World.alloc w _ = X
    obtain ⟨B, d, hsX⟩ := arg_box hX
    have HB := Lib.hid B
    have HD := Lib.hid d
    have hsX := Lib.hid hsX
    clear hX B d
    refine (LA.out X (HR.out.below HD.out)).mono ?_
    rintro e W1 ⟨g, q, gr, qr, rfl, M, F, hg, hq, _, _, _, _, _, d⟩
    have HM := Lib.hid M
    have HB1 := Lib.hid (HB.out.below d)
    have HD1 := Lib.hid (HD.out.trans (d.mono HD.out.size))
    have hwq := Lib.hid (show w.heap.size < q ∧ w.heap.size < g by have := hsX.out; omega)
    clear M F d hg hq HB HD hsX LA
    go_wp2_with fail
    refine (Len_any _ g q _ HM.out).mono ?_
    rintro e W2 ⟨rfl, rfl⟩
    go_wp2_with fail
    refine (Bytes_all _ g q _ _ rfl HM.out (by rw [hbl.out]; have := hm.out; omega)).mono ?_
    rintro e W2 ⟨q1, c1, rfl, hq1, hq1l, hwas, d⟩
    have HW := Lib.hid hwas
    have hq1' := Lib.hid (show w.heap.size < q1 ∧ q1 < W2.heap.size ∧ q < q1 ∧ g < q1 by have := HM.out.1.lt; have := HM.out.2.1.lt; have := HB1.out.lt; omega)
    have HM2 := Lib.hid (HM.out.below d)
    have HB2 := Lib.hid (HB1.out.below d)
    have HD2 := Lib.hid (HD1.out.trans (d.mono HD1.out.size))
    clear hwas d hq1 hq1l HM HB1 HD1
    have ka := Lib.hid (HK.out.set 0 0 (by decide))
    have y0 : HartS := y
    obtain ⟨y2, hy2⟩ : ∃ y2 : HartS, y2 = { y.set 0 0 with pc := 0 } := ⟨_, rfl⟩
    have k2 : Hid y2.Ok := Lib.hid (by rw [hy2]; exact ka.out.pc 0 (by decide))
    have r2 : Hid (y2.reg 0 = 0 ∧ y2.pc = 0) := Lib.hid (by rw [hy2]; exact ⟨set_reg0' y HK.out 0, rfl⟩)
    have e2 : Hid ((y.set 0 0).cells.setIfInBounds 0 (.int .u64 0) = y2.cells) := Lib.hid (by rw [hy2]; exact HartS.s0 _ 0)
    clear hy2 y0
    go_wp2_with (first | (refine wpList_store_u64 rfl 22 _ _ rfl w.heap.size 1 0 rfl rfl _ _ HB2.out (by rw [HartS.size HK.out]; decide) u64_info ?_; (generalize hV : World.setCell _ _ _ = V; obtain ⟨m1, b1, d1⟩ := keep_set HM2.out HB2.out HD2.out hwq.out.1 hwq.out.2 hV; have w1 := Lib.hid (keep_cells HW.out hV (by have := hq1'.out; omega)); have hsz := Lib.hid (hV ▸ size_setCell _ _ _); have HB3 : Hid (Blk V w.heap.size (y.set 0 0).cells 25) := Lib.hid ((HartS.sx HK.out 0 (by decide) 0) ▸ b1); have HM3 := Lib.hid m1; have HD3 := Lib.hid d1; clear hV HB2 HM2 HD2 HW m1 b1 d1)) | (refine wpList_store_u64 rfl 22 _ _ rfl w.heap.size 0 0 rfl rfl _ _ HB3.out (by rw [HartS.size ka.out]; decide) u64_info ?_; (generalize hV : World.setCell _ _ _ = V2; obtain ⟨m1, b1, d1⟩ := keep_set HM3.out HB3.out HD3.out hwq.out.1 hwq.out.2 hV; have w2 := Lib.hid (keep_cells w1.out hV (by have := hq1'.out; omega)); have HB4 : Hid (Blk V2 w.heap.size y2.cells 25) := Lib.hid (e2.out ▸ b1); have HM4 := Lib.hid m1; have HD4 := Lib.hid d1; have hsz2 := Lib.hid (hV ▸ size_setCell _ _ _); clear hV HB3 HM3 HD3 w1 m1 b1 d1)) | (refine wpList_load_row rfl 25 _ rfl w.heap.size rfl 25 _ _ _ HB4.out Try.underlying25 rfl (hart_info.trans (congrArg some (HartS.size k2.out).symm)) ?_))
    refine (step_any y2 g q bs V2 k2.out HM4.out).mono ?_
    rintro e W3 ⟨rfl, hM, hG⟩
    have SK2 := SK.out y2 k2.out r2.out.1 r2.out.2
    have KX := Lib.hid (step_ok y2 bs k2.out HM4.out.2.2.1)
    have hbl2 := Lib.hid ((mem_len HM4.out hG hM).trans hbl.out)
    have HB5 : Hid (Blk W3 w.heap.size y2.cells 25) := Lib.hid ((hG.block _ HB4.out.lt (fun e => by injection e with e; have := hwq.out; omega)).trans HB4.out)
    have HW3 := Lib.hid (cells_far w2.out hG (by have := hq1'.out; have := hsz.out; have := hsz2.out; omega) (by have := hq1'.out; omega))
    have HD5 := Lib.hid (below_grown HD4.out hG (by have := hwq.out; omega) HD4.out.size)
    have HM5 := Lib.hid hM
    have hq3 := Lib.hid (show q1 < W3.heap.size by have := hq1'.out; have := hsz.out; have := hsz2.out; have := hG.size; omega)
    clear hM hG HM4 HB4 w2 HD4 SK
    generalize stepOf y2 bs = r at *
    obtain ⟨x, bs1, er⟩ := r
    dsimp only at *
    have SK3 := Lib.hid SK2
    clear SK2
    go_wp2_with (first | (refine wpList_store_row rfl 25 _ _ rfl (W3.heap.size) _ rfl rfl 25 _ (Blk.new _ _ _) (hart_info.trans (congrArg some (HartS.size KX.out).symm)) (HartS.size KX.out).symm (HartS.one _) ?_; (generalize hZ : World.setRow _ _ _ = Z; obtain ⟨b5, d5, s5⟩ := hart_new hZ; have BX := Lib.hid b5; have HB6 := Lib.hid (HB5.out.below d5); have HW4 := Lib.hid (cells_below HW3.out d5 hq3.out); have HD6 := Lib.hid (HD5.out.trans (d5.mono HD5.out.size)); have HM6 := Lib.hid (HM5.out.below d5); have hq4 := Lib.hid (show q1 < Z.heap.size by have := hq3.out; omega); clear hZ b5 d5 s5 HB5 HW3 HD5 HM5 hq3)))
    refine (Len_any _ g q _ HM6.out).mono ?_
    rintro e W4 ⟨rfl, rfl⟩
    go_wp2_with fail
    refine (Bytes_all _ g q _ _ rfl HM6.out (by rw [hbl2.out]; have := hm.out; omega)).mono ?_
    rintro e W4 ⟨q2, c2, rfl, hq2, hq2l, hnow, d⟩
    have hbe : Hid (bs1.length = bs.length) := Lib.hid (hbl2.out.trans hbl.out.symm)
    rw [hbe.out] at hnow ⊢
    obtain ⟨ad, rfl, had, hc⟩ := (HR.out.below (HD6.out.trans (d.mono HD6.out.size))) (by intro e; rw [e] at hl0; simp at hl0)
    have hc0 := hc 0 i hg0
    have k0 : W4.cell? ad = some (.int .i64 i.op) := hc0 0 (.int .i64 i.op) rfl
    have k1 : W4.cell? ⟨ad.block, ad.off + 1, none⟩ = some (.int .i64 i.rd) := hc0 1 (.int .i64 i.rd) rfl
    have k2' : W4.cell? ⟨ad.block, ad.off + 2, none⟩ = some (.int .i64 i.rs1) := hc0 2 (.int .i64 i.rs1) rfl
    have k3 : W4.cell? ⟨ad.block, ad.off + 3, none⟩ = some (.int .i64 i.rs2) := hc0 3 (.int .i64 i.rs2) rfl
    have k4 : W4.cell? ⟨ad.block, ad.off + 4, none⟩ = some (.int .i64 i.imm) := hc0 4 (.int .i64 i.imm) rfl
    have k5 : W4.cell? ⟨ad.block, ad.off + 5, none⟩ = some (.bool i.aq) := hc0 5 (.bool i.aq) rfl
    have k6 : W4.cell? ⟨ad.block, ad.off + 6, none⟩ = some (.bool i.rl) := hc0 6 (.bool i.rl) rfl
    have HK3 : Hid (∀ Z2, (W4.alloc (.cells i.cells 37)) = Z2 → K3 w Z2 W3.heap.size W4.heap.size q1 q2 y2 x i bs bs1) := Lib.hid fun Z2 e => by
      obtain ⟨b8, d8, s8⟩ := arg_box e
      exact ⟨(HB6.out.below d).below d8, (BX.out.below d).below d8, b8, cells_below (cells_below HW4.out d hq4.out) d8 (Nat.lt_of_lt_of_le hq4.out d.size), cells_below hnow d8 hq2l, by have := hq4.out; have := d.size; omega, by omega, (HD6.out.trans (d.mono HD6.out.size)).trans (d8.mono (HD6.out.trans (d.mono HD6.out.size)).size), k2.out, KX.out⟩
    clear hc hc0 HD6 HB6 HW4 HM6 d hq2 hq2l hnow hgd had BX hg0
    go_wp2_with fail
    generalize hZ : World.alloc W4 _ = Z2
    have K := Lib.hid (HK3.out Z2 hZ)
    clear hZ k0 k1 k2' k3 k4 k5 k6 HK3 hwq hsz hsz2 hq1' hq4 ka k2 r2 e2 HL hl0 hbl hbl2 HR HI
    go_loopw [60] (fun v wr => ∃ r : Nat, r ≤ 32 ∧ v = .int .i64 r ∧ Hid (K3 w wr W3.heap.size W4.heap.size q1 q2 y2 x i bs bs1)) (fun v _ => 32 - (intOf v).toNat)
    case atStart => exact ⟨0, by omega, rfl, K⟩
    case round =>
      obtain ⟨r, hr, rfl, K⟩ := hrel
      by_cases hlt : r < 32
      · have c1 := K.out.hx.gcell
        have gx : ∀ d os, (Sort.grow (redrawn wr d) os).cell? ⟨W3.heap.size, 1 + r, none⟩ = some (.int .u64 (x.reg r)) := fun d os => (K.out.hx.gcell d os (1 + r)).trans (HartS.cx K.out.kx r hlt)
        have gy : ∀ d os, (Sort.grow (redrawn wr d) os).cell? ⟨w.heap.size, 1 + r, none⟩ = some (.int .u64 (y2.reg r)) := fun d os => (K.out.hy.gcell d os (1 + r)).trans (HartS.cx K.out.ky r hlt)
        have gi : ∀ d os f, (Sort.grow (redrawn wr d) os).cell? ⟨W4.heap.size, f, none⟩ = (insC i.op i.rd i.rs1 i.rs2 i.imm i.aq i.rl)[f]? := K.out.hi.gcell
        have b0 : (0 : Int) ≤ (r : Int) := by omega
        have b1 : (r : Int) < 32 := by omega
        have hs := SK3.out.1 r
        clear c1
        by_cases he : x.reg r = y2.reg r
        · have de : (x.reg r != y2.reg r) = false := by simpa using he
          clear hs he
          go_wp2_with fail
          refine wp_region_quiet_below (by kernel_rfl) (by kernel_rfl) ?_
          repeat (go_big_quiet_step (fail))
          refine wpQuiet_nil ?_
          intro _ hw'
          obtain ⟨⟨dq, osq⟩, hw''⟩ := hw'
          subst hw''
          generalize hG : Sort.grow (redrawn wr dq) osq = G
          have K2 := Lib.hid (K.out.below (hG ▸ below_regrown wr dq osq))
          clear hG gx gy gi K
          go_wp2_with fail
          go_roundw
          case rel => exact ⟨r + 1, by omega, by go_num, K2⟩
          case measure => simp [intOf]; omega
        · obtain ⟨rfl, hset⟩ := hs he
          have de : (x.reg r != y2.reg r) = true := by simpa using he
          have dn : ((r : Int) != setsI i) = false := by simpa using hset
          clear hs he hset
          go_wp2_with fail
          refine wp_region_quiet_below (by kernel_rfl) (by kernel_rfl) ?_
          repeat (first | go_big_quiet_step (fail) | go_big_quiet_step ((go_at_call 13; exact Calls.regrown_of (c_sets i _ hin.out))))
          refine wpQuiet_nil ?_
          intro _ hw'
          obtain ⟨⟨dq, osq⟩, hw''⟩ := hw'
          subst hw''
          generalize hG : Sort.grow (redrawn wr dq) osq = G
          have K2 := Lib.hid (K.out.below (hG ▸ below_regrown wr dq osq))
          clear hG gx gy gi K
          go_wp2_with fail
          go_roundw
          case rel => exact ⟨r + 1, by omega, by go_num, K2⟩
          case measure => simp [intOf]; omega
      · go_wp2_with fail
        go_loopw [17, 85] (fun u v wr => ∃ k : Nat, k ≤ bs.length ∧ u = .int .i64 (diffs bs bs1 k) ∧ v = .int .i64 k ∧ Hid (K3 w wr W3.heap.size W4.heap.size q1 q2 y2 x i bs bs1)) (fun _ v _ => bs.length - (intOf v).toNat)
        case atStart => exact ⟨0, by omega, rfl, rfl, K⟩
        case round =>
          obtain ⟨k, hk, rfl, rfl, K⟩ := hrel
          by_cases hlt2 : k < bs.length
          · have c1 := K.out.h1 k hlt2
            have c2 := K.out.h2 k hlt2
            have hD : diffs bs bs1 (k + 1) = diffs bs bs1 k + if bs.getD k 0 = bs1.getD k 0 then 0 else 1 := rfl
            generalize bs.getD k 0 = b1 at *
            generalize bs1.getD k 0 = b2 at *
            by_cases hb : b1 = b2
            · have db : (b1 != b2) = false := by simpa using hb
              rw [if_pos hb] at hD
              replace hD := Lib.hid hD
              clear hb
              go_wp2_with fail
              go_quiet (fail)
              rename_i nq
              have K2 := Lib.hid (K.out.below (below_drewN (Below.refl _ _) nq))
              clear c1 c2 K
              go_wp2_with fail
              go_roundw
              case rel => exact ⟨k + 1, by omega, by rw [hD.out]; rfl, by go_num, K2⟩
              case measure => simp [intOf]; omega
            · have db : (b1 != b2) = true := by simpa using hb
              rw [if_neg hb] at hD
              replace hD := Lib.hid hD
              have hdl : diffs bs bs1 k ≤ k := diffs_le bs bs1 k
              clear hb
              go_wp2_with fail
              go_quiet (fail)
              rename_i nq
              have K2 := Lib.hid (K.out.below (below_drewN (Below.refl _ _) nq))
              clear c1 c2 K
              go_wp2_with fail
              go_roundw
              case rel => exact ⟨k + 1, by omega, by rw [hD.out]; go_num, by go_num, K2⟩
              case measure => simp [intOf]; omega
          · obtain rfl : k = bs.length := by omega
            have S2 := SK3.out.2
            have hdl : diffs bs bs1 bs.length ≤ bs.length := diffs_le bs bs1 _
            have fin : diffs bs bs1 bs.length = 0 ∨ (er = 0 ∧ storesB i.op = true ∧ (diffs bs bs1 bs.length : Int) ≤ PAll.sizeOf i.op) := by
              rcases S2 with e | ⟨e1, e2, at_, st, h1, e3⟩
              · left; rw [e]; exact diffs_same bs _
              · right; refine ⟨e1, e2, ?_⟩; rw [e3]; exact diffs_store bs at_ _ st h1 (size_range i.op).1 _
            clear S2
            generalize diffs bs bs1 bs.length = D at *
            by_cases hD0 : D = 0
            · subst hD0
              clear fin
              go_wp2_with (go_at_call 7; refine (c_lives _).mono ?_; rintro e w' ⟨rfl, d⟩)
              go_ret
              exact ⟨rfl, K.out.d.trans (d.mono K.out.d.size)⟩
            · obtain ⟨rfl, hst, hle⟩ := fin.resolve_left hD0
              have d0 : ((D : Int) == 0) = false := by simpa using hD0
              have cs := Lib.hid fun W => c_stores i.op W
              have cz := Lib.hid fun W => c_size i.op W
              rw [hst] at cs
              generalize PAll.sizeOf i.op = sz at *
              have ci := K.out.hi.cell 0
              rw [show i.cells[0]? = some (.int .i64 i.op) from rfl] at ci
              clear fin hD0 hst
              go_wp2_with fail
              refine (cs.out _).mono ?_
              rintro e W5 ⟨rfl, d5⟩
              have K2 := Lib.hid (K.out.below d5)
              clear ci K d5
              have ci := K2.out.hi.cell 0
              rw [show i.cells[0]? = some (.int .i64 i.op) from rfl] at ci
              go_wp2_with fail
              refine (cz.out _).mono ?_
              rintro e W6 ⟨rfl, d6⟩
              have K3 := Lib.hid (K2.out.below d6)
              clear ci K2 d6
              go_wp2_with (go_at_call 7; refine (c_lives _).mono ?_; rintro e w' ⟨rfl, d⟩)
              go_ret
              exact ⟨rfl, K3.out.d.trans (d.mono K3.out.d.size)⟩
  · by_cases h200 : n ≤ 200
    · obtain rfl : n = 0 := by omega
      go_enter Try.func5, Try.ntmps5
      go_wp2_with (go_at_call 7; refine (c_lives _).mono ?_; rintro e w' ⟨rfl, d⟩)
      go_ret
      exact ⟨rfl, ((Below.refl _ _).alloc (Nat.le_refl _) _).trans (d.mono (by simp))⟩
    · go_enter Try.func5, Try.ntmps5
      go_wp2_with (go_at_call 7; refine (c_lives _).mono ?_; rintro e w' ⟨rfl, d⟩)
      go_ret
      exact ⟨rfl, ((Below.refl _ _).alloc (Nat.le_refl _) _).trans (d.mono (by simp))⟩
end Go.Proofs.Ytcjfafhbohkhlaa.Hand
