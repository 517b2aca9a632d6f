/- DERIVED. DERIVED. A step without a memory; both memories beside each other. -/
import Derived.Test.YtcjfafhbohkhlaaGreatProg
import Derived.Test.YtcjfafhbohkhlaaGreatMBits
import Derived.Test.YtcjfafhbohkhlaaGreatMWalk
import Derived.Test.YtcjfafhbohkhlaaGreatMTab
import Derived.Test.YtcjfafhbohkhlaaGreatMInst
import Derived.Test.YtcjfafhbohkhlaaGreatMDec
import Derived.Test.YtcjfafhbohkhlaaGreatMDec2
import Derived.Test.YtcjfafhbohkhlaaGreatMQTail
import Derived.Test.YtcjfafhbohkhlaaGreatMArg
import Derived.Test.YtcjfafhbohkhlaaGreatMMem
import Derived.Test.YtcjfafhbohkhlaaGreatMMemK
import Derived.Test.YtcjfafhbohkhlaaGreatMMemR
import Derived.Test.YtcjfafhbohkhlaaGreatMHart
import Derived.Test.YtcjfafhbohkhlaaGreatMRow
import Derived.Test.YtcjfafhbohkhlaaGreatMOpen
import Derived.Test.YtcjfafhbohkhlaaGreatMPart
import Derived.Test.YtcjfafhbohkhlaaGreatMReg
import Derived.Test.YtcjfafhbohkhlaaGreatMQHead
import Derived.Test.YtcjfafhbohkhlaaGreatMQTwo
import Derived.Test.YtcjfafhbohkhlaaGreatHR
import Derived.Test.YtcjfafhbohkhlaaGreatPAllx0
import Derived.Test.YtcjfafhbohkhlaaGreatPAllx2
import Derived.Test.YtcjfafhbohkhlaaGreatPAllx4
import Derived.Test.YtcjfafhbohkhlaaGreatPAllx5
import Derived.Test.YtcjfafhbohkhlaaGreatPAllx6
import Derived.Test.YtcjfafhbohkhlaaGreatPAllx9
import Derived.Test.YtcjfafhbohkhlaaGreatPAllx11
import Derived.Test.YtcjfafhbohkhlaaGreatPAllx12
import Derived.Test.YtcjfafhbohkhlaaGreatPAllx14
import Derived.Test.YtcjfafhbohkhlaaGreatPAllx16
import Derived.Test.YtcjfafhbohkhlaaGreatPAllx20
import Derived.Below
import Derived.Deep.Draws
import Derived.Deep.AppendLies
import Derived.Maps.AppendAt
import Derived.OwnWalk
import Derived.Laws.BytesArg
import Derived.Laws.MakeOwn
import Derived.Laws.OwnMore
import Derived.Deep.OwnRows
import Derived.Tactics
import Derived.Lib.ConvBytes
import Derived.Laws.Slices
import Derived.WalkKit
import Derived.KernelRfl
import Derived.RowKit3
import Derived.Deep.LoopGhost
import Derived.Deep.QuietTactic
import Derived.BigQuiet
import Derived.WideLaws
import Derived.Deep.DeepCutAuto
import Derived.Deep.CutBlock
import Derived.Deep.RegionHeld3
import Derived.Laws.Rows
import Derived.Lib.AppendStr
import Derived.ArgAppend
import Derived.Laws.IdiomCopy
import Derived.OrdersHeld
import Derived.Laws.BitsLemmas
import Derived.Laws.Bits64
import Derived.RowKit
import Derived.Outline
import Derived.Handy
import Derived.Lib.Hide
import Derived.Deep.Light
import Derived.Laws.CopyOwn
namespace Go.Proofs.YtcjfafhbohkhlaaGreat.Hand
open Go Go.RowKit Go.Proofs.YtcjfafhbohkhlaaGreat.M Go.Proofs.YtcjfafhbohkhlaaGreat.PAll Go.Proofs.YtcjfafhbohkhlaaGreatW.PrintWords
set_option linter.unusedVariables false
set_option linter.unusedSimpArgs false
theorem ref_src {w : World} {g b : Nat} {bs : List Int} (h : RefAt w g b bs) : Src w (some ⟨b, 0, none⟩) bs := fun hne => ⟨_, rfl, h.2.1.lt, fun j x hj => h.2.1.whole j (.int .u8 x) (by rw [List.getElem?_toArray, List.getElem?_map, hj]; rfl)⟩
theorem step_ret {Z : World} {p : Nat} {zc : Array Value} (B : Blk Z p zc 25) (r : HartS) (kr : r.Ok) (e : Int) (tmps : Array Value) (ds) (h4 : tmps.getD 4 undef = .pointer (some ⟨p, 0, none⟩)) (h5 : tmps.getD 5 undef = .int .i64 e) (hd : ds = []) {Q : Ending → World → Prop} (hQ : Q (.returned (.tuple #[.agg r.cells, .int .i64 e])) (Z.setRow p r.cells)) :
    bodyPost Tryz.prog Tryz.f12 Q .ret ⟨tmps, ds⟩ (Z.setRow p r.cells) := by
  subst hd
  refine bodyPost_ret (v := .tuple #[.agg r.cells, .int .i64 e]) ?_ rfl hQ
  rw [← h5]
  exact M.results_cell_tmp (fn := Tryz.f12) (by kernel_rfl) tmps _ _ _ _ _ h4 (setRow_heap _ _ _ _ _ _ B) Tryz.underlying25 rfl (hart_info.trans (congrArg some (HartS.size kr).symm))
set_option maxHeartbeats 4000000 in
theorem none_nil (w : World) : Calls Tryz.prog 46 #[.pointer none] w fun e w' => e = .returned (.bool true) ∧ w = w' := by
  go_enter Tryz.func46, Tryz.ntmps46
  go_wp2
  go_ret
  exact ⟨rfl, rfl⟩
set_option maxHeartbeats 4000000 in
theorem number_nil (w : World) (at_ n : Int) : Calls Tryz.prog 44 #[.pointer none, .int .u64 at_, .int .i64 n] w fun e w' => e = .returned (.tuple #[.slice none 0 0, .int .i64 1]) ∧ w = w' := by
  go_enter Tryz.func44, Tryz.ntmps44
  go_wp2_with (go_at_call 46; refine (none_nil w).mono ?_; rintro e w' ⟨rfl, rfl⟩)
  go_ret2
  exact ⟨rfl, rfl⟩
set_option maxHeartbeats 4000000 in
theorem Load_nil (w : World) (at_ n : Int) : Calls Tryz.prog 23 #[.pointer none, .int .u64 at_, .int .i64 n] w fun e w' => e = .returned (.tuple #[.int .u64 0, .int .i64 1]) ∧ w = w' := by
  have H := Lib.hid (number_nil w at_ n)
  go_enter Tryz.func23, Tryz.ntmps23
  go_wp2_with (go_at_call 44; refine H.out.mono ?_; rintro e w' ⟨rfl, rfl⟩)
  go_rounds 1
  go_ret2
  exact ⟨rfl, rfl⟩
set_option maxHeartbeats 4000000 in
set_option maxRecDepth 100000 in
/-- A step without a memory. -/
theorem step_nil (h : HartS) (w : World) (hk : h.Ok) : Calls Tryz.prog 12 #[.agg h.cells, .pointer none] w fun e w' => e = .returned (.tuple #[.agg h.cells, .int .i64 1]) ∧ Below w.heap.size w w' := by
  have HK := Lib.hid hk
  have c0 := h.c0
  have si : (Tryz.prog.info? 25).map (·.size) = some h.cells.size := hart_info.trans (congrArg some (HartS.size hk).symm)
  clear hk
  go_enter Tryz.func12, Tryz.ntmps12
  go_wp2_with fail
  generalize hX : World.alloc w _ = X
  obtain ⟨B, d, s1⟩ := arg_box hX
  clear hX
  generalize hY : World.alloc X _ = Y
  obtain ⟨B2, d2, s2⟩ := arg_box (cs := H0.cells) hY
  clear hY
  rw [← s1] at B2
  have B1 := Lib.hid (B.below d2)
  have D := Lib.hid (d.trans (d2.mono d.size))
  replace B2 := Lib.hid B2
  clear B d d2 s1 s2 c0
  refine (Load_nil Y _ _).mono ?_
  rintro e W ⟨rfl, rfl⟩
  go_wp2_with (first | refine wpList_load_row rfl 25 _ rfl w.heap.size rfl 25 _ _ _ B1.out Tryz.underlying25 rfl si ?_ | refine wpList_store_row rfl 25 _ _ rfl (w.heap.size + 1) h.cells rfl rfl 25 _ B2.out si (HartS.size HK.out).symm h.one ?_)
  exact step_ret B2.out h HK.out 1 _ _ rfl rfl rfl ⟨rfl, below_row D.out (by omega) _⟩
set_option maxHeartbeats 4000000 in
set_option maxRecDepth 100000 in
/-- Both memories have these bytes. -/
theorem same_any (g q gr qr : Nat) (bs : List Int) (w : World) (M : MemAt w g q bs) (R : RefAt w gr qr bs) : Calls Tryz.prog 9 #[.pointer (some ⟨g, 0, none⟩), .pointer (some ⟨gr, 0, none⟩)] w fun e w' => e = .returned (.bool true) ∧ Below w.heap.size w w' := by
  have HM := Lib.hid M
  have HR := Lib.hid R
  clear M R
  go_enter Tryz.func9, Tryz.ntmps9
  go_wp2_with fail
  refine (Len_any _ g q bs HM.out).mono ?_
  rintro e W ⟨rfl, rfl⟩
  go_wp2_with fail
  refine (Bytes_all0 _ g q _ _ rfl HM.out).mono ?_
  rintro e W ⟨A1, c1, rfl, S1', d1⟩
  have HS := Lib.hid S1'
  have HD := Lib.hid d1
  have HR2 := Lib.hid (HR.out.below d1)
  clear S1' d1 HR HM
  have cg := Lib.hid HR2.out.1.gcell
  have k0 : ∀ (d : Nat) (os : Array Obj), (Sort.grow (redrawn W d) os).cell? ⟨gr, 0, none⟩ = some (.slice (some ⟨qr, 0, none⟩) bs.length bs.length) := fun d os => HR2.out.1.gcell d os 0
  have v1 : ∀ (d : Nat) (os : Array Obj), (convert 41 9 (.slice A1 bs.length c1)).run Tryz.prog (Sort.grow (redrawn W d) os) = .ok (.string (strOfNums bs)) (Sort.grow (redrawn W d) os) := fun d os => run_convert_src (P := Tryz.prog) _ 41 5 9 Tryz.underlying41 Tryz.underlying5 Tryz.underlying9 A1 bs _ c1 rfl (HS.out.below (below_regrown W d os)).src
  have v2 : ∀ (d : Nat) (os : Array Obj), (convert 41 9 (.slice (some ⟨qr, 0, none⟩) bs.length bs.length)).run Tryz.prog (Sort.grow (redrawn W d) os) = .ok (.string (strOfNums bs)) (Sort.grow (redrawn W d) os) := fun d os => run_convert_src (P := Tryz.prog) _ 41 5 9 Tryz.underlying41 Tryz.underlying5 Tryz.underlying9 _ bs _ bs.length rfl (ref_src (HR2.out.below (below_regrown W d os)))
  generalize strOfNums bs = str at *
  generalize bs.length = L at *
  go_upto_region 2 with fail
  refine wp_region_quiet_below (by kernel_rfl) (by kernel_rfl) ?_
  repeat (first | go_big_quiet_step (fail) | quiet_step (fail))
  refine wpQuiet_nil ?_
  intro _ hw'
  obtain ⟨⟨dq, osq⟩, hw''⟩ := hw'
  subst hw''
  have D2 := Lib.hid (HD.out.trans ((below_regrown W dq osq).mono HD.out.size))
  generalize Sort.grow (redrawn W dq) osq = Y at *
  go_wp2_with fail
  go_ret
  exact ⟨rfl, D2.out⟩
theorem touch_bytes (h : HartS) (bs : List Int) (op at_ n b : Int) (hb : Bytes bs) : Bytes (touchAt h bs op at_ n b).2.2.2 := by
  unfold touchAt
  repeat' split
  all_goals first | exact hb | exact storeOf_bytes hb
theorem do_bytes (h : HartS) (bs : List Int) (op rd rs1 rs2 imm : Int) (hb : Bytes bs) : Bytes (doOf h bs op rd rs1 rs2 imm).2.1 := by
  have tk := touch_bytes (h.set 0 0) bs op (addrOf op imm ((h.set 0 0).reg rs1)) (PAll.sizeOf op) ((h.set 0 0).reg rs2) hb
  unfold doOf
  dsimp only
  have key : Bytes (if 0 < PAll.sizeOf op then touchAt (h.set 0 0) bs op (addrOf op imm ((h.set 0 0).reg rs1)) (PAll.sizeOf op) ((h.set 0 0).reg rs2) else ((valueOf op imm h.pc ((h.set 0 0).reg rs1) ((h.set 0 0).reg rs2)).1, 0, h.set 0 0, bs)).2.2.2 := by
    split
    · exact tk
    · exact hb
  generalize (if 0 < PAll.sizeOf op then touchAt (h.set 0 0) bs op (addrOf op imm ((h.set 0 0).reg rs1)) (PAll.sizeOf op) ((h.set 0 0).reg rs2) else ((valueOf op imm h.pc ((h.set 0 0).reg rs1) ((h.set 0 0).reg rs2)).1, 0, h.set 0 0, bs)) = t at *
  split <;> exact key
theorem step_bytes (h : HartS) (bs : List Int) (hb : Bytes bs) : Bytes (stepOf h bs).2.1 := by
  unfold stepOf
  split
  · exact hb
  dsimp only
  split
  · exact hb
  split
  · exact hb
  · exact do_bytes _ _ _ _ _ _ _ hb
theorem run_ok : ∀ (n : Nat) (h : HartS) (bs : List Int), h.Ok → Bytes bs → (runOf n h bs).1.Ok ∧ (runOf n h bs).2.2.1 ≤ n
  | 0, h, bs, k, hb => ⟨k, Nat.le_refl _⟩
  | n + 1, h, bs, k, hb => by
    by_cases e : (stepOf h bs).2.2 = 0
    · have I := run_ok n _ _ (step_ok h bs k hb) (step_bytes h bs hb)
      rw [run_go h bs n e]; exact ⟨I.1, by show _ + 1 ≤ _; omega⟩
    · rw [run_stop h bs n e]; exact ⟨k, by show 0 ≤ _; omega⟩
theorem laid_len (m : Nat) (l : List InstS) : ∀ j, (laidTo m l j).length = m
  | 0 => by simp [laidTo]
  | j + 1 => by rw [laidTo, storeOf_length _ _ _ _ (by omega), laid_len m l j]
theorem mem_len {Z Z' : World} {g q : Nat} {bs bs' : List Int} (M : MemAt Z g q bs) (hG : Z.grownBy Z' (some q)) (M' : MemAt Z' g q bs') : bs'.length = bs.length := by
  have h1 := (hG.block _ M.1.lt (fun e => M.ne (by injection e))).trans M.1
  have h2 := M'.1
  unfold Blk at h2
  rw [h1] at h2
  simp at h2
  omega
set_option maxRecDepth 100000 in
theorem req_hart (h : HartS) (k : h.Ok) (w : World) : (Op.equalIn 10000 36 (.agg h.cells) (.agg h.cells)).run Tryz.prog w = .ok true w := by
  have c0 := h.c0
  have c33 := HartS.c33 k
  have c34 := HartS.c34 k
  have c35 := HartS.c35 k
  refine eqA_of (d := 9999) Tryz.underlying36 (by kernel_rfl) ?_
  refine eqf_cons (r := true) (s := true) (by rfl) (by go_simp; rfl) (by go_simp; rfl) (by go_simp) ?_
  refine eqf_cons (r := true) (s := true) (a := .agg (h.cells.extract 1 33)) (b := .agg (h.cells.extract 1 33)) (by rfl) (by go_simp) (by go_simp) ?_ ?_
  · obtain ⟨ii, hii⟩ := info_of_underlying Tryz.underlying22
    rw [run_equalIn_array (n := 32) (e := 22) w 9998 _ _ Tryz.underlying23 hii]
    refine eq_items 9997 22 Tryz.underlying22 _ w _ fun i hi => ?_
    have hi : i < 32 := by simpa using hi
    exact ⟨h.reg i, by rw [Array.getElem?_extract_of_lt (by rw [HartS.size k]; omega), ← Array.getElem?_eq_getElem]; exact HartS.cx k i hi⟩
  refine eqf_cons (r := true) (s := true) (by rfl) (by go_simp; rfl) (by go_simp; rfl) (by go_simp) ?_
  refine eqf_cons (r := true) (s := true) (by rfl) (by go_simp; rfl) (by go_simp; rfl) (by go_simp) ?_
  exact eqf_last (by rfl) (by go_simp; rfl) (by go_simp; rfl) (by go_simp)
set_option maxHeartbeats 2000000 in
theorem PutR_ok (w : World) (g b : Nat) (bs : List Int) (k c : Nat) (A : Option Addr) (l : List Int) (h : RefAt w g b bs) (hs : Src w A l) (hA : l ≠ [] → ∀ ad, A = some ad → ad.block ≠ b) (hby : Bytes l) (h1 : partE bs.length k l.length = 0) : Calls Tryz.prog 11 #[.pointer (some ⟨g, 0, none⟩), .int .u64 k, .slice A l.length c] w fun e w' => e = .returned (.int .i64 0) ∧ Blk w' b ((splice bs k l).map (Value.int .u8)).toArray 5 ∧ w.grownBy w' (some b) := by
  have hp := partE_ok.1 h1
  have hl := h.2.2.2
  have H := fault_any w g b bs k l.length h ⟨by omega, by omega⟩ ⟨by omega, by omega⟩
  rw [faultE_part (by omega), h1] at H
  replace H := Lib.hid H
  have hgb := h.ne
  have C := Lib.hid h.1
  have hgl := h.1.lt
  have B := Lib.hid h.2.1
  clear h h1
  have hkm : k + l.length ≤ bs.length := by omega
  clear hp
  go_enter Tryz.func11, Tryz.ntmps11
  go_wp2_with (go_at_call 22; refine H.out.mono ?_; rintro e w' ⟨rfl, rfl⟩)
  go_loopw [8] (fun i wr => ∃ j : Nat, j ≤ l.length ∧ i = .int .i64 j ∧ Hid (Blk wr b ((splice bs k (l.take j)).map (Value.int .u8)).toArray 5) ∧ Hid (w.grownBy wr (some b))) (fun i _ => l.length - (intOf i).toNat)
  case atStart => exact ⟨0, by omega, rfl, Lib.hid (by rw [List.take_zero, splice_nil]; exact B.out), Lib.hid (World.grownBy.refl _ _)⟩
  case round =>
    obtain ⟨j, hj, rfl, hB, hG⟩ := hrel
    by_cases hlt : j < l.length
    · obtain ⟨ad, rfl, had, hc⟩ := hs (by intro e; subst e; simp at hlt)
      have hsl : (splice bs k (l.take j)).length = bs.length := length_splice _ _ _ (by rw [List.length_take]; omega)
      have c1 := hB.out.cell (k + j)
      rw [List.getElem?_toArray, List.getElem?_map, List.getElem?_eq_getElem (by rw [hsl]; omega), Option.map_some] at c1
      generalize (splice bs k (l.take j))[k + j]'_ = old at c1
      have f1 := hB.out.frozen (k + j)
      have c0 := (show Blk wr g _ _ from (hG.out.block g hgl (fun e => hgb (by injection e))).trans C.out).cell
      have hx : l[j]? = some (l.getD j 0) := by rw [List.getD_eq_getElem?_getD, List.getElem?_eq_getElem hlt]; rfl
      have c2 := hG.out.cell (hc j _ hx) (by rw [block_add]; intro e; injection e with e; exact hA (by intro e; rw [e] at hlt; simp at hlt) ad rfl e)
      have hb2 := hby _ (List.mem_of_getElem? hx)
      have hs2 := hB.out.set (k + j) (.int .u8 (l.getD j 0))
      rw [List.setIfInBounds_toArray, ← List.map_set] at hs2
      have e := splice_snoc bs k (l.take j) (l.getD j 0) (by rw [List.length_take]; omega)
      rw [List.length_take, show min j l.length = j by omega, take_concat_getD l j hlt] at e
      rw [e] at hs2
      replace hs2 := Lib.hid hs2
      clear hsl e hx
      generalize l.getD j 0 = x at *
      go_wp2
      go_region
      have hg2 := grown_set hG.out (k + j) (.int .u8 x)
      generalize hV : World.drew _ = V
      replace hs2 := Lib.hid (show Blk V b _ _ from hV ▸ hs2.out.drew)
      replace hg2 := Lib.hid (show w.grownBy V (some b) from hV ▸ (⟨hg2.os, hg2.tape, hg2.output, hg2.size, hg2.block⟩ : w.grownBy (World.drew (wr.setCell ⟨b, k + j, none⟩ (.int .u8 x))) (some b)))
      clear hV c0 c1 c2 f1
      go_wp2
      go_roundw
      case rel => exact ⟨j + 1, by omega, by go_num, hs2, hg2⟩
      case measure => simp [intOf]; omega
    · obtain rfl : j = l.length := by omega
      rw [List.take_of_length_le (Nat.le_refl _)] at hB
      go_wp2
      go_ret
      exact ⟨rfl, hB.out, hG.out⟩
theorem PutR_any (w : World) (g b : Nat) (bs : List Int) (at_ : Int) (c : Nat) (A : Option Addr) (l : List Int) (h : RefAt w g b bs) (h0 : U64 at_) (hs : Src w A l) (hA : l ≠ [] → ∀ ad, A = some ad → ad.block ≠ b) (hl : Bytes l) (hn : l.length ≤ 9223372036854775807) : Calls Tryz.prog 11 #[.pointer (some ⟨g, 0, none⟩), .int .u64 at_, .slice A l.length c] w fun e w' => e = .returned (.int .i64 (partE bs.length at_ l.length)) ∧ RefAt w' g b (putOf bs at_ l) ∧ w.grownBy w' (some b) := by
  by_cases hE : partE bs.length at_ l.length = 0
  · obtain ⟨k, rfl⟩ : ∃ k : Nat, at_ = k := ⟨at_.toNat, by have := h0.1; omega⟩
    refine (PutR_ok w g b bs k c A l h hs hA hl hE).mono ?_
    rintro e w' ⟨rfl, hB, hG⟩
    rw [hE]
    exact ⟨rfl, h.stored (putOf_length _ _ _ (by omega)) (putOf_bytes h.2.2.1 hl) (by unfold putOf; rw [if_pos hE]; exact hB) hG, hG⟩
  · have e : putOf bs at_ l = bs := by unfold putOf; rw [if_neg hE]
    rw [e]
    refine (PutRef_err w g b bs at_ l.length c A h h0 hn hE).mono ?_
    rintro e w' ⟨rfl, rfl⟩
    exact ⟨rfl, h, World.grownBy.refl _ _⟩
/-- Both memories and the hart that came in. -/
structure PR (w Z : World) (g q gr qr : Nat) (y : HartS) (bm br : List Int) : Prop where
  b : Blk Z w.heap.size y.cells 25
  m : MemAt Z g q bm
  o : RefAt Z gr qr br
  d : Below w.heap.size w Z
  n1 : w.heap.size < q
  n2 : w.heap.size < qr
  n3 : q ≠ qr
  n4 : q ≠ gr
  n5 : qr ≠ g
theorem mem_grown {Z Z' : World} {g q q2 : Nat} {bs : List Int} (M : MemAt Z g q bs) (hG : Z.grownBy Z' (some q2)) (h1 : q2 ≠ g) (h2 : q2 ≠ q) : MemAt Z' g q bs :=
  ⟨(hG.block _ M.1.lt (fun e => h1 (by injection e with e; exact e.symm))).trans M.1, (hG.block _ M.2.1.lt (fun e => h2 (by injection e with e; exact e.symm))).trans M.2.1, M.2.2⟩
section
variable {w Z Z' : World} {g q gr qr : Nat} {y : HartS} {bm br : List Int}
theorem PR.below (H : PR w Z g q gr qr y bm br) (d : Below Z.heap.size Z Z') : PR w Z' g q gr qr y bm br :=
  ⟨H.b.below d, H.m.below d, H.o.below d, H.d.trans (d.mono H.d.size), H.n1, H.n2, H.n3, H.n4, H.n5⟩
theorem PR.m1 {bm' : List Int} (H : PR w Z g q gr qr y bm br) (hG : Z.grownBy Z' (some q)) (M : MemAt Z' g q bm') : PR w Z' g q gr qr y bm' br :=
  ⟨(hG.block _ H.b.lt (fun e => by injection e with e; have := H.n1; omega)).trans H.b, M, H.o.far hG H.n4.symm H.n3.symm, below_grown H.d hG (by have := H.n1; omega) H.d.size, H.n1, H.n2, H.n3, H.n4, H.n5⟩
theorem PR.m2 {br' : List Int} (H : PR w Z g q gr qr y bm br) (hG : Z.grownBy Z' (some qr)) (M : RefAt Z' gr qr br') : PR w Z' g q gr qr y bm br' :=
  ⟨(hG.block _ H.b.lt (fun e => by injection e with e; have := H.n2; omega)).trans H.b, mem_grown H.m hG H.n5 (Ne.symm H.n3), M, below_grown H.d hG (by have := H.n2; omega) H.d.size, H.n1, H.n2, H.n3, H.n4, H.n5⟩
theorem pr_start {X : World} {bs : List Int} (B : Blk X w.heap.size y.cells 25) (d : Below w.heap.size w X) (hs : w.heap.size + 1 = X.heap.size) (M : MemAt Z g q bs) (R : RefAt Z gr qr bs) (hq : X.heap.size ≤ q) (hqr : X.heap.size ≤ qr) (n1 : g ≠ qr) (n2 : q ≠ gr) (n3 : q ≠ qr) (d1 : Below X.heap.size X Z) : PR w Z g q gr qr y bs bs :=
  ⟨B.below d1, M, R, d.trans (d1.mono d.size), by omega, by omega, n3, n2, n1.symm⟩
/-- A new hart of the reference. -/
theorem rhart_new {x : HartS} {zc : Array Value} (e : (Z.alloc (.cells zc 36)).setRow Z.heap.size x.cells = Z') : Blk Z' Z.heap.size x.cells 36 ∧ Below Z.heap.size Z Z' ∧ Z.heap.size + 1 = Z'.heap.size := by
  rw [World.setRow_alloc_new] at e
  exact arg_box e
theorem Src.grown {A : Option Addr} {l : List Int} (h : Src w A l) (hG : w.grownBy Z (some q)) (hq : l ≠ [] → ∀ ad, A = some ad → ad.block ≠ q) : Src Z A l := fun hne => by
  obtain ⟨ad, e, h1, h2⟩ := h hne
  exact ⟨ad, e, Nat.lt_of_lt_of_le h1 hG.size, fun j x hj => hG.cell (h2 j x hj) (by rw [block_add]; intro e2; injection e2 with e2; exact hq hne ad e e2)⟩
end
def mostAt (s : Int) : Nat := (IntKind.u64.wrap s % 120).toNat
theorem most_at (s : Int) : wrap64 ((IntKind.u64.wrap s).tmod 120) = (mostAt s : Nat) := by
  have h := (U64.wrap s).1
  unfold mostAt
  rw [Int.tmod_eq_emod_of_nonneg h]
  unfold wrap64; omega
theorem most_le (s : Int) : mostAt s < 120 := by
  have h := (U64.wrap s).1
  unfold mostAt; omega
end Go.Proofs.YtcjfafhbohkhlaaGreat.Hand
