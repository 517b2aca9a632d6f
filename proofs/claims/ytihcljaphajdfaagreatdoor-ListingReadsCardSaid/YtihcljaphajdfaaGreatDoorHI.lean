/- DERIVED. DERIVED. The walk of Parse. -/
import Derived.Test.YtihcljaphajdfaaGreatDoorProg
import Derived.Test.YtihcljaphajdfaaGreatDoorMBits
import Derived.Test.YtihcljaphajdfaaGreatDoorMWalk
import Derived.Test.YtihcljaphajdfaaGreatDoorMTab
import Derived.Test.YtihcljaphajdfaaGreatDoorMInst
import Derived.Test.YtihcljaphajdfaaGreatDoorMDec
import Derived.Test.YtihcljaphajdfaaGreatDoorMDec2
import Derived.Test.YtihcljaphajdfaaGreatDoorMQTail
import Derived.Test.YtihcljaphajdfaaGreatDoorMArg
import Derived.Test.YtihcljaphajdfaaGreatDoorMRow
import Derived.Test.YtihcljaphajdfaaGreatDoorMOpen
import Derived.Test.YtihcljaphajdfaaGreatDoorMPart
import Derived.Test.YtihcljaphajdfaaGreatDoorMStore
import Derived.Test.YtihcljaphajdfaaGreatDoorMReg
import Derived.Test.YtihcljaphajdfaaGreatDoorMQTwo
import Derived.Test.YtihcljaphajdfaaGreatDoorMQTail
import Derived.Test.YtihcljaphajdfaaGreatDoorMStore
import Derived.Test.YtihcljaphajdfaaGreatDoorMReg
import Derived.Test.YtihcljaphajdfaaGreatDoorHG
import Derived.Test.YtihcljaphajdfaaGreatDoorPAllx2
import Derived.Test.YtihcljaphajdfaaGreatDoorPAllx4
import Derived.Test.YtihcljaphajdfaaGreatDoorPAllx8
import Derived.Test.YtihcljaphajdfaaGreatDoorPAllx9
import Derived.Test.YtihcljaphajdfaaGreatDoorPAllx10
import Derived.Below
import Derived.Deep.Draws
import Derived.Deep.AppendLies
import Derived.Maps.AppendAt
import Derived.OwnWalk
import Derived.Laws.BytesArg
import Derived.Laws.MakeOwn
import Derived.Laws.OwnMore
import Derived.Deep.OwnRows
import Derived.Tactics
import Derived.Lib.ConvBytes
import Derived.Laws.Slices
import Derived.WalkKit
import Derived.KernelRfl
import Derived.RowKit3
import Derived.Deep.LoopGhost
import Derived.Deep.QuietTactic
import Derived.BigQuiet
import Derived.WideLaws
import Derived.Deep.DeepCutAuto
import Derived.Deep.CutBlock
import Derived.Deep.RegionHeld3
import Derived.Laws.Rows
import Derived.Lib.AppendStr
import Derived.ArgAppend
import Derived.Laws.IdiomCopy
import Derived.OrdersHeld
import Derived.Laws.BitsLemmas
import Derived.Laws.Bits64
import Derived.RowKit
import Derived.Outline
import Derived.Handy
import Derived.Lib.Hide
import Derived.Deep.Light
import Derived.Laws.CopyOwn
import Derived.Lib.ItoaLen
import Derived.Deep.CutRange
import Derived.StillTail
import Derived.Shelf.RegionOpen
import Derived.Lib.QuietBelow
import Derived.Lib.AppendIntMem
import Derived.Laws.AppendOwnNone
import Derived.Shelf.Strings.Prefix
import Derived.Shelf.Strings.Split
import Derived.Shelf.Strings.Cut
import Derived.Shelf.Strings.Builder1
import Derived.Shelf.Strconv.AtoiAll
import Derived.Shelf.Strconv.Itoa3
import Derived.Ground.NamesProg
import Derived.Lib.AtoiTie
import Derived.Lib.AtoiErrMem
import Derived.Shelf.Vars
namespace Go.Proofs.YtihcljaphajdfaaGreatDoor.Hand
open Go Go.RowKit Go.Proofs.YtihcljaphajdfaaGreatDoor.M Go.Proofs.YtihcljaphajdfaaGreatDoor.PAll Go.Proofs.YtihcljaphajdfaaGreatDoorW.PrintWords
set_option linter.unusedVariables false
set_option linter.unusedSimpArgs false
attribute [local go_sem] Oper.semAt_some
theorem alloc_ins (w : World) : (Instr.alloc 33 true (.tuple #[])).run Tryz.prog w = .ok (.pointer (some ⟨w.heap.size, 0, none⟩)) (w.alloc (.cells (⟨0, 0, 0, 0, 0, false, false⟩ : Ins).cells 33)) := by kernel_rfl
def insEnd (r : Option Ins) : Value × Int := match r with
  | some i => (.agg i.cells, 0)
  | none => (.agg (⟨0, 0, 0, 0, 0, false, false⟩ : Ins).cells, 30)
/-- Between two tries. -/
structure OutAt (w wr : World) (g r : Nat) (ws : List ByteArray) : Prop where
  d : Below w.heap.size w wr
  b : Blk wr r (⟨0, 0, 0, 0, 0, false, false⟩ : Ins).cells 33
  t : Blk wr g (ws.map Value.string).toArray 9
theorem OutAt.below {w W V : World} {g r : Nat} {ws : List ByteArray} (h : OutAt w W g r ws) (d : Below W.heap.size W V) : OutAt w V g r ws := ⟨h.d.trans (d.mono h.d.size), h.b.below d, h.t.below d⟩
theorem HasPrefix_b (s p : List UInt8) (w : World) : Calls Tryz.prog 18 #[.string ⟨s.toArray⟩, .string ⟨p.toArray⟩] w fun e w' => e = .returned (.bool (Lib.hasPrefix s p)) ∧ Below w.heap.size w w' :=
  (HasPrefix_any ⟨s.toArray⟩ ⟨p.toArray⟩ w).mono fun e w' ⟨h, h2⟩ => ⟨by simpa using h, h2 ▸ Below.refl _ _⟩
/-- While a candidate's parts are filled. -/
structure CandAt (w wr : World) (g r pi pr : Nat) (ws : List ByteArray) (i : Ins) (o : Nat) : Prop where
  out : OutAt w wr g r ws
  bi : Blk wr pi i.cells 33
  br : ∃ v, RestAt wr g ws o v ∧ Blk wr pr #[v] 51
theorem CandAt.below {w W V : World} {g r pi pr : Nat} {ws : List ByteArray} {i : Ins} {o : Nat} (h : CandAt w W g r pi pr ws i o) (d : Below W.heap.size W V) : CandAt w V g r pi pr ws i o := by
  obtain ⟨v, hv, hb⟩ := h.br
  exact ⟨h.out.below d, h.bi.below d, v, hv.below d, hb.below d⟩
theorem blk_grown {w w' : World} {b p T : Nat} {cs : Array Value} (h : Blk w b cs T) (hg : w.grownBy w' (some p)) (hne : b ≠ p) : Blk w' b cs T := (hg.block b h.lt (fun e => hne (by injection e))).trans h
theorem below_pr {p : Nat} {a w w' : World} (h : Below a.heap.size a w) (hg : w.grownBy w' (some p)) (hp : a.heap.size ≤ p) : Below a.heap.size a w' :=
  ⟨hg.os.trans h.os, hg.tape.trans h.tape, hg.output.trans h.output, Nat.le_trans h.size hg.size, fun k hk => (hg.block k (Nat.lt_of_lt_of_le hk h.size) (fun e => by injection e with e; omega)).trans (h.block k hk)⟩
theorem CandAt.next {w W V : World} {g r pi pr : Nat} {ws : List ByteArray} {i : Ins} {o o' : Nat} {v' : Value} (h : CandAt w W g r pi pr ws i o) (hg : W.grownBy V (some pr)) (hr : RestAt V g ws o' v') (hb : Blk V pr #[v'] 51)
    (h1 : w.heap.size ≤ pr) (h2 : r ≠ pr) (h3 : pi ≠ pr) (h4 : g ≠ pr) : CandAt w V g r pi pr ws i o' :=
  ⟨⟨below_pr h.out.d hg h1, blk_grown h.out.b hg h2, blk_grown h.out.t hg h4⟩, blk_grown h.bi hg h3, v', hr, hb⟩
theorem CandAt.put {w W V : World} {g r pi pr : Nat} {ws : List ByteArray} {i : Ins} {o : Nat} (h : CandAt w W g r pi pr ws i o) (b : Nat) (hb : b < 4) (v : Int) (e : W.setCell ⟨pi, b + 1, none⟩ (.int .i64 v) = V)
    (h1 : w.heap.size ≤ pi) (h2 : r ≠ pi) (h3 : pi ≠ pr) (h4 : g ≠ pi) : CandAt w V g r pi pr ws (i.put b v) o := by
  subst e
  obtain ⟨u, hu, hb2⟩ := h.br
  refine ⟨⟨below_setc h.out.d h1 _ _, h.out.b.far h2 _, h.out.t.far h4 _⟩, ?_, u, ⟨hu.le, hu.v, hu.b.far h4 _⟩, hb2.far (Ne.symm h3) _⟩
  have hx := h.bi.set (b + 1) (.int .i64 v)
  obtain rfl | rfl | rfl | rfl : b = 0 ∨ b = 1 ∨ b = 2 ∨ b = 3 := by omega
  all_goals exact hx
theorem CandAt.cell_some {w W : World} {g r pi pr : Nat} {ws : List ByteArray} {i : Ins} {o : Nat} (h : CandAt w W g r pi pr ws i o) (n : Nat) (hn : n < 4) : ∃ u, W.cell? ⟨pi, n + 1, none⟩ = some u := by
  have hs : n + 1 < i.cells.size := by rw [i.len]; omega
  exact ⟨i.cells[n + 1], by rw [h.bi.cell, Array.getElem?_eq_getElem hs]⟩
theorem candN_yes (op : Int) (aq rl : Bool) (ws : List ByteArray) (n : Nat) (h : hasB op n = true) : candN op aq rl ws (n + 1) = ((candN op aq rl ws n).1.put n (nextN ws (candN op aq rl ws n).2), nextO ws (candN op aq rl ws n).2) := by
  show (if hasB op n = true then _ else _) = _
  rw [if_pos h]
theorem candN_no (op : Int) (aq rl : Bool) (ws : List ByteArray) (n : Nat) (h : hasB op n = false) : candN op aq rl ws (n + 1) = candN op aq rl ws n := by
  show (if hasB op n = true then _ else _) = _
  rw [if_neg (by rw [h]; decide)]
def ParsePost (w : World) (r : Option Ins) : Ending → World → Prop := fun e w' =>
  e = .returned (.tuple #[(insEnd r).1, .int .i64 (insEnd r).2]) ∧ Below w.heap.size w w'
theorem parse_end {w W : World} {g : Nat} {ws : List ByteArray} {a : Act} {r : Option Ins} {i : Ins} {n : Int} (H : OutAt w W g w.heap.size ws) (hd : a.defers = []) (h2 : a.tmps.getD 2 undef = .pointer (some ⟨w.heap.size, 0, none⟩)) (h3 : a.tmps.getD 3 undef = .int .i64 n)
    (hr : insEnd r = (.agg i.cells, n)) : bodyPost Tryz.prog Tryz.f10 (ParsePost w r) .ret a (W.setRow w.heap.size i.cells) :=
  ⟨hd, _, M.results_cell_tmp (fn := Tryz.f10) (by kernel_rfl) a.tmps _ w.heap.size _ _ _ h2 (H.b.row i.cells) Tryz.underlying33 rfl ins_info, by rw [h3, hr], below_row H.d (Nat.le_refl _) _⟩
theorem tryOp_step (s : ByteArray) (ws : List ByteArray) (op : Int) (j : Nat) {aq rl : Bool} (h : combos[j]? = some (aq, rl)) : tryOp s ws op j = (hit s (cand op aq rl ws)).or (tryOp s ws op (j + 1)) := by
  unfold tryOp
  have hj : j < combos.length := (List.getElem?_eq_some_iff.1 h).1
  have he : combos[j] = (aq, rl) := (List.getElem?_eq_some_iff.1 h).2
  rw [List.drop_eq_getElem_cons hj, List.findSome?_cons, he]
  cases hit s (cand op aq rl ws) <;> rfl
theorem ba_eq (a b : ByteArray) : a.toList = b.toList ↔ a = b := by
  rw [ByteArray.toList_eq, ByteArray.toList_eq]
  exact ⟨fun h => ByteArray.ext (Array.toList_inj.mp h), fun h => by rw [h]⟩
theorem ba_nil : (⟨#[]⟩ : ByteArray).toList = [] := by rw [ByteArray.toList_eq]
theorem hit_yes {s : ByteArray} {i : Ins} (h1 : ¬ s.toList = []) (h2 : (⟨(textL i).toArray⟩ : ByteArray).toList = s.toList) : hit s i = some i := by
  unfold hit
  rw [if_pos ⟨fun h => h1 (by rw [h]; exact ba_nil), (ba_eq _ _).1 h2⟩]
theorem hit_no {s : ByteArray} {i : Ins} (h : s.toList = [] ∨ ¬ (⟨(textL i).toArray⟩ : ByteArray).toList = s.toList) : hit s i = none := by
  unfold hit
  rw [if_neg]
  rintro ⟨h1, h2⟩
  rcases h with h | h
  · exact h1 ((ba_eq s ⟨#[]⟩).1 (h.trans ba_nil.symm))
  · exact h ((ba_eq _ _).2 h2)
set_option maxRecDepth 100000 in
set_option maxHeartbeats 2000000 in
theorem Parse_any (s : ByteArray) (w : World) (hs : s.size ≤ 4000000000) (hL : LaidOk w) : Calls Tryz.prog 10 #[.string s] w (ParsePost w (parseR s)) := by
  have HSP := Lib.hid fun W h => Split_any s W hs h
  have hL' := Lib.hid hL
  have hwl : ((wordsL s).length : Int) > 0 := by rw [words_len]; omega
  have hR := Lib.hid (show parseR s = parseFrom s (wordsL s) 0 from rfl)
  obtain ⟨w0, wt, hw0⟩ : ∃ w0 wt, wordsL s = ⟨w0⟩ :: wt := by
    cases h : wordsL s with
    | nil => rw [h] at hwl; cases hwl
    | cons a l => exact ⟨a.data, l, rfl⟩
  have hws : ∀ x ∈ wordsL s, x.size ≤ 281474976710656 := fun x h => by have h := words_size s x h; omega
  clear hL
  go_enter Tryz.func10, Tryz.ntmps10
  go_upto_region 1 with fail
  generalize hX : World.alloc w _ = X
  obtain ⟨B, dX, sX⟩ := arg_box (cs := (⟨0, 0, 0, 0, 0, false, false⟩ : Ins).cells) hX
  clear hX
  have hLX := Lib.hid (hL'.out.below dX)
  go_wp2_with (go_at_call 17; refine (HSP.out _ hLX.out).mono ?_; rintro e V ⟨rfl, BV, dV, sV⟩)
  have HO := Lib.hid (show OutAt w V X.heap.size w.heap.size (wordsL s) from ⟨dX.trans (dV.mono dX.size), B.below dV, BV⟩)
  clear HSP hLX B dX dV BV
  generalize parseR s = R at *
  generalize hL : (wordsL s).length = L at *
  go_loopw [16] (fun k wr => ∃ n : Nat, k = .int .i64 n ∧ n ≤ 87 ∧ Hid (R = parseFrom s (wordsL s) n) ∧ Hid (OutAt w wr X.heap.size w.heap.size (wordsL s))) (fun k _ => 87 - (intOf k).toNat)
  case atStart => exact ⟨0, rfl, by omega, hR, HO⟩
  case round =>
    obtain ⟨k, rfl, hk, hR, HO⟩ := hrel
    by_cases hlt : k < 87
    · have HN := Lib.hid fun W => name_any ((k : Int) + 1) W (by omega) (by omega)
      have HP := Lib.hid fun W => HasPrefix_b w0.toList (nameL ((k : Int) + 1)) W
      have c0 : wr.cell? ⟨X.heap.size, 0, none⟩ = some (.string ⟨w0.toList.toArray⟩) := by
        have h := HO.out.t.cell 0
        rw [hw0] at h
        rw [h]; simp
      have r0 := cell_regrown c0
      clear c0
      go_upto_region 5 with fail
      refine wp_region_quiet_below (by kernel_rfl) (by kernel_rfl) ?_
      have HN2 := Lib.hid fun (d : Nat) (os : Array Obj) => Calls.regrown_of (HN.out (Sort.grow (redrawn wr d) os))
      have HP2 := Lib.hid fun (d : Nat) (os : Array Obj) => Calls.regrown_of (HP.out (Sort.grow (redrawn wr d) os))
      repeat go_big_quiet_step (first | exact HN2.out _ _ | exact HP2.out _ _)
      refine wpQuiet_nil ?_
      intro _ hw'
      obtain ⟨⟨dq, osq⟩, hw''⟩ := hw'
      subst hw''
      clear r0 HN2 HP2 HN HP
      replace HO := Lib.hid (HO.out.below (below_regrown wr dq osq))
      generalize Sort.grow (redrawn wr dq) osq = Y at *
      cases hpf : Lib.hasPrefix w0.toList (nameL ((k : Int) + 1))
      · go_wp2_with fail
        go_roundw
        case rel =>
          refine ⟨k + 1, by simp, by omega, Lib.hid ?_, HO⟩
          rw [hR.out, parseFrom_step _ _ _ hlt]
          unfold tryK
          rw [hw0, List.headD_cons, hpf]
          rfl
        case measure => simp [intOf]; omega
      · replace hR := Lib.hid (show R = (tryOp s (wordsL s) ((k : Int) + 1) 0).or (parseFrom s (wordsL s) (k + 1)) by
          rw [hR.out, parseFrom_step _ _ _ hlt]
          unfold tryK
          rw [hw0, List.headD_cons, hpf]
          rfl)
        clear hpf
        go_upto_region 6 with fail
        go_wp2_with fail
        rw [show decide ((k : Int) < 87) = true from decide_eq_true (by omega), Bool.not_true]
        go_loopw [32] (fun j wr => ∃ n : Nat, j = .int .i64 n ∧ n ≤ 4 ∧ Hid (R = (tryOp s (wordsL s) ((k : Int) + 1) n).or (parseFrom s (wordsL s) (k + 1))) ∧ Hid (OutAt w wr X.heap.size w.heap.size (wordsL s))) (fun j _ => 4 - (intOf j).toNat)
        case atStart => exact ⟨0, rfl, by omega, hR, HO⟩
        case round =>
          obtain ⟨j, rfl, hj, hR, HO⟩ := hrel
          have hgw : X.heap.size < wr.heap.size := HO.out.t.lt
          by_cases hjl : j < 4
          · obtain ⟨aq, rl, hc, hix⟩ : ∃ aq rl, combos[j]? = some (aq, rl) ∧ ∀ V : World, (Instr.index 56 (.agg #[.bool false, .bool false, .bool true, .bool false, .bool false, .bool true, .bool true, .bool true]) (.int .i64 (j : Nat))).run Tryz.prog V = .ok (.agg #[.bool aq, .bool rl]) V := by
              obtain rfl | rfl | rfl | rfl : j = 0 ∨ j = 1 ∨ j = 2 ∨ j = 3 := by omega
              · exact ⟨false, false, rfl, fun _ => by kernel_rfl⟩
              · exact ⟨true, false, rfl, fun _ => by kernel_rfl⟩
              · exact ⟨false, true, rfl, fun _ => by kernel_rfl⟩
              · exact ⟨true, true, rfl, fun _ => by kernel_rfl⟩
            go_upto_region 9 with (rw [hix]; clear hix)
            generalize hX1 : World.alloc wr _ = X1
            obtain ⟨B1, d1, s1⟩ := arg_box (cs := #[.bool aq, .bool rl]) hX1
            clear hX1
            replace HO := Lib.hid (HO.out.below d1)
            have c1 : X1.cell? ⟨wr.heap.size, 0, none⟩ = some (.bool aq) := B1.cell 0
            have c2 : X1.cell? ⟨wr.heap.size, 1, none⟩ = some (.bool rl) := B1.cell 1
            clear B1 d1
            go_upto_region 10 with fail
            generalize hX2 : World.alloc X1 _ = X2
            obtain ⟨B2, d2, s2⟩ := arg_box (cs := (candN ((k : Int) + 1) aq rl (wordsL s) 0).1.cells) hX2
            clear hX2 c1 c2
            replace HO := Lib.hid (HO.out.below d2)
            replace B2 := Lib.hid B2
            clear d2
            go_upto_region 11 with fail
            have hgA : 1 < (wordsL s).length → (if wt = [] then some (⟨X.heap.size, 0, none⟩ : Addr) else some ⟨X.heap.size, 1, none⟩) = some ⟨X.heap.size, 1, none⟩ := by
              rw [hw0]; intro h; rw [if_neg]; rintro rfl; simp at h
            generalize (if wt = [] then some (⟨X.heap.size, 0, none⟩ : Addr) else some ⟨X.heap.size, 1, none⟩) = A at *
            generalize hX3 : World.alloc X2 _ = X3
            obtain ⟨B3, d3, s3⟩ := arg_box (cs := #[.slice A wt.length wt.length]) hX3
            clear hX3
            replace HO := Lib.hid (HO.out.below d3)
            have HC := Lib.hid (show CandAt w X3 X.heap.size w.heap.size X1.heap.size X2.heap.size (wordsL s) (candN ((k : Int) + 1) aq rl (wordsL s) 0).1 (candN ((k : Int) + 1) aq rl (wordsL s) 0).2 from
              ⟨HO.out, B2.out.below d3, _, ⟨by rw [hw0]; exact Nat.le_add_left _ _, ⟨A, by rw [hw0]; rfl, hgA⟩, HO.out.t⟩, B3⟩)
            clear d3 B3 hgA HO B2
            go_upto_region 12 with fail
            go_wp2_with fail
            rw [show decide ((j : Int) < 4) = true from decide_eq_true (by omega)]
            go_loopw [50] (fun n wr => ∃ m : Nat, n = .int .i64 m ∧ m ≤ 4 ∧ Hid (CandAt w wr X.heap.size w.heap.size X1.heap.size X2.heap.size (wordsL s) (candN ((k : Int) + 1) aq rl (wordsL s) m).1 (candN ((k : Int) + 1) aq rl (wordsL s) m).2)) (fun n _ => 4 - (intOf n).toNat)
            case atStart => exact ⟨0, rfl, by omega, HC⟩
            case round =>
              obtain ⟨n, rfl, hn, HC⟩ := hrel
              by_cases hnl : n < 4
              · have hiy : ∀ V : World, (Instr.index 61 (.agg #[.pointer (some ⟨X1.heap.size, 1, none⟩), .pointer (some ⟨X1.heap.size, 2, none⟩), .pointer (some ⟨X1.heap.size, 3, none⟩), .pointer (some ⟨X1.heap.size, 4, none⟩)]) (.int .i64 (n : Nat))).run Tryz.prog V = .ok (.pointer (some ⟨X1.heap.size, n + 1, none⟩)) V := by
                  obtain rfl | rfl | rfl | rfl : n = 0 ∨ n = 1 ∨ n = 2 ∨ n = 3 := by omega
                  all_goals exact fun _ => by kernel_rfl
                have co := candN_op ((k : Int) + 1) aq rl (wordsL s) n
                have HQ := Lib.hid fun W => parts_any ((k : Int) + 1) (by omega) (by omega) W
                have HB := bits_hasB ((k : Int) + 1) n (by omega) (by omega) hnl
                have ho : wr.cell? ⟨X1.heap.size, 0, none⟩ = some (.int .i64 ((k : Int) + 1)) := by rw [← co]; exact HC.out.bi.cell 0
                clear co
                cases hb : hasB ((k : Int) + 1) n
                · rw [hb] at HB
                  have hcn := candN_no ((k : Int) + 1) aq rl (wordsL s) n hb
                  clear hb
                  go_wp2_with (first | (rw [hiy]; clear hiy) | (go_at_call 23; refine (HQ.out _).mono ?_; clear HQ; rintro e V ⟨rfl, dV⟩; replace HC := Lib.hid (HC.out.below dV); clear dV))
                  go_roundw
                  case rel => exact ⟨n + 1, by simp, by omega, Lib.hid (by rw [hcn]; exact HC.out)⟩
                  case measure => simp [intOf]; omega
                · rw [hb] at HB
                  have hcn := candN_yes ((k : Int) + 1) aq rl (wordsL s) n hb
                  clear hb
                  go_upto_region 16 with (first | (rw [hiy]; clear hiy) | (go_at_call 23; refine (HQ.out _).mono ?_; clear HQ; rintro e V ⟨rfl, dV⟩; replace HC := Lib.hid (HC.out.below dV); clear dV))
                  obtain ⟨v, hv, hbv⟩ := HC.out.br
                  have HNX := Lib.hid (next_any (wordsL s) X.heap.size X2.heap.size _ v V (hL'.out.below HC.out.out.d) hv hbv (by omega) hws)
                  clear hv hbv
                  go_upto_region 17 with (go_at_call 20; refine HNX.out.mono ?_; clear HNX; rintro e V2 ⟨rfl, ⟨v', hr', hb'⟩, gV⟩; replace HC := Lib.hid (HC.out.next gV hr' hb' (by omega) (by omega) (by omega) (by omega)); clear gV hr' hb'; have hfz := HC.out.bi.frozen (n + 1); obtain ⟨uc, hce⟩ := HC.out.cell_some n hnl)
                  generalize hZ : World.setCell V2 _ _ = Z
                  replace HC := Lib.hid (HC.out.put n hnl _ hZ (by omega) (by omega) (by omega) (by omega))
                  clear hZ hfz hce
                  go_wp2_with fail
                  go_roundw
                  case rel => exact ⟨n + 1, by simp, by omega, Lib.hid (by have h := HC.out; rw [← hw0] at h; rw [hcn]; exact h)⟩
                  case measure => simp [intOf]; omega
              · obtain rfl : n = 4 := by omega
                have HT := Lib.hid fun (W : World) (d : Below wr.heap.size wr W) => Text_any (cand ((k : Int) + 1) aq rl (wordsL s)) (candN_Ok _ _ _ _ (by unfold I64; omega) 4) W (hL'.out.below (HC.out.out.d.trans (d.mono HC.out.out.d.size)))
                replace HC := Lib.hid (show CandAt w wr X.heap.size w.heap.size X1.heap.size X2.heap.size (wordsL s) (cand ((k : Int) + 1) aq rl (wordsL s)) _ from HC.out)
                generalize hci : cand ((k : Int) + 1) aq rl (wordsL s) = ci at *
                replace hR := Lib.hid (show R = ((hit s ci).or (tryOp s (wordsL s) ((k : Int) + 1) (j + 1))).or (parseFrom s (wordsL s) (k + 1)) by rw [hR.out, tryOp_step _ _ _ _ hc, hci])
                clear hc hci hix
                go_upto_region 19 with fail
                by_cases hse : s.toList = []
                · have hh := hit_no (i := ci) (.inl hse)
                  go_wp2_with fail
                  go_roundw
                  case rel => exact ⟨j + 1, by simp, by omega, Lib.hid (by rw [hR.out, hh]; rfl), Lib.hid HC.out.out⟩
                  case measure => simp [intOf]; omega
                · have hsi : s.toList.isEmpty = false := by rw [List.isEmpty_eq_false_iff]; exact hse
                  by_cases hte : (⟨(textL ci).toArray⟩ : ByteArray).toList = s.toList
                  · have hh := hit_yes hse hte
                    have f0 : wr.cell? ⟨X1.heap.size, 0, none⟩ = some (.int .i64 ci.op) := HC.out.bi.cell 0
                    have f1 : wr.cell? ⟨X1.heap.size, 1, none⟩ = some (.int .i64 ci.rd) := HC.out.bi.cell 1
                    have f2 : wr.cell? ⟨X1.heap.size, 2, none⟩ = some (.int .i64 ci.rs1) := HC.out.bi.cell 2
                    have f3 : wr.cell? ⟨X1.heap.size, 3, none⟩ = some (.int .i64 ci.rs2) := HC.out.bi.cell 3
                    have f4 : wr.cell? ⟨X1.heap.size, 4, none⟩ = some (.int .i64 ci.imm) := HC.out.bi.cell 4
                    have f5 : wr.cell? ⟨X1.heap.size, 5, none⟩ = some (.bool ci.aq) := HC.out.bi.cell 5
                    have f6 : wr.cell? ⟨X1.heap.size, 6, none⟩ = some (.bool ci.rl) := HC.out.bi.cell 6
                    have hR' := Lib.hid (show R = some ci by rw [hR.out, hh]; rfl)
                    clear hR hh
                    go_wp2_with (first
                      | (refine wpList_load_row rfl 33 _ rfl X1.heap.size rfl 33 _ _ _ HC.out.bi Tryz.underlying33 rfl ins_info ?_)
                      | (refine wpList_store_row rfl 33 _ _ rfl w.heap.size ci.cells rfl rfl 33 _ HC.out.out.b ins_info (by kernel_rfl) ci.one ?_)
                      | (go_at_call 11; refine (HT.out _ (Below.refl _ _)).mono ?_; clear HT; rintro e V ⟨rfl, dV⟩; replace HC := Lib.hid (HC.out.below dV); clear dV))
                    exact parse_end HC.out.out rfl rfl rfl (by rw [hR'.out]; rfl)
                  · have hh := hit_no (s := s) (i := ci) (.inr hte)
                    have hsb : (textL ci == s.toList) = false := beq_eq_false_iff_ne.2 (fun h => hte (by rw [ByteArray.toList_eq]; exact h))
                    have f0 : wr.cell? ⟨X1.heap.size, 0, none⟩ = some (.int .i64 ci.op) := HC.out.bi.cell 0
                    have f1 : wr.cell? ⟨X1.heap.size, 1, none⟩ = some (.int .i64 ci.rd) := HC.out.bi.cell 1
                    have f2 : wr.cell? ⟨X1.heap.size, 2, none⟩ = some (.int .i64 ci.rs1) := HC.out.bi.cell 2
                    have f3 : wr.cell? ⟨X1.heap.size, 3, none⟩ = some (.int .i64 ci.rs2) := HC.out.bi.cell 3
                    have f4 : wr.cell? ⟨X1.heap.size, 4, none⟩ = some (.int .i64 ci.imm) := HC.out.bi.cell 4
                    have f5 : wr.cell? ⟨X1.heap.size, 5, none⟩ = some (.bool ci.aq) := HC.out.bi.cell 5
                    have f6 : wr.cell? ⟨X1.heap.size, 6, none⟩ = some (.bool ci.rl) := HC.out.bi.cell 6
                    go_wp2_with (first
                      | (refine wpList_load_row rfl 33 _ rfl X1.heap.size rfl 33 _ _ _ HC.out.bi Tryz.underlying33 rfl ins_info ?_)
                      | (go_at_call 11; refine (HT.out _ (Below.refl _ _)).mono ?_; clear HT; rintro e V ⟨rfl, dV⟩; replace HC := Lib.hid (HC.out.below dV); clear dV))
                    go_roundw
                    case rel => exact ⟨j + 1, by simp, by omega, Lib.hid (by rw [hR.out, hh]; rfl), Lib.hid HC.out.out⟩
                    case measure => simp [intOf]; omega
          · obtain rfl : j = 4 := by omega
            go_wp2_with fail
            go_roundw
            case rel =>
              exact ⟨k + 1, by simp, by omega, Lib.hid (hR.out.trans rfl), HO⟩
            case measure => simp [intOf]; omega
    · obtain rfl : k = 87 := by omega
      have hR' := Lib.hid (show R = none by rw [hR.out, parseFrom_end])
      clear hR
      go_wp2_with (first
        | (refine wpList_store_row rfl 33 _ _ rfl w.heap.size (⟨0, 0, 0, 0, 0, false, false⟩ : Ins).cells rfl rfl 33 _ HO.out.b ins_info (by kernel_rfl) (Ins.one _) ?_))
      exact parse_end HO.out rfl rfl rfl (by rw [hR'.out]; rfl)
end Go.Proofs.YtihcljaphajdfaaGreatDoor.Hand
