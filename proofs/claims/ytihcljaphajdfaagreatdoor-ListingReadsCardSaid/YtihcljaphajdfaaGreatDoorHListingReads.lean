/- DERIVED. DERIVED. ListingReads: the walk of the law. -/
import Derived.Test.YtihcljaphajdfaaGreatDoorProg
import Derived.Test.YtihcljaphajdfaaGreatDoorMBits
import Derived.Test.YtihcljaphajdfaaGreatDoorMWalk
import Derived.Test.YtihcljaphajdfaaGreatDoorMTab
import Derived.Test.YtihcljaphajdfaaGreatDoorMInst
import Derived.Test.YtihcljaphajdfaaGreatDoorMDec
import Derived.Test.YtihcljaphajdfaaGreatDoorMDec2
import Derived.Test.YtihcljaphajdfaaGreatDoorMQTail
import Derived.Test.YtihcljaphajdfaaGreatDoorMArg
import Derived.Test.YtihcljaphajdfaaGreatDoorMRow
import Derived.Test.YtihcljaphajdfaaGreatDoorMOpen
import Derived.Test.YtihcljaphajdfaaGreatDoorMPart
import Derived.Test.YtihcljaphajdfaaGreatDoorMStore
import Derived.Test.YtihcljaphajdfaaGreatDoorMReg
import Derived.Test.YtihcljaphajdfaaGreatDoorHZ
import Derived.Test.YtihcljaphajdfaaGreatDoorMQTwo
import Derived.Test.YtihcljaphajdfaaGreatDoorMQTail
import Derived.Test.YtihcljaphajdfaaGreatDoorMQOne
import Derived.Test.YtihcljaphajdfaaGreatDoorMQPick
import Derived.Test.YtihcljaphajdfaaGreatDoorMReg
import Derived.Test.YtihcljaphajdfaaGreatDoorMStore
import Derived.Test.YtihcljaphajdfaaGreatDoorPAllx2
import Derived.Test.YtihcljaphajdfaaGreatDoorPAllx4
import Derived.Test.YtihcljaphajdfaaGreatDoorPAllx8
import Derived.Test.YtihcljaphajdfaaGreatDoorPAllx9
import Derived.Test.YtihcljaphajdfaaGreatDoorPAllx10
import Derived.Below
import Derived.Deep.Draws
import Derived.Deep.AppendLies
import Derived.Maps.AppendAt
import Derived.OwnWalk
import Derived.Laws.BytesArg
import Derived.Laws.MakeOwn
import Derived.Laws.OwnMore
import Derived.Deep.OwnRows
import Derived.Tactics
import Derived.Lib.ConvBytes
import Derived.Laws.Slices
import Derived.WalkKit
import Derived.KernelRfl
import Derived.RowKit3
import Derived.Deep.LoopGhost
import Derived.Deep.QuietTactic
import Derived.BigQuiet
import Derived.WideLaws
import Derived.Deep.DeepCutAuto
import Derived.Deep.CutBlock
import Derived.Deep.RegionHeld3
import Derived.Laws.Rows
import Derived.Lib.AppendStr
import Derived.ArgAppend
import Derived.Laws.IdiomCopy
import Derived.OrdersHeld
import Derived.Laws.BitsLemmas
import Derived.Laws.Bits64
import Derived.RowKit
import Derived.Outline
import Derived.Handy
import Derived.Lib.Hide
import Derived.Deep.Light
import Derived.Laws.CopyOwn
import Derived.Lib.ItoaLen
import Derived.Deep.CutRange
import Derived.StillTail
import Derived.Shelf.RegionOpen
import Derived.Lib.QuietBelow
import Derived.Lib.AppendIntMem
import Derived.Laws.AppendOwnNone
import Derived.Shelf.Strings.Prefix
import Derived.Shelf.Strings.Split
import Derived.Shelf.Strings.Cut
import Derived.Shelf.Strings.Builder1
import Derived.Shelf.Strconv.AtoiAll
import Derived.Shelf.Strconv.Itoa3
import Derived.Ground.NamesProg
import Derived.Lib.AtoiTie
import Derived.Lib.AtoiErrMem
import Derived.Shelf.Vars
namespace Go.Proofs.YtihcljaphajdfaaGreatDoor.Hand
open Go Go.RowKit Go.Proofs.YtihcljaphajdfaaGreatDoor.M Go.Proofs.YtihcljaphajdfaaGreatDoor.PAll Go.Proofs.YtihcljaphajdfaaGreatDoorW.PrintWords
set_option linter.unusedVariables false
set_option linter.unusedSimpArgs false
attribute [local go_sem] Oper.semAt_some
set_option maxRecDepth 100000 in
set_option maxHeartbeats 4000000 in
theorem Same_same (l : List Ins) (A B : Option Addr) (n c d : Nat) (w : World) (hl : l.length = n) (hn : n ≤ 1000000) (ra : InsRow w A l) (rb : InsRow w B l) :
    Calls Tryz.prog 9 #[.slice A n c, .slice B n d] w fun e w' => e = .returned (.bool true) ∧ Below w.heap.size w w' := by
  have RA := Lib.hid ra
  have RB := Lib.hid rb
  clear ra rb
  go_enter Tryz.func9, Tryz.ntmps9
  go_wp2_with fail
  go_loopw [5] (fun k wr => ∃ m : Nat, k = .int .i64 m ∧ m ≤ n ∧ Hid (Below w.heap.size w wr)) (fun k _ => n - (intOf k).toNat)
  case atStart => exact ⟨0, rfl, by omega, Lib.hid (Below.refl _ _)⟩
  case round =>
    obtain ⟨m, rfl, hm, D⟩ := hrel
    by_cases hlt : m < n
    · have hml : m < l.length := by omega
      have hne : l ≠ [] := by intro e; rw [e] at hml; simp at hml
      obtain ⟨a, rfl, ha, ca⟩ := (RA.out.below D.out) hne
      obtain ⟨b, rfl, hb, cb⟩ := (RB.out.below D.out) hne
      have HA := Lib.hid (ca m _ (List.getElem?_eq_getElem hml))
      have HB := Lib.hid (cb m _ (List.getElem?_eq_getElem hml))
      clear ca cb
      generalize l[m] = i at *
      have CA : Hid (∀ V, (∃ pp : Regrown, V = Sort.grow (redrawn wr pp.d) pp.os) → CellsAt V (a.add (m * 7)) i.cells) := Lib.hid fun V hV => by
        obtain ⟨pp, rfl⟩ := hV
        exact HA.out.below (by rw [block_add]; exact ha) (below_regrown wr pp.d pp.os)
      have CB : Hid (∀ V, (∃ pp : Regrown, V = Sort.grow (redrawn wr pp.d) pp.os) → CellsAt V (b.add (m * 7)) i.cells) := Lib.hid fun V hV => by
        obtain ⟨pp, rfl⟩ := hV
        exact HB.out.below (by rw [block_add]; exact hb) (below_regrown wr pp.d pp.os)
      go_upto_region 6 with fail
      refine wp_region_quiet_below (by kernel_rfl) (by kernel_rfl) ?_
      go_big_quiet_step (fail)
      go_big_quiet_step (fail)
      go_big_quiet_step (fail)
      refine wpQuiet_load rfl 33 (.tmp 19) rfl (a.add (m * 7)) rfl i.cells _ (fun V hV => CA.out V hV) Tryz.underlying33 rfl ins_info ?_
      unfold Ins.cells
      try simp only [List.getElem_toArray, List.getElem_cons_succ, List.getElem_cons_zero, Act.put, List.setIfInBounds_toArray, List.set_cons_succ, List.set_cons_zero]
      go_big_quiet_step (fail)
      go_big_quiet_step (fail)
      go_big_quiet_step (fail)
      refine wpQuiet_load rfl 33 (.tmp 23) rfl (b.add (m * 7)) rfl i.cells _ (fun V hV => CB.out V hV) Tryz.underlying33 rfl ins_info ?_
      unfold Ins.cells
      try simp only [List.getElem_toArray, List.getElem_cons_succ, List.getElem_cons_zero, Act.put, List.setIfInBounds_toArray, List.set_cons_succ, List.set_cons_zero]
      go_big_quiet_step (fail)
      refine wpQuiet_nil ?_
      intro _ hw'
      obtain ⟨⟨dq, osq⟩, hw''⟩ := hw'
      subst hw''
      replace D := Lib.hid (D.out.trans ((below_regrown wr dq osq).mono D.out.size))
      clear HA HB CA CB
      generalize Sort.grow (redrawn wr dq) osq = Y at *
      go_wp2_with fail
      go_roundw
      case rel => exact ⟨m + 1, by simp, by omega, D⟩
      case measure => simp [intOf]; omega
    · obtain rfl : m = n := by omega
      go_wp2_with fail
      go_ret
      exact ⟨rfl, D.out⟩
theorem readL_len : ∀ (ls : List (List UInt8 × Bool)) (n : Nat) (acc : List Ins), (readL ls n acc).1.length ≤ acc.length + ls.length
  | [], n, acc => by unfold readL; exact Nat.le_add_right _ _
  | (l, e) :: r, n, acc => by
    cases hp : parseR ⟨l.toArray⟩ with
    | none => rw [readL_no l e r n acc (.inl hp)]; exact Nat.zero_le _
    | some i =>
      cases e with
      | false => rw [readL_no l false r n acc (.inr rfl)]; exact Nat.zero_le _
      | true =>
        rw [readL_yes l r n acc i hp]
        have := readL_len r (n + 1) (acc ++ [i])
        rw [List.length_append, List.length_singleton] at this
        rw [List.length_cons]; omega
set_option maxRecDepth 100000 in
set_option maxHeartbeats 4000000 in
theorem reads_any (A : Option Addr) (n c : Nat) (l : List Ins) (s : ByteArray) (w : World) (hl : l.length = n) (hr : InsRow w A l) (hi : ∀ i ∈ l, i.Ok) (hL : LaidOk w) :
    Calls Tryz.prog 3 #[.slice A n c, .string s] w fun e w' => e = .returned (.bool true) ∧ Below w.heap.size w w' := by
  have hL' := Lib.hid hL
  have HR := Lib.hid hr
  have HI := Lib.hid hi
  clear hL hr hi
  have HV := Lib.hid fun (W : World) (d : Below w.heap.size w W) => lives_any W (hL'.out.below d)
  by_cases hb : 60 < n
  · go_enter Tryz.func3, Tryz.ntmps3
    go_wp2_with (go_at_call 4; refine (HV.out _ (Below.refl _ _)).mono ?_; clear HV; rintro e V ⟨rfl, dV⟩)
    go_ret
    exact ⟨rfl, dV⟩
  · by_cases hb2 : 2000 < s.size
    · go_enter Tryz.func3, Tryz.ntmps3
      go_wp2_with (go_at_call 4; refine (HV.out _ (Below.refl _ _)).mono ?_; clear HV; rintro e V ⟨rfl, dV⟩)
      go_ret
      exact ⟨rfl, dV⟩
    · have hn : n ≤ 60 := by omega
      have hsl := Lib.size_eq s
      have HP := Lib.hid (Read_any s.data.toList w (by omega) hL'.out)
      have HQ := Lib.hid fun (W : World) => rRead_any s W (by omega)
      rw [show (⟨s.data.toList.toArray⟩ : ByteArray) = s from rfl] at HP
      have hrl : (readR s.data.toList).1.length ≤ 1000000 := by
        have h1 := readL_len (linesOf s.data.toList) 0 []
        have h2 := (linesOf_small s.data.toList).1
        unfold readR
        rw [List.length_nil] at h1; omega
      generalize readR s.data.toList = R at *
      obtain ⟨is, k, e⟩ := R
      unfold ReadPost at HP HQ
      dsimp only at HP HQ hrl
      clear hsl
      go_enter Tryz.func3, Tryz.ntmps3
      go_upto_region 4 with (go_at_call 5; refine HP.out.mono ?_; clear HP; rintro e V ⟨A1, c1, rfl, r1, -, dV⟩)
      have D := Lib.hid dV
      have R1 := Lib.hid r1
      clear dV r1
      go_upto_region 5 with (go_at_call 6; refine (HQ.out _).mono ?_; clear HQ; rintro e V2 ⟨A2, c2, rfl, r2, -, dV⟩)
      replace D := Lib.hid (D.out.trans (dV.mono D.out.size))
      replace R1 := Lib.hid (R1.out.below dV)
      have R2 := Lib.hid r2
      clear dV r2
      have HA := Lib.hid fun (W : World) (d : Below w.heap.size w W) => Lines_any A n c l W hl (by omega) (HR.out.below d) HI.out (hL'.out.below d)
      have HB := Lib.hid fun (W : World) (d : Below w.heap.size w W) => rLines_any A n c l W hl (by omega) (HR.out.below d) HI.out
      have HS := Lib.hid fun (W : World) (a : InsRow W A1 is) (b : InsRow W A2 is) => Same_same is A1 A2 is.length c1 c2 W rfl hrl a b
      go_wp2_with (first
        | (go_at_call 7; refine (HA.out _ D.out).mono ?_; clear HA; rintro e V3 ⟨rfl, dV⟩; replace D := Lib.hid (D.out.trans (dV.mono D.out.size)); replace R1 := Lib.hid (R1.out.below dV); replace R2 := Lib.hid (R2.out.below dV); clear dV)
        | (go_at_call 8; refine (HB.out _ D.out).mono ?_; clear HB; rintro e V4 ⟨rfl, dV⟩; replace D := Lib.hid (D.out.trans (dV.mono D.out.size)); replace R1 := Lib.hid (R1.out.below dV); replace R2 := Lib.hid (R2.out.below dV); clear dV)
        | (go_at_call 9; refine (HS.out _ R1.out R2.out).mono ?_; clear HS; rintro e V5 ⟨rfl, dV⟩; replace D := Lib.hid (D.out.trans (dV.mono D.out.size)); clear dV)
        | (go_at_call 4; refine (HV.out _ D.out).mono ?_; clear HV; rintro e V6 ⟨rfl, dV⟩; replace D := Lib.hid (D.out.trans (dV.mono D.out.size))))
      go_ret
      exact ⟨rfl, D.out⟩
theorem ListingReads.all (A : Option Addr) (n c : Nat) (l : List Ins) (s : ByteArray) (w : World) (hL : LaidOk w) (hr : InsRow w A l) (hl : l.length = n) (hi : ∀ i ∈ l, i.Ok) (w1 : s.size ≤ 140737488351232) :
    Calls Tryz.prog 3 #[.slice A n c, .string s] w fun e w' => e = .returned (.bool true) ∧ Below w.heap.size w w' := reads_any A n c l s w hl hr hi hL
end Go.Proofs.YtihcljaphajdfaaGreatDoor.Hand
