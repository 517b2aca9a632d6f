/- DERIVED. Bytes that are put are told, others stay, and a clone goes its own way: the law returns true for every input. -/
import Derived.Test.YtkdgkoedhfmonaaProg
import Derived.Test.YtkdgkoedhfmonaaMBits
import Derived.Test.YtkdgkoedhfmonaaMWalk
import Derived.Test.YtkdgkoedhfmonaaMArg
import Derived.Test.YtkdgkoedhfmonaaMMem
import Derived.Test.YtkdgkoedhfmonaaMMemK
import Derived.Test.YtkdgkoedhfmonaaHC
import Derived.Below
import Derived.Deep.Draws
import Derived.Deep.AppendLies
import Derived.Maps.AppendAt
import Derived.OwnWalk
import Derived.Laws.BytesArg
import Derived.Laws.MakeOwn
import Derived.Laws.OwnMore
import Derived.Deep.OwnRows
import Derived.Tactics
import Derived.Lib.ConvBytes
import Derived.Laws.Slices
import Derived.WalkKit
import Derived.KernelRfl
import Derived.RowKit3
import Derived.Deep.LoopGhost
import Derived.Deep.QuietTactic
import Derived.BigQuiet
import Derived.WideLaws
import Derived.Deep.DeepCutAuto
import Derived.Deep.CutBlock
import Derived.Deep.RegionHeld3
import Derived.Laws.Rows
import Derived.Lib.AppendStr
import Derived.ArgAppend
import Derived.Laws.IdiomCopy
import Derived.OrdersHeld
import Derived.Laws.BitsLemmas
import Derived.Laws.Bits64
import Derived.RowKit
import Derived.Outline
import Derived.Handy
import Derived.Lib.Hide
import Derived.Deep.Light
import Derived.Laws.CopyOwn
namespace Go.Proofs.Ytkdgkoedhfmonaa.Hand
open Go Go.RowKit Go.Proofs.Ytkdgkoedhfmonaa.M
set_option linter.unusedVariables false
set_option linter.unusedSimpArgs false
/-- Bytes of which the first j are greater by 1. -/
def incTo (bs : List Int) (j : Nat) : List Int := (bs.take j).map (fun x => (x + 1) % 256) ++ bs.drop j
theorem incTo_length (bs : List Int) (j : Nat) (h : j ≤ bs.length) : (incTo bs j).length = bs.length := by simp [incTo]; omega
theorem incTo_step (bs : List Int) (j : Nat) (h : j < bs.length) : storeOf (incTo bs j) j 1 (bs.getD j 0 + 1) = incTo bs (j + 1) := by
  have hl := incTo_length bs j (by omega)
  have hE : numE (incTo bs j).length j 1 = 0 := numE_ok.2 ⟨.inl rfl, by omega, by rw [hl]; omega, by rw [hl]; omega⟩
  unfold storeOf
  rw [if_pos hE]
  apply List.ext_getElem?
  intro i
  rw [splice_get _ _ _ (by rw [lowBytes_length, hl]; simp; omega)]
  simp only [lowBytes_length, Int.toNat_natCast, Int.toNat_one]
  by_cases h1 : i < j
  · rw [if_neg (by omega)]; unfold incTo
    rw [List.getElem?_append_left (by simp; omega), List.getElem?_append_left (by simp; omega), List.getElem?_map, List.getElem?_map, List.getElem?_take_of_lt h1, List.getElem?_take_of_lt (by omega)]
  · by_cases h2 : i = j
    · subst h2
      rw [if_pos ⟨by omega, by omega⟩]; unfold incTo
      rw [List.getElem?_append_left (by simp; omega), List.getElem?_map, List.getElem?_take_of_lt (by omega), Nat.sub_self, List.getElem?_eq_getElem h, List.getD_eq_getElem?_getD, List.getElem?_eq_getElem h]; simp [lowBytes]
    · rw [if_neg (by omega)]; unfold incTo
      rw [List.getElem?_append_right (by simp; omega), List.getElem?_append_right (by simp; omega), List.getElem?_drop, List.getElem?_drop]; congr 1; simp; omega
theorem incTo_ne (bs : List Int) (hb : Bytes bs) (h : 0 < bs.length) : incTo bs bs.length ≠ bs := by
  intro e
  have h0 := congrArg (fun l : List Int => l[0]?) e
  simp [incTo, List.getElem?_eq_getElem h] at h0
  have := hb bs[0] (List.getElem_mem h)
  omega
theorem bytes_ext {a b : ByteArray} (h : a.toList = b.toList) : a = b := by
  rw [ByteArray.toList_eq, ByteArray.toList_eq] at h
  exact ByteArray.ext (Array.ext' h)
theorem bytes_n (a m : Int) (hm : 0 < m ∧ m ≤ 1000) : ∃ k : Nat, (k : Int) < m ∧ (IntKind.u64.wrap a).tmod m = k := by
  have h := U64.wrap a
  generalize IntKind.u64.wrap a = u at *
  unfold U64 at h
  rw [Int.tmod_eq_emod_of_nonneg h.1]
  have h1 := Int.emod_nonneg u (show m ≠ 0 by omega)
  have h2 := Int.emod_lt_of_pos u hm.1
  exact ⟨(u % m).toNat, by omega, by omega⟩
set_option maxHeartbeats 8000000 in
set_option maxRecDepth 100000 in
theorem MemoryBytes.all (a0 a1 : Int) (A2 : Option Addr) (n2 c2 : Nat) (z2 : List Int) (a3 : Int) (w : World) (w0 : (Lit.int .i64 a0).wf = true) (w1 : (Lit.int .i64 a1).wf = true) (w2 : IsRow .u8 w A2 n2 c2 z2) (y2 : n2 * 1 ≤ 140737488351232) (w3 : (Lit.int .u8 a3).wf = true) :
    Calls Try.prog 5 #[.int .i64 a0, .int .i64 a1, .slice A2 n2 c2, .int .u8 a3] w fun e w' => e = .returned (.bool true) ∧ Below w.heap.size w w' := by
  clear w0 w1 w3
  obtain ⟨k, hk5, hk⟩ := bytes_n a0 500 (by omega)
  have hkw : wrap64 (k : Int) = k := by unfold wrap64; omega
  obtain ⟨p, hp6, hp⟩ := bytes_n a1 600 (by omega)
  go_enter Try.func5, Try.ntmps5
  go_wp2_with fail
  refine (New_ok w k _ rfl (by omega)).mono ?_
  rintro e W1 ⟨g, b, rfl, hM, hg, hb, hB1⟩
  have HM := Lib.hid hM
  have HB1 := Lib.hid hB1
  clear hM hB1 hk hkw
  by_cases hn : 500 < n2
  · go_wp2_with fail
    refine (postbaglaw05_lives.c _).mono ?_
    rintro e W2 ⟨rfl, hb2⟩
    have HB2 := Lib.hid hb2
    clear hb2
    go_wp2_with fail
    go_ret
    exact ⟨rfl, HB1.out.trans (HB2.out.mono HB1.out.size)⟩
  · obtain ⟨ws, wl, wb⟩ := w2.src n2 (Nat.le_refl _)
    generalize z2.take n2 = l at *
    have HP := Lib.hid (Put_n W1 g b _ p c2 n2 A2 _ wl HM.out ⟨by omega, by omega⟩ (Src.below ws HB1.out) wb (by omega))
    have WS := Lib.hid ws
    have WL := Lib.hid wl
    rw [List.length_replicate] at HP
    have hE : partE k p n2 = 0 ↔ p ≤ k ∧ n2 ≤ k - p := by rw [partE_ok]; omega
    have bl1 : (putOf (List.replicate k 0) p l).length = k := by rw [putOf_length _ _ _ (by omega)]; simp
    have hrd : partE k p n2 = 0 → readOf (putOf (List.replicate k 0) p l) p n2 = l := by rw [← wl]; intro h; exact readOf_putOf _ _ _ (by simpa using h)
    generalize putOf (List.replicate k 0) p l = bs1 at *
    generalize partE k p n2 = E at *
    replace bl1 := Lib.hid bl1
    replace hrd := Lib.hid hrd
    clear ws wl wb w2 HM y2
    have cs : (E = 0 ∧ p ≤ k ∧ n2 ≤ k - p) ∨ (E ≠ 0 ∧ k < p) ∨ (E ≠ 0 ∧ p ≤ k ∧ k - p < n2) := by omega
    clear hE
    rcases cs with cs | cs | cs
    all_goals first
      | (obtain ⟨rfl, h1, h2⟩ := cs; have h3 : decide ((n2 : Int) ≤ k - p) = true := decide_eq_true (by omega); replace hrd := Lib.hid (hrd.out rfl))
      | (obtain ⟨h0, h1⟩ := cs; have h2 : decide (p ≤ k) = false := decide_eq_false (by omega); have h3 : (E == 0) = false := (by simpa using h0); clear h0 hrd)
      | (obtain ⟨h0, h1, h2⟩ := cs; have h2 : decide ((n2 : Int) ≤ k - p) = false := decide_eq_false (by omega); have h3 : (E == 0) = false := (by simpa using h0); clear h0 hrd)
    all_goals (
      go_wp2_with fail
      refine HP.out.mono ?_
      rintro e W2 ⟨rfl, hM, hG⟩
      have HB2 := Lib.hid (below_grown HB1.out hG hb HB1.out.size)
      have HM2 := Lib.hid hM
      have WS2 := Lib.hid (show Src W2 A2 l from WS.out.below HB2.out)
      have hs12 := hG.size
      clear hM hG HP HB1 WS
      go_wp2_with fail
      refine (Clone_any W2 g b bs1 HM2.out).mono ?_
      rintro e W3 ⟨g2, b2, rfl, hC, hg2, hb2, hd⟩
      have HM3 := Lib.hid (HM2.out.below hd)
      have HC3 := Lib.hid hC
      have HB3 := Lib.hid (HB2.out.trans (hd.mono HB2.out.size))
      have WS3 := Lib.hid (WS2.out.below hd)
      have hgb : g < g2 ∧ g < b2 ∧ b < g2 ∧ b < b2 := by have := HM2.out.1.lt; have := HM2.out.2.1.lt; omega
      have hg2' : w.heap.size ≤ g2 ∧ w.heap.size ≤ b2 := by have := HB2.out.size; omega
      clear hd hC HM2 HB2 WS2 hs12 hg2 hb2
      go_wp2_with fail)
    all_goals first
      | (have HK := Lib.hid (Bytes_any W3 g2 b2 bs1 p n2 HC3.out ⟨by omega, by omega⟩ ⟨by omega, by omega⟩)
         rw [hrd.out, bl1.out, partE_ok.2 ⟨by omega, by omega, by omega⟩] at HK
         refine HK.out.mono ?_
         rintro e W4 ⟨A4, c4, rfl, ho, hd⟩
         have HMx := Lib.hid (HM3.out.below hd)
         have HCx := Lib.hid (HC3.out.below hd)
         have HBx := Lib.hid (HB3.out.trans (hd.mono HB3.out.size))
         have hcv := run_convert_src (P := Try.prog) W4 22 5 9 Try.underlying22 Try.underlying5 Try.underlying9 A4 l l.length c4 rfl (own_src ho).src
         have hcv2 := run_convert_src (P := Try.prog) W4 22 5 9 Try.underlying22 Try.underlying5 Try.underlying9 A2 l n2 c2 WL.out (WS3.out.below hd)
         generalize strOfNums l = sl at hcv hcv2
         clear ho hd HK HM3 HC3 HB3 WS3 hrd h3
         go_wp2_with fail)
      | (have HMx := HM3
         have HCx := HC3
         have HBx := HB3
         clear HM3 HC3 HB3 WS3)
    all_goals (
      refine (Bytes_all0 _ g b bs1 _ (by rw [bl1.out]) HMx.out).mono ?_
      rintro e W5 ⟨A5, c5, rfl, ho, hd⟩
      rw [bl1.out]
      have HM5 := Lib.hid (HMx.out.below hd)
      have HC5 := Lib.hid (HCx.out.below hd)
      have HB5 := Lib.hid (HBx.out.trans (hd.mono HBx.out.size))
      have HX := Lib.hid ho
      have hq := HCx.out.2.1.lt
      have hz5 := hd.size
      clear ho hd HMx HCx HBx
      go_wp2_with fail
      go_loopw [18, 94] (fun _ i wr => ∃ j : Nat, j ≤ k ∧ i = .int .i64 j ∧ Hid (MemAt wr g2 b2 (incTo bs1 j)) ∧ Hid (W5.grownBy wr (some b2))) (fun _ i _ => k - (intOf i).toNat)
      case atStart => exact ⟨0, by omega, rfl, Lib.hid (by simpa [incTo] using HC5.out), Lib.hid (World.grownBy.refl _ _)⟩
      case round =>
        obtain ⟨j, hj, rfl, hM, hG⟩ := hrel
        by_cases hlt : j < k
        · have hX := HX.out.far hG.out hq
          obtain ⟨ad, rfl, _, _, hc⟩ := hX (by intro e; have := bl1.out; rw [e] at this; simp at this; omega)
          have hc1 := hc j (bs1.getD j 0) (by rw [List.getElem?_eq_getElem (by rw [bl1.out]; exact hlt), List.getD_eq_getElem?_getD, List.getElem?_eq_getElem (by rw [bl1.out]; exact hlt)]; rfl)
          have hv := HM5.out.2.2.1 (bs1.getD j 0) (by rw [List.getD_eq_getElem?_getD, List.getElem?_eq_getElem (by rw [bl1.out]; exact hlt)]; exact List.getElem_mem _)
          have hst := incTo_step bs1 j (by rw [bl1.out]; exact hlt)
          clear hc
          generalize bs1.getD j 0 = v at *
          replace hst := Lib.hid hst
          go_wp2_with fail
          refine (Store_any _ g2 b2 _ j 1 (v + 1) hM.out ⟨by omega, by omega⟩ ⟨by omega, by omega⟩ ⟨by omega, by omega⟩).mono ?_
          rintro e W6 ⟨rfl, hM6, hG6⟩
          rw [hst.out] at hM6
          have HM6 := Lib.hid hM6
          have HG6 := Lib.hid (show W5.grownBy W6 (some b2) from ⟨hG6.os.trans hG.out.os, hG6.tape.trans hG.out.tape, hG6.output.trans hG.out.output, Nat.le_trans hG.out.size hG6.size, fun i hi hne => (hG6.block i (Nat.lt_of_lt_of_le hi hG.out.size) hne).trans (hG.out.block i hi hne)⟩)
          clear hM6 hG6 hX hM hG hc1
          go_wp2
          go_roundw
          case rel => exact ⟨j + 1, by omega, by go_num, HM6, HG6⟩
          case measure => simp [intOf]; omega
        · obtain rfl : j = k := by omega
          have HX6 := Lib.hid (HX.out.far hG.out hq)
          have HM6 := Lib.hid (HM5.out.far hG.out (by omega) (by omega))
          have HB6 := Lib.hid (below_grown HB5.out hG.out (by omega) HB5.out.size)
          clear HX HM5 HC5 HB5 hG
          go_wp2_with fail
          refine (Bytes_all0 _ g b bs1 _ (by rw [bl1.out]) HM6.out).mono ?_
          rintro e W7 ⟨A7, c7, rfl, ho, hd⟩
          rw [bl1.out]
          have HM7 := Lib.hid (HM6.out.below hd)
          have HC7 := Lib.hid (hM.out.below hd)
          have HB7 := Lib.hid (HB6.out.trans (hd.mono HB6.out.size))
          have HX7 := Lib.hid (HX6.out.below hd)
          have HY7 := Lib.hid ho
          clear ho hd HM6 hM HB6 HX6
          have hil : (incTo bs1 j).length = j := by rw [incTo_length _ _ (by rw [bl1.out]; exact Nat.le_refl _), bl1.out]
          replace hil := Lib.hid hil
          go_wp2_with fail
          refine (Bytes_all0 _ g2 b2 _ _ (by rw [hil.out]) HC7.out).mono ?_
          rintro e W8 ⟨A8, c8, rfl, ho, hd⟩
          rw [hil.out]
          have HM8 := Lib.hid (HM7.out.below hd)
          have HC8 := Lib.hid (HC7.out.below hd)
          have HB8 := Lib.hid (HB7.out.trans (hd.mono HB7.out.size))
          have q1 := run_convert_src (P := Try.prog) W8 22 5 9 Try.underlying22 Try.underlying5 Try.underlying9 _ bs1 j c5 bl1.out (HX7.out.below hd).src
          have q2 := run_convert_src (P := Try.prog) W8 22 5 9 Try.underlying22 Try.underlying5 Try.underlying9 A7 bs1 j c7 bl1.out (HY7.out.below hd).src
          have q3 := run_convert_src (P := Try.prog) W8 22 5 9 Try.underlying22 Try.underlying5 Try.underlying9 A8 (incTo bs1 j) j c8 hil.out ho.src
          have hne : 0 < j → ((strOfNums (incTo bs1 j)).toList == (strOfNums bs1).toList) = false := by
            intro h0
            rw [beq_eq_false_iff_ne]
            intro h
            have h : strOfNums (incTo bs1 j) = strOfNums bs1 := bytes_ext h
            have := strOfNums_inj HC7.out.2.2.1 HM7.out.2.2.1 h
            rw [← bl1.out] at this
            exact incTo_ne bs1 HM7.out.2.2.1 (by rw [bl1.out]; exact h0) this
          replace hne := Lib.hid hne
          generalize strOfNums bs1 = s1 at *
          generalize strOfNums (incTo bs1 j) = s2 at *
          have HL1 := Lib.hid (Len_any _ g b bs1 HM8.out)
          have HL2 := Lib.hid (Len_any _ g2 b2 _ HC8.out)
          rw [bl1.out] at HL1
          rw [hil.out] at HL2
          clear ho hd HX7 HY7 HM7 HC7 HB7 HM8 HC8
          by_cases h0 : j = 0
          · subst h0
            go_wp2_with (first | (go_at_call 12; with_reducible first | (refine HL1.out.mono ?_; rintro e w' ⟨rfl, rfl⟩) | (refine HL2.out.mono ?_; rintro e w' ⟨rfl, rfl⟩)) | fail)
            refine (postbaglaw05_lives.c _).mono ?_
            rintro e W9 ⟨rfl, hb2⟩
            have HB9 := Lib.hid hb2
            clear hb2
            go_wp2_with fail
            go_ret
            exact ⟨rfl, HB8.out.trans (HB9.out.mono HB8.out.size)⟩
          · have d0 : (j == 0) = false := by simpa using h0
            have d1 : ((j : Int) == 0) = false := by simpa using h0
            have hn1 := hne.out (by omega)
            clear h0
            go_wp2_with (first | (go_at_call 12; with_reducible first | (refine HL1.out.mono ?_; rintro e w' ⟨rfl, rfl⟩) | (refine HL2.out.mono ?_; rintro e w' ⟨rfl, rfl⟩)) | fail)
            refine (postbaglaw05_lives.c _).mono ?_
            rintro e W9 ⟨rfl, hb2⟩
            have HB9 := Lib.hid hb2
            clear hb2
            go_wp2_with fail
            go_ret
            exact ⟨rfl, HB8.out.trans (HB9.out.mono HB8.out.size)⟩)
end Go.Proofs.Ytkdgkoedhfmonaa.Hand
