/- DERIVED. What is stored in a memory is loaded, no other byte changes, and what is refused changes none: the law returns true for every input. -/
import Derived.Test.YtkdgkoedhfmonaaProg
import Derived.Test.YtkdgkoedhfmonaaMBits
import Derived.Test.YtkdgkoedhfmonaaMWalk
import Derived.Test.YtkdgkoedhfmonaaMArg
import Derived.Test.YtkdgkoedhfmonaaMMem
import Derived.Test.YtkdgkoedhfmonaaMMemK
import Derived.Test.YtkdgkoedhfmonaaHC
import Derived.Below
import Derived.Deep.Draws
import Derived.Deep.AppendLies
import Derived.Maps.AppendAt
import Derived.OwnWalk
import Derived.Laws.BytesArg
import Derived.Laws.MakeOwn
import Derived.Laws.OwnMore
import Derived.Deep.OwnRows
import Derived.Tactics
import Derived.Lib.ConvBytes
import Derived.Laws.Slices
import Derived.WalkKit
import Derived.KernelRfl
import Derived.RowKit3
import Derived.Deep.LoopGhost
import Derived.Deep.QuietTactic
import Derived.BigQuiet
import Derived.WideLaws
import Derived.Deep.DeepCutAuto
import Derived.Deep.CutBlock
import Derived.Deep.RegionHeld3
import Derived.Laws.Rows
import Derived.Lib.AppendStr
import Derived.ArgAppend
import Derived.Laws.IdiomCopy
import Derived.OrdersHeld
import Derived.Laws.BitsLemmas
import Derived.Laws.Bits64
import Derived.RowKit
import Derived.Outline
import Derived.Handy
import Derived.Lib.Hide
import Derived.Deep.Light
import Derived.Laws.CopyOwn
namespace Go.Proofs.Ytkdgkoedhfmonaa.Hand
open Go Go.RowKit Go.Proofs.Ytkdgkoedhfmonaa.M
set_option linter.unusedVariables false
set_option linter.unusedSimpArgs false
theorem keeps_k (a : Int) : ∃ k : Nat, 1 ≤ k ∧ k ≤ 200 ∧ wrap64 (1 + wrap64 ((IntKind.u64.wrap a).tmod 200)) = k := by
  have h := U64.wrap a
  generalize IntKind.u64.wrap a = u at *
  unfold U64 at h
  rw [Int.tmod_eq_emod_of_nonneg h.1]
  refine ⟨(1 + u % 200).toNat, by omega, by omega, ?_⟩
  unfold wrap64; omega
set_option maxHeartbeats 8000000 in
set_option maxRecDepth 100000 in
theorem MemoryKeeps.all (a0 : Int) (A1 : Option Addr) (n1 c1 : Nat) (z1 : List Int) (a2 a3 a4 a5 : Int) (w : World) (w0 : (Lit.int .i64 a0).wf = true) (w1 : IsRow .u8 w A1 n1 c1 z1) (y1 : n1 * 1 ≤ 140737488351232) (w2 : (Lit.int .u64 a2).wf = true) (w3 : (Lit.int .i64 a3).wf = true) (w4 : (Lit.int .u64 a4).wf = true) (w5 : (Lit.int .i64 a5).wf = true) :
    Calls Try.prog 3 #[.int .i64 a0, .slice A1 n1 c1, .int .u64 a2, .int .i64 a3, .int .u64 a4, .int .i64 a5] w fun e w' => e = .returned (.bool true) ∧ Below w.heap.size w w' := by
  have h2 := U64.of_wf w2
  have h3 := I64.of_wf w3
  have h4 := U64.of_wf w4
  clear w2 w3 w4 w5
  obtain ⟨k, k1, k2, hk⟩ := keeps_k a0
  go_enter Try.func3, Try.ntmps3
  go_wp2_with fail
  refine (New_ok w k _ rfl (by omega)).mono ?_
  rintro e W1 ⟨g, b, rfl, hM, hg, hb, hB1⟩
  have HM := Lib.hid hM
  have HB1 := Lib.hid hB1
  clear hM hB1
  by_cases hn : 200 < n1
  · go_wp2_with fail
    refine (postbaglaw05_lives.c _).mono ?_
    rintro e W2 ⟨rfl, hb2⟩
    have HB2 := Lib.hid hb2
    clear hb2
    go_wp2_with fail
    go_ret
    exact ⟨rfl, HB1.out.trans (HB2.out.mono HB1.out.size)⟩
  · obtain ⟨m, hm1, hm2, hm3⟩ : ∃ m : Nat, m ≤ n1 ∧ m ≤ k ∧ (k < n1 ∧ k = m ∨ n1 ≤ k ∧ n1 = m) := ⟨min n1 k, by omega, by omega, by omega⟩
    obtain ⟨ws, wl, wb⟩ := w1.src m hm1
    have hc : m ≤ c1 := by rcases w1 with ⟨_, h, _⟩ | ⟨x, _, h, _⟩ <;> omega
    have HP := Lib.hid (Put_n W1 g b _ 0 c1 m A1 _ wl HM.out ⟨by omega, by omega⟩ (Src.below ws HB1.out) wb (by omega))
    have bl1 : (putOf (List.replicate k 0) 0 (z1.take m)).length = k := by rw [putOf_length _ _ _ (by omega)]; simp
    generalize putOf (List.replicate k 0) 0 (z1.take m) = bs1 at *
    replace bl1 := Lib.hid bl1
    clear ws wl wb w1 HM
    rcases hm3 with ⟨c0, rfl⟩ | ⟨c0, rfl⟩
    all_goals (
      go_wp2_with fail
      refine HP.out.mono ?_
      rintro e W2 ⟨rfl, hM, hG⟩
      have HB2 := Lib.hid (below_grown HB1.out hG hb HB1.out.size)
      have HM2 := Lib.hid hM
      clear hM hG HP HB1
      go_wp2_with fail
      refine (Bytes_all W2 g b bs1 _ (by rw [bl1.out]) HM2.out (by rw [bl1.out]; omega)).mono ?_
      rintro e W3 ⟨q1, x1, rfl, hq1, hr1, hc1, hd⟩
      rw [bl1.out] at hc1
      simp only [bl1.out]
      have HM3 := Lib.hid (HM2.out.below hd)
      have HB3 := Lib.hid (HB2.out.trans (hd.mono HB2.out.size))
      have hqb : q1 ≠ b := by have := HM2.out.2.1.lt; omega
      have HC1 := Lib.hid hc1
      clear hc1 hd HM2 HB2
      have HS := Lib.hid (Store_any W3 g b bs1 a2 a3 a4 HM3.out h2 h3 h4)
      obtain ⟨E, hE⟩ : ∃ E, numE bs1.length a2 a3 = E := ⟨_, rfl⟩
      obtain ⟨bs2, hbs2⟩ : ∃ l, storeOf bs1 a2 a3 a4 = l := ⟨_, rfl⟩
      rw [hE, hbs2] at HS
      have bl2 := Lib.hid ((show bs2.length = bs1.length by rw [← hbs2, storeOf_length _ _ _ _ h2.1]).trans bl1.out)
      replace hE := Lib.hid hE
      replace hbs2 := Lib.hid hbs2
      go_wp2_with fail
      refine HS.out.mono ?_
      rintro e W4 ⟨rfl, hM, hG⟩
      have HB4 := Lib.hid (below_grown HB3.out hG hb HB3.out.size)
      have HM4 := Lib.hid hM
      have HC2 := Lib.hid (cells_far HC1.out hG hr1 hqb)
      replace hr1 := Nat.lt_of_lt_of_le hr1 hG.size
      clear hM hG HS HC1 HM3 HB3
      go_wp2_with fail
      refine (Bytes_all W4 g b bs2 _ (by rw [bl2.out]) HM4.out (by rw [bl2.out]; omega)).mono ?_
      rintro e W5 ⟨q2, x2, rfl, hq2, hr2, hc2, hd⟩
      rw [bl2.out] at hc2
      simp only [bl2.out]
      have HB5 := Lib.hid (HB4.out.trans (hd.mono HB4.out.size))
      have HC1 := Lib.hid (cells_below HC2.out hd hr1)
      have HC3 := Lib.hid hc2
      clear hc2 hd HC2 HM4 HB4 hr1 hq2 hr2
      go_wp2_with fail
      clear hm1 hm2 hc c0 hk hn y1 hg hb hqb hq1
      replace k1 := Lib.hid k1
      by_cases hE0 : E = 0
      · subst hE0
        obtain ⟨hs, ha, hp1, hp2⟩ := numE_ok.1 hE.out
        obtain ⟨p, rfl⟩ : ∃ p : Nat, a2 = p := ⟨a2.toNat, by have := h2.1; omega⟩
        obtain ⟨s, hs2⟩ : ∃ s : Nat, s = a3 := ⟨a3.toNat, by omega⟩
        subst hs2
        rw [bl1.out] at hp1 hp2
        have hs8 : s ≤ 8 := by omega
        have hps : p + s ≤ k := by omega
        have e2 := Lib.hid (show bs2 = splice bs1 p (lowBytes a4 s) by rw [← hbs2.out, storeOf_ok rfl hE.out])
        clear hs ha hp1 hp2 hE hbs2 h2 h3
        have hv := h4
        unfold U64 at hv
        go_loopw [20, 21, 81] (fun _ _ i wr => ∃ j : Nat, j ≤ k ∧ i = .int .i64 j ∧ ∃ d, wr = W5.drewN d) (fun _ _ i _ => k - (intOf i).toNat)
        case atStart => exact ⟨0, by omega, rfl, 0, rfl⟩
        case round =>
          obtain ⟨j, hj, rfl, d, rfl⟩ := hrel
          by_cases hlt : j < k
          · have x1 := HC1.out j hlt
            have x2 := HC3.out j hlt
            by_cases hin : p ≤ j ∧ j < p + s
            · obtain ⟨y1, y2⟩ := hin
              have ev : bs2.getD j 0 = a4 / 2 ^ (8 * (j - p)) % 256 := by
                rw [e2.out, List.getD_eq_getElem?_getD, splice_get _ _ _ (by rw [lowBytes_length, bl1.out]; exact hps), lowBytes_length, if_pos ⟨y1, y2⟩, lowBytes_get _ _ _ (by omega)]; rfl
              rw [ev] at x2
              clear ev
              have dd : decide ((j : Int) - p < s) = true := decide_eq_true (by omega)
              go_wp2
              go_quiet (fail)
              go_wp2
              go_roundw
              case rel => exact ⟨j + 1, by omega, by go_num, _, rfl⟩
              case measure => simp [intOf]; omega
            · have ev : bs2.getD j 0 = bs1.getD j 0 := by
                rw [e2.out, List.getD_eq_getElem?_getD, splice_get _ _ _ (by rw [lowBytes_length, bl1.out]; exact hps), lowBytes_length, if_neg hin, List.getD_eq_getElem?_getD]
              rw [ev] at x2
              clear ev
              by_cases y1 : p ≤ j
              · have y2 : p + s ≤ j := by omega
                have dd : decide ((j : Int) - p < s) = false := decide_eq_false (by omega)
                go_wp2
                go_quiet (fail)
                go_wp2
                go_roundw
                case rel => exact ⟨j + 1, by omega, by go_num, _, rfl⟩
                case measure => simp [intOf]; omega
              · have y2 : decide (p ≤ j) = false := decide_eq_false y1
                go_wp2
                go_quiet (fail)
                go_wp2
                go_roundw
                case rel => exact ⟨j + 1, by omega, by go_num, _, rfl⟩
                case measure => simp [intOf]; omega
          · obtain rfl : j = k := by omega
            go_wp2_with fail
            refine (postbaglaw05_lives.c _).mono ?_
            rintro e W6 ⟨rfl, hb2⟩
            have HB2 := Lib.hid hb2
            clear hb2
            go_wp2_with fail
            go_ret
            exact ⟨rfl, (below_drewN HB5.out d).trans (HB2.out.mono HB5.out.size)⟩
      · have e2 : bs2 = bs1 := by rw [← hbs2.out]; unfold storeOf; rw [hE.out, if_neg hE0]
        rw [e2] at HC3
        have d0 : (E == 0) = false := by simpa using hE0
        clear hE hbs2 h2 h3 h4 e2 hE0
        go_loopw [20, 21, 81] (fun _ _ i wr => ∃ j : Nat, j ≤ k ∧ i = .int .i64 j ∧ ∃ d, wr = W5.drewN d) (fun _ _ i _ => k - (intOf i).toNat)
        case atStart => exact ⟨0, by omega, rfl, 0, rfl⟩
        case round =>
          obtain ⟨j, hj, rfl, d, rfl⟩ := hrel
          by_cases hlt : j < k
          · have x1 := HC1.out j hlt
            have x2 := HC3.out j hlt
            go_wp2
            go_quiet (fail)
            go_wp2
            go_roundw
            case rel => exact ⟨j + 1, by omega, by go_num, _, rfl⟩
            case measure => simp [intOf]; omega
          · obtain rfl : j = k := by omega
            go_wp2_with fail
            refine (postbaglaw05_lives.c _).mono ?_
            rintro e W6 ⟨rfl, hb2⟩
            have HB2 := Lib.hid hb2
            clear hb2
            go_wp2_with fail
            go_ret
            exact ⟨rfl, (below_drewN HB5.out d).trans (HB2.out.mono HB5.out.size)⟩)
end Go.Proofs.Ytkdgkoedhfmonaa.Hand
