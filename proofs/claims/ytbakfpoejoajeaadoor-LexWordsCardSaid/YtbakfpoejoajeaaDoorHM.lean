/- DERIVED. DERIVED. The reference's run, skip, number and sign. -/
import Derived.Test.YtbakfpoejoajeaaDoorProg
import Derived.Test.YtbakfpoejoajeaaDoorMBits
import Derived.Test.YtbakfpoejoajeaaDoorMWalk
import Derived.Test.YtbakfpoejoajeaaDoorMArg
import Derived.Test.YtbakfpoejoajeaaDoorMRow
import Derived.Test.YtbakfpoejoajeaaDoorMOpen
import Derived.Test.YtbakfpoejoajeaaDoorMPart
import Derived.Test.YtbakfpoejoajeaaDoorHK
import Derived.Below
import Derived.Deep.Draws
import Derived.Deep.AppendLies
import Derived.Maps.AppendAt
import Derived.OwnWalk
import Derived.Laws.BytesArg
import Derived.Laws.MakeOwn
import Derived.Laws.OwnMore
import Derived.Deep.OwnRows
import Derived.Tactics
import Derived.Lib.ConvBytes
import Derived.Laws.Slices
import Derived.WalkKit
import Derived.KernelRfl
import Derived.RowKit3
import Derived.Deep.LoopGhost
import Derived.Deep.QuietTactic
import Derived.BigQuiet
import Derived.WideLaws
import Derived.Deep.DeepCutAuto
import Derived.Deep.CutBlock
import Derived.Deep.RegionHeld3
import Derived.Laws.Rows
import Derived.Lib.AppendStr
import Derived.ArgAppend
import Derived.Laws.IdiomCopy
import Derived.OrdersHeld
import Derived.Laws.BitsLemmas
import Derived.Laws.Bits64
import Derived.RowKit
import Derived.Outline
import Derived.Handy
import Derived.Lib.Hide
import Derived.Deep.Light
import Derived.Laws.CopyOwn
import Derived.Lib.QuietBelow
import Derived.Shelf.Strings.Prefix
import Derived.Shelf.Small.Strs
import Derived.Shelf.Strconv.AtoiAll
import Derived.Ground.NamesProg
import Derived.Lib.AtoiErrMem
namespace Go.Proofs.YtbakfpoejoajeaaDoor.Hand
open Go Go.RowKit Go.Proofs.YtbakfpoejoajeaaDoor.M
set_option linter.unusedVariables false
set_option linter.unusedSimpArgs false
attribute [local go_sem] Oper.semAt_some
def runP (d : Bool) (u : UInt8) : Bool := digitU u || (!d && letterU u)
theorem runP_part (u : UInt8) : runP false u = partU u := by unfold runP partU partB; rfl
theorem runP_digit (u : UInt8) : runP true u = digitU u := by unfold runP; simp
set_option maxRecDepth 100000 in
set_option maxHeartbeats 4000000 in
theorem run_any {A : Option Addr} {n c : Nat} {b : ByteArray} (w : World) (hA : ArgB w A n c b) (hs : b.size ≤ 281474976710656) (i : Nat) (hi : i ≤ b.size) (d : Bool) :
    Calls Tryd.prog 30 #[.slice A n c, .int .i64 i, .bool d] w fun e w' => e = .returned (.int .i64 (takeN (runP d) (b.toList.drop i))) ∧ w = w' := by
  have HA := Lib.hid hA
  have hn := hA.hn
  have hl := str_len b
  have HD := Lib.hid fun (c : Int) => rdigit_any c w
  have HL := Lib.hid fun (c : Int) => rletter_any c w
  obtain ⟨R, hR0⟩ : ∃ R, takeN (runP d) (b.toList.drop i) = R := ⟨_, rfl⟩
  rw [hR0]
  replace hR0 := Lib.hid hR0
  clear hA
  subst hn
  go_enter Tryd.func30, Tryd.ntmps30
  go_wp2_with fail
  go_loop [7] (fun v => ∃ k : Nat, v = .int .i64 k ∧ i + k ≤ b.size ∧ Hid (R = k + takeN (runP d) (b.toList.drop (i + k)))) (fun v => b.size - (intOf v).toNat)
  case atStart => exact ⟨0, rfl, by omega, Lib.hid (by rw [Nat.add_zero, hR0.out, Nat.zero_add])⟩
  case round =>
    obtain ⟨k, rfl, hk, hR⟩ := hrel
    by_cases hlt : i + k < b.size
    · have hlt2 : (i : Int) + k < b.size := by omega
      obtain ⟨ad, hAd, hc⟩ := HA.out.cell (i + k) hlt
      have hst := Lib.hid (show R = k + (if runP d b[i + k] = true then 1 + takeN (runP d) (b.toList.drop (i + k + 1)) else 0) by rw [hR.out, takeN_step _ _ _ (by omega), str_get b (i + k) hlt])
      have hP := Lib.hid (show runP d b[i + k] = (digitB (b[i + k].toNat : Int) || (!d && letterB (b[i + k].toNat : Int))) from rfl)
      generalize b[i + k] = u at *
      subst hAd
      clear hR
      cases hd : digitB (u.toNat : Int)
      · cases d
        · cases hq : letterB (u.toNat : Int)
          · have hRk : R = k := by rw [hst.out, hP.out, hd, hq]; rfl
            go_wp2_with (first | (go_at_call 31; refine (HD.out _).mono ?_; rintro e W ⟨rfl, rfl⟩; rw [hd]) | (go_at_call 29; refine (HL.out _).mono ?_; rintro e W ⟨rfl, rfl⟩; rw [hq]))
            go_ret
            exact ⟨by first | rfl | (rw [hRk]; rfl), rfl⟩
          · have hRk := Lib.hid (show R = k + 1 + takeN (runP false) (b.toList.drop (i + k + 1)) by rw [hst.out, hP.out, hd, hq]; simp; omega)
            go_wp2_with (first | (go_at_call 31; refine (HD.out _).mono ?_; rintro e W ⟨rfl, rfl⟩; rw [hd]) | (go_at_call 29; refine (HL.out _).mono ?_; rintro e W ⟨rfl, rfl⟩; rw [hq]))
            go_round
            case rel => exact ⟨k + 1, by go_num, by omega, hRk⟩
            case measure => simp [intOf]; omega
        · have hRk : R = k := by rw [hst.out, hP.out, hd]; rfl
          go_wp2_with (first | (go_at_call 31; refine (HD.out _).mono ?_; rintro e W ⟨rfl, rfl⟩; rw [hd]))
          go_ret
          exact ⟨by first | rfl | (rw [hRk]; rfl), rfl⟩
      · have hRk := Lib.hid (show R = k + 1 + takeN (runP d) (b.toList.drop (i + k + 1)) by rw [hst.out, hP.out, hd]; simp; omega)
        go_wp2_with (first | (go_at_call 31; refine (HD.out _).mono ?_; rintro e W ⟨rfl, rfl⟩; rw [hd]))
        go_round
        case rel => exact ⟨k + 1, by go_num, by omega, hRk⟩
        case measure => simp [intOf]; omega
    · have hlt2 : ¬ (i : Int) + k < b.size := by omega
      have hRk : R = k := by rw [hR.out, takeN_end _ _ _ (by omega)]; rfl
      go_wp2_with fail
      go_ret
      exact ⟨by first | rfl | (rw [hRk]; rfl), rfl⟩
set_option maxRecDepth 100000 in
set_option maxHeartbeats 4000000 in
theorem rskip_any {A : Option Addr} {n c : Nat} {b : ByteArray} (w : World) (hA : ArgB w A n c b) (hs : b.size ≤ 281474976710656) (i : Nat) (hi : i ≤ b.size) :
    Calls Tryd.prog 18 #[.slice A n c, .int .i64 i] w fun e w' => e = .returned (.int .i64 ((i + skipF false (b.toList.drop i) : Nat) : Int)) ∧ w = w' := by
  have HA := Lib.hid hA
  have hn := hA.hn
  have hl := str_len b
  obtain ⟨R, hR0⟩ : ∃ R, i + skipF false (b.toList.drop i) = R := ⟨_, rfl⟩
  rw [hR0]
  replace hR0 := Lib.hid hR0
  clear hA
  subst hn
  go_enter Tryd.func18, Tryd.ntmps18
  go_wp2_with fail
  go_loop [1, 5] (fun v cm => ∃ (k : Nat) (d : Bool), v = .int .i64 k ∧ cm = .bool d ∧ k ≤ b.size ∧ Hid (R = k + skipF d (b.toList.drop k))) (fun v _ => b.size - (intOf v).toNat)
  case atStart => exact ⟨i, false, rfl, rfl, hi, Lib.hid hR0.out.symm⟩
  case round =>
    obtain ⟨k, d, rfl, rfl, hk, hR⟩ := hrel
    by_cases hlt : k < b.size
    · have hlt2 : (k : Int) < b.size := by omega
      obtain ⟨ad, hAd, hc⟩ := HA.out.cell k hlt
      have hdr := Lib.hid (show b.toList.drop k = b[k] :: b.toList.drop (k + 1) by rw [List.drop_eq_getElem_cons (by omega), str_get b k hlt])
      rw [hdr.out] at hR
      generalize b[k] = u at *
      have hU := Lib.hid fun v : UInt8 => u8_eq u v
      obtain ⟨z, hz⟩ : ∃ z, (u.toNat : Int) = z := ⟨_, rfl⟩
      rw [hz] at hc hU
      subst hAd
      clear hdr
      by_cases q1 : z = 10
      · have hu : u = 10 := (hU.out 10).1 q1
        have hRk := Lib.hid (show R = k + 1 + skipF false (b.toList.drop (k + 1)) by
          rw [hR.out, hu]
          cases d <;> (conv => lhs; unfold skipF)
          · rw [if_pos (by decide)]; omega
          · rw [if_pos rfl]; omega)
        subst q1
        clear hz hU hR
        go_wp2_with fail
        go_round
        case rel => exact ⟨k + 1, false, by go_num, rfl, by omega, hRk⟩
        case measure => simp [intOf]; omega
      · have hn10 : u ≠ 10 := fun e => q1 ((hU.out 10).2 e)
        have hq1 : (z == 10) = false := by simpa using q1
        by_cases q2 : z = 35
        · have hu : u = 35 := (hU.out 35).1 q2
          have hRk := Lib.hid (show R = k + 1 + skipF true (b.toList.drop (k + 1)) by
            rw [hR.out, hu]
            cases d <;> (conv => lhs; unfold skipF)
            · rw [if_neg (by decide), if_pos rfl]; omega
            · rw [if_neg (by decide)]; omega)
          subst q2
          clear hz hU hR
          go_wp2_with fail
          go_round
          case rel => exact ⟨k + 1, true, by go_num, rfl, by omega, hRk⟩
          case measure => simp [intOf]; omega
        · have hn35 : u ≠ 35 := fun e => q2 ((hU.out 35).2 e)
          have hq2 : (z == 35) = false := by simpa using q2
          cases d
          · by_cases q3 : z = 32
            · have hu : u = 32 := (hU.out 32).1 q3
              have hRk := Lib.hid (show R = k + 1 + skipF false (b.toList.drop (k + 1)) by
                rw [hR.out, hu]
                conv => lhs; unfold skipF
                rw [if_pos (by decide)]; omega)
              subst q3
              clear hz hU hR
              go_wp2_with fail
              go_round
              case rel => exact ⟨k + 1, false, by go_num, rfl, by omega, hRk⟩
              case measure => simp [intOf]; omega
            · by_cases q4 : z = 9
              · have hu : u = 9 := (hU.out 9).1 q4
                have hRk := Lib.hid (show R = k + 1 + skipF false (b.toList.drop (k + 1)) by
                  rw [hR.out, hu]
                  conv => lhs; unfold skipF
                  rw [if_pos (by decide)]; omega)
                subst q4
                clear hz hU hR
                go_wp2_with fail
                go_round
                case rel => exact ⟨k + 1, false, by go_num, rfl, by omega, hRk⟩
                case measure => simp [intOf]; omega
              · by_cases q5 : z = 13
                · have hu : u = 13 := (hU.out 13).1 q5
                  have hRk := Lib.hid (show R = k + 1 + skipF false (b.toList.drop (k + 1)) by
                    rw [hR.out, hu]
                    conv => lhs; unfold skipF
                    rw [if_pos (by decide)]; omega)
                  subst q5
                  clear hz hU hR
                  go_wp2_with fail
                  go_round
                  case rel => exact ⟨k + 1, false, by go_num, rfl, by omega, hRk⟩
                  case measure => simp [intOf]; omega
                · have hsp : spaceU u = false := by
                    have h1 : u ≠ 32 := fun e => q3 ((hU.out 32).2 e)
                    have h2 : u ≠ 9 := fun e => q4 ((hU.out 9).2 e)
                    have h3 : u ≠ 13 := fun e => q5 ((hU.out 13).2 e)
                    unfold spaceU
                    simp [h1, h2, h3, hn10]
                  have hRk : R = k := by
                    rw [hR.out]
                    conv => lhs; unfold skipF
                    rw [if_neg (by rw [hsp]; simp), if_neg hn35, Nat.add_zero]
                  have hq3 : (z != 32) = true := by simpa using q3
                  have hq4 : (z != 9) = true := by simpa using q4
                  have hq5 : (z != 13) = true := by simpa using q5
                  clear hz hU hR
                  go_wp2_with fail
                  go_ret
                  exact ⟨by first | rfl | (rw [hRk]; rfl), rfl⟩
          · have hRk := Lib.hid (show R = k + 1 + skipF true (b.toList.drop (k + 1)) by
              rw [hR.out]
              conv => lhs; unfold skipF
              rw [if_neg hn10]; omega)
            clear hz hU hR
            go_wp2_with fail
            go_round
            case rel => exact ⟨k + 1, true, by go_num, rfl, by omega, hRk⟩
            case measure => simp [intOf]; omega
    · have hlt2 : ¬ (k : Int) < b.size := by omega
      have hRk : R = k := by
        rw [hR.out, List.drop_of_length_le (by omega)]
        cases d <;> rfl
      go_wp2_with fail
      go_ret
      exact ⟨by first | rfl | (rw [hRk]; rfl), rfl⟩
set_option maxRecDepth 100000 in
set_option maxHeartbeats 4000000 in
theorem number_any (s : ByteArray) (w : World) (hs : s.size ≤ 281474976710656) (hd : s.toList.all digitU = true) :
    Calls Tryd.prog 32 #[.string s] w fun e w' => w = w' ∧ ((valOf 0 s.toList ≤ 2305843009213693951 ∧ e = .returned (.tuple #[.int .i64 (valOf 0 s.toList : Nat), .bool true])) ∨ (2305843009213693951 < valOf 0 s.toList ∧ e = .returned (.tuple #[.int .i64 0, .bool false]))) := by
  have hl := str_len s
  have hall := Lib.hid fun (k : Nat) (h : k < s.size) => (digitU_iff s[k]).1 (by
    rw [← str_get s k h]
    exact List.all_eq_true.1 hd _ (List.getElem_mem _))
  obtain ⟨V, hV⟩ : ∃ V, valOf 0 s.toList = V := ⟨_, rfl⟩
  rw [hV]
  replace hV := Lib.hid hV
  clear hd
  go_enter Tryd.func32, Tryd.ntmps32
  go_wp2_with fail
  go_loop [4, 5] (fun v i => ∃ (N k : Nat), v = .int .i64 N ∧ i = .int .i64 k ∧ k ≤ s.size ∧ N ≤ 2305843009213693951 ∧ Hid (V = valOf N (s.toList.drop k))) (fun _ i => s.size - (intOf i).toNat)
  case atStart => exact ⟨0, 0, rfl, rfl, by omega, by omega, Lib.hid hV.out.symm⟩
  case round =>
    obtain ⟨N, k, rfl, rfl, hk, hN, hR⟩ := hrel
    by_cases hlt : k < s.size
    · have hdr := Lib.hid (show s.toList.drop k = s[k] :: s.toList.drop (k + 1) by rw [List.drop_eq_getElem_cons (by omega), str_get s k hlt])
      rw [hdr.out] at hR
      have hdg := hall.out k hlt
      obtain ⟨d, hud⟩ : ∃ d : Nat, s[k].toNat = 48 + d := ⟨s[k].toNat - 48, by omega⟩
      have hd9 : d ≤ 9 := by omega
      have hR2 := Lib.hid (show V = valOf (N * 10 + d) (s.toList.drop (k + 1)) by rw [hR.out]; show valOf (N * 10 + (s[k].toNat - 48)) _ = _; rw [hud, Nat.add_sub_cancel_left])
      have hsub : ((s[k].toNat : Int) - 48) % 256 = (d : Int) := by omega
      have hmon := valOf_le (s.toList.drop (k + 1)) (N * 10 + d)
      rw [← hR2.out] at hmon
      clear hR hdg hdr hud
      by_cases hc : (2305843009213693951 - (d : Int)) / 10 < N
      · go_wp2_with fail
        go_ret2
        exact ⟨rfl, .inr ⟨by omega, rfl⟩⟩
      · go_wp2_with fail
        go_round
        case rel => exact ⟨N * 10 + d, k + 1, by simp; omega, by simp, by omega, by omega, hR2⟩
        case measure => simp [intOf]; omega
    · have hVN := Lib.hid (show V = N by rw [hR.out, List.drop_of_length_le (by omega)]; rfl)
      go_wp2_with fail
      go_ret2
      rw [hVN.out]
      exact ⟨rfl, .inl ⟨hN, rfl⟩⟩
def signs : List UInt8 := [40, 41, 123, 125, 44, 59, 61, 43, 45, 42, 60]
def signN (l : List UInt8) (c : UInt8) : Nat := if Lib.hasPrefix l [61, 61] = true then 2 else if signs.any (· == c) = true then 1 else 0
theorem indexByte_any (c : UInt8) : ∀ l : List UInt8, (0 ≤ Lib.indexByte l c ↔ l.any (· == c) = true)
  | [] => by
    show (0 : Int) ≤ -1 ↔ false = true
    simp
  | b :: l => by
    have ih := indexByte_any c l
    have hg := Lib.indexByte_ge l c
    unfold Lib.indexByte
    rw [List.any_cons, Bool.or_eq_true]
    by_cases h : (b == c) = true
    · rw [if_pos h]; simp [h]
    · rw [if_neg h]
      by_cases h2 : Lib.indexByte l c = -1
      · rw [if_pos (by simpa using h2)]
        rw [h2] at ih
        constructor
        · intro h3; omega
        · rintro (h3 | h3)
          · exact absurd h3 h
          · exact absurd (ih.2 h3) (by omega)
      · rw [if_neg (by simpa using h2)]
        constructor
        · intro _; exact .inr (ih.1 (by omega))
        · intro _; omega
theorem pre_get (b : ByteArray) (i : Nat) (hi : i < b.size) : Lib.hasPrefix (b.toList.drop i) [61, 61] = (b[i] == 61 && (if h : i + 1 < b.size then b[i + 1] == 61 else false)) := by
  rw [List.drop_eq_getElem_cons (show i < b.toList.length by rw [str_len]; exact hi), str_get b i hi]
  by_cases h : i + 1 < b.size
  · rw [dif_pos h, List.drop_eq_getElem_cons (show i + 1 < b.toList.length by rw [str_len]; exact h), str_get b (i + 1) h]
    show List.isPrefixOf [61, 61] (_ :: _ :: _) = _
    simp only [List.isPrefixOf, Bool.and_true]
    rw [show ((61 : UInt8) == b[i]) = (b[i] == 61) from Bool.beq_comm, show ((61 : UInt8) == b[i + 1]) = (b[i + 1] == 61) from Bool.beq_comm]
  · rw [dif_neg h, List.drop_of_length_le (by rw [str_len]; omega)]
    show List.isPrefixOf [61, 61] [_] = _
    simp [List.isPrefixOf]
set_option maxRecDepth 100000 in
set_option maxHeartbeats 4000000 in
theorem sign_any {A : Option Addr} {n c : Nat} {b : ByteArray} (w : World) (hA : ArgB w A n c b) (hs : b.size ≤ 281474976710656) (i : Nat) (hi : i < b.size) :
    Calls Tryd.prog 33 #[.slice A n c, .int .i64 i] w fun e w' => e = .returned (.int .i64 (signN (b.toList.drop i) b[i])) ∧ w = w' := by
  have hn := hA.hn
  obtain ⟨ad, hAd, hc0⟩ := hA.cell i hi
  have hpg := pre_get b i hi
  have hU := Lib.hid fun v : UInt8 => u8_eq b[i] v
  obtain ⟨R, hR⟩ : ∃ R, signN (b.toList.drop i) b[i] = R := ⟨_, rfl⟩
  rw [hR]
  unfold signN at hR
  rw [hpg] at hR
  clear hpg
  have h1 := Lib.hid fun (h : i + 1 < b.size) => hA.cell (i + 1) h
  have hU1 := Lib.hid fun (h : i + 1 < b.size) => u8_eq b[i + 1] 61
  subst hn
  subst hAd
  by_cases hpre : (b[i] == 61 && (if h : i + 1 < b.size then b[i + 1] == 61 else false)) = true
  · rw [if_pos hpre] at hR
    rw [Bool.and_eq_true] at hpre
    obtain ⟨hp1, hp2⟩ := hpre
    have hp1 : b[i] = 61 := by simpa using hp1
    have hlt : i + 1 < b.size := by
      by_cases h : i + 1 < b.size
      · exact h
      · rw [dif_neg h] at hp2; simp at hp2
    rw [dif_pos hlt] at hp2
    have hp2 : b[i + 1] = 61 := by simpa using hp2
    obtain ⟨ad', e, hc1⟩ := h1.out hlt
    injection e with e
    subst e
    rw [hp2] at hc1
    rw [hp1] at hc0
    have hc0 : w.cell? (ad.add i) = some (.int .u8 61) := hc0
    have hc1 : w.cell? (ad.add (i + 1)) = some (.int .u8 61) := hc1
    unfold Addr.add at hc1
    rw [if_neg (by omega)] at hc1
    have hlt2 : (i : Int) + 1 < b.size := by omega
    subst hR
    clear hp1 hp2 hU hU1 h1
    go_enter Tryd.func33, Tryd.ntmps33
    go_wp2_with fail
    go_ret
    exact ⟨rfl, rfl⟩
  · rw [if_neg hpre] at hR
    have hR0 := Lib.hid (show R = if (signs.drop 0).any (· == b[i]) = true then 1 else 0 from hR.symm)
    have hsg : (⟨#[40, 41, 123, 125, 44, 59, 61, 43, 45, 42, 60]⟩ : ByteArray).toList = signs := by rw [ByteArray.toList_eq]; rfl
    have hpass : b[i] ≠ 61 ∨ (b[i] = 61 ∧ ¬ i + 1 < b.size) ∨ (b[i] = 61 ∧ ∃ h : i + 1 < b.size, b[i + 1] ≠ 61) := by
      by_cases h61 : b[i] = 61
      · by_cases hlt : i + 1 < b.size
        · right; right
          refine ⟨h61, hlt, fun e => hpre ?_⟩
          rw [dif_pos hlt, h61, e]; rfl
        · exact .inr (.inl ⟨h61, hlt⟩)
      · exact .inl h61
    clear hR hpre
    generalize b[i] = u at *
    obtain ⟨z, hz⟩ : ∃ z, (u.toNat : Int) = z := ⟨_, rfl⟩
    rw [hz] at hc0 hU
    have hzu := Lib.hid hz
    clear hz
    have hpass2 : ((z == 61) = false) ∨ (z = 61 ∧ ¬ (i : Int) + 1 < b.size) ∨ (z = 61 ∧ (i : Int) + 1 < b.size ∧ ∃ y : Int, w.cell? ⟨ad.block, ad.off + (i + 1), none⟩ = some (.int .u8 y) ∧ (y == 61) = false) := by
      rcases hpass with h | ⟨h, hl⟩ | ⟨h, hl, hy⟩
      · left
        simp only [beq_eq_false_iff_ne, ne_eq]
        intro e
        exact h ((hU.out 61).1 e)
      · exact .inr (.inl ⟨(hU.out 61).2 h, by omega⟩)
      · obtain ⟨ad', e, hc1⟩ := h1.out hl
        injection e with e
        subst e
        unfold Addr.add at hc1
        rw [if_neg (by omega)] at hc1
        refine .inr (.inr ⟨(hU.out 61).2 h, by omega, _, hc1, ?_⟩)
        simp only [beq_eq_false_iff_ne, ne_eq]
        intro e
        exact hy ((hU1.out hl).1 e)
    clear hpass h1 hU1
    have hgo : ∀ (k : Nat) (hk : k < signs.length), (⟨#[40, 41, 123, 125, 44, 59, 61, 43, 45, 42, 60]⟩ : ByteArray).size = 11 ∧ (((signs[k].toNat : Int) == z) = (signs[k] == u)) := fun k hk => by
      refine ⟨rfl, ?_⟩
      rw [Bool.eq_iff_iff, beq_iff_eq, beq_iff_eq, ← hzu.out]
      exact u8_eq _ _
    replace hgo := Lib.hid hgo
    replace hsg := Lib.hid hsg
    rcases hpass2 with hz1 | ⟨rfl, hz1⟩ | ⟨rfl, hz1, y, hy1, hy2⟩
    all_goals
      go_enter Tryd.func33, Tryd.ntmps33
      go_wp2_with fail
      generalize hsb : (⟨#[40, 41, 123, 125, 44, 59, 61, 43, 45, 42, 60]⟩ : ByteArray) = sb at *
      have hsz : sb.size = 11 := by rw [← hsb]; rfl
      clear hsb
      go_loop [7] (fun v => ∃ k : Nat, v = .int .i64 k ∧ k ≤ 11 ∧ Hid (R = if (signs.drop k).any (· == u) = true then 1 else 0)) (fun v => 11 - (intOf v).toNat)
      case atStart => exact ⟨0, rfl, by omega, hR0⟩
      case round =>
        obtain ⟨k, rfl, hk, hR⟩ := hrel
        by_cases hlt : k < 11
        · have hks : k < sb.size := by omega
          have hk2 : k < signs.length := hlt
          have hgk := (hgo.out k hk2).2
          have hsk : sb[k] = signs[k] := by
            rw [← str_get sb k hks]
            have : ∀ (l : List UInt8) (h : k < l.length), l = signs → l[k] = signs[k] := fun l h e => by subst e; rfl
            exact this _ _ hsg.out
          have hR2 := Lib.hid (show R = if (signs[k] == u || (signs.drop (k + 1)).any (· == u)) = true then 1 else 0 by rw [hR.out, List.drop_eq_getElem_cons hk2, List.any_cons])
          rw [← hsk] at hgk hR2
          clear hR hsk
          cases hb : (sb[k] == u)
          · rw [hb] at hgk hR2
            rw [Bool.false_or] at hR2
            go_wp2_with fail
            go_round
            case rel => exact ⟨k + 1, by go_num, by omega, hR2⟩
            case measure => simp [intOf]; omega
          · rw [hb] at hgk hR2
            go_wp2_with fail
            go_ret
            exact ⟨by rw [hR2.out]; rfl, rfl⟩
        · go_wp2_with fail
          go_ret
          exact ⟨by rw [hR.out, List.drop_of_length_le (show signs.length ≤ k by exact Nat.le_of_not_lt hlt)]; rfl, rfl⟩
end Go.Proofs.YtbakfpoejoajeaaDoor.Hand
