/- DERIVED. DERIVED. The reference's digits, letters, keywords, names. -/
import Derived.Test.YtbakfpoejoajeaaDoorProg
import Derived.Test.YtbakfpoejoajeaaDoorMBits
import Derived.Test.YtbakfpoejoajeaaDoorMWalk
import Derived.Test.YtbakfpoejoajeaaDoorMArg
import Derived.Test.YtbakfpoejoajeaaDoorMRow
import Derived.Test.YtbakfpoejoajeaaDoorMOpen
import Derived.Test.YtbakfpoejoajeaaDoorMPart
import Derived.Test.YtbakfpoejoajeaaDoorHI
import Derived.Below
import Derived.Deep.Draws
import Derived.Deep.AppendLies
import Derived.Maps.AppendAt
import Derived.OwnWalk
import Derived.Laws.BytesArg
import Derived.Laws.MakeOwn
import Derived.Laws.OwnMore
import Derived.Deep.OwnRows
import Derived.Tactics
import Derived.Lib.ConvBytes
import Derived.Laws.Slices
import Derived.WalkKit
import Derived.KernelRfl
import Derived.RowKit3
import Derived.Deep.LoopGhost
import Derived.Deep.QuietTactic
import Derived.BigQuiet
import Derived.WideLaws
import Derived.Deep.DeepCutAuto
import Derived.Deep.CutBlock
import Derived.Deep.RegionHeld3
import Derived.Laws.Rows
import Derived.Lib.AppendStr
import Derived.ArgAppend
import Derived.Laws.IdiomCopy
import Derived.OrdersHeld
import Derived.Laws.BitsLemmas
import Derived.Laws.Bits64
import Derived.RowKit
import Derived.Outline
import Derived.Handy
import Derived.Lib.Hide
import Derived.Deep.Light
import Derived.Laws.CopyOwn
import Derived.Lib.QuietBelow
import Derived.Shelf.Strings.Prefix
import Derived.Shelf.Small.Strs
import Derived.Shelf.Strconv.AtoiAll
import Derived.Ground.NamesProg
import Derived.Lib.AtoiErrMem
namespace Go.Proofs.YtbakfpoejoajeaaDoor.Hand
open Go Go.RowKit Go.Proofs.YtbakfpoejoajeaaDoor.M
set_option linter.unusedVariables false
set_option linter.unusedSimpArgs false
attribute [local go_sem] Oper.semAt_some
theorem rdigit_any (c : Int) (w : World) : Calls Tryd.prog 31 #[.int .u8 c] w fun e w' => e = .returned (.bool (digitB c)) ∧ w = w' := by
  unfold digitB
  by_cases h1 : 48 ≤ c
  · by_cases h2 : c ≤ 57
    all_goals
      go_enter Tryd.func31, Tryd.ntmps31
      go_wp2_with fail
      go_ret
      exact ⟨by simp [h1, h2], rfl⟩
  · go_enter Tryd.func31, Tryd.ntmps31
    go_wp2_with fail
    go_ret
    exact ⟨by simp [h1]; omega, rfl⟩
theorem rletter_any (c : Int) (w : World) : Calls Tryd.prog 29 #[.int .u8 c] w fun e w' => e = .returned (.bool (letterB c)) ∧ w = w' := by
  unfold letterB
  by_cases h1 : 97 ≤ c
  · have g1 : 65 ≤ c := by omega
    have g2 : ¬ c ≤ 90 := by omega
    by_cases h2 : c ≤ 122
    · go_enter Tryd.func29, Tryd.ntmps29
      go_wp2_with fail
      go_ret
      exact ⟨by simp [h1, h2], rfl⟩
    · have g3 : (c == 95) = false := by simp; omega
      go_enter Tryd.func29, Tryd.ntmps29
      go_wp2_with fail
      go_ret
      exact ⟨by simp [h1, h2, g2, g3], rfl⟩
  · by_cases h3 : 65 ≤ c
    · by_cases h4 : c ≤ 90
      · go_enter Tryd.func29, Tryd.ntmps29
        go_wp2_with fail
        go_ret
        exact ⟨by simp [h1, h3, h4], rfl⟩
      · by_cases h5 : c = 95
        · subst h5
          go_enter Tryd.func29, Tryd.ntmps29
          go_wp2_with fail
          go_ret
          exact ⟨rfl, rfl⟩
        · have g3 : (c == 95) = false := by simpa using h5
          go_enter Tryd.func29, Tryd.ntmps29
          go_wp2_with fail
          go_ret
          exact ⟨by simp [h1, h4, g3]; omega, rfl⟩
    · have g3 : (c == 95) = false := by simp; omega
      go_enter Tryd.func29, Tryd.ntmps29
      go_wp2_with fail
      go_ret
      exact ⟨by simp [h1, h3, g3]; omega, rfl⟩
def wordB (l : List UInt8) : Bool := !(l == []) && (!headDigit l && l.all partU)
theorem nameB_word (l : List UInt8) : nameB l = (decide (l.length ≤ 32) && (wordB l && !kwB l)) := by
  unfold nameB wordB
  cases (l == []) <;> cases decide (l.length ≤ 32) <;> cases kwB l <;> cases headDigit l <;> cases l.all partU <;> rfl
theorem letter_not_digit (c : Int) (h : letterB c = true) : digitB c = false := by
  unfold letterB digitB at *
  simp only [Bool.or_eq_true, Bool.and_eq_true, decide_eq_true_eq, beq_iff_eq] at h
  simp only [Bool.and_eq_false_iff, decide_eq_false_iff_not]
  omega
theorem wordB_first (l : List UInt8) (h : 0 < l.length) : wordB l = (letterB (l[0].toNat : Int) && (l.drop 1).all partU) := by
  cases l with
  | nil => simp at h
  | cons c l =>
    show (!((c :: l) == []) && (!digitU c && (partU c && l.all partU))) = (letterB (c.toNat : Int) && l.all partU)
    unfold digitU partU partB
    have h1 : ((c :: l) == []) = false := rfl
    rw [h1]
    cases hl : letterB (c.toNat : Int)
    · cases digitB (c.toNat : Int) <;> simp
    · rw [letter_not_digit _ hl]; simp
set_option maxHeartbeats 4000000 in
theorem rword_any (s : ByteArray) (w : World) (hs : s.size ≤ 9223372036854775807) : Calls Tryd.prog 22 #[.string s] w fun e w' => e = .returned (.bool (wordB s.toList)) ∧ w = w' := by
  have HD := Lib.hid fun c => rdigit_any c w
  have HL := Lib.hid fun c => rletter_any c w
  have hl := str_len s
  obtain ⟨R, hR⟩ : ∃ R, wordB s.toList = R := ⟨_, rfl⟩
  rw [hR]
  have hE : Hid (s.size = 0 → R = false ∧ s.toList = []) := Lib.hid fun h => by
    have e : s.toList = [] := List.eq_nil_of_length_eq_zero (by omega)
    rw [← hR, e]
    exact ⟨rfl, rfl⟩
  have hF : Hid (∀ h : 0 < s.size, R = (letterB (s[0].toNat : Int) && (s.toList.drop 1).all partU)) := Lib.hid fun h => by
    rw [← hR, wordB_first _ (by omega), str_get s 0 h]
  clear hR
  go_enter Tryd.func22, Tryd.ntmps22
  go_wp2_with fail
  go_loop [3] (fun i => ∃ k : Nat, k ≤ s.size ∧ i = .int .i64 k ∧ Hid (k = 0 ∨ R = (s.toList.drop k).all partU)) (fun i => s.size - (intOf i).toNat)
  case atStart => exact ⟨0, by omega, rfl, Lib.hid (.inl rfl)⟩
  case round =>
    obtain ⟨k, hk, rfl, hR⟩ := hrel
    by_cases hlt : k < s.size
    · rcases Nat.eq_zero_or_pos k with h0 | h0
      · subst h0
        have hR2 := Lib.hid (hF.out hlt)
        clear hR
        cases hp : letterB (s[0].toNat : Int)
        · rw [hp] at hR2
          go_wp2_with (go_at_call 29; refine (HL.out _).mono ?_; clear HL; rintro e W ⟨rfl, rfl⟩; rw [hp])
          go_ret
          exact ⟨by rw [hR2.out]; rfl, rfl⟩
        · rw [hp, Bool.true_and] at hR2
          go_wp2_with (go_at_call 29; refine (HL.out _).mono ?_; rintro e W ⟨rfl, rfl⟩; rw [hp])
          go_round
          case rel => exact ⟨1, by omega, by go_num, Lib.hid (.inr hR2.out)⟩
          case measure => simp [intOf]; omega
      · have hR2 := Lib.hid (show R = (partB (s[k].toNat : Int) && (s.toList.drop (k + 1)).all partU) by
          rcases hR.out with h | h
          · omega
          · rw [h, all_drop _ _ k (by omega), str_get s k hlt]; rfl)
        clear hR
        have hk0 : ((k : Int) == 0) = false := by simp; omega
        cases hp : letterB (s[k].toNat : Int)
        · cases hq : digitB (s[k].toNat : Int)
          · go_wp2_with (first | (go_at_call 29; refine (HL.out _).mono ?_; rintro e W ⟨rfl, rfl⟩; rw [hp]) | (go_at_call 31; refine (HD.out _).mono ?_; rintro e W ⟨rfl, rfl⟩; rw [hq]))
            go_ret
            exact ⟨by rw [hR2.out]; unfold partB; rw [hp, hq]; rfl, rfl⟩
          · have hR3 := Lib.hid (show R = (s.toList.drop (k + 1)).all partU by rw [hR2.out]; unfold partB; rw [hp, hq]; rfl)
            go_wp2_with (first | (go_at_call 29; refine (HL.out _).mono ?_; rintro e W ⟨rfl, rfl⟩; rw [hp]) | (go_at_call 31; refine (HD.out _).mono ?_; rintro e W ⟨rfl, rfl⟩; rw [hq]))
            go_round
            case rel => exact ⟨k + 1, by omega, by go_num, Lib.hid (.inr hR3.out)⟩
            case measure => simp [intOf]; omega
        · have hR3 := Lib.hid (show R = (s.toList.drop (k + 1)).all partU by rw [hR2.out]; unfold partB; rw [hp]; simp)
          go_wp2_with (go_at_call 29; refine (HL.out _).mono ?_; rintro e W ⟨rfl, rfl⟩; rw [hp])
          go_round
          case rel => exact ⟨k + 1, by omega, by go_num, Lib.hid (.inr hR3.out)⟩
          case measure => simp [intOf]; omega
    · rcases Nat.eq_zero_or_pos s.size with h0 | h0
      · obtain ⟨hr, he⟩ := hE.out h0
        have hq : (s.toList == []) = true := by rw [he]; rfl
        go_wp2_with fail
        go_ret
        exact ⟨rfl, rfl⟩
      · have hq : (s.toList == []) = false := by
          cases hh : s.toList with
          | nil => rw [hh] at hl; simp at hl; omega
          | cons c l => rfl
        have hR3 : R = true := by
          rcases hR.out with h | h
          · omega
          · rw [h, List.drop_of_length_le (by omega)]; rfl
        go_wp2_with fail
        go_ret
        exact ⟨rfl, rfl⟩
def kwCells : Array Value := (kwords.map (fun l => Value.string ⟨l.toArray⟩)).toArray
theorem str_mk (l : List UInt8) : (⟨l.toArray⟩ : ByteArray).toList = l := by rw [ByteArray.toList_eq]
theorem any_drop (s : List UInt8) (l : List (List UInt8)) (k : Nat) (h : k < l.length) : (l.drop k).any (s == ·) = ((s == l[k]) || (l.drop (k + 1)).any (s == ·)) := by
  rw [List.drop_eq_getElem_cons h, List.any_cons]
set_option maxRecDepth 100000 in
set_option maxHeartbeats 4000000 in
theorem rKeyword_any (s : ByteArray) (w : World) : Calls Tryd.prog 13 #[.string s] w fun e w' => e = .returned (.bool (kwB s.toList)) ∧ Below w.heap.size w w' := by
  have hR := Lib.hid (show kwB s.toList = (kwords.drop 0).any (s.toList == ·) from rfl)
  generalize kwB s.toList = R at *
  go_enter Tryd.func13, Tryd.ntmps13
  go_upto_region 2 with fail
  generalize hX : World.alloc w _ = X
  obtain ⟨B, dX, sX⟩ := arg_box (cs := kwCells) hX
  clear hX
  have HD := Lib.hid dX
  have hc := Lib.hid fun (k : Nat) (hk : k < 15) => show X.cell? ⟨w.heap.size, k, none⟩ = some (.string ⟨(kwords[k]'(by exact hk)).toArray⟩) from (B.cell k).trans (by unfold kwCells; rw [List.getElem?_toArray, List.getElem?_map, List.getElem?_eq_getElem (show k < kwords.length from hk)]; rfl)
  clear B dX sX
  go_wp2_with fail
  go_loop [4] (fun i => ∃ k : Nat, k ≤ 15 ∧ i = .int .i64 k ∧ Hid (R = (kwords.drop k).any (s.toList == ·))) (fun i => 15 - (intOf i).toNat)
  case atStart => exact ⟨0, by omega, rfl, hR⟩
  case round =>
    obtain ⟨k, hk, rfl, hR⟩ := hrel
    by_cases hlt : k < 15
    · have c1 := hc.out k hlt
      have hR2 := Lib.hid (show R = ((s.toList == kwords[k]'(by exact hlt)) || (kwords.drop (k + 1)).any (s.toList == ·)) by rw [hR.out, any_drop _ _ k (by exact hlt)])
      clear hR
      generalize kwords[k]'(by exact hlt) = kw at *
      have hq : ((⟨kw.toArray⟩ : ByteArray).toList == s.toList) = (s.toList == kw) := by
        rw [str_mk, Bool.eq_iff_iff]; simp only [beq_iff_eq]; exact eq_comm
      generalize (⟨kw.toArray⟩ : ByteArray) = kb at *
      cases hb : (s.toList == kw)
      · rw [hb] at hq hR2
        go_wp2_with fail
        go_round
        case rel => exact ⟨k + 1, by omega, by go_num, Lib.hid (by rw [hR2.out]; rfl)⟩
        case measure => simp [intOf]; omega
      · rw [hb] at hq hR2
        go_wp2_with fail
        go_ret
        exact ⟨by rw [hR2.out]; rfl, HD.out⟩
    · go_wp2_with fail
      go_ret
      exact ⟨by rw [hR.out, List.drop_of_length_le (show kwords.length ≤ k by exact Nat.le_of_not_lt hlt)]; rfl, HD.out⟩
set_option maxHeartbeats 4000000 in
theorem rName_any (s : ByteArray) (w : World) (hs : s.size ≤ 9223372036854775807) : Calls Tryd.prog 15 #[.string s] w fun e w' => e = .returned (.bool (nameB s.toList)) ∧ Below w.heap.size w w' := by
  have HK := Lib.hid (rKeyword_any s w)
  have HW := Lib.hid (rword_any s w hs)
  have hl := str_len s
  have hR := Lib.hid (nameB_word s.toList)
  generalize nameB s.toList = R at *
  generalize kwB s.toList = K at *
  generalize wordB s.toList = T at *
  by_cases h1 : (s.size : Int) ≤ 32
  · have hR := Lib.hid (show R = (T && !K) by rw [hR.out, decide_eq_true (show s.toList.length ≤ 32 by omega)]; rfl)
    cases T
    · go_enter Tryd.func15, Tryd.ntmps15
      go_wp2_with (go_at_call 22; refine HW.out.mono ?_; clear HW; rintro e W ⟨rfl, rfl⟩)
      go_ret
      exact ⟨by rw [hR.out]; rfl, Below.refl _ _⟩
    · go_enter Tryd.func15, Tryd.ntmps15
      go_wp2_with (first | (go_at_call 22; refine HW.out.mono ?_; clear HW; rintro e W ⟨rfl, rfl⟩) | (go_at_call 13; refine HK.out.mono ?_; clear HK; rintro e W ⟨rfl, hb⟩; have HB := Lib.hid hb; clear hb))
      go_ret
      exact ⟨by rw [hR.out]; rfl, HB.out⟩
  · go_enter Tryd.func15, Tryd.ntmps15
    go_wp2_with fail
    go_ret
    exact ⟨by rw [hR.out, decide_eq_false (show ¬ s.toList.length ≤ 32 by omega)]; rfl, Below.refl _ _⟩
end Go.Proofs.YtbakfpoejoajeaaDoor.Hand
