/- DERIVED. DERIVED. Digits, letters, keywords, names. -/
import Derived.Test.YtbakfpoejoajeaaDoorProg
import Derived.Test.YtbakfpoejoajeaaDoorMBits
import Derived.Test.YtbakfpoejoajeaaDoorMWalk
import Derived.Test.YtbakfpoejoajeaaDoorMArg
import Derived.Test.YtbakfpoejoajeaaDoorMRow
import Derived.Test.YtbakfpoejoajeaaDoorMOpen
import Derived.Test.YtbakfpoejoajeaaDoorMPart
import Derived.Below
import Derived.Deep.Draws
import Derived.Deep.AppendLies
import Derived.Maps.AppendAt
import Derived.OwnWalk
import Derived.Laws.BytesArg
import Derived.Laws.MakeOwn
import Derived.Laws.OwnMore
import Derived.Deep.OwnRows
import Derived.Tactics
import Derived.Lib.ConvBytes
import Derived.Laws.Slices
import Derived.WalkKit
import Derived.KernelRfl
import Derived.RowKit3
import Derived.Deep.LoopGhost
import Derived.Deep.QuietTactic
import Derived.BigQuiet
import Derived.WideLaws
import Derived.Deep.DeepCutAuto
import Derived.Deep.CutBlock
import Derived.Deep.RegionHeld3
import Derived.Laws.Rows
import Derived.Lib.AppendStr
import Derived.ArgAppend
import Derived.Laws.IdiomCopy
import Derived.OrdersHeld
import Derived.Laws.BitsLemmas
import Derived.Laws.Bits64
import Derived.RowKit
import Derived.Outline
import Derived.Handy
import Derived.Lib.Hide
import Derived.Deep.Light
import Derived.Laws.CopyOwn
import Derived.Lib.QuietBelow
import Derived.Shelf.Strings.Prefix
import Derived.Shelf.Small.Strs
import Derived.Shelf.Strconv.AtoiAll
import Derived.Ground.NamesProg
import Derived.Lib.AtoiErrMem
namespace Go.Proofs.YtbakfpoejoajeaaDoor.Hand
open Go Go.RowKit Go.Proofs.YtbakfpoejoajeaaDoor.M
set_option linter.unusedVariables false
set_option linter.unusedSimpArgs false
attribute [local go_sem] Oper.semAt_some
def digitB (c : Int) : Bool := decide (48 ≤ c) && decide (c ≤ 57)
def letterB (c : Int) : Bool := (decide (97 ≤ c) && decide (c ≤ 122)) || ((decide (65 ≤ c) && decide (c ≤ 90)) || (c == 95))
def partB (c : Int) : Bool := digitB c || letterB c
theorem digit_any (c : Int) (w : World) : Calls Tryd.prog 20 #[.int .u8 c] w fun e w' => e = .returned (.bool (digitB c)) ∧ w = w' := by
  unfold digitB
  by_cases h1 : 48 ≤ c
  · by_cases h2 : c ≤ 57
    all_goals
      go_enter Tryd.func20, Tryd.ntmps20
      go_wp2_with fail
      go_ret
      exact ⟨by simp [h1, h2], rfl⟩
  · go_enter Tryd.func20, Tryd.ntmps20
    go_wp2_with fail
    go_ret
    exact ⟨by simp [h1]; omega, rfl⟩
theorem letter_any (c : Int) (w : World) : Calls Tryd.prog 25 #[.int .u8 c] w fun e w' => e = .returned (.bool (letterB c)) ∧ w = w' := by
  unfold letterB
  by_cases h1 : 97 ≤ c
  · have g1 : 65 ≤ c := by omega
    have g2 : ¬ c ≤ 90 := by omega
    by_cases h2 : c ≤ 122
    · go_enter Tryd.func25, Tryd.ntmps25
      go_wp2_with fail
      go_ret
      exact ⟨by simp [h1, h2], rfl⟩
    · have g3 : (c == 95) = false := by simp; omega
      go_enter Tryd.func25, Tryd.ntmps25
      go_wp2_with fail
      go_ret
      exact ⟨by simp [h1, h2, g2, g3], rfl⟩
  · by_cases h3 : 65 ≤ c
    · by_cases h4 : c ≤ 90
      · go_enter Tryd.func25, Tryd.ntmps25
        go_wp2_with fail
        go_ret
        exact ⟨by simp [h1, h3, h4], rfl⟩
      · by_cases h5 : c = 95
        · subst h5
          go_enter Tryd.func25, Tryd.ntmps25
          go_wp2_with fail
          go_ret
          exact ⟨rfl, rfl⟩
        · have g3 : (c == 95) = false := by simpa using h5
          go_enter Tryd.func25, Tryd.ntmps25
          go_wp2_with fail
          go_ret
          exact ⟨by simp [h1, h4, g3]; omega, rfl⟩
    · have g3 : (c == 95) = false := by simp; omega
      go_enter Tryd.func25, Tryd.ntmps25
      go_wp2_with fail
      go_ret
      exact ⟨by simp [h1, h3, g3]; omega, rfl⟩
theorem part_any (c : Int) (w : World) : Calls Tryd.prog 21 #[.int .u8 c] w fun e w' => e = .returned (.bool (partB c)) ∧ w = w' := by
  have H1 := Lib.hid (digit_any c w)
  have H2 := Lib.hid (letter_any c w)
  have hR := Lib.hid (show partB c = (digitB c || letterB c) from rfl)
  generalize partB c = R at *
  generalize digitB c = b1 at *
  generalize letterB c = b2 at *
  cases b1
  all_goals
    go_enter Tryd.func21, Tryd.ntmps21
    go_wp2_with (first | (go_at_call 20; refine H1.out.mono ?_; clear H1; rintro e W ⟨rfl, rfl⟩) | (go_at_call 25; refine H2.out.mono ?_; clear H2; rintro e W ⟨rfl, rfl⟩))
    go_ret
    exact ⟨by rw [hR.out]; rfl, rfl⟩
/-- The keywords. -/
def kwords : List (List UInt8) := [[97, 99, 116, 111, 114], [109, 97, 105, 110], [108, 101, 116], [115, 112, 97, 119, 110], [115, 101, 110, 100], [111, 117, 116], [98, 101, 99, 111, 109, 101], [115, 116, 111, 112], [105, 102], [101, 108, 115, 101], [114, 101, 99, 101, 105, 118, 101], [119, 104, 101, 110], [97, 102, 116, 101, 114], [115, 101, 108, 102], [95]]
def kwB (l : List UInt8) : Bool := kwords.any (l == ·)
set_option maxHeartbeats 4000000 in
theorem Keyword_any (s : ByteArray) (w : World) : Calls Tryd.prog 12 #[.string s] w fun e w' => e = .returned (.bool (kwB s.toList)) ∧ w = w' := by
  have hR := Lib.hid (show kwB s.toList = ((s.toList == [97, 99, 116, 111, 114]) || ((s.toList == [109, 97, 105, 110]) || ((s.toList == [108, 101, 116]) || ((s.toList == [115, 112, 97, 119, 110]) || ((s.toList == [115, 101, 110, 100]) || ((s.toList == [111, 117, 116]) || ((s.toList == [98, 101, 99, 111, 109, 101]) || ((s.toList == [115, 116, 111, 112]) || ((s.toList == [105, 102]) || ((s.toList == [101, 108, 115, 101]) || ((s.toList == [114, 101, 99, 101, 105, 118, 101]) || ((s.toList == [119, 104, 101, 110]) || ((s.toList == [97, 102, 116, 101, 114]) || ((s.toList == [115, 101, 108, 102]) || ((s.toList == [95]) || false))))))))))))))) from rfl)
  generalize kwB s.toList = R at *
  cases h0 : (s.toList == [97, 99, 116, 111, 114])
  · cases h1 : (s.toList == [109, 97, 105, 110])
    · cases h2 : (s.toList == [108, 101, 116])
      · cases h3 : (s.toList == [115, 112, 97, 119, 110])
        · cases h4 : (s.toList == [115, 101, 110, 100])
          · cases h5 : (s.toList == [111, 117, 116])
            · cases h6 : (s.toList == [98, 101, 99, 111, 109, 101])
              · cases h7 : (s.toList == [115, 116, 111, 112])
                · cases h8 : (s.toList == [105, 102])
                  · cases h9 : (s.toList == [101, 108, 115, 101])
                    · cases h10 : (s.toList == [114, 101, 99, 101, 105, 118, 101])
                      · cases h11 : (s.toList == [119, 104, 101, 110])
                        · cases h12 : (s.toList == [97, 102, 116, 101, 114])
                          · cases h13 : (s.toList == [115, 101, 108, 102])
                            · cases h14 : (s.toList == [95])
                              · go_enter Tryd.func12, Tryd.ntmps12
                                go_wp2_with fail
                                go_ret
                                exact ⟨by rw [hR.out]; simp [h0, h1, h2, h3, h4, h5, h6, h7, h8, h9, h10, h11, h12, h13, h14], rfl⟩
                              · go_enter Tryd.func12, Tryd.ntmps12
                                go_wp2_with fail
                                go_ret
                                exact ⟨by rw [hR.out]; simp [h14], rfl⟩
                            · go_enter Tryd.func12, Tryd.ntmps12
                              go_wp2_with fail
                              go_ret
                              exact ⟨by rw [hR.out]; simp [h13], rfl⟩
                          · go_enter Tryd.func12, Tryd.ntmps12
                            go_wp2_with fail
                            go_ret
                            exact ⟨by rw [hR.out]; simp [h12], rfl⟩
                        · go_enter Tryd.func12, Tryd.ntmps12
                          go_wp2_with fail
                          go_ret
                          exact ⟨by rw [hR.out]; simp [h11], rfl⟩
                      · go_enter Tryd.func12, Tryd.ntmps12
                        go_wp2_with fail
                        go_ret
                        exact ⟨by rw [hR.out]; simp [h10], rfl⟩
                    · go_enter Tryd.func12, Tryd.ntmps12
                      go_wp2_with fail
                      go_ret
                      exact ⟨by rw [hR.out]; simp [h9], rfl⟩
                  · go_enter Tryd.func12, Tryd.ntmps12
                    go_wp2_with fail
                    go_ret
                    exact ⟨by rw [hR.out]; simp [h8], rfl⟩
                · go_enter Tryd.func12, Tryd.ntmps12
                  go_wp2_with fail
                  go_ret
                  exact ⟨by rw [hR.out]; simp [h7], rfl⟩
              · go_enter Tryd.func12, Tryd.ntmps12
                go_wp2_with fail
                go_ret
                exact ⟨by rw [hR.out]; simp [h6], rfl⟩
            · go_enter Tryd.func12, Tryd.ntmps12
              go_wp2_with fail
              go_ret
              exact ⟨by rw [hR.out]; simp [h5], rfl⟩
          · go_enter Tryd.func12, Tryd.ntmps12
            go_wp2_with fail
            go_ret
            exact ⟨by rw [hR.out]; simp [h4], rfl⟩
        · go_enter Tryd.func12, Tryd.ntmps12
          go_wp2_with fail
          go_ret
          exact ⟨by rw [hR.out]; simp [h3], rfl⟩
      · go_enter Tryd.func12, Tryd.ntmps12
        go_wp2_with fail
        go_ret
        exact ⟨by rw [hR.out]; simp [h2], rfl⟩
    · go_enter Tryd.func12, Tryd.ntmps12
      go_wp2_with fail
      go_ret
      exact ⟨by rw [hR.out]; simp [h1], rfl⟩
  · go_enter Tryd.func12, Tryd.ntmps12
    go_wp2_with fail
    go_ret
    exact ⟨by rw [hR.out]; simp [h0], rfl⟩
def partU (u : UInt8) : Bool := partB u.toNat
def digitU (u : UInt8) : Bool := digitB u.toNat
def letterU (u : UInt8) : Bool := letterB u.toNat
def headDigit : List UInt8 → Bool
  | [] => false
  | c :: _ => digitU c
def nameB (l : List UInt8) : Bool := !(l == []) && (decide (l.length ≤ 32) && (!kwB l && (!headDigit l && l.all partU)))
theorem str_len (s : ByteArray) : s.toList.length = s.size := by rw [ByteArray.toList_eq, Array.length_toList]; rfl
theorem str_get (s : ByteArray) (i : Nat) (h : i < s.size) : s.toList[i]'(by rw [str_len]; exact h) = s[i] := by
  simp only [ByteArray.toList_eq, Array.getElem_toList]; rfl
theorem all_drop (p : UInt8 → Bool) (l : List UInt8) (k : Nat) (h : k < l.length) : (l.drop k).all p = (p l[k] && (l.drop (k + 1)).all p) := by
  rw [List.drop_eq_getElem_cons h, List.all_cons]
theorem head_get (l : List UInt8) (h : 0 < l.length) : headDigit l = digitU l[0] := by
  cases l with
  | nil => simp at h
  | cons c l => rfl
set_option maxHeartbeats 4000000 in
theorem Name_any (s : ByteArray) (w : World) (hs : s.size ≤ 9223372036854775807) : Calls Tryd.prog 14 #[.string s] w fun e w' => e = .returned (.bool (nameB s.toList)) ∧ w = w' := by
  have HK := Lib.hid (Keyword_any s w)
  have HD := Lib.hid fun c => digit_any c w
  have HP := Lib.hid fun c => part_any c w
  have hl := str_len s
  have hR := Lib.hid (show nameB s.toList = (!(s.toList == []) && (decide (s.toList.length ≤ 32) && (!kwB s.toList && (!headDigit s.toList && s.toList.all partU)))) from rfl)
  generalize nameB s.toList = R at *
  generalize kwB s.toList = K at *
  by_cases h0 : (s.toList == []) = true
  · go_enter Tryd.func14, Tryd.ntmps14
    go_wp2_with fail
    go_ret
    exact ⟨by rw [hR.out, h0]; rfl, rfl⟩
  · have h0 : (s.toList == []) = false := by simpa using h0
    by_cases h1 : 32 < s.size
    · have g1 : (32 : Int) < s.size := by omega
      go_enter Tryd.func14, Tryd.ntmps14
      go_wp2_with fail
      go_ret
      exact ⟨by rw [hR.out, decide_eq_false (show ¬ s.toList.length ≤ 32 by omega)]; simp, rfl⟩
    · have g1 : ¬ (32 : Int) < s.size := by omega
      have hpos : 0 < s.size := by
        rcases Nat.eq_zero_or_pos s.size with h | h
        · rw [List.eq_nil_of_length_eq_zero (show s.toList.length = 0 by omega)] at h0
          simp at h0
        · exact h
      have hR := Lib.hid (show R = (!K && (!headDigit s.toList && s.toList.all partU)) by rw [hR.out, h0, decide_eq_true (show s.toList.length ≤ 32 by omega)]; simp)
      have hd := Lib.hid (show headDigit s.toList = digitB (s[0].toNat : Int) by rw [head_get _ (by omega), str_get s 0 hpos]; rfl)
      cases K
      · cases hb : digitB (s[0].toNat : Int)
        · replace hR := Lib.hid (show R = (s.toList.drop 0).all partU by rw [hR.out, hd.out, hb]; simp)
          go_enter Tryd.func14, Tryd.ntmps14
          go_wp2_with (first | (go_at_call 12; refine HK.out.mono ?_; clear HK; rintro e W ⟨rfl, rfl⟩) | (go_at_call 20; refine (HD.out _).mono ?_; clear HD; rintro e W ⟨rfl, rfl⟩; rw [hb]))
          go_loop [22] (fun i => ∃ k : Nat, k ≤ s.size ∧ i = .int .i64 k ∧ Hid (R = (s.toList.drop k).all partU)) (fun i => s.size - (intOf i).toNat)
          case atStart => exact ⟨0, by omega, rfl, hR⟩
          case round =>
            obtain ⟨k, hk, rfl, hR⟩ := hrel
            by_cases hlt : k < s.size
            · have hR2 := Lib.hid (show R = (partB (s[k].toNat : Int) && (s.toList.drop (k + 1)).all partU) by rw [hR.out, all_drop _ _ k (by omega), str_get s k hlt]; rfl)
              clear hR
              cases hp : partB (s[k].toNat : Int)
              · go_wp2_with (first | (go_at_call 21; refine (HP.out _).mono ?_; rintro e W ⟨rfl, rfl⟩; rw [hp]))
                go_ret
                exact ⟨by rw [hR2.out, hp]; rfl, rfl⟩
              · rw [hp, Bool.true_and] at hR2
                go_wp2_with (first | (go_at_call 21; refine (HP.out _).mono ?_; rintro e W ⟨rfl, rfl⟩; rw [hp]))
                go_round
                case rel => exact ⟨k + 1, by omega, by go_num, hR2⟩
                case measure => simp [intOf]; omega
            · go_wp2_with fail
              go_ret
              exact ⟨by rw [hR.out, List.drop_of_length_le (by omega)]; rfl, rfl⟩
        · go_enter Tryd.func14, Tryd.ntmps14
          go_wp2_with (first | (go_at_call 12; refine HK.out.mono ?_; clear HK; rintro e W ⟨rfl, rfl⟩) | (go_at_call 20; refine (HD.out _).mono ?_; clear HD; rintro e W ⟨rfl, rfl⟩; rw [hb]))
          go_ret
          exact ⟨by rw [hR.out, hd.out, hb]; rfl, rfl⟩
      · go_enter Tryd.func14, Tryd.ntmps14
        go_wp2_with (first | (go_at_call 12; refine HK.out.mono ?_; clear HK; rintro e W ⟨rfl, rfl⟩))
        go_ret
        exact ⟨by rw [hR.out]; rfl, rfl⟩
end Go.Proofs.YtbakfpoejoajeaaDoor.Hand
