/- DERIVED. DERIVED. What stands between words is skipped. -/
import Derived.Test.YtbakfpoejoajeaaDoorProg
import Derived.Test.YtbakfpoejoajeaaDoorMBits
import Derived.Test.YtbakfpoejoajeaaDoorMWalk
import Derived.Test.YtbakfpoejoajeaaDoorMArg
import Derived.Test.YtbakfpoejoajeaaDoorMRow
import Derived.Test.YtbakfpoejoajeaaDoorMOpen
import Derived.Test.YtbakfpoejoajeaaDoorMPart
import Derived.Test.YtbakfpoejoajeaaDoorMStore
import Derived.Test.YtbakfpoejoajeaaDoorHB
import Derived.Below
import Derived.Deep.Draws
import Derived.Deep.AppendLies
import Derived.Maps.AppendAt
import Derived.OwnWalk
import Derived.Laws.BytesArg
import Derived.Laws.MakeOwn
import Derived.Laws.OwnMore
import Derived.Deep.OwnRows
import Derived.Tactics
import Derived.Lib.ConvBytes
import Derived.Laws.Slices
import Derived.WalkKit
import Derived.KernelRfl
import Derived.RowKit3
import Derived.Deep.LoopGhost
import Derived.Deep.QuietTactic
import Derived.BigQuiet
import Derived.WideLaws
import Derived.Deep.DeepCutAuto
import Derived.Deep.CutBlock
import Derived.Deep.RegionHeld3
import Derived.Laws.Rows
import Derived.Lib.AppendStr
import Derived.ArgAppend
import Derived.Laws.IdiomCopy
import Derived.OrdersHeld
import Derived.Laws.BitsLemmas
import Derived.Laws.Bits64
import Derived.RowKit
import Derived.Outline
import Derived.Handy
import Derived.Lib.Hide
import Derived.Deep.Light
import Derived.Laws.CopyOwn
import Derived.Lib.QuietBelow
import Derived.Shelf.Strings.Prefix
import Derived.Shelf.Small.Strs
import Derived.Shelf.Strconv.AtoiAll
import Derived.Ground.NamesProg
import Derived.Lib.AtoiErrMem
namespace Go.Proofs.YtbakfpoejoajeaaDoor.Hand
open Go Go.RowKit Go.Proofs.YtbakfpoejoajeaaDoor.M
set_option linter.unusedVariables false
set_option linter.unusedSimpArgs false
attribute [local go_sem] Oper.semAt_some
def spaceU (c : UInt8) : Bool := c == 32 || c == 9 || c == 13 || c == 10
/-- How many bytes stand between words, from here on (in a comment, or not). -/
def skipF : Bool → List UInt8 → Nat
  | _, [] => 0
  | true, c :: r => if c = 10 then 1 + skipF false r else 1 + skipF true r
  | false, c :: r => if spaceU c = true then 1 + skipF false r else if c = 35 then 1 + skipF true r else 0
def notNL (c : UInt8) : Bool := c != 10
theorem skip_comment : ∀ l : List UInt8, skipF true l = takeN notNL l + skipF false (l.drop (takeN notNL l))
  | [] => rfl
  | c :: r => by
    unfold takeN
    rw [List.takeWhile_cons]
    by_cases h : c = 10
    · subst h
      rw [if_neg (by decide)]
      show skipF true (10 :: r) = 0 + skipF false (10 :: r)
      unfold skipF
      rw [if_pos rfl, if_pos (by decide), Nat.zero_add]
    · rw [if_pos (by unfold notNL; simpa using h), List.length_cons, List.drop_succ_cons]
      have ih := skip_comment r
      unfold takeN at ih
      conv => lhs; unfold skipF
      rw [if_neg h, ih]
      omega
theorem nl_any (u : UInt8) (w : World) : Calls Tryd.prog 24 #[.int .u8 u.toNat] w fun e w' => e = .returned (.bool (notNL u)) ∧ w = w' := by
  have hu : (u.toNat : Int) = 10 ↔ u = 10 := by
    constructor
    · intro h
      apply UInt8.toNat_inj.1
      show u.toNat = 10
      omega
    · intro h; subst h; rfl
  have hR : notNL u = ((u.toNat : Int) != 10) := by
    rw [Bool.eq_iff_iff]
    unfold notNL
    simp only [bne_iff_ne, ne_eq, hu]
  rw [hR]
  go_enter Tryd.func24, Tryd.ntmps24
  go_wp2_with fail
  go_ret
  exact ⟨rfl, rfl⟩
theorem u8_eq (u : UInt8) (v : UInt8) : (u.toNat : Int) = (v.toNat : Int) ↔ u = v := by
  constructor
  · intro h
    apply UInt8.toNat_inj.1
    omega
  · intro h; rw [h]
theorem skip_space (l : List UInt8) (i : Nat) (h : i < l.length) (hc : spaceU l[i] = true) : skipF false (l.drop i) = 1 + skipF false (l.drop (i + 1)) := by
  rw [List.drop_eq_getElem_cons h]
  conv => lhs; unfold skipF
  rw [if_pos hc]
theorem skip_hash (l : List UInt8) (i : Nat) (h : i < l.length) (hc : l[i] = 35) : skipF false (l.drop i) = takeN notNL (l.drop i) + skipF false (l.drop (i + takeN notNL (l.drop i))) ∧ 1 ≤ takeN notNL (l.drop i) := by
  have h1 : takeN notNL (l.drop i) = 1 + takeN notNL (l.drop (i + 1)) := by
    rw [takeN_step _ _ _ h, hc, if_pos (by decide)]
  have h2 : skipF false (l.drop i) = 1 + skipF true (l.drop (i + 1)) := by
    rw [List.drop_eq_getElem_cons h]
    conv => lhs; unfold skipF
    rw [hc, if_neg (by decide), if_pos rfl]
  refine ⟨?_, by omega⟩
  rw [h2, h1, skip_comment, List.drop_drop, show i + (1 + takeN notNL (l.drop (i + 1))) = i + 1 + takeN notNL (l.drop (i + 1)) by omega]
  omega
theorem skip_stop (l : List UInt8) (i : Nat) (h : i < l.length) (h1 : spaceU l[i] = false) (h2 : l[i] ≠ 35) : skipF false (l.drop i) = 0 := by
  rw [List.drop_eq_getElem_cons h]
  unfold skipF
  rw [if_neg (by rw [h1]; simp), if_neg h2]
theorem skipF_le : ∀ (l : List UInt8) (c : Bool), skipF c l ≤ l.length
  | [], c => by cases c <;> simp [skipF]
  | x :: r, c => by
    have h1 := skipF_le r true
    have h2 := skipF_le r false
    cases c
    · unfold skipF
      rw [List.length_cons]
      split
      · omega
      · split <;> omega
    · unfold skipF
      rw [List.length_cons]
      split <;> omega
set_option maxRecDepth 100000 in
set_option maxHeartbeats 4000000 in
theorem skip_any (b : ByteArray) (p n : Nat) (w : World) (hb : Blk w p #[.string b, .int .i64 n] 39) (hn : n ≤ b.size) (hs : b.size ≤ 4611686018427387904) :
    Calls Tryd.prog 16 #[.pointer (some ⟨p, 0, none⟩)] w fun e w' => e = .returned (.tuple #[]) ∧ SrcAt w w' p b (n + skipF false (b.toList.drop n)) := by
  have HS := Lib.hid (SrcAt.start hb)
  have hl := str_len b
  obtain ⟨R, hR0⟩ : ∃ R, skipF false (b.toList.drop n) = R := ⟨_, rfl⟩
  rw [hR0]
  replace hR0 := Lib.hid hR0
  clear hb
  go_enter Tryd.func16, Tryd.ntmps16
  go_wp2_with fail
  go_step3
  go_wp2_with fail
  refine wp_label ?_
  go_wp2_with fail
  go_loopw [] (fun wr => ∃ i : Nat, n ≤ i ∧ i ≤ b.size ∧ Hid (n + R = i + skipF false (b.toList.drop i)) ∧ Hid (SrcAt w wr p b i)) (fun wr => b.size - placeOf p wr)
  case atStart => exact ⟨n, by omega, by omega, Lib.hid (by rw [hR0.out]), HS⟩
  case round =>
    obtain ⟨i, hni, hi, hR, HS⟩ := hrel
    have HW := HS
    by_cases hlt : i < b.size
    · have c0 : wr.cell? ⟨p, 0, none⟩ = some (.string b) := HS.out.b.cell 0
      have c1 : wr.cell? ⟨p, 1, none⟩ = some (.int .i64 i) := HS.out.b.cell 1
      have r0 := cell_regrown c0
      have r1 := cell_regrown c1
      clear c0 c1
      go_wp2_with fail
      refine wp_region_quiet_below (by kernel_rfl) (by kernel_rfl) ?_
      repeat go_big_quiet_step (fail)
      refine wpQuiet_nil ?_
      intro _ hw'
      obtain ⟨⟨dq, osq⟩, hw''⟩ := hw'
      subst hw''
      clear r0 r1
      replace HS := Lib.hid (HS.out.below (below_regrown wr dq osq))
      generalize Sort.grow (redrawn wr dq) osq = Y at *
      have c0 : Y.cell? ⟨p, 0, none⟩ = some (.string b) := HS.out.b.cell 0
      have c1 : Y.cell? ⟨p, 1, none⟩ = some (.int .i64 i) := HS.out.b.cell 1
      have r0 := cell_regrown c0
      have r1 := cell_regrown c1
      clear c0 c1
      go_wp2_with fail
      refine wp_region_quiet_below (by kernel_rfl) (by kernel_rfl) ?_
      repeat go_big_quiet_step (fail)
      refine wpQuiet_nil ?_
      intro _ hw'
      obtain ⟨⟨dq, osq⟩, hw''⟩ := hw'
      subst hw''
      clear r0 r1
      replace HS := Lib.hid (HS.out.below (below_regrown Y dq osq))
      generalize Sort.grow (redrawn Y dq) osq = Z at *
      obtain ⟨z, hz⟩ : ∃ z, (b[i].toNat : Int) = z := ⟨_, rfl⟩
      simp only [hz]
      by_cases q1 : z = 32
      · have hu : b[i] = 32 := (u8_eq _ _).1 (hz.trans q1)
        have hsp : spaceU b[i] = true := by rw [hu]; decide
        subst q1
        clear hz
        have c1 : Z.cell? ⟨p, 1, none⟩ = some (.int .i64 i) := HS.out.b.cell 1
        have hfz := HS.out.b.frozen 1
        go_wp2_with fail
        go_roundw
        case rel => exact ⟨i + 1, by omega, by omega, Lib.hid (by rw [hR.out, skip_space _ i (by omega) (by rw [str_get b i hlt]; exact hsp)]; omega), Lib.hid (HS.out.set (i + 1))⟩
        case measure =>
          have e1 := (HS.out.set (i + 1)).place
          rw [HW.out.place]
          exact Nat.lt_of_le_of_lt (Nat.le_of_eq (congrArg (b.size - ·) e1)) (by omega)
      · by_cases q2 : z = 9
        · have hu : b[i] = 9 := (u8_eq _ _).1 (hz.trans q2)
          have hsp : spaceU b[i] = true := by rw [hu]; decide
          subst q2
          clear hz
          have c1 : Z.cell? ⟨p, 1, none⟩ = some (.int .i64 i) := HS.out.b.cell 1
          have hfz := HS.out.b.frozen 1
          go_wp2_with fail
          go_roundw
          case rel => exact ⟨i + 1, by omega, by omega, Lib.hid (by rw [hR.out, skip_space _ i (by omega) (by rw [str_get b i hlt]; exact hsp)]; omega), Lib.hid (HS.out.set (i + 1))⟩
          case measure =>
            have e1 := (HS.out.set (i + 1)).place
            rw [HW.out.place]
            exact Nat.lt_of_le_of_lt (Nat.le_of_eq (congrArg (b.size - ·) e1)) (by omega)
        · by_cases q3 : z = 13
          · have hu : b[i] = 13 := (u8_eq _ _).1 (hz.trans q3)
            have hsp : spaceU b[i] = true := by rw [hu]; decide
            subst q3
            clear hz
            have c1 : Z.cell? ⟨p, 1, none⟩ = some (.int .i64 i) := HS.out.b.cell 1
            have hfz := HS.out.b.frozen 1
            go_wp2_with fail
            go_roundw
            case rel => exact ⟨i + 1, by omega, by omega, Lib.hid (by rw [hR.out, skip_space _ i (by omega) (by rw [str_get b i hlt]; exact hsp)]; omega), Lib.hid (HS.out.set (i + 1))⟩
            case measure =>
              have e1 := (HS.out.set (i + 1)).place
              rw [HW.out.place]
              exact Nat.lt_of_le_of_lt (Nat.le_of_eq (congrArg (b.size - ·) e1)) (by omega)
          · by_cases q4 : z = 10
            · have hu : b[i] = 10 := (u8_eq _ _).1 (hz.trans q4)
              have hsp : spaceU b[i] = true := by rw [hu]; decide
              subst q4
              clear hz
              have c1 : Z.cell? ⟨p, 1, none⟩ = some (.int .i64 i) := HS.out.b.cell 1
              have hfz := HS.out.b.frozen 1
              go_wp2_with fail
              go_roundw
              case rel => exact ⟨i + 1, by omega, by omega, Lib.hid (by rw [hR.out, skip_space _ i (by omega) (by rw [str_get b i hlt]; exact hsp)]; omega), Lib.hid (HS.out.set (i + 1))⟩
              case measure =>
                have e1 := (HS.out.set (i + 1)).place
                rw [HW.out.place]
                exact Nat.lt_of_le_of_lt (Nat.le_of_eq (congrArg (b.size - ·) e1)) (by omega)
            · by_cases q5 : z = 35
              · have hu : b[i] = 35 := (u8_eq _ _).1 (hz.trans q5)
                obtain ⟨hh1, hh2⟩ := skip_hash b.toList i (by omega) (by rw [str_get b i hlt]; exact hu)
                have hle := takeN_le notNL (b.toList.drop i)
                rw [List.length_drop] at hle
                have HT := Lib.hid (take_any b p i 24 notNL Z HS.out.b hi hs (fun _ _ => rfl) nl_any)
                subst q5
                clear hz hu
                generalize takeN notNL (b.toList.drop i) = t at *
                go_wp2_with (first | (go_at_call 23; refine HT.out.mono ?_; clear HT; rintro e W ⟨rfl, HX⟩; replace HS := Lib.hid (HS.out.trans HX)))
                go_roundw
                case rel => exact ⟨i + t, by omega, by omega, Lib.hid (by rw [hR.out, hh1]; omega), HS⟩
                case measure => rw [HS.out.place, HW.out.place]; omega
              · have hne : ∀ v : UInt8, z ≠ (v.toNat : Int) → b[i] ≠ v := fun v h e => h (by rw [← hz, e])
                have hst : skipF false (b.toList.drop i) = 0 := skip_stop _ i (by omega) (by
                  rw [str_get b i hlt]
                  unfold spaceU
                  have a1 := hne 32 q1
                  have a2 := hne 9 q2
                  have a3 := hne 13 q3
                  have a4 := hne 10 q4
                  simp [a1, a2, a3, a4]) (by rw [str_get b i hlt]; exact hne 35 q5)
                have hnR : n + R = i := by rw [hR.out, hst]; rfl
                clear hz hne
                go_wp2_with fail
                simp only [Exit.noGoto]
                go_end0
                exact ⟨rfl, hnR ▸ HS.out⟩
    · have c0 : wr.cell? ⟨p, 0, none⟩ = some (.string b) := HS.out.b.cell 0
      have c1 : wr.cell? ⟨p, 1, none⟩ = some (.int .i64 i) := HS.out.b.cell 1
      have r0 := cell_regrown c0
      have r1 := cell_regrown c1
      clear c0 c1
      have hnR : n + R = i := by rw [hR.out, List.drop_of_length_le (by omega)]; rfl
      go_wp2_with fail
      refine wp_region_quiet_below (by kernel_rfl) (by kernel_rfl) ?_
      repeat go_big_quiet_step (fail)
      refine wpQuiet_nil ?_
      intro _ hw'
      obtain ⟨⟨dq, osq⟩, hw''⟩ := hw'
      subst hw''
      clear r0 r1
      replace HS := Lib.hid (HS.out.below (below_regrown wr dq osq))
      generalize Sort.grow (redrawn wr dq) osq = Y at *
      go_wp2_with fail
      simp only [Exit.noGoto]
      go_end0
      exact ⟨rfl, hnR ▸ HS.out⟩
end Go.Proofs.YtbakfpoejoajeaaDoor.Hand
