/- DERIVED. DERIVED. LexNumbers: the walk of the law; a number's digits are one word. -/
import Derived.Test.YtbakfpoejoajeaaDoorProg
import Derived.Test.YtbakfpoejoajeaaDoorMBits
import Derived.Test.YtbakfpoejoajeaaDoorMWalk
import Derived.Test.YtbakfpoejoajeaaDoorMArg
import Derived.Test.YtbakfpoejoajeaaDoorMRow
import Derived.Test.YtbakfpoejoajeaaDoorMOpen
import Derived.Test.YtbakfpoejoajeaaDoorMPart
import Derived.Test.YtbakfpoejoajeaaDoorHH
import Derived.Below
import Derived.Deep.Draws
import Derived.Deep.AppendLies
import Derived.Maps.AppendAt
import Derived.OwnWalk
import Derived.Laws.BytesArg
import Derived.Laws.MakeOwn
import Derived.Laws.OwnMore
import Derived.Deep.OwnRows
import Derived.Tactics
import Derived.Lib.ConvBytes
import Derived.Laws.Slices
import Derived.WalkKit
import Derived.KernelRfl
import Derived.RowKit3
import Derived.Deep.LoopGhost
import Derived.Deep.QuietTactic
import Derived.BigQuiet
import Derived.WideLaws
import Derived.Deep.DeepCutAuto
import Derived.Deep.CutBlock
import Derived.Deep.RegionHeld3
import Derived.Laws.Rows
import Derived.Lib.AppendStr
import Derived.ArgAppend
import Derived.Laws.IdiomCopy
import Derived.OrdersHeld
import Derived.Laws.BitsLemmas
import Derived.Laws.Bits64
import Derived.RowKit
import Derived.Outline
import Derived.Handy
import Derived.Lib.Hide
import Derived.Deep.Light
import Derived.Laws.CopyOwn
import Derived.Lib.QuietBelow
import Derived.Shelf.Strings.Prefix
import Derived.Shelf.Small.Strs
import Derived.Shelf.Strconv.AtoiAll
import Derived.Ground.NamesProg
import Derived.Lib.AtoiErrMem
namespace Go.Proofs.YtbakfpoejoajeaaDoor.Hand
open Go Go.RowKit Go.Proofs.YtbakfpoejoajeaaDoor.M
set_option linter.unusedVariables false
set_option linter.unusedSimpArgs false
attribute [local go_sem] Oper.semAt_some
theorem digit_conv (wr : World) (K : Nat) (d : UInt8) (hd : (d.toNat : Int) = 48 + (K : Int) % 10) :
    (convert 22 9 (.slice (some ⟨wr.heap.size, 0, none⟩) 1 1)).run Tryd.prog (wr.alloc (.cells #[.int .u8 (48 + (K : Int) % 10)] 5)) = .ok (.string ⟨[d].toArray⟩) (wr.alloc (.cells #[.int .u8 (48 + (K : Int) % 10)] 5)) := by
  have B := Blk.new wr #[.int .u8 (48 + (K : Int) % 10)] 5
  refine ArgB.conv ⟨rfl, Nat.le_refl _, fun _ => ⟨_, rfl, B.lt, fun j x hx => ?_⟩⟩
  have e : numsB ⟨[d].toArray⟩ = [48 + (K : Int) % 10] := by unfold numsB; rw [str_mk]; simp only [List.map_cons, List.map_nil, hd]
  rw [e] at hx
  have hj := (List.getElem?_eq_some_iff.1 hx).1
  obtain rfl : j = 0 := by simp at hj; exact hj
  injection hx with hx
  subst hx
  exact B.cell 0
theorem digit_val (K : Nat) (l : List UInt8) (d : UInt8) (hd : (d.toNat : Int) = 48 + (K : Int) % 10) (hl : l.all digitU = true) :
    (d :: l).all digitU = true ∧ K * 10 ^ l.length + valOf 0 l = (K / 10) * 10 ^ (d :: l).length + valOf 0 (d :: l) := by
  have hm : d.toNat = 48 + K % 10 := by omega
  refine ⟨?_, ?_⟩
  · rw [List.all_cons, hl, (digitU_iff d).2 (by omega)]; rfl
  · show _ = _ + valOf (0 * 10 + (d.toNat - 48)) l
    rw [valOf_split l (0 * 10 + (d.toNat - 48)), hm, List.length_cons, Nat.pow_succ, Nat.zero_mul, Nat.zero_add, Nat.mul_comm (10 ^ l.length) 10, ← Nat.mul_assoc, ← Nat.add_assoc, ← Nat.add_mul]
    have : K / 10 * 10 + (48 + K % 10 - 48) = K := by omega
    rw [this]
theorem digits_len (K : Nat) (l : List UInt8) (hK : 1 ≤ K) (h : K * 10 ^ l.length + valOf 0 l < 9223372036854775808) : l.length ≤ 18 := by
  rcases Nat.lt_or_ge l.length 19 with h1 | h1
  · omega
  · have h2 : 10 ^ 19 ≤ 10 ^ l.length := Nat.pow_le_pow_right (by decide) h1
    have h3 : 1 * 10 ^ l.length ≤ K * 10 ^ l.length := Nat.mul_le_mul_right _ hK
    have e : (10 : Nat) ^ 19 = 10000000000000000000 := by decide
    omega
theorem cat_mk (d : UInt8) (l : List UInt8) : (⟨[d].toArray⟩ : ByteArray) ++ ⟨l.toArray⟩ = ⟨(d :: l).toArray⟩ := by
  apply ByteArray.ext
  rw [ByteArray.data_append]
  simp
theorem skip_digits (l : List UInt8) (h : l.all digitU = true) : skipF false l = 0 := by
  cases l with
  | nil => rfl
  | cons c r =>
    rw [List.all_cons, Bool.and_eq_true] at h
    have hd := (digitU_iff c).1 h.1
    have h1 : spaceU c = false := by
      unfold spaceU
      have : ∀ v : UInt8, v.toNat < 48 → (c == v) = false := fun v hv => by
        simp only [beq_eq_false_iff_ne, ne_eq]
        intro e; subst e; omega
      rw [this 32 (by decide), this 9 (by decide), this 13 (by decide), this 10 (by decide)]; rfl
    have h2 : c ≠ 35 := by intro e; subst e; exact absurd hd.1 (by decide)
    unfold skipF
    rw [if_neg (by rw [h1]; simp), if_neg h2]
theorem toks_digits (l : List UInt8) (h0 : l ≠ []) (hl : l.all digitU = true) (h1 : l.length ≤ 19) (hv : valOf 0 l < 9223372036854775808) :
    tokensOf ⟨l.toArray⟩ = if valOf 0 l ≤ 2305843009213693951 then .ok [⟨2, 0, ⟨l.toArray⟩, valOf 0 l⟩, ⟨5, l.length, ⟨#[]⟩, 0⟩] else .error 0 := by
  have hs : (⟨l.toArray⟩ : ByteArray).size = l.length := by rw [← str_len, str_mk]
  have hpos : 0 < l.length := by cases l with
    | nil => exact absurd rfl h0
    | cons c r => simp
  unfold tokensOf
  rw [str_mk, List.drop_zero, skip_digits l hl, hs]
  obtain ⟨f', hf, _, hst⟩ := lexF_step ⟨l.toArray⟩ (l.length + 1) 0 (by rw [hs]; exact hpos) (by rw [hs]; omega)
  rw [hst]
  have hc : digitU (⟨l.toArray⟩ : ByteArray)[0] = true := by
    have := str_get ⟨l.toArray⟩ 0 (by rw [hs]; exact hpos)
    rw [← this]
    exact List.all_eq_true.1 hl _ (by simp only [str_mk]; exact List.getElem_mem _)
  have hx : (⟨l.toArray⟩ : ByteArray).extract 0 (0 + l.length) = ⟨l.toArray⟩ := by
    apply ByteArray.ext
    rw [ByteArray.data_extract]
    simp
  have hw : wordOf ⟨l.toArray⟩ 0 (⟨l.toArray⟩ : ByteArray)[0] = if (valOf 0 l : Int) ≤ 2305843009213693951 then some (⟨2, 0, ⟨l.toArray⟩, valOf 0 l⟩, l.length) else none := by
    generalize (⟨l.toArray⟩ : ByteArray)[0] = c at *
    unfold wordOf
    have hnl : letterU c = false := by
      cases hq : letterU c
      · rfl
      · exact absurd (letter_not_digit _ hq) (by unfold digitU at hc; rw [hc]; simp)
    rw [if_neg (by rw [hnl]; simp), if_pos hc, str_mk, List.drop_zero, takeN_all _ l hl]
    dsimp only
    rw [hx, str_mk, atoiV_digits l h0 hl, if_pos hv]
    dsimp only
    rw [Nat.zero_add]; rfl
  rw [hw]
  by_cases h2 : valOf 0 l ≤ 2305843009213693951
  · rw [if_pos (by omega), if_pos h2]
    dsimp only
    rw [str_mk, List.drop_of_length_le (Nat.le_refl _)]
    show ((lexF ⟨l.toArray⟩ f' (l.length + 0)).map _).map _ = _
    rw [lexF_end _ _ _ (by rw [hs]; omega)]
    rfl
  · rw [if_neg (by omega), if_neg h2]; rfl
theorem bytesWorld_arg (X : World) (s : ByteArray) : ArgB (Lib.bytesWorld X 5 s) (some ⟨X.heap.size, 0, none⟩) s.size (grownCap X s.size 0 5) s := by
  refine ⟨rfl, grownCap_ge X s.size 0 5, fun _ => ⟨_, rfl, by rw [Lib.bytesWorld_size]; exact Nat.lt_succ_self _, fun j x hx => ?_⟩⟩
  have hj : j < s.size := by rw [← numsB_len]; exact (List.getElem?_eq_some_iff.1 hx).1
  rw [numsB_get s j hj] at hx
  injection hx with hx
  subst hx
  rw [add_zero, Nat.zero_add, Lib.bytesWorld_cell X 5 s j hj]
  have e : s.data.toList.getD j 0 = s[j] := by
    rw [← ByteArray.toList_eq, List.getD_eq_getElem?_getD, List.getElem?_eq_getElem (by rw [str_len]; exact hj), str_get s j hj]; rfl
  rw [e]
set_option maxRecDepth 100000 in
set_option maxHeartbeats 4000000 in
theorem LexNumbers.all (a : Int) (w : World) (hL : LaidOk w) (w0 : (Lit.int .i64 a).wf = true) : Calls Tryd.prog 7 #[.int .i64 a] w fun e w' => e = .returned (.bool true) ∧ Below w.heap.size w w' := by
  by_cases h0 : a < 0
  · have HL := Lib.hid (lives_any w hL)
    go_enter Tryd.func7, Tryd.ntmps7
    go_wp2_with (go_at_call 8; refine HL.out.mono ?_; clear HL; rintro e W ⟨rfl, hb⟩; have HB := Lib.hid hb; clear hb)
    go_ret
    exact ⟨rfl, HB.out⟩
  · obtain ⟨N, rfl⟩ : ∃ N : Nat, a = N := ⟨a.toNat, by omega⟩
    have hN : N < 9223372036854775808 := by
      simp [Lit.wf, IntKind.min, IntKind.max, IntKind.signed, IntKind.bits] at w0
      omega
    have HV := Lib.hid hL
    clear hL w0
    go_enter Tryd.func7, Tryd.ntmps7
    go_wp2_with fail
    go_loopw [3, 4] (fun v k wr => ∃ (K : Nat) (l : List UInt8), k = .int .i64 K ∧ v = .string ⟨l.toArray⟩ ∧ l.all digitU = true ∧ Hid (N = K * 10 ^ l.length + valOf 0 l) ∧ l.length ≤ 18 ∧ Hid (Below w.heap.size w wr)) (fun _ k wr => (intOf k).toNat)
    case atStart => exact ⟨N, [], rfl, rfl, rfl, Lib.hid (by rw [show valOf 0 [] = 0 from rfl, List.length_nil, Nat.pow_zero, Nat.mul_one, Nat.add_zero]), by simp, Lib.hid (Below.refl _ _)⟩
    case round =>
      obtain ⟨K, l, rfl, rfl, hl, hNK, hl18, HB⟩ := hrel
      obtain ⟨d, hd⟩ : ∃ d : UInt8, (d.toNat : Int) = 48 + (K : Int) % 10 := ⟨UInt8.ofNat (48 + K % 10), by rw [UInt8.toNat_ofNat']; omega⟩
      have hcv := digit_conv wr K d hd
      obtain ⟨hl2, hv⟩ := digit_val K l d hd hl
      have hcat := cat_mk d l
      have hNK2 := Lib.hid (hNK.out.trans hv)
      have dX : Below w.heap.size w (wr.alloc (.cells #[.int .u8 (48 + (K : Int) % 10)] 5)) := HB.out.alloc HB.out.size _
      replace HB := Lib.hid dX
      have hd1 : ([d].toArray).size = 1 := rfl
      have hKN : K ≤ N := by
        rw [hNK.out]
        have := Nat.mul_le_mul_left K (Nat.pow_pos (show 0 < 10 by decide) : 0 < 10 ^ l.length)
        omega
      have hna : ¬ 9223372036854775807 < ([d].toArray).size + l.length := by simp; omega
      clear dX hd hv
      generalize ([d].toArray) = dA at *
      have hcv2 := Lib.hid fun X : World => Lib.run_convert_string_bytes X 9 22 5 ⟨(d :: l).toArray⟩ Tryd.underlying9 Tryd.underlying22 Tryd.underlying5
      have HA := Lib.hid fun X : World => bytesWorld_arg X ⟨(d :: l).toArray⟩
      have HT := Lib.hid (toks_digits (d :: l) (by simp) hl2 (by simp; omega))
      by_cases hlt : (K : Int) < 10
      · have hK0 : N = valOf 0 (d :: l) := by rw [hNK2.out, Nat.div_eq_of_lt (by omega), Nat.zero_mul, Nat.zero_add]
        generalize valOf 0 (d :: l) = V at *
        subst hK0
        generalize (⟨(d :: l).toArray⟩ : ByteArray) = sb at *
        have HL := Lib.hid fun (W : World) (d : Below w.heap.size w W) => lives_any W (ErrVars.below HV.out d)
        go_wp2_with (rw [hcv2.out])
        generalize hX : World.alloc wr _ = X at *
        have hsX : X.heap.size = wr.heap.size + 1 := by rw [← hX, World.size_alloc]
        have dY := HB.out.trans ((Lib.bytesWorld_below X 5 sb).mono HB.out.size)
        have hA2 := HA.out X
        rw [hsX] at hA2
        refine (Tokens_arg _ hA2 (HV.out.below dY)).mono ?_
        clear hA2 hX hcv
        unfold ArgPost
        rw [HT.out hN]
        have hsz : sb.size ≤ 65536 := by
          have h1 : (⟨dA⟩ : ByteArray).size + (⟨l.toArray⟩ : ByteArray).size = sb.size := by rw [← hcat, ByteArray.size_append]
          have h2 : (⟨l.toArray⟩ : ByteArray).size = l.length := by rw [← str_len, str_mk]
          have h3 : (⟨dA⟩ : ByteArray).size = dA.size := rfl
          omega
        clear hcv2 HA HT hsX hna hcat
        simp only [if_pos hsz]
        replace HB := Lib.hid dY
        clear dY
        generalize Lib.bytesWorld X 5 sb = Y at *
        by_cases hmax : (N : Int) ≤ 2305843009213693951
        · simp only [if_pos (show N ≤ 2305843009213693951 by omega)]
          rintro e W ⟨dW, v, rfl, hO⟩
          have DW := Lib.hid (HB.out.trans (dW.mono HB.out.size))
          have hO2 := hO.2
          rcases hO2 with ⟨_, h0⟩ | ⟨g, cap, cur, rfl, h1, h2, h3, _⟩
          · simp at h0
          · have hcc : ∀ j u, (flatToks [⟨2, 0, sb, N⟩, ⟨5, (d :: l).length, ⟨#[]⟩, 0⟩])[j]? = some u → W.cell? ⟨g, j, none⟩ = some u := fun j u hu => by
              have := World.ownsRow.cells hO (g := g) rfl j u hu
              rw [show (⟨g, 0, none⟩ : Addr).add j = ⟨g, j, none⟩ by simp [Addr.add]; omega] at this
              exact this
            have k2 : W.cell? ⟨g, 2, none⟩ = some (.string sb) := hcc 2 _ rfl
            have k3 : W.cell? ⟨g, 3, none⟩ = some (.int .i64 N) := hcc 3 _ rfl
            clear hcc h1 h2 h3 hO
            go_wp2_with (go_at_call 8; refine (HL.out _ DW.out).mono ?_; clear HL; rintro e W3 ⟨rfl, hb⟩; have HB3 := Lib.hid (DW.out.trans (hb.mono DW.out.size)); clear hb)
            go_ret
            exact ⟨rfl, HB3.out⟩
        · simp only [if_neg (show ¬ N ≤ 2305843009213693951 by omega)]
          rintro e W ⟨dW, rfl⟩
          have DW := Lib.hid (HB.out.trans (dW.mono HB.out.size))
          go_wp2_with (go_at_call 8; refine (HL.out _ DW.out).mono ?_; clear HL; rintro e W3 ⟨rfl, hb⟩; have HB3 := Lib.hid (DW.out.trans (hb.mono DW.out.size)); clear hb)
          go_ret
          exact ⟨rfl, HB3.out⟩
      · have hq10 : IntKind.i64.wrap ((K : Int) / 10) = ((K / 10 : Nat) : Int) := by rw [IntKind.wrap_i64]; omega
        have hq11 : IntKind.i64.wrap ((K : Int).tdiv 10) = ((K / 10 : Nat) : Int) := by rw [IntKind.wrap_i64, Int.tdiv_eq_ediv_of_nonneg (by omega)]; omega
        have hK9 := Lib.hid (digits_len (K / 10) (d :: l) (by omega) (by rw [← hNK2.out]; exact hN))
        clear HT HA hcv2
        go_wp2_with fail
        go_roundw
        case rel => exact ⟨K / 10, d :: l, by rw [show (K : Int) / 10 = ((K / 10 : Nat) : Int) by omega], rfl, hl2, hNK2, hK9.out, HB⟩
        case measure => simp [intOf]; omega
end Go.Proofs.YtbakfpoejoajeaaDoor.Hand
