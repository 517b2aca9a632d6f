/- DERIVED. DERIVED. The reference's word at a place. -/
import Derived.Test.YtbakfpoejoajeaaDoorProg
import Derived.Test.YtbakfpoejoajeaaDoorMBits
import Derived.Test.YtbakfpoejoajeaaDoorMWalk
import Derived.Test.YtbakfpoejoajeaaDoorMArg
import Derived.Test.YtbakfpoejoajeaaDoorMRow
import Derived.Test.YtbakfpoejoajeaaDoorMOpen
import Derived.Test.YtbakfpoejoajeaaDoorMPart
import Derived.Test.YtbakfpoejoajeaaDoorHM
import Derived.Below
import Derived.Deep.Draws
import Derived.Deep.AppendLies
import Derived.Maps.AppendAt
import Derived.OwnWalk
import Derived.Laws.BytesArg
import Derived.Laws.MakeOwn
import Derived.Laws.OwnMore
import Derived.Deep.OwnRows
import Derived.Tactics
import Derived.Lib.ConvBytes
import Derived.Laws.Slices
import Derived.WalkKit
import Derived.KernelRfl
import Derived.RowKit3
import Derived.Deep.LoopGhost
import Derived.Deep.QuietTactic
import Derived.BigQuiet
import Derived.WideLaws
import Derived.Deep.DeepCutAuto
import Derived.Deep.CutBlock
import Derived.Deep.RegionHeld3
import Derived.Laws.Rows
import Derived.Lib.AppendStr
import Derived.ArgAppend
import Derived.Laws.IdiomCopy
import Derived.OrdersHeld
import Derived.Laws.BitsLemmas
import Derived.Laws.Bits64
import Derived.RowKit
import Derived.Outline
import Derived.Handy
import Derived.Lib.Hide
import Derived.Deep.Light
import Derived.Laws.CopyOwn
import Derived.Lib.QuietBelow
import Derived.Shelf.Strings.Prefix
import Derived.Shelf.Small.Strs
import Derived.Shelf.Strconv.AtoiAll
import Derived.Ground.NamesProg
import Derived.Lib.AtoiErrMem
namespace Go.Proofs.YtbakfpoejoajeaaDoor.Hand
open Go Go.RowKit Go.Proofs.YtbakfpoejoajeaaDoor.M
set_option linter.unusedVariables false
set_option linter.unusedSimpArgs false
attribute [local go_sem] Oper.semAt_some
theorem extract_list2 (b : ByteArray) (i j : Nat) (hj : j ≤ b.size) : (b.extract i j).toList = (b.toList.drop i).take (j - i) := by
  rw [ByteArray.toList_eq, ByteArray.data_extract, ByteArray.toList_eq, Array.toList_extract]

/-- While the reference reads a word: its result's block, and the word's own. -/
structure OneAt (w W : World) (t : Tok) : Prop where
  r : ∃ z : Tok, Blk W w.heap.size z.cells 34
  t : Blk W (w.heap.size + 1) t.cells 34
  d : Below w.heap.size w W
theorem OneAt.below {w W V : World} {t : Tok} (H : OneAt w W t) (d : Below W.heap.size W V) : OneAt w V t := by
  obtain ⟨⟨z, hz⟩, h2, h3⟩ := H
  exact ⟨⟨z, hz.below d⟩, h2.below d, h3.trans (d.mono h3.size)⟩
theorem below_setc {B g : Nat} {w V : World} (h : Below B w V) (hg : B ≤ g) (j : Nat) (u : Value) : Below B w (V.setCell ⟨g, j, none⟩ u) :=
  ⟨h.os, h.tape, h.output, by simpa [World.setCell] using h.size, fun k hk => (Below.heap_setCell V ⟨g, j, none⟩ u k (by show k ≠ g; omega)).trans (h.block k hk)⟩
theorem OneAt.set {w W : World} {t : Tok} (H : OneAt w W t) (j : Nat) (u : Value) (t' : Tok) (e : t.cells.setIfInBounds j u = t'.cells) : OneAt w (W.setCell ⟨w.heap.size + 1, j, none⟩ u) t' := by
  obtain ⟨⟨z, hz⟩, h2, h3⟩ := H
  exact ⟨⟨z, hz.far (p := ⟨w.heap.size + 1, j, none⟩) (by show w.heap.size ≠ w.heap.size + 1; omega) u⟩, e ▸ h2.set j u, below_setc h3 (Nat.le_succ _) j u⟩
/-- What the reference says of a word. -/
def OnePost (w : World) (i : Nat) (r : Option (Tok × Nat)) : Ending → World → Prop := fun e w' =>
  ∃ (t : Tok) (m : Nat), e = .returned (.tuple #[.agg t.cells, .int .i64 m]) ∧ Below w.heap.size w w' ∧ ((r = none ∧ m = 0) ∨ (r = some (t, i + m) ∧ 0 < m))
theorem one_end {w W : World} {i m : Nat} {t : Tok} {a : Act} {r : Option (Tok × Nat)} (H : OneAt w W t) (hd : a.defers = []) (h4 : a.tmps.getD 4 undef = .pointer (some ⟨w.heap.size, 0, none⟩)) (h5 : a.tmps.getD 5 undef = .int .i64 m)
    (hr : (r = none ∧ m = 0) ∨ (r = some (t, i + m) ∧ 0 < m)) : bodyPost Tryd.prog Tryd.f19 (OnePost w i r) .ret a (W.setRow w.heap.size t.cells) := by
  obtain ⟨⟨z, hz⟩, h2, h3⟩ := H
  exact ⟨hd, _, M.results_cell_tmp (fn := Tryd.f19) (by kernel_rfl) a.tmps _ w.heap.size _ _ _ h4 (hz.row t.cells) Tryd.underlying34 rfl tok_info, t, m, by rw [h5], below_row h3 (Nat.le_refl _) _, hr⟩
theorem all_ext (b : ByteArray) (i : Nat) : (b.extract i (i + takeN digitU (b.toList.drop i))).toList.all digitU = true := by
  have h1 := takeN_le digitU (b.toList.drop i)
  by_cases hi : i ≤ b.size
  · rw [List.length_drop, str_len] at h1
    rw [extract_list2 b i _ (by omega), Nat.add_sub_cancel_left]
    unfold takeN
    generalize b.toList.drop i = l
    have : l.take (l.takeWhile digitU).length = l.takeWhile digitU := by
      have h2 := List.takeWhile_append_dropWhile (p := digitU) (l := l)
      generalize l.takeWhile digitU = x at *
      rw [← h2, List.take_left]
    rw [this]
    exact List.all_takeWhile
  · rw [List.length_drop, str_len] at h1
    have : (b.extract i (i + takeN digitU (b.toList.drop i))).size = 0 := by rw [ByteArray.size_extract]; omega
    have h3 : (b.extract i (i + takeN digitU (b.toList.drop i))).toList = [] := List.eq_nil_of_length_eq_zero (by rw [str_len]; exact this)
    rw [h3]; rfl

theorem sign_word (b : ByteArray) (i : Nat) (hi : i < b.size) (u : UInt8) (R : Option (Tok × Nat))
    (hwo : R = if Lib.hasPrefix (b.extract i b.size).data.toList [61, 61] = true then some (⟨4, i, ⟨#[61, 61]⟩, 0⟩, i + 2) else if 0 ≤ Lib.indexByte [40, 41, 123, 125, 44, 59, 61, 43, 45, 42, 60] u then some (⟨4, i, b.extract i (i + 1), 0⟩, i + 1) else none) :
    i + signN (b.toList.drop i) u ≤ b.size ∧ ((R = none ∧ signN (b.toList.drop i) u = 0) ∨ (R = some (⟨4, i, b.extract i (i + signN (b.toList.drop i) u), 0⟩, i + signN (b.toList.drop i) u) ∧ 0 < signN (b.toList.drop i) u)) := by
  have hp : (b.extract i b.size).data.toList = b.toList.drop i := by
    rw [← ByteArray.toList_eq, extract_list2 b i b.size (Nat.le_refl _), List.take_of_length_le (by rw [List.length_drop, str_len]; exact Nat.le_refl _)]
  have h2s := pre_two b i hi
  rw [hp] at hwo h2s
  unfold signN
  by_cases h : Lib.hasPrefix (b.toList.drop i) [61, 61] = true
  · rw [if_pos h] at hwo ⊢
    refine ⟨h2s h, .inr ⟨?_, by omega⟩⟩
    rw [hwo]
    have e : b.extract i (i + 2) = ⟨#[61, 61]⟩ := by
      have h1 : [61, 61] <+: b.toList.drop i := List.isPrefixOf_iff_prefix.1 h
      obtain ⟨r, hr⟩ := h1
      apply ByteArray.ext
      apply Array.toList_inj.1
      rw [← ByteArray.toList_eq (b.extract i (i + 2)), extract_list2 b i _ (h2s h), ← hr, show i + 2 - i = 2 by omega]
      rfl
    rw [e]
  · rw [if_neg h] at hwo ⊢
    have hx := indexByte_any u signs
    rw [show ([40, 41, 123, 125, 44, 59, 61, 43, 45, 42, 60] : List UInt8) = signs from rfl] at hwo
    by_cases h2 : signs.any (· == u) = true
    · rw [if_pos h2]
      rw [if_pos (hx.2 h2)] at hwo
      exact ⟨by omega, .inr ⟨hwo, by omega⟩⟩
    · rw [if_neg h2]
      rw [if_neg (fun h3 => h2 (hx.1 h3))] at hwo
      exact ⟨by omega, .inl ⟨hwo, rfl⟩⟩

set_option maxRecDepth 100000 in
set_option maxHeartbeats 8000000 in
theorem one_any {A : Option Addr} {n c : Nat} {b : ByteArray} (w : World) (hA : ArgB w A n c b) (hs : b.size ≤ 65536) (i : Nat) (hi : i < b.size) :
    Calls Tryd.prog 19 #[.slice A n c, .int .i64 i] w (OnePost w i (wordOf b i b[i])) := by
  have hn := hA.hn
  have hle := hA.le
  have HA := Lib.hid hA
  obtain ⟨ad, hAd, hc0⟩ := hA.cell i hi
  obtain ⟨R, hR⟩ : ∃ R, wordOf b i b[i] = R := ⟨_, rfl⟩
  rw [hR]
  replace hR := Lib.hid hR
  clear hA
  subst hn
  go_enter Tryd.func19, Tryd.ntmps19
  go_upto_region 1 with fail
  generalize hX : World.alloc w _ = X
  obtain ⟨B0, d0, s0⟩ := arg_box (cs := (⟨0, 0, ⟨#[]⟩, 0⟩ : Tok).cells) hX
  clear hX
  go_upto_region 2 with fail
  generalize hX : World.alloc X _ = Y
  obtain ⟨B1, d1, s1⟩ := arg_box (cs := (⟨0, i, ⟨#[]⟩, 0⟩ : Tok).cells) hX
  clear hX
  rw [← s0] at B1 ⊢
  have HO : Hid (OneAt w Y ⟨0, i, ⟨#[]⟩, 0⟩) := Lib.hid ⟨⟨_, B0.below d1⟩, B1, d0.trans (d1.mono d0.size)⟩
  clear B0 d0 s0 B1 d1 s1
  have HL := Lib.hid fun (W : World) => rletter_any (b[i].toNat : Int) W
  have HD := Lib.hid fun (W : World) => rdigit_any (b[i].toNat : Int) W
  have hU1 := Lib.hid (show letterU b[i] = letterB (b[i].toNat : Int) from rfl)
  have hU2 := Lib.hid (show digitU b[i] = digitB (b[i].toNat : Int) from rfl)
  have hU3 := Lib.hid fun v : UInt8 => u8_eq b[i] v
  have hst1 := Lib.hid fun (P : UInt8 → Bool) => (show takeN P (b.toList.drop i) = if P b[i] = true then 1 + takeN P (b.toList.drop (i + 1)) else 0 by rw [takeN_step P _ i (by rw [str_len]; exact hi), str_get b i hi])
  have HSg := Lib.hid fun (W : World) (d : Below w.heap.size w W) => sign_any W (HA.out.below d) (by omega) i hi
  have hcY : Y.cell? (ad.add i) = some (.int .u8 (b[i].toNat : Int)) := by
    have h1 : (ad.add i).block < w.heap.size := lt_of_cell hc0
    rw [HO.out.d.cell h1]; exact hc0
  clear hc0
  have hci : ¬ c = i := by omega
  subst hAd
  go_upto_region 3 with fail
  clear hcY
  generalize b[i] = u at *
  generalize (u.toNat : Int) = z at *
  cases hz1 : letterB z
  · cases hz2 : digitB z
    · by_cases hz3 : z = 39
      · have hm2 : i + 1 + takeN partU (b.toList.drop (i + 1)) ≤ b.size := by have := takeN_le partU (b.toList.drop (i + 1)); rw [List.length_drop, str_len] at this; omega
        have hwo := Lib.hid (show R = if nameB (b.extract (i + 1) (i + 1 + takeN partU (b.toList.drop (i + 1)))).toList = true then some (⟨3, i, b.extract (i + 1) (i + 1 + takeN partU (b.toList.drop (i + 1))), 0⟩, i + 1 + takeN partU (b.toList.drop (i + 1))) else none by rw [← hR.out]; unfold wordOf; rw [if_neg (show ¬ letterU u = true from fun h => by rw [hU1.out, hz1] at h; cases h), if_neg (show ¬ digitU u = true from fun h => by rw [hU2.out, hz2] at h; cases h), if_pos ((hU3.out 39).1 hz3)])
        have HT := Lib.hid fun (W : World) (d : Below w.heap.size w W) => run_any W (HA.out.below d) (by omega) (i + 1) (by omega) false
        rw [show runP false = partU from funext runP_part] at HT
        rw [show ((i + 1 : Nat) : Int) = (i : Int) + 1 from rfl] at HT
        generalize hm : takeN partU (b.toList.drop (i + 1)) = m at *
        have HC := Lib.hid fun (W : World) (d : Below w.heap.size w W) => ((HA.out.below d).sub (i + 1) (i + 1 + m) (by omega) hm2).conv
        rw [Nat.add_sub_cancel_left] at HC
        have htx : (b.extract (i + 1) (i + 1 + m)).size = m := by rw [ByteArray.size_extract]; omega
        clear hm hU1 hU2 hU3 hst1 hR HSg
        subst hz3
        by_cases hcq : c = i + 1
        · -- the last byte
          subst hcq
          rw [partA_eq rfl, Nat.sub_self] at HC
          generalize b.extract (i + 1) (i + 1 + m) = tx at *
          have HNm := Lib.hid fun (W : World) => rName_any tx W (by omega)
          generalize nameB tx.toList = nb at *
          go_upto_region 21 with (first | (go_at_call 29; refine (HL.out _).mono ?_; clear HL; rintro e W ⟨rfl, rfl⟩; rw [hz1]) | (go_at_call 31; refine (HD.out _).mono ?_; clear HD; rintro e W ⟨rfl, rfl⟩; rw [hz2]) | (go_at_call 30; refine (HT.out _ HO.out.d).mono ?_; clear HT; rintro e W ⟨rfl, rfl⟩))
          go_upto_region 22 with (refine wpList_store_val rfl 3 _ _ rfl (w.heap.size + 1) 0 (.int .i64 3) rfl rfl rfl rfl _ _ HO.out.t (by rw [Tok.len]; omega) i64_info ?_; (generalize hZ : World.setCell Y _ _ = Y1; replace HO := Lib.hid (show OneAt w Y1 ⟨3, i, ⟨#[]⟩, 0⟩ from hZ ▸ HO.out.set 0 (.int .i64 3) ⟨3, i, ⟨#[]⟩, 0⟩ rfl); clear hZ))
          have hcv := HC.out Y1 HO.out.d
          go_upto_region 23 with (refine wpList_store_val rfl 9 _ _ rfl (w.heap.size + 1) 2 (.string tx) rfl rfl rfl rfl _ _ HO.out.t (by rw [Tok.len]; omega) str_info ?_; (generalize hZ : World.setCell Y1 _ _ = Y2; replace HO := Lib.hid (show OneAt w Y2 ⟨3, i, tx, 0⟩ from hZ ▸ HO.out.set 2 (.string tx) ⟨3, i, tx, 0⟩ rfl); clear hZ))
          clear hcv HC
          have c2 : Y2.cell? ⟨w.heap.size + 1, 2, none⟩ = some (.string tx) := HO.out.t.cell 2
          cases nb
          · go_upto_region 24 with (go_at_call 15; refine (HNm.out _).mono ?_; clear HNm; rintro e W ⟨rfl, dN⟩; replace HO := Lib.hid (HO.out.below dN); clear dN c2)
            obtain ⟨zt, hzb⟩ := HO.out.r
            go_wp2_with (first
              | (refine wpList_load_row rfl 34 _ rfl (w.heap.size + 1) rfl 34 _ _ _ HO.out.t Tryd.underlying34 rfl tok_info ?_)
              | (refine wpList_store_row rfl 34 _ _ rfl w.heap.size _ rfl rfl 34 _ hzb tok_info rfl (Tok.one _) ?_))
            refine one_end (m := 0) HO.out rfl rfl ?_ (.inl ⟨hwo.out, rfl⟩)
            rfl
          · go_upto_region 25 with (go_at_call 15; refine (HNm.out _).mono ?_; clear HNm; rintro e W ⟨rfl, dN⟩; replace HO := Lib.hid (HO.out.below dN); clear dN c2)
            obtain ⟨zt, hzb⟩ := HO.out.r
            go_wp2_with (first
              | (refine wpList_load_row rfl 34 _ rfl (w.heap.size + 1) rfl 34 _ _ _ HO.out.t Tryd.underlying34 rfl tok_info ?_)
              | (refine wpList_store_row rfl 34 _ _ rfl w.heap.size _ rfl rfl 34 _ hzb tok_info rfl (Tok.one _) ?_))
            refine one_end (m := m + 1) HO.out rfl rfl ?_ (.inr ⟨hwo.out.trans (by rw [show i + 1 + m = i + (m + 1) by omega]; rfl), by omega⟩)
            rfl
        · -- more behind it
          rw [partA_ne hcq, Option.map_some] at HC
          rw [show ad.add (i + 1) = ⟨ad.block, ad.off + (i + 1), none⟩ by unfold Addr.add; rw [if_neg (by omega)]] at HC
          generalize b.extract (i + 1) (i + 1 + m) = tx at *
          have HNm := Lib.hid fun (W : World) => rName_any tx W (by omega)
          generalize nameB tx.toList = nb at *
          go_upto_region 21 with (first | (go_at_call 29; refine (HL.out _).mono ?_; clear HL; rintro e W ⟨rfl, rfl⟩; rw [hz1]) | (go_at_call 31; refine (HD.out _).mono ?_; clear HD; rintro e W ⟨rfl, rfl⟩; rw [hz2]) | (go_at_call 30; refine (HT.out _ HO.out.d).mono ?_; clear HT; rintro e W ⟨rfl, rfl⟩))
          go_upto_region 22 with (refine wpList_store_val rfl 3 _ _ rfl (w.heap.size + 1) 0 (.int .i64 3) rfl rfl rfl rfl _ _ HO.out.t (by rw [Tok.len]; omega) i64_info ?_; (generalize hZ : World.setCell Y _ _ = Y1; replace HO := Lib.hid (show OneAt w Y1 ⟨3, i, ⟨#[]⟩, 0⟩ from hZ ▸ HO.out.set 0 (.int .i64 3) ⟨3, i, ⟨#[]⟩, 0⟩ rfl); clear hZ))
          have hcv := HC.out Y1 HO.out.d
          go_upto_region 23 with (refine wpList_store_val rfl 9 _ _ rfl (w.heap.size + 1) 2 (.string tx) rfl rfl rfl rfl _ _ HO.out.t (by rw [Tok.len]; omega) str_info ?_; (generalize hZ : World.setCell Y1 _ _ = Y2; replace HO := Lib.hid (show OneAt w Y2 ⟨3, i, tx, 0⟩ from hZ ▸ HO.out.set 2 (.string tx) ⟨3, i, tx, 0⟩ rfl); clear hZ))
          clear hcv HC
          have c2 : Y2.cell? ⟨w.heap.size + 1, 2, none⟩ = some (.string tx) := HO.out.t.cell 2
          cases nb
          · go_upto_region 24 with (go_at_call 15; refine (HNm.out _).mono ?_; clear HNm; rintro e W ⟨rfl, dN⟩; replace HO := Lib.hid (HO.out.below dN); clear dN c2)
            obtain ⟨zt, hzb⟩ := HO.out.r
            go_wp2_with (first
              | (refine wpList_load_row rfl 34 _ rfl (w.heap.size + 1) rfl 34 _ _ _ HO.out.t Tryd.underlying34 rfl tok_info ?_)
              | (refine wpList_store_row rfl 34 _ _ rfl w.heap.size _ rfl rfl 34 _ hzb tok_info rfl (Tok.one _) ?_))
            refine one_end (m := 0) HO.out rfl rfl ?_ (.inl ⟨hwo.out, rfl⟩)
            rfl
          · go_upto_region 25 with (go_at_call 15; refine (HNm.out _).mono ?_; clear HNm; rintro e W ⟨rfl, dN⟩; replace HO := Lib.hid (HO.out.below dN); clear dN c2)
            obtain ⟨zt, hzb⟩ := HO.out.r
            go_wp2_with (first
              | (refine wpList_load_row rfl 34 _ rfl (w.heap.size + 1) rfl 34 _ _ _ HO.out.t Tryd.underlying34 rfl tok_info ?_)
              | (refine wpList_store_row rfl 34 _ _ rfl w.heap.size _ rfl rfl 34 _ hzb tok_info rfl (Tok.one _) ?_))
            refine one_end (m := m + 1) HO.out rfl rfl ?_ (.inr ⟨hwo.out.trans (by rw [show i + 1 + m = i + (m + 1) by omega]; rfl), by omega⟩)
            rfl
      · have hwo := Lib.hid (show R = if Lib.hasPrefix (b.extract i b.size).data.toList [61, 61] = true then some (⟨4, i, ⟨#[61, 61]⟩, 0⟩, i + 2) else if 0 ≤ Lib.indexByte [40, 41, 123, 125, 44, 59, 61, 43, 45, 42, 60] u then some (⟨4, i, b.extract i (i + 1), 0⟩, i + 1) else none by rw [← hR.out]; unfold wordOf; rw [if_neg (show ¬ letterU u = true from fun h => by rw [hU1.out, hz1] at h; cases h), if_neg (show ¬ digitU u = true from fun h => by rw [hU2.out, hz2] at h; cases h), if_neg (show ¬ u = 39 from fun h => hz3 ((hU3.out 39).2 h))])
        obtain ⟨hk, hww⟩ := sign_word b i hi u R hwo.out
        have hz3' : (z == 39) = false := by simpa using hz3
        replace hww := Lib.hid hww
        clear hwo hU1 hU2 hU3 hst1 hR hz3
        generalize signN (b.toList.drop i) u = k at *
        have HC := Lib.hid fun (W : World) (d : Below w.heap.size w W) => ((HA.out.below d).sub i (i + k) (by omega) hk).conv
        rw [partA_ne hci, Nat.add_sub_cancel_left, Option.map_some] at HC
        generalize b.extract i (i + k) = tx at *
        go_upto_region 27 with (first | (go_at_call 29; refine (HL.out _).mono ?_; clear HL; rintro e W ⟨rfl, rfl⟩; rw [hz1]) | (go_at_call 31; refine (HD.out _).mono ?_; clear HD; rintro e W ⟨rfl, rfl⟩; rw [hz2]) | (go_at_call 33; refine (HSg.out _ HO.out.d).mono ?_; clear HSg; rintro e W ⟨rfl, rfl⟩))
        go_upto_region 28 with (refine wpList_store_val rfl 3 _ _ rfl (w.heap.size + 1) 0 (.int .i64 4) rfl rfl rfl rfl _ _ HO.out.t (by rw [Tok.len]; omega) i64_info ?_; (generalize hZ : World.setCell Y _ _ = Y1; replace HO := Lib.hid (show OneAt w Y1 ⟨4, i, ⟨#[]⟩, 0⟩ from hZ ▸ HO.out.set 0 (.int .i64 4) ⟨4, i, ⟨#[]⟩, 0⟩ rfl); clear hZ))
        have hcv := HC.out Y1 HO.out.d
        go_upto_region 29 with (refine wpList_store_val rfl 9 _ _ rfl (w.heap.size + 1) 2 (.string tx) rfl rfl rfl rfl _ _ HO.out.t (by rw [Tok.len]; omega) str_info ?_; (generalize hZ : World.setCell Y1 _ _ = Y2; replace HO := Lib.hid (show OneAt w Y2 ⟨4, i, tx, 0⟩ from hZ ▸ HO.out.set 2 (.string tx) ⟨4, i, tx, 0⟩ rfl); clear hZ))
        clear hcv HC
        obtain ⟨zt, hzb⟩ := HO.out.r
        go_wp2_with (first
          | (refine wpList_load_row rfl 34 _ rfl (w.heap.size + 1) rfl 34 _ _ _ HO.out.t Tryd.underlying34 rfl tok_info ?_)
          | (refine wpList_store_row rfl 34 _ _ rfl w.heap.size _ rfl rfl 34 _ hzb tok_info rfl (Tok.one _) ?_))
        exact one_end HO.out rfl rfl rfl hww.out
    · have hdu : digitU u = true := hU2.out.trans hz2
      have hm1 : 0 < takeN digitU (b.toList.drop i) := by rw [hst1.out digitU, if_pos hdu]; omega
      have hm2 : i + takeN digitU (b.toList.drop i) ≤ b.size := by have := takeN_le digitU (b.toList.drop i); rw [List.length_drop, str_len] at this; omega
      have hall := all_ext b i
      have hwo := Lib.hid (show R = (match atoiV (b.extract i (i + takeN digitU (b.toList.drop i))).toList with | some v => if v ≤ 2305843009213693951 then some (⟨2, i, b.extract i (i + takeN digitU (b.toList.drop i)), v⟩, i + takeN digitU (b.toList.drop i)) else none | none => none) by rw [← hR.out]; unfold wordOf; rw [if_neg (show ¬ letterU u = true from fun h => by rw [hU1.out, hz1] at h; cases h), if_pos hdu]; rfl)
      have HT := Lib.hid fun (W : World) (d : Below w.heap.size w W) => run_any W (HA.out.below d) (by omega) i (by omega) true
      rw [show runP true = digitU from funext runP_digit] at HT
      generalize hm : takeN digitU (b.toList.drop i) = m at *
      have HC := Lib.hid fun (W : World) (d : Below w.heap.size w W) => ((HA.out.below d).sub i (i + m) (by omega) hm2).conv
      rw [partA_ne hci, Nat.add_sub_cancel_left, Option.map_some] at HC
      have htx : (b.extract i (i + m)).size = m := by rw [ByteArray.size_extract]; omega
      clear hm hU1 hU2 hU3 hst1 hR HSg hdu
      generalize b.extract i (i + m) = tx at *
      have htne : tx.toList ≠ [] := fun e => by have := str_len tx; rw [e] at this; simp at this; omega
      rw [atoiV_digits _ htne hall] at hwo
      have HN := Lib.hid fun (W : World) => number_any tx W (by omega) hall
      obtain ⟨V, hV⟩ : ∃ V, valOf 0 tx.toList = V := ⟨_, rfl⟩
      rw [hV] at HN hwo
      clear hall htne hV
      have hcv := HC.out Y HO.out.d
      by_cases hVm : V ≤ 2305843009213693951
      · rw [if_pos (by omega)] at hwo
        have hwo2 := Lib.hid (hwo.out.trans (if_pos (show (V : Int) ≤ 2305843009213693951 by omega)))
        go_upto_region 13 with (first | (go_at_call 29; refine (HL.out _).mono ?_; clear HL; rintro e W ⟨rfl, rfl⟩; rw [hz1]) | (go_at_call 31; refine (HD.out _).mono ?_; clear HD; rintro e W ⟨rfl, rfl⟩; rw [hz2]) | (go_at_call 30; refine (HT.out _ HO.out.d).mono ?_; clear HT; rintro e W ⟨rfl, rfl⟩) | (go_at_call 32; refine (HN.out _).mono ?_; clear HN; rintro e W ⟨rfl, ⟨_, rfl⟩ | ⟨hbad, rfl⟩⟩; rotate_left; (exfalso; omega)))
        clear hcv
        go_upto_region 14 with (refine wpList_store_val rfl 3 _ _ rfl (w.heap.size + 1) 0 (.int .i64 2) rfl rfl rfl rfl _ _ HO.out.t (by rw [Tok.len]; omega) i64_info ?_; (generalize hZ : World.setCell Y _ _ = Y1; replace HO := Lib.hid (show OneAt w Y1 ⟨2, i, ⟨#[]⟩, 0⟩ from hZ ▸ HO.out.set 0 (.int .i64 2) ⟨2, i, ⟨#[]⟩, 0⟩ rfl); clear hZ))
        have hcv := HC.out Y1 HO.out.d
        go_upto_region 15 with (refine wpList_store_val rfl 9 _ _ rfl (w.heap.size + 1) 2 (.string tx) rfl rfl rfl rfl _ _ HO.out.t (by rw [Tok.len]; omega) str_info ?_; (generalize hZ : World.setCell Y1 _ _ = Y2; replace HO := Lib.hid (show OneAt w Y2 ⟨2, i, tx, 0⟩ from hZ ▸ HO.out.set 2 (.string tx) ⟨2, i, tx, 0⟩ rfl); clear hZ))
        clear hcv HC
        go_upto_region 16 with (refine wpList_store_val rfl 3 _ _ rfl (w.heap.size + 1) 3 (.int .i64 V) rfl rfl rfl rfl _ _ HO.out.t (by rw [Tok.len]; omega) i64_info ?_; (generalize hZ : World.setCell Y2 _ _ = Y3; replace HO := Lib.hid (show OneAt w Y3 ⟨2, i, tx, V⟩ from hZ ▸ HO.out.set 3 (.int .i64 V) ⟨2, i, tx, V⟩ rfl); clear hZ))
        obtain ⟨zt, hzb⟩ := HO.out.r
        go_wp2_with (first
          | (refine wpList_load_row rfl 34 _ rfl (w.heap.size + 1) rfl 34 _ _ _ HO.out.t Tryd.underlying34 rfl tok_info ?_)
          | (refine wpList_store_row rfl 34 _ _ rfl w.heap.size _ rfl rfl 34 _ hzb tok_info rfl (Tok.one _) ?_))
        exact one_end HO.out rfl rfl rfl (.inr ⟨hwo2.out, hm1⟩)
      · have hwo2 := Lib.hid (show R = none by
          rw [hwo.out]
          by_cases h63 : V < 9223372036854775808
          · rw [if_pos h63]; exact if_neg (by omega)
          · rw [if_neg h63])
        go_upto_region 13 with (first | (go_at_call 29; refine (HL.out _).mono ?_; clear HL; rintro e W ⟨rfl, rfl⟩; rw [hz1]) | (go_at_call 31; refine (HD.out _).mono ?_; clear HD; rintro e W ⟨rfl, rfl⟩; rw [hz2]) | (go_at_call 30; refine (HT.out _ HO.out.d).mono ?_; clear HT; rintro e W ⟨rfl, rfl⟩) | (go_at_call 32; refine (HN.out _).mono ?_; clear HN; rintro e W ⟨rfl, ⟨hbad, rfl⟩ | ⟨_, rfl⟩⟩; (exfalso; omega)))
        clear hcv
        go_upto_region 14 with (refine wpList_store_val rfl 3 _ _ rfl (w.heap.size + 1) 0 (.int .i64 2) rfl rfl rfl rfl _ _ HO.out.t (by rw [Tok.len]; omega) i64_info ?_; (generalize hZ : World.setCell Y _ _ = Y1; replace HO := Lib.hid (show OneAt w Y1 ⟨2, i, ⟨#[]⟩, 0⟩ from hZ ▸ HO.out.set 0 (.int .i64 2) ⟨2, i, ⟨#[]⟩, 0⟩ rfl); clear hZ))
        have hcv := HC.out Y1 HO.out.d
        go_upto_region 15 with (refine wpList_store_val rfl 9 _ _ rfl (w.heap.size + 1) 2 (.string tx) rfl rfl rfl rfl _ _ HO.out.t (by rw [Tok.len]; omega) str_info ?_; (generalize hZ : World.setCell Y1 _ _ = Y2; replace HO := Lib.hid (show OneAt w Y2 ⟨2, i, tx, 0⟩ from hZ ▸ HO.out.set 2 (.string tx) ⟨2, i, tx, 0⟩ rfl); clear hZ))
        clear hcv HC
        go_upto_region 16 with (refine wpList_store_val rfl 3 _ _ rfl (w.heap.size + 1) 3 (.int .i64 0) rfl rfl rfl rfl _ _ HO.out.t (by rw [Tok.len]; omega) i64_info ?_; (generalize hZ : World.setCell Y2 _ _ = Y3; replace HO := Lib.hid (show OneAt w Y3 ⟨2, i, tx, 0⟩ from hZ ▸ HO.out.set 3 (.int .i64 0) ⟨2, i, tx, 0⟩ rfl); clear hZ))
        obtain ⟨zt, hzb⟩ := HO.out.r
        go_wp2_with (first
          | (refine wpList_load_row rfl 34 _ rfl (w.heap.size + 1) rfl 34 _ _ _ HO.out.t Tryd.underlying34 rfl tok_info ?_)
          | (refine wpList_store_row rfl 34 _ _ rfl w.heap.size _ rfl rfl 34 _ hzb tok_info rfl (Tok.one _) ?_))
        refine one_end (m := 0) HO.out rfl rfl ?_ (.inl ⟨hwo2.out, rfl⟩)
        rfl
  · have hwo := Lib.hid (show R = if takeN partU (b.toList.drop i) ≤ 32 then some (⟨1, i, b.extract i (i + takeN partU (b.toList.drop i)), 0⟩, i + takeN partU (b.toList.drop i)) else none by rw [← hR.out]; unfold wordOf; rw [if_pos (hU1.out.trans hz1)])
    have hlu : partU u = true := by unfold partU partB; rw [show letterB (u.toNat : Int) = letterU u from rfl, hU1.out, hz1, Bool.or_true]
    have hm1 : 0 < takeN partU (b.toList.drop i) := by rw [hst1.out partU, if_pos hlu]; omega
    have hm2 : i + takeN partU (b.toList.drop i) ≤ b.size := by have := takeN_le partU (b.toList.drop i); rw [List.length_drop, str_len] at this; omega
    have HT := Lib.hid fun (W : World) (d : Below w.heap.size w W) => run_any W (HA.out.below d) (by omega) i (by omega) false
    rw [show runP false = partU from funext runP_part] at HT
    generalize hm : takeN partU (b.toList.drop i) = m at *
    have HC := Lib.hid fun (W : World) (d : Below w.heap.size w W) => ((HA.out.below d).sub i (i + m) (by omega) hm2).conv
    rw [partA_ne hci, Nat.add_sub_cancel_left, Option.map_some] at HC
    clear hm hU1 hU2 hU3 hst1 hR HSg
    generalize b.extract i (i + m) = tx at *
    go_upto_region 5 with (first | (go_at_call 29; refine (HL.out _).mono ?_; clear HL; rintro e W ⟨rfl, rfl⟩; rw [hz1]) | (go_at_call 30; refine (HT.out _ HO.out.d).mono ?_; clear HT; rintro e W ⟨rfl, rfl⟩))
    go_upto_region 6 with (refine wpList_store_val rfl 3 _ _ rfl (w.heap.size + 1) 0 (.int .i64 1) rfl rfl rfl rfl _ _ HO.out.t (by rw [Tok.len]; omega) i64_info ?_; (generalize hZ : World.setCell Y _ _ = Y1; replace HO := Lib.hid (show OneAt w Y1 ⟨1, i, ⟨#[]⟩, 0⟩ from hZ ▸ HO.out.set 0 (.int .i64 1) ⟨1, i, ⟨#[]⟩, 0⟩ rfl); clear hZ))
    have hcv := HC.out Y1 HO.out.d
    go_upto_region 7 with (refine wpList_store_val rfl 9 _ _ rfl (w.heap.size + 1) 2 (.string tx) rfl rfl rfl rfl _ _ HO.out.t (by rw [Tok.len]; omega) str_info ?_; (generalize hZ : World.setCell Y1 _ _ = Y2; replace HO := Lib.hid (show OneAt w Y2 ⟨1, i, tx, 0⟩ from hZ ▸ HO.out.set 2 (.string tx) ⟨1, i, tx, 0⟩ rfl); clear hZ))
    clear hcv HC
    by_cases h32 : m ≤ 32
    · have h32i : ¬ (32 : Int) < m := by omega
      rw [if_pos h32] at hwo
      obtain ⟨zt, hzb⟩ := HO.out.r
      go_wp2_with (first
        | (refine wpList_load_row rfl 34 _ rfl (w.heap.size + 1) rfl 34 _ _ _ HO.out.t Tryd.underlying34 rfl tok_info ?_)
        | (refine wpList_store_row rfl 34 _ _ rfl w.heap.size _ rfl rfl 34 _ hzb tok_info rfl (Tok.one _) ?_))
      exact one_end HO.out rfl rfl rfl (.inr ⟨hwo.out, hm1⟩)
    · have h32i : (32 : Int) < m := by omega
      rw [if_neg h32] at hwo
      obtain ⟨zt, hzb⟩ := HO.out.r
      go_wp2_with (first
        | (refine wpList_load_row rfl 34 _ rfl (w.heap.size + 1) rfl 34 _ _ _ HO.out.t Tryd.underlying34 rfl tok_info ?_)
        | (refine wpList_store_row rfl 34 _ _ rfl w.heap.size _ rfl rfl 34 _ hzb tok_info rfl (Tok.one _) ?_))
      refine one_end (m := 0) HO.out rfl rfl ?_ (.inl ⟨hwo.out, rfl⟩)
      rfl
end Go.Proofs.YtbakfpoejoajeaaDoor.Hand
