/- DERIVED. DERIVED. LexWhole: words stand at their places; the walk of the law. -/
import Derived.Test.YtbakfpoejoajeaaDoorProg
import Derived.Test.YtbakfpoejoajeaaDoorMBits
import Derived.Test.YtbakfpoejoajeaaDoorMWalk
import Derived.Test.YtbakfpoejoajeaaDoorMArg
import Derived.Test.YtbakfpoejoajeaaDoorMRow
import Derived.Test.YtbakfpoejoajeaaDoorMOpen
import Derived.Test.YtbakfpoejoajeaaDoorMPart
import Derived.Test.YtbakfpoejoajeaaDoorHK
import Derived.Below
import Derived.Deep.Draws
import Derived.Deep.AppendLies
import Derived.Maps.AppendAt
import Derived.OwnWalk
import Derived.Laws.BytesArg
import Derived.Laws.MakeOwn
import Derived.Laws.OwnMore
import Derived.Deep.OwnRows
import Derived.Tactics
import Derived.Lib.ConvBytes
import Derived.Laws.Slices
import Derived.WalkKit
import Derived.KernelRfl
import Derived.RowKit3
import Derived.Deep.LoopGhost
import Derived.Deep.QuietTactic
import Derived.BigQuiet
import Derived.WideLaws
import Derived.Deep.DeepCutAuto
import Derived.Deep.CutBlock
import Derived.Deep.RegionHeld3
import Derived.Laws.Rows
import Derived.Lib.AppendStr
import Derived.ArgAppend
import Derived.Laws.IdiomCopy
import Derived.OrdersHeld
import Derived.Laws.BitsLemmas
import Derived.Laws.Bits64
import Derived.RowKit
import Derived.Outline
import Derived.Handy
import Derived.Lib.Hide
import Derived.Deep.Light
import Derived.Laws.CopyOwn
import Derived.Lib.QuietBelow
import Derived.Shelf.Strings.Prefix
import Derived.Shelf.Small.Strs
import Derived.Shelf.Strconv.AtoiAll
import Derived.Ground.NamesProg
import Derived.Lib.AtoiErrMem
namespace Go.Proofs.YtbakfpoejoajeaaDoor.Hand
open Go Go.RowKit Go.Proofs.YtbakfpoejoajeaaDoor.M
set_option linter.unusedVariables false
set_option linter.unusedSimpArgs false
attribute [local go_sem] Oper.semAt_some
/-! Words stand at their places. -/
def quoteS : ByteArray := ⟨#[39]⟩
/-- A word as it stands in the source. -/
def fullT (t : Tok) : ByteArray := if t.kind = 3 then quoteS ++ t.text else t.text
theorem skip_take : ∀ (l : List UInt8) (c : Bool), skipF c (l.take (skipF c l)) = skipF c l
  | [], c => by cases c <;> rfl
  | x :: r, true => by
    have h1 := skip_take r true
    have h2 := skip_take r false
    by_cases hx : x = 10
    · have e : skipF true (x :: r) = skipF false r + 1 := by
          conv => lhs; unfold skipF
          rw [if_pos hx, Nat.add_comm]
      rw [e, List.take_succ_cons]
      conv => lhs; unfold skipF
      rw [if_pos hx, h2, Nat.add_comm]
    · have e : skipF true (x :: r) = skipF true r + 1 := by
          conv => lhs; unfold skipF
          rw [if_neg hx, Nat.add_comm]
      rw [e, List.take_succ_cons]
      conv => lhs; unfold skipF
      rw [if_neg hx, h1, Nat.add_comm]
  | x :: r, false => by
    have h1 := skip_take r true
    have h2 := skip_take r false
    by_cases hs : spaceU x = true
    · have e : skipF false (x :: r) = skipF false r + 1 := by
          conv => lhs; unfold skipF
          rw [if_pos hs, Nat.add_comm]
      rw [e, List.take_succ_cons]
      conv => lhs; unfold skipF
      rw [if_pos hs, h2, Nat.add_comm]
    · by_cases hx : x = 35
      · have e : skipF false (x :: r) = skipF true r + 1 := by
          conv => lhs; unfold skipF
          rw [if_neg hs, if_pos hx, Nat.add_comm]
        rw [e, List.take_succ_cons]
        conv => lhs; unfold skipF
        rw [if_neg hs, if_pos hx, h1, Nat.add_comm]
      · have e : skipF false (x :: r) = 0 := by unfold skipF; rw [if_neg hs, if_neg hx]
        rw [e]; rfl
theorem extract_list (b : ByteArray) (i j : Nat) (hj : j ≤ b.size) : (b.extract i j).toList = (b.toList.drop i).take (j - i) := by
  rw [ByteArray.toList_eq, ByteArray.data_extract, ByteArray.toList_eq, Array.toList_extract]
theorem endTok_size (b : ByteArray) (n : Nat) (h : b.size = n) : endTok b = ⟨5, n, ⟨#[]⟩, 0⟩ := by unfold endTok; rw [h]
/-- What is skipped has no word. -/
theorem toks_skip (b : ByteArray) (q : Nat) (hq : q ≤ b.size) : tokensOf (b.extract q (q + skipF false (b.toList.drop q))) = .ok [⟨5, skipF false (b.toList.drop q), ⟨#[]⟩, 0⟩] := by
  have hle := skipF_le (b.toList.drop q) false
  rw [List.length_drop, str_len] at hle
  have hs : (b.extract q (q + skipF false (b.toList.drop q))).size = skipF false (b.toList.drop q) := by rw [ByteArray.size_extract]; omega
  have hl := extract_list b q (q + skipF false (b.toList.drop q)) (by omega)
  rw [show q + skipF false (b.toList.drop q) - q = skipF false (b.toList.drop q) by omega] at hl
  have hk := skip_take (b.toList.drop q) false
  generalize b.extract q (q + skipF false (b.toList.drop q)) = x at *
  unfold tokensOf
  rw [List.drop_zero, hl, hk, lexF_end _ _ _ (by omega), hs]
  rfl
/-- A word: where it stands, what it is. -/
theorem wordOf_full (b : ByteArray) (i : Nat) (hi : i < b.size) (t : Tok) (q : Nat) (h : wordOf b i b[i] = some (t, q)) : t.at_ = i ∧ q ≤ b.size ∧ i < q ∧ t.kind ≠ 5 ∧ fullT t = b.extract i q := by
  have hlt := wordOf_lt b i hi t q h
  have hl := str_len b
  have hg := str_get b i hi
  unfold wordOf at h
  split at h
  · have hm := takeN_le partU (b.toList.drop i)
    rw [List.length_drop] at hm
    dsimp only at h
    split at h
    · injection h with h
      injection h with h1 h2
      subst h1; subst h2
      exact ⟨rfl, by omega, hlt, by simp, rfl⟩
    · cases h
  · split at h
    · have hm := takeN_le digitU (b.toList.drop i)
      rw [List.length_drop] at hm
      dsimp only at h
      split at h
      · split at h
        · injection h with h
          injection h with h1 h2
          subst h1; subst h2
          exact ⟨rfl, by omega, hlt, by simp, rfl⟩
        · cases h
      · cases h
    · split at h
      · rename_i hc
        have hm := takeN_le partU (b.toList.drop (i + 1))
        rw [List.length_drop] at hm
        dsimp only at h
        split at h
        · injection h with h
          injection h with h1 h2
          subst h1; subst h2
          refine ⟨rfl, by omega, hlt, by simp, ?_⟩
          show (if (3 : Int) = 3 then quoteS ++ _ else _) = _
          rw [if_pos rfl]
          generalize takeN partU (b.toList.drop (i + 1)) = m at *
          apply ByteArray.ext
          apply Array.toList_inj.1
          rw [← ByteArray.toList_eq, ← ByteArray.toList_eq, extract_list b i _ (by omega), ByteArray.toList_eq, ByteArray.data_append, Array.toList_append, ← ByteArray.toList_eq, ← ByteArray.toList_eq, extract_list b (i + 1) _ (by omega)]
          rw [show i + 1 + m - i = m + 1 by omega, show i + 1 + m - (i + 1) = m by omega]
          conv => rhs; rw [List.drop_eq_getElem_cons (show i < b.toList.length by omega), List.take_succ_cons, hg, hc]
          rw [show quoteS.toList = [39] by rw [ByteArray.toList_eq]; rfl]
          rfl
        · cases h
      · split at h
        · rename_i hp
          have h2s := pre_two b i hi hp
          injection h with h
          injection h with h1 h2
          subst h1; subst h2
          refine ⟨rfl, h2s, hlt, by simp, ?_⟩
          show (⟨#[61, 61]⟩ : ByteArray) = _
          have h1 : [61, 61] <+: (b.extract i b.size).data.toList := List.isPrefixOf_iff_prefix.1 hp
          obtain ⟨r, hr⟩ := h1
          apply ByteArray.ext
          apply Array.toList_inj.1
          rw [← ByteArray.toList_eq (b.extract i (i + 2)), extract_list b i _ h2s]
          rw [← ByteArray.toList_eq, extract_list b i b.size (Nat.le_refl _), ← hl, List.take_of_length_le (by rw [List.length_drop]; exact Nat.le_refl _)] at hr
          rw [← hr, show i + 2 - i = 2 by omega]
          rfl
        · split at h
          · injection h with h
            injection h with h1 h2
            subst h1; subst h2
            exact ⟨rfl, by omega, hlt, by simp, rfl⟩
          · cases h
/-- Words, one behind the other, from a place on. -/
def Chain (b : ByteArray) : Nat → List Tok → Prop
  | q, [] => q = b.size
  | q, t :: r => ∃ p : Nat, t.at_ = p ∧ q ≤ p ∧ p + (fullT t).size ≤ b.size ∧ b.extract p (p + (fullT t).size) = fullT t ∧ (t.kind = 5 ↔ r = []) ∧ (t.kind ≠ 5 → 0 < (fullT t).size) ∧ (t.kind = 5 → (fullT t).size = 0) ∧ (∃ k, tokensOf (b.extract q p) = .ok [⟨5, k, ⟨#[]⟩, 0⟩]) ∧ Chain b (p + (fullT t).size) r
theorem chain_of (b : ByteArray) : ∀ (f q : Nat) (l : List Tok), q ≤ b.size → b.size < f + (q + skipF false (b.toList.drop q)) → lexF b f (q + skipF false (b.toList.drop q)) = .ok l → Chain b q (l ++ [endTok b])
  | f, q, l, hq, hf, h => by
    have hle := skipF_le (b.toList.drop q) false
    rw [List.length_drop, str_len] at hle
    have hts := toks_skip b q hq
    generalize hi : q + skipF false (b.toList.drop q) = i at *
    by_cases hlt : i < b.size
    · obtain ⟨f', rfl, hf', hst⟩ := lexF_step b f i hlt hf
      rw [hst] at h
      cases hw : wordOf b i b[i] with
      | none => rw [hw] at h; cases h
      | some x =>
        obtain ⟨t, q2⟩ := x
        rw [hw] at h
        dsimp only at h
        obtain ⟨h1, h2, h3, h4, h5⟩ := wordOf_full b i hlt t q2 hw
        cases hl : lexF b f' (q2 + skipF false (b.toList.drop q2)) with
        | error e => rw [hl] at h; cases h
        | ok l' =>
          rw [hl] at h
          injection h with h
          subst h
          have ih := chain_of b f' q2 l' h2 (by omega) hl
          have hsz : (fullT t).size = q2 - i := by rw [h5, ByteArray.size_extract]; omega
          rw [List.cons_append]
          refine ⟨i, h1, by omega, by omega, ?_, ?_, fun _ => by omega, fun e => absurd e h4, ⟨_, hts⟩, ?_⟩
          · rw [hsz, show i + (q2 - i) = q2 by omega]; exact h5.symm
          · simp [h4]
          · rw [hsz, show i + (q2 - i) = q2 by omega]; exact ih
    · rw [lexF_end b f i hlt] at h
      injection h with h
      subst h
      obtain rfl : i = b.size := by omega
      refine ⟨b.size, rfl, hq, Nat.le_refl _, ?_, ?_, fun e => absurd rfl e, fun _ => rfl, ⟨_, hts⟩, rfl⟩
      · show b.extract b.size b.size = ⟨#[]⟩
        apply ByteArray.ext
        rw [ByteArray.data_extract]
        simp
      · simp [endTok]
theorem chain_all (b : ByteArray) (L : List Tok) (h : tokensOf b = .ok L) : Chain b 0 L ∧ L ≠ [] := by
  unfold tokensOf at h
  cases hl : lexF b (b.size + 1) (skipF false (b.toList.drop 0)) with
  | error e => rw [hl] at h; cases h
  | ok l =>
    rw [hl] at h
    injection h with h
    subst h
    refine ⟨?_, by simp⟩
    have := chain_of b (b.size + 1) 0 l (Nat.zero_le _) (by omega) (by rw [Nat.zero_add]; exact hl)
    exact this
/-- Where the first wrong word stands. -/
theorem lexF_err (b : ByteArray) : ∀ (f i k : Nat), lexF b f i = .error k → k < b.size
  | 0, i, k, h => by cases h
  | f + 1, i, k, h => by
    unfold lexF at h
    split at h
    · rename_i hi
      split at h
      · injection h with h; omega
      · rename_i t q hw
        cases hl : lexF b f (q + skipF false (b.toList.drop q)) with
        | error e =>
          rw [hl] at h
          injection h with h
          subst h
          exact lexF_err b f _ _ hl
        | ok l => rw [hl] at h; cases h
    · cases h
theorem toks_err (b : ByteArray) (k : Nat) (h : tokensOf b = .error k) : k < b.size := by
  unfold tokensOf at h
  cases hl : lexF b (b.size + 1) (skipF false (b.toList.drop 0)) with
  | error e =>
    rw [hl] at h
    injection h with h
    subst h
    exact lexF_err b _ _ _ hl
  | ok l => rw [hl] at h; cases h
set_option maxRecDepth 100000 in
set_option maxHeartbeats 4000000 in
theorem LexWhole.all (A : Option Addr) (n c : Nat) (z : List Int) (w : World) (hL : LaidOk w) (w0 : IsRow .u8 w A n c z) (y0 : n * 1 ≤ 140737488351232) : Calls Tryd.prog 5 #[.slice A n c] w fun e w' => e = .returned (.bool true) ∧ Below w.heap.size w w' := by
  by_cases h0 : (3000 : Int) < n
  · have HL := Lib.hid (lives_any w hL)
    clear w0
    go_enter Tryd.func5, Tryd.ntmps5
    go_wp2_with (go_at_call 8; refine HL.out.mono ?_; clear HL; rintro e W ⟨rfl, hb⟩; have HB := Lib.hid hb; clear hb)
    go_ret
    exact ⟨rfl, HB.out⟩
  · obtain ⟨b, hA⟩ := ArgB.of_row w0
    have HA := Lib.hid hA
    have hn := hA.hn
    have hc := hA.le
    have HV := Lib.hid hL
    have HT := Lib.hid (Tokens_arg w hA hL)
    have HL := Lib.hid fun (W : World) (d : Below w.heap.size w W) => lives_any W (ErrVars.below HV.out d)
    have hsz : b.size ≤ 65536 := by omega
    unfold ArgPost at HT
    simp only [if_pos hsz] at HT
    clear w0 y0 hA hL
    subst hn
    cases ht : tokensOf b with
    | error k =>
      have hk := toks_err b k ht
      rw [ht] at HT
      have hk1 : (k : Int) < b.size := by omega
      go_enter Tryd.func5, Tryd.ntmps5
      go_wp2_with (first
        | (go_at_call 9; refine HT.out.mono ?_; clear HT; rintro e W ⟨dW, rfl⟩; have DW := Lib.hid dW; clear dW)
        | (go_at_call 8; refine (HL.out _ DW.out).mono ?_; clear HL; rintro e W3 ⟨rfl, hb⟩; have HB3 := Lib.hid (DW.out.trans (hb.mono DW.out.size)); clear hb))
      go_ret
      exact ⟨rfl, HB3.out⟩
    | ok L =>
      rw [ht] at HT
      obtain ⟨hch, hne⟩ := chain_all b L ht
      replace hch := Lib.hid hch
      go_enter Tryd.func5, Tryd.ntmps5
      go_wp2_with (go_at_call 9; refine HT.out.mono ?_; clear HT; rintro e W ⟨dW, v, rfl, hO⟩; have DW := Lib.hid dW; obtain ⟨g, cap, rfl, hcap, hmax, _, hrow⟩ := hO.row hne; unfold maxLen at hmax; have HR := Lib.hid hrow; clear dW hO hrow)
      go_loopw [6, 47] (fun a i wr => ∃ (q k : Nat), a = .int .i64 q ∧ i = .int .i64 k ∧ k ≤ L.length ∧ q ≤ b.size ∧ Hid (Chain b q (L.drop k)) ∧ Hid (Below w.heap.size w wr) ∧ Hid (TokRow wr g L)) (fun _ i wr => L.length - (intOf i).toNat)
      case atStart => exact ⟨0, 0, rfl, rfl, by omega, by omega, hch, DW, HR⟩
      case round =>
        obtain ⟨q, k, rfl, rfl, hk, hq, HC, HB, HR⟩ := hrel
        by_cases hlt : k < L.length
        · have hdr := List.drop_eq_getElem_cons hlt
          rw [hdr] at HC
          obtain ⟨p, hp, hqp, hpb, hpe, hend, hpos, hzero, ⟨sk, hsk⟩, hnext⟩ := HC.out
          have hcell := Lib.hid (HR.out.at_ k L[k] (List.getElem?_eq_getElem hlt))
          have hlast : L.drop (k + 1) = [] ↔ k + 1 = L.length := by
            rw [List.drop_eq_nil_iff]; omega
          rw [hlast] at hend
          clear hdr HC hlast
          generalize L[k] = t at *
          obtain ⟨tk, ta, tx, tn⟩ := t
          obtain rfl : ta = (p : Int) := hp
          rw [Tok.eta_cells] at hcell
          go_upto_region 10 with (refine wpList_load_at rfl 34 _ rfl ⟨g, k * 4, none⟩ rfl #[.int .i64 tk, .int .i64 p, .string tx, .int .i64 tn] _ hcell.out Tryd.underlying34 rfl tok_info ?_)
          generalize hX : World.alloc wr _ = X
          obtain ⟨B, dX, _⟩ := arg_box (cs := #[.int .i64 tk, .int .i64 p, .string tx, .int .i64 tn]) hX
          clear hX hcell
          have HB2 := Lib.hid (HB.out.trans (dX.mono HB.out.size))
          have HR2 := Lib.hid (HR.out.below dX)
          clear dX HB HR
          have HBk := Lib.hid B
          have c0 : X.cell? ⟨wr.heap.size, 0, none⟩ = some (.int .i64 tk) := B.cell 0
          have c1 : X.cell? ⟨wr.heap.size, 1, none⟩ = some (.int .i64 p) := B.cell 1
          have c2 : X.cell? ⟨wr.heap.size, 2, none⟩ = some (.string tx) := B.cell 2
          replace hnext := Lib.hid hnext
          have hq1 : ¬ (p : Int) < q := by omega
          obtain ⟨fs, hfs⟩ : ∃ fs, fullT ⟨tk, p, tx, tn⟩ = fs := ⟨_, rfl⟩
          rw [hfs] at hpb hpe hnext
          rw [hfs] at hpos hzero
          have hS := (HA.out.below HB2.out).sub p (p + fs.size) (by omega) hpb
          rw [hpe, Nat.add_sub_cancel_left] at hS
          have hU := Lib.hid fun (V : World) (d : Below w.heap.size w V) => (Tokens_arg V ((HA.out.below d).sub q p hqp (by omega)) (HV.out.below d))
          have hUs : (b.extract q p).size ≤ 65536 := by rw [ByteArray.size_extract]; omega
          unfold ArgPost at hU
          simp only [if_pos hUs, hsk] at hU
          clear hpe hUs hsk
          have hq3 : ¬ ((b.size : Int) - p < fs.size) := by omega
          have hw9 : wrap64 ((L.length : Int) - 1) = (L.length : Int) - 1 := (by unfold wrap64; omega)
          clear B
          by_cases h5 : tk = 5
          · subst h5
            have hk9 : (k : Int) = (L.length : Int) - 1 := by have := hend.1 rfl; omega
            have hfs : tx = fs := by rw [← hfs]; unfold fullT; rw [if_neg (show ¬ (5 : Int) = 3 by decide)]
            subst hfs
            have hkn : k + 1 = L.length := hend.1 rfl
            have hz := hzero rfl
            have hpe : p = b.size := by
              have h1 := hnext.out
              rw [List.drop_of_length_le (by omega)] at h1
              have h2 : p + tx.size = b.size := h1
              omega
            obtain rfl : tx = ⟨#[]⟩ := by
              apply ByteArray.ext
              exact Array.eq_empty_of_size_eq_zero hz
            clear hpos hzero hend hz
            have hS : ArgB X (partA A c p) 0 (c - p) ⟨#[]⟩ := hS
            by_cases hcp : c = p
            · subst hcp
              rw [partA_eq rfl, Nat.sub_self] at hS
              clear hpe
              have hcv := hS.conv
              clear hS
              by_cases hcq : c = q
              · rw [partA_eq hcq] at hU
                subst hcq
                rw [Nat.sub_self] at hU
                go_wp2_with (go_at_call 9; refine (hU.out _ HB2.out).mono ?_; clear hU; rintro e W2 ⟨dW2, v2, rfl, hO2⟩; have HB3 := Lib.hid (HB2.out.trans (dW2.mono HB2.out.size)); have HR3 := Lib.hid (HR2.out.below dW2); have c1 : W2.cell? ⟨wr.heap.size, 1, none⟩ = some (.int .i64 c) := (HBk.out.below dW2).cell 1; obtain ⟨g2, cap2, rfl, _, _, _, _⟩ := hO2.row (by simp); clear dW2 hO2 HB2 HR2 hcv)
                go_roundw
                case rel => exact ⟨c, L.length, rfl, rfl, Nat.le_refl _, by omega, Lib.hid (by have := hnext.out; rw [hkn] at this; exact this), HB3, HR3⟩
                case measure => simp [intOf]; omega
              · rw [partA_ne hcq] at hU
                go_wp2_with (go_at_call 9; refine (hU.out _ HB2.out).mono ?_; clear hU; rintro e W2 ⟨dW2, v2, rfl, hO2⟩; have HB3 := Lib.hid (HB2.out.trans (dW2.mono HB2.out.size)); have HR3 := Lib.hid (HR2.out.below dW2); have c1 : W2.cell? ⟨wr.heap.size, 1, none⟩ = some (.int .i64 c) := (HBk.out.below dW2).cell 1; obtain ⟨g2, cap2, rfl, _, _, _, _⟩ := hO2.row (by simp); clear dW2 hO2 HB2 HR2 hcv)
                go_roundw
                case rel => exact ⟨c, L.length, rfl, rfl, Nat.le_refl _, by omega, Lib.hid (by have := hnext.out; rw [hkn] at this; exact this), HB3, HR3⟩
                case measure => simp [intOf]; omega
            · have hcq : ¬ c = q := by omega
              clear hpe
              rw [partA_ne hcp] at hS
              rw [partA_ne hcq] at hU
              have hcv := hS.conv
              clear hS
              go_wp2_with (go_at_call 9; refine (hU.out _ HB2.out).mono ?_; clear hU; rintro e W2 ⟨dW2, v2, rfl, hO2⟩; have HB3 := Lib.hid (HB2.out.trans (dW2.mono HB2.out.size)); have HR3 := Lib.hid (HR2.out.below dW2); have c1 : W2.cell? ⟨wr.heap.size, 1, none⟩ = some (.int .i64 p) := (HBk.out.below dW2).cell 1; obtain ⟨g2, cap2, rfl, _, _, _, _⟩ := hO2.row (by simp); clear dW2 hO2 HB2 HR2 hcv)
              go_roundw
              case rel => exact ⟨p, L.length, rfl, rfl, Nat.le_refl _, by omega, Lib.hid (by have := hnext.out; rw [hkn] at this; exact this), HB3, HR3⟩
              case measure => simp [intOf]; omega
          · have hk9 : ¬ (k : Int) = (L.length : Int) - 1 := fun e => h5 (hend.2 (by omega))
            have hk8 : ((k : Int) == (L.length : Int) - 1) = false := by simpa using hk9
            have h58 : (tk == 5) = false := by simpa using h5
            have hfp := hpos h5
            have hcp : ¬ c = p := by omega
            have hcq : ¬ c = q := by omega
            rw [partA_ne hcp] at hS
            rw [partA_ne hcq] at hU
            have hcv := hS.conv
            clear hS hpos hzero hend
            by_cases h3 : tk = 3
            · subst h3
              have hfs : (⟨#[39]⟩ : ByteArray) ++ tx = fs := hfs
              have hsz1 : 1 + tx.size = fs.size := by rw [← hfs, ByteArray.size_append]; rfl
              have htx : ¬ 9223372036854775807 < 1 + tx.size := by omega
              clear hsz1
              go_wp2_with (go_at_call 9; refine (hU.out _ HB2.out).mono ?_; clear hU; rintro e W2 ⟨dW2, v2, rfl, hO2⟩; have HB3 := Lib.hid (HB2.out.trans (dW2.mono HB2.out.size)); have HR3 := Lib.hid (HR2.out.below dW2); have c1 : W2.cell? ⟨wr.heap.size, 1, none⟩ = some (.int .i64 p) := (HBk.out.below dW2).cell 1; obtain ⟨g2, cap2, rfl, _, _, _, _⟩ := hO2.row (by simp); clear dW2 hO2 HB2 HR2 hcv)
              go_roundw
              case rel => exact ⟨p + fs.size, k + 1, by simp, by simp, by omega, hpb, hnext, HB3, HR3⟩
              case measure => simp [intOf]; omega
            · have hfs : tx = fs := by rw [← hfs]; unfold fullT; rw [if_neg h3]
              subst hfs
              go_wp2_with (go_at_call 9; refine (hU.out _ HB2.out).mono ?_; clear hU; rintro e W2 ⟨dW2, v2, rfl, hO2⟩; have HB3 := Lib.hid (HB2.out.trans (dW2.mono HB2.out.size)); have HR3 := Lib.hid (HR2.out.below dW2); have c1 : W2.cell? ⟨wr.heap.size, 1, none⟩ = some (.int .i64 p) := (HBk.out.below dW2).cell 1; obtain ⟨g2, cap2, rfl, _, _, _, _⟩ := hO2.row (by simp); clear dW2 hO2 HB2 HR2 hcv)
              go_roundw
              case rel => exact ⟨p + tx.size, k + 1, by simp, by simp, by omega, hpb, hnext, HB3, HR3⟩
              case measure => simp [intOf]; omega
        · have hqe : q = b.size := by
            have h1 := HC.out
            rw [List.drop_of_length_le (by omega)] at h1
            exact h1
          subst hqe
          go_wp2_with (go_at_call 8; refine (HL.out _ HB.out).mono ?_; clear HL; rintro e W3 ⟨rfl, hb⟩; have HB3 := Lib.hid (HB.out.trans (hb.mono HB.out.size)); clear hb)
          go_ret
          exact ⟨rfl, HB3.out⟩
end Go.Proofs.YtbakfpoejoajeaaDoor.Hand
