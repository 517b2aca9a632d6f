/- DERIVED. DERIVED. LexWords: the reference's Tokens and Same; the walk of the law. -/
import Derived.Test.YtbakfpoejoajeaaDoorProg
import Derived.Test.YtbakfpoejoajeaaDoorMBits
import Derived.Test.YtbakfpoejoajeaaDoorMWalk
import Derived.Test.YtbakfpoejoajeaaDoorMArg
import Derived.Test.YtbakfpoejoajeaaDoorMRow
import Derived.Test.YtbakfpoejoajeaaDoorMOpen
import Derived.Test.YtbakfpoejoajeaaDoorMPart
import Derived.Test.YtbakfpoejoajeaaDoorHN
import Derived.Below
import Derived.Deep.Draws
import Derived.Deep.AppendLies
import Derived.Maps.AppendAt
import Derived.OwnWalk
import Derived.Laws.BytesArg
import Derived.Laws.MakeOwn
import Derived.Laws.OwnMore
import Derived.Deep.OwnRows
import Derived.Tactics
import Derived.Lib.ConvBytes
import Derived.Laws.Slices
import Derived.WalkKit
import Derived.KernelRfl
import Derived.RowKit3
import Derived.Deep.LoopGhost
import Derived.Deep.QuietTactic
import Derived.BigQuiet
import Derived.WideLaws
import Derived.Deep.DeepCutAuto
import Derived.Deep.CutBlock
import Derived.Deep.RegionHeld3
import Derived.Laws.Rows
import Derived.Lib.AppendStr
import Derived.ArgAppend
import Derived.Laws.IdiomCopy
import Derived.OrdersHeld
import Derived.Laws.BitsLemmas
import Derived.Laws.Bits64
import Derived.RowKit
import Derived.Outline
import Derived.Handy
import Derived.Lib.Hide
import Derived.Deep.Light
import Derived.Laws.CopyOwn
import Derived.Lib.QuietBelow
import Derived.Shelf.Strings.Prefix
import Derived.Shelf.Small.Strs
import Derived.Shelf.Strconv.AtoiAll
import Derived.Ground.NamesProg
import Derived.Lib.AtoiErrMem
namespace Go.Proofs.YtbakfpoejoajeaaDoor.Hand
open Go Go.RowKit Go.Proofs.YtbakfpoejoajeaaDoor.M
set_option linter.unusedVariables false
set_option linter.unusedSimpArgs false
attribute [local go_sem] Oper.semAt_some
theorem wordOf_le1 (b : ByteArray) (i : Nat) (hi : i < b.size) (t : Tok) (q : Nat) (h : wordOf b i b[i] = some (t, q)) : q ≤ b.size := by
  have hl := str_len b
  unfold wordOf at h
  split at h
  · have hm := takeN_le partU (b.toList.drop i)
    rw [List.length_drop] at hm
    dsimp only at h
    split at h
    · injection h with h
      injection h with _ h
      omega
    · cases h
  · split at h
    · have hm := takeN_le digitU (b.toList.drop i)
      rw [List.length_drop] at hm
      dsimp only at h
      split at h
      · split at h
        · injection h with h
          injection h with _ h
          omega
        · cases h
      · cases h
    · split at h
      · have hm := takeN_le partU (b.toList.drop (i + 1))
        rw [List.length_drop] at hm
        dsimp only at h
        split at h
        · injection h with h
          injection h with _ h
          omega
        · cases h
      · split at h
        · rename_i hp
          have h2s := pre_two b i hi hp
          injection h with h
          injection h with _ h
          omega
        · split at h
          · injection h with h
            injection h with _ h
            omega
          · cases h
theorem wordOf_le2 (b : ByteArray) (i : Nat) (hi : i < b.size) : ∀ (t : Tok) (q : Nat), wordOf b i b[i] = some (t, q) → q ≤ b.size := fun t q h => wordOf_le1 b i hi t q h
theorem lexF_len2 (b : ByteArray) : ∀ (f i : Nat) (l : List Tok), lexF b f i = .ok l → l.length ≤ b.size - i
  | 0, i, l, h => by
    injection h with h
    subst h
    exact Nat.zero_le _
  | f + 1, i, l, h => by
    unfold lexF at h
    split at h
    · rename_i hi
      split at h
      · cases h
      · rename_i t q hw
        have hq := wordOf_lt b i hi t q hw
        cases hl : lexF b f (q + skipF false (b.toList.drop q)) with
        | error e => rw [hl] at h; cases h
        | ok l' =>
          rw [hl] at h
          injection h with h
          subst h
          have ih := lexF_len2 b f _ l' hl
          rw [List.length_cons]
          omega
    · injection h with h
      subst h
      exact Nat.zero_le _
theorem toks_ne2 (b : ByteArray) (L : List Tok) (h : tokensOf b = .ok L) : L ≠ [] := by
  unfold tokensOf at h
  cases hl : lexF b (b.size + 1) (skipF false (b.toList.drop 0)) with
  | error e => rw [hl] at h; cases h
  | ok l =>
    rw [hl] at h
    injection h with h
    subst h
    simp
theorem toks_len2 (b : ByteArray) (L : List Tok) (h : tokensOf b = .ok L) : L.length ≤ b.size + 1 := by
  unfold tokensOf at h
  cases hl : lexF b (b.size + 1) (skipF false (b.toList.drop 0)) with
  | error e => rw [hl] at h; cases h
  | ok l =>
    rw [hl] at h
    injection h with h
    subst h
    have := lexF_len2 b _ _ l hl
    rw [List.length_append, List.length_singleton]
    omega
/-- While the reference gathers words. -/
structure RLex (w W : World) (v : Value) (acc : List Tok) : Prop where
  d : Below w.heap.size w W
  o : OwnToks W w.heap.size v acc
theorem RLex.below {w W V : World} {v : Value} {acc : List Tok} (H : RLex w W v acc) (d : Below W.heap.size W V) : RLex w V v acc :=
  ⟨H.d.trans (d.mono H.d.size), World.ownsRow.kept (row := none) H.o ⟨d.os, d.tape, d.output, d.size, fun k hk _ => d.block k hk⟩ (by cases hb : v.ownBlock with | none => exact .inl rfl | some k => exact .inr (by simp))⟩
theorem RLex.app {w W V : World} {v v' : Value} {acc acc' : List Tok} (H : RLex w W v acc) (o : OwnToks V w.heap.size v' acc') (g : W.grownBy V v.ownBlock) : RLex w V v' acc' :=
  ⟨H.d.grown g H.d.size (fun k e => (World.ownsRow.lt H.o k e).1), o⟩
/-- What the reference's Tokens gives. -/
def RPost (w : World) (r : Except Nat (List Tok)) : Ending → World → Prop := fun e w' => Below w.heap.size w w' ∧ match r with
  | .error i => e = .returned (.tuple #[.slice none 0 0, .int .i64 i, .int .i64 110])
  | .ok l => ∃ v, e = .returned (.tuple #[v, .int .i64 0, .int .i64 0]) ∧ OwnToks w' w.heap.size v l
set_option maxRecDepth 100000 in
set_option maxHeartbeats 3000000 in
theorem rTokens_any {A : Option Addr} {n c : Nat} {b : ByteArray} (w : World) (hA : ArgB w A n c b) (h0 : b.size ≤ 65536) :
    Calls Tryd.prog 10 #[.slice A n c] w (RPost w (tokensOf b)) := by
  have hn := hA.hn
  have HA := Lib.hid hA
  have h0i : ¬ (65536 : Int) < b.size := by omega
  have HK := Lib.hid fun (W : World) (d : Below w.heap.size w W) (i : Nat) (hi : i ≤ b.size) => rskip_any W (HA.out.below d) (by omega) i hi
  have HO := Lib.hid fun (W : World) (d : Below w.heap.size w W) (i : Nat) (hi : i < b.size) => one_any W (HA.out.below d) h0 i hi
  have hl := str_len b
  obtain ⟨R, hR⟩ : ∃ R, tokensOf b = R := ⟨_, rfl⟩
  rw [hR]
  replace hR := Lib.hid hR
  clear hA
  subst hn
  go_enter Tryd.func10, Tryd.ntmps10
  go_wp2_with (go_at_call 18; refine (HK.out _ (Below.refl _ _) 0 (Nat.zero_le _)).mono ?_; rintro e W ⟨rfl, rfl⟩)
  have hi0 : skipF false b.toList ≤ b.size := by have := skipF_le b.toList false; omega
  go_loopw [5, 6] (fun v p wr => ∃ i f acc, p = .int .i64 (i : Nat) ∧ i ≤ b.size ∧ b.size < f + i ∧ acc.length ≤ i ∧ Hid (R = (lexF b f i).map (fun l => acc ++ (l ++ [endTok b]))) ∧ Hid (RLex w wr v acc)) (fun _ p _ => b.size - (intOf p).toNat)
  case atStart => exact ⟨_, b.size + 1, [], rfl, hi0, by omega, by simp, Lib.hid (by rw [← hR.out]; rfl), Lib.hid ⟨Below.refl _ _, OwnToks.nil _ _⟩⟩
  case round =>
    obtain ⟨i, f, acc, rfl, hi, hf, hac, hR, HW⟩ := hrel
    by_cases hlt : i < b.size
    · obtain ⟨f', rfl, hf', hst⟩ := lexF_step b f i hlt hf
      have hlw := wordOf_lt b i hlt
      have hlw2 := wordOf_le2 b i hlt
      have HQ := Lib.hid (HO.out wr HW.out.d i hlt)
      replace hR := Lib.hid (hR.out.trans (by rw [hst]))
      generalize wordOf b i b[i] = ro at *
      go_upto_region 7 with (go_at_call 19; refine HQ.out.mono ?_; clear HQ; rintro e W ⟨⟨tk, tp, tx, tn⟩, m, rfl, dW, hro⟩; replace HW := Lib.hid (HW.out.below dW); rw [Tok.eta_cells]; clear dW)
      generalize hX : World.alloc W _ = X
      obtain ⟨B1, d1, s1⟩ := arg_box (cs := #[.int .i64 tk, .int .i64 tp, .string tx, .int .i64 tn]) hX
      clear hX
      replace HW := Lib.hid (HW.out.below d1)
      have HB := Lib.hid B1
      clear d1 B1 s1
      rcases hro with ⟨hro, rfl⟩ | ⟨hro, hm0⟩
      · have hRo : R = .error i := by rw [hR.out, hro]; rfl
        go_wp2_with fail
        go_ret3
        rw [hRo]
        exact ⟨HW.out.d, rfl⟩
      · have hm1 : ((m : Int) == 0) = false := by simp; omega
        have hq := hlw2 _ _ hro
        have hsk := skipF_le (b.toList.drop (i + m)) false
        rw [List.length_drop] at hsk
        have hRo := Lib.hid (show R = (lexF b f' (i + m + skipF false (b.toList.drop (i + m)))).map (fun l => (acc ++ [⟨tk, tp, tx, tn⟩]) ++ (l ++ [endTok b])) by
          rw [hR.out, hro]
          simp only [map_map_e]
          congr 1
          funext l
          simp)
        clear hR hro hlw hlw2 hst
        go_wp2_with (first
          | (refine wpList_load_row rfl 34 (.tmp 7) rfl W.heap.size rfl 34 _ _ _ HB.out Tryd.underlying34 rfl tok_info ?_)
          | (at_builtin; (generalize hY : World.alloc X _ = Y; obtain ⟨B2, d2, s2⟩ := arg_box (cs := #[.int .i64 tk, .int .i64 tp, .string tx, .int .i64 tn]) hY; clear hY; have HV := Lib.hid (HW.out.below d2)); refine append_tok rfl (.tmp 27) (.tmp 29) rfl w.heap.size _ acc rfl HV.out.o ⟨tk, tp, tx, tn⟩ X.heap.size rfl B2 (by omega) HV.out.d.size ?_; intro v' W' o1 g1; have HZ := Lib.hid (HV.out.app o1 g1); clear B2 d2 o1 g1)
          | (go_at_call 18; refine (HK.out _ HZ.out.d (i + m) hq).mono ?_; rintro e W'' ⟨rfl, rfl⟩))
        go_roundw
        case rel => exact ⟨_, f', _, rfl, by omega, by omega, by simp; omega, hRo, HZ⟩
        case measure => simp [intOf]; omega
    · have hRo := Lib.hid (show R = .ok (acc ++ [endTok b]) by rw [hR.out, lexF_end b f i hlt]; rfl)
      go_wp2_with (at_builtin; (generalize hY : World.alloc wr _ = Y; obtain ⟨B2, d2, s2⟩ := arg_box (cs := (endTok b).cells) hY; clear hY; have HV := Lib.hid (HW.out.below d2)); refine append_tok rfl (.tmp 36) (.tmp 40) rfl w.heap.size _ acc rfl HV.out.o (endTok b) wr.heap.size rfl B2 (by omega) HV.out.d.size ?_; intro v' W' o1 g1; have HZ := Lib.hid (HV.out.app o1 g1); clear B2 d2 o1 g1)
      go_ret3
      rw [hRo.out]
      exact ⟨HZ.out.d, v', rfl, HZ.out.o⟩
set_option maxHeartbeats 3000000 in
theorem rTokens_big {A : Option Addr} {n c : Nat} {b : ByteArray} (w : World) (hA : ArgB w A n c b) (h0 : 65536 < b.size) :
    Calls Tryd.prog 10 #[.slice A n c] w fun e w' => e = .returned (.tuple #[.slice none 0 0, .int .i64 65536, .int .i64 110]) ∧ w' = w := by
  have hn := hA.hn
  clear hA
  subst hn
  have h1 : (65536 : Int) < b.size := by omega
  go_enter Tryd.func10, Tryd.ntmps10
  go_wp2_with fail
  go_ret3
  exact ⟨rfl, rfl⟩
set_option maxRecDepth 100000 in
set_option maxHeartbeats 3000000 in
theorem Same_any (L : List Tok) (g h c d : Nat) (w : World) (hg : TokRow w g L) (hh : TokRow w h L) (hL : L.length ≤ 100000) :
    Calls Tryd.prog 11 #[.slice (some ⟨g, 0, none⟩) L.length c, .slice (some ⟨h, 0, none⟩) L.length d] w fun e w' => e = .returned (.bool true) ∧ Below w.heap.size w w' := by
  have HG := Lib.hid hg
  have HH := Lib.hid hh
  clear hg hh
  go_enter Tryd.func11, Tryd.ntmps11
  go_wp2_with fail
  go_loopw [5] (fun i wr => ∃ k : Nat, i = .int .i64 k ∧ k ≤ L.length ∧ Hid (Below w.heap.size w wr)) (fun i _ => L.length - (intOf i).toNat)
  case atStart => exact ⟨0, rfl, Nat.zero_le _, Lib.hid (Below.refl _ _)⟩
  case round =>
    obtain ⟨k, rfl, hk, HB⟩ := hrel
    by_cases hlt : k < L.length
    · have c1 := (HG.out.below HB.out).at_ k L[k] (List.getElem?_eq_getElem hlt)
      have c2 := (HH.out.below HB.out).at_ k L[k] (List.getElem?_eq_getElem hlt)
      have l1 := (HG.out.below HB.out).lt
      have l2 := (HH.out.below HB.out).lt
      generalize L[k] = t at *
      obtain ⟨tk, tp, tx, tn⟩ := t
      rw [Tok.eta_cells] at c1 c2
      replace c1 := Lib.hid c1
      replace c2 := Lib.hid c2
      go_upto_region 6 with fail
      have HC1 : Hid (∀ V, (∃ pp : Regrown, V = Sort.grow (redrawn wr pp.d) pp.os) → CellsAt V ⟨g, k * 4, none⟩ #[.int .i64 tk, .int .i64 tp, .string tx, .int .i64 tn]) := Lib.hid fun V hV => by
        obtain ⟨pp, rfl⟩ := hV
        exact c1.out.below l1 (below_regrown wr pp.d pp.os)
      have HC2 : Hid (∀ V, (∃ pp : Regrown, V = Sort.grow (redrawn wr pp.d) pp.os) → CellsAt V ⟨h, k * 4, none⟩ #[.int .i64 tk, .int .i64 tp, .string tx, .int .i64 tn]) := Lib.hid fun V hV => by
        obtain ⟨pp, rfl⟩ := hV
        exact c2.out.below l2 (below_regrown wr pp.d pp.os)
      clear c1 c2 l1 l2
      refine wp_region_quiet_below (by kernel_rfl) (by kernel_rfl) ?_
      go_big_quiet_step (fail)
      go_big_quiet_step (fail)
      go_big_quiet_step (fail)
      refine wpQuiet_load rfl 34 _ rfl ⟨g, k * 4, none⟩ rfl #[.int .i64 tk, .int .i64 tp, .string tx, .int .i64 tn] _ (fun V hV => HC1.out V hV) Tryd.underlying34 rfl tok_info ?_
      try simp only [List.getElem_toArray, List.getElem_cons_succ, List.getElem_cons_zero, Act.put, List.setIfInBounds_toArray, List.set_cons_succ, List.set_cons_zero]
      go_big_quiet_step (fail)
      go_big_quiet_step (fail)
      go_big_quiet_step (fail)
      refine wpQuiet_load rfl 34 _ rfl ⟨h, k * 4, none⟩ rfl #[.int .i64 tk, .int .i64 tp, .string tx, .int .i64 tn] _ (fun V hV => HC2.out V hV) Tryd.underlying34 rfl tok_info ?_
      try simp only [List.getElem_toArray, List.getElem_cons_succ, List.getElem_cons_zero, Act.put, List.setIfInBounds_toArray, List.set_cons_succ, List.set_cons_zero]
      go_big_quiet_step (fail)
      refine wpQuiet_nil ?_
      intro _ hw'
      obtain ⟨⟨dq, osq⟩, hw''⟩ := hw'
      subst hw''
      clear HC1 HC2
      replace HB := Lib.hid (HB.out.trans ((below_regrown wr dq osq).mono HB.out.size))
      generalize Sort.grow (redrawn wr dq) osq = Y at *
      go_wp2_with fail
      go_roundw
      case rel => exact ⟨k + 1, by simp, by omega, HB⟩
      case measure => simp [intOf]; omega
    · go_wp2_with fail
      go_ret
      exact ⟨rfl, HB.out⟩

set_option maxRecDepth 100000 in
set_option maxHeartbeats 3000000 in
theorem Same_nil (w : World) : Calls Tryd.prog 11 #[.slice none 0 0, .slice none 0 0] w fun e w' => e = .returned (.bool true) ∧ w = w' := by
  go_enter Tryd.func11, Tryd.ntmps11
  go_wp2_with fail
  go_loop [5] (fun i => i = .int .i64 0) (fun i => 0)
  case atStart => rfl
  case round =>
    subst hrel
    go_wp2_with fail
    go_ret
    exact ⟨rfl, rfl⟩
set_option maxRecDepth 100000 in
set_option maxHeartbeats 3000000 in
theorem LexWords.all (A : Option Addr) (n c : Nat) (z : List Int) (w : World) (hL : LaidOk w) (w0 : IsRow .u8 w A n c z) (y0 : n * 1 ≤ 140737488351232) : Calls Tryd.prog 3 #[.slice A n c] w fun e w' => e = .returned (.bool true) ∧ Below w.heap.size w w' := by
  obtain ⟨b, hA⟩ := ArgB.of_row w0
  have HA := Lib.hid hA
  have hn := hA.hn
  have HV := Lib.hid hL
  have HL := Lib.hid fun (W : World) (d : Below w.heap.size w W) => lives_any W (ErrVars.below HV.out d)
  by_cases h0 : (3000 : Int) < n
  · by_cases h1 : (n : Int) ≤ 65536
    · clear w0 hA hL HA
      go_enter Tryd.func3, Tryd.ntmps3
      go_wp2_with (go_at_call 8; refine (HL.out _ (Below.refl _ _)).mono ?_; clear HL; rintro e W ⟨rfl, hb⟩; have HB := Lib.hid hb; clear hb)
      go_ret
      exact ⟨rfl, HB.out⟩
    · have HT := Lib.hid (Tokens_arg w hA hL)
      unfold ArgPost at HT
      simp only [if_neg (show ¬ b.size ≤ 65536 by omega)] at HT
      have HR := Lib.hid (rTokens_big w hA (by omega))
      have HS := Lib.hid (Same_nil w)
      clear w0 hA hL HA
      go_enter Tryd.func3, Tryd.ntmps3
      go_wp2_with (first
        | (go_at_call 9; refine HT.out.mono ?_; clear HT; rintro e W ⟨rfl, rfl⟩)
        | (go_at_call 10; refine HR.out.mono ?_; clear HR; rintro e W1 ⟨rfl, rfl⟩)
        | (go_at_call 11; refine HS.out.mono ?_; clear HS; rintro e W2 ⟨rfl, rfl⟩)
        | (go_at_call 8; refine (HL.out _ (Below.refl _ _)).mono ?_; clear HL; rintro e W3 ⟨rfl, hb⟩; have HB := Lib.hid hb; clear hb))
      go_ret
      exact ⟨rfl, HB.out⟩
  · have hs : b.size ≤ 65536 := by omega
    have HT := Lib.hid (Tokens_arg w hA hL)
    unfold ArgPost at HT
    simp only [if_pos hs] at HT
    have HR := Lib.hid fun (W : World) (d : Below w.heap.size w W) => rTokens_any W (hA.below d) hs
    have hne := toks_ne2 b
    cases ht : tokensOf b with
    | error k =>
      rw [ht] at HT HR
      have HS := Lib.hid fun (W : World) => Same_nil W
      clear w0 hA hL HA hne
      go_enter Tryd.func3, Tryd.ntmps3
      go_wp2_with (first
        | (go_at_call 9; refine HT.out.mono ?_; clear HT; rintro e W ⟨dW, rfl⟩; have D1 := Lib.hid dW; clear dW)
        | (go_at_call 10; refine (HR.out _ D1.out).mono ?_; clear HR; rintro e W1 ⟨dW, rfl⟩; have D2 := Lib.hid (D1.out.trans (dW.mono D1.out.size)); clear dW)
        | (go_at_call 11; refine (HS.out _).mono ?_; clear HS; rintro e W2 ⟨rfl, rfl⟩)
        | (go_at_call 8; refine (HL.out _ D2.out).mono ?_; clear HL; rintro e W3 ⟨rfl, hb⟩; have HB := Lib.hid (D2.out.trans (hb.mono D2.out.size)); clear hb))
      go_ret
      exact ⟨rfl, HB.out⟩
    | ok L =>
      rw [ht] at HT HR
      have hLne := hne L ht
      have hLl := toks_len2 b L ht
      have HS := Lib.hid fun (W : World) (g h c d : Nat) (h1 : TokRow W g L) (h2 : TokRow W h L) => Same_any L g h c d W h1 h2 (by omega)
      clear w0 hA hL HA hne
      go_enter Tryd.func3, Tryd.ntmps3
      go_wp2_with (first
        | (go_at_call 9; refine HT.out.mono ?_; clear HT; rintro e W ⟨dW, v, rfl, hO⟩; have D1 := Lib.hid dW; obtain ⟨g, cap, rfl, _, _, _, hrow⟩ := hO.row hLne; have R1 := Lib.hid hrow; clear dW hO hrow)
        | (go_at_call 10; refine (HR.out _ D1.out).mono ?_; clear HR; rintro e W1 ⟨dW, v, rfl, hO⟩; have D2 := Lib.hid (D1.out.trans (dW.mono D1.out.size)); obtain ⟨g2, cap2, rfl, _, _, _, hrow⟩ := hO.row hLne; have R2 := Lib.hid hrow; have R3 := Lib.hid (R1.out.below dW); clear dW hO hrow)
        | (go_at_call 11; refine (HS.out _ _ _ _ _ R3.out R2.out).mono ?_; clear HS; rintro e W2 ⟨rfl, dW⟩; have D3 := Lib.hid (D2.out.trans (dW.mono D2.out.size)); clear dW)
        | (go_at_call 8; refine (HL.out _ D3.out).mono ?_; clear HL; rintro e W3 ⟨rfl, hb⟩; have HB := Lib.hid (D3.out.trans (hb.mono D3.out.size)); clear hb))
      go_ret
      exact ⟨rfl, HB.out⟩
end Go.Proofs.YtbakfpoejoajeaaDoor.Hand
