/- DERIVED. DERIVED. One word is read: the walk of word. -/
import Derived.Test.YtbakfpoejoajeaaDoorProg
import Derived.Test.YtbakfpoejoajeaaDoorMBits
import Derived.Test.YtbakfpoejoajeaaDoorMWalk
import Derived.Test.YtbakfpoejoajeaaDoorMArg
import Derived.Test.YtbakfpoejoajeaaDoorMRow
import Derived.Test.YtbakfpoejoajeaaDoorMOpen
import Derived.Test.YtbakfpoejoajeaaDoorMPart
import Derived.Test.YtbakfpoejoajeaaDoorMStore
import Derived.Test.YtbakfpoejoajeaaDoorMQTwo
import Derived.Test.YtbakfpoejoajeaaDoorMQTail
import Derived.Test.YtbakfpoejoajeaaDoorMReg
import Derived.Test.YtbakfpoejoajeaaDoorHD
import Derived.Below
import Derived.Deep.Draws
import Derived.Deep.AppendLies
import Derived.Maps.AppendAt
import Derived.OwnWalk
import Derived.Laws.BytesArg
import Derived.Laws.MakeOwn
import Derived.Laws.OwnMore
import Derived.Deep.OwnRows
import Derived.Tactics
import Derived.Lib.ConvBytes
import Derived.Laws.Slices
import Derived.WalkKit
import Derived.KernelRfl
import Derived.RowKit3
import Derived.Deep.LoopGhost
import Derived.Deep.QuietTactic
import Derived.BigQuiet
import Derived.WideLaws
import Derived.Deep.DeepCutAuto
import Derived.Deep.CutBlock
import Derived.Deep.RegionHeld3
import Derived.Laws.Rows
import Derived.Lib.AppendStr
import Derived.ArgAppend
import Derived.Laws.IdiomCopy
import Derived.OrdersHeld
import Derived.Laws.BitsLemmas
import Derived.Laws.Bits64
import Derived.RowKit
import Derived.Outline
import Derived.Handy
import Derived.Lib.Hide
import Derived.Deep.Light
import Derived.Laws.CopyOwn
import Derived.Lib.QuietBelow
import Derived.Shelf.Strings.Prefix
import Derived.Shelf.Small.Strs
import Derived.Shelf.Strconv.AtoiAll
import Derived.Ground.NamesProg
import Derived.Lib.AtoiErrMem
namespace Go.Proofs.YtbakfpoejoajeaaDoor.Hand
open Go Go.RowKit Go.Proofs.YtbakfpoejoajeaaDoor.M
set_option linter.unusedVariables false
set_option linter.unusedSimpArgs false
attribute [local go_sem] Oper.semAt_some
structure Tok where
  kind : Int
  at_ : Int
  text : ByteArray
  n : Int
def Tok.cells (t : Tok) : Array Value := #[.int .i64 t.kind, .int .i64 t.at_, .string t.text, .int .i64 t.n]
theorem tok_info : (Tryd.prog.info? 34).map (·.size) = some 4 := by kernel_rfl
theorem Tok.len (t : Tok) : t.cells.size = 4 := rfl
theorem Tok.one (t : Tok) : t.cells.all (·.oneCell') = true := by kernel_rfl
/-- The next word, and where it ends; none: it is wrong. -/
def wordOf (b : ByteArray) (i : Nat) (c : UInt8) : Option (Tok × Nat) :=
  if letterU c = true then
    (let m := takeN partU (b.toList.drop i)
     if m ≤ 32 then some (⟨1, i, b.extract i (i + m), 0⟩, i + m) else none)
  else if digitU c = true then
    (let m := takeN digitU (b.toList.drop i)
     match atoiV (b.extract i (i + m)).toList with
     | some v => if v ≤ 2305843009213693951 then some (⟨2, i, b.extract i (i + m), v⟩, i + m) else none
     | none => none)
  else if c = 39 then
    (let m := takeN partU (b.toList.drop (i + 1))
     if nameB (b.extract (i + 1) (i + 1 + m)).toList = true then some (⟨3, i, b.extract (i + 1) (i + 1 + m), 0⟩, i + 1 + m) else none)
  else if Lib.hasPrefix (b.extract i b.size).data.toList [61, 61] = true then some (⟨4, i, ⟨#[61, 61]⟩, 0⟩, i + 2)
  else if 0 ≤ Lib.indexByte [40, 41, 123, 125, 44, 59, 61, 43, 45, 42, 60] c then some (⟨4, i, b.extract i (i + 1), 0⟩, i + 1)
  else none
/-- While a word is read: the source, and the word's own block. -/
structure WAt (w W : World) (p : Nat) (b : ByteArray) (n : Nat) (t : Tok) : Prop where
  s : SrcAt w W p b n
  t : Blk W w.heap.size t.cells 34
  h : p < w.heap.size
theorem WAt.below {w W W' : World} {p n : Nat} {b : ByteArray} {t : Tok} (H : WAt w W p b n t) (d : Below W.heap.size W W') : WAt w W' p b n t := ⟨H.s.below d, H.t.below d, H.h⟩
theorem WAt.more {w W V : World} {p n m : Nat} {b : ByteArray} {t : Tok} (H : WAt w W p b n t) (g : SrcAt W V p b m) : WAt w V p b m t :=
  ⟨H.s.trans g, (g.g.block _ H.t.lt (fun e => by injection e with e; have := H.h; omega)).trans H.t, H.h⟩
theorem WAt.set {w W : World} {p n : Nat} {b : ByteArray} {t : Tok} (H : WAt w W p b n t) (j : Nat) (u : Value) (t' : Tok) (e : t.cells.setIfInBounds j u = t'.cells) : WAt w (W.setCell ⟨w.heap.size, j, none⟩ u) p b n t' :=
  ⟨⟨H.s.b.far (p := ⟨w.heap.size, j, none⟩) (by have := H.h; show p ≠ w.heap.size; omega) u, ⟨H.s.g.os, H.s.g.tape, H.s.g.output, by simpa [World.setCell] using H.s.g.size, fun k hk hne => (Below.heap_setCell W ⟨w.heap.size, j, none⟩ u k (by show k ≠ w.heap.size; omega)).trans (H.s.g.block k hk hne)⟩⟩, e ▸ H.t.set j u, H.h⟩
theorem WAt.row {w W : World} {p n : Nat} {b : ByteArray} {t : Tok} (H : WAt w W p b n t) : WAt w (W.setRow w.heap.size t.cells) p b n t :=
  ⟨⟨H.s.b.rowFar (by have := H.h; omega) _, ⟨H.s.g.os, H.s.g.tape, H.s.g.output, by rw [size_setRow]; exact H.s.g.size, fun k hk hne => (setRow_other _ _ _ _ (by omega)).trans (H.s.g.block k hk hne)⟩⟩, H.t.row _, H.h⟩
theorem WAt.place {w W : World} {p n : Nat} {b : ByteArray} {t : Tok} (H : WAt w W p b n t) (m : Nat) : WAt w (W.setCell ⟨p, 1, none⟩ (.int .i64 m)) p b m t :=
  ⟨H.s.set m, H.t.far (p := ⟨p, 1, none⟩) (by have := H.h; show w.heap.size ≠ p; omega) _, H.h⟩
theorem i64_info : (Tryd.prog.info? 3).map (·.size) = some 1 := by kernel_rfl
theorem str_info : (Tryd.prog.info? 9).map (·.size) = some 1 := by kernel_rfl
theorem ErrVars.grown {w W : World} {p : Nat} (h : ErrVars w) (g : w.grownBy W (some p)) (h1 : p ≠ lays172_ren.g 15) (h2 : p ≠ lays172_ren.g 16) : ErrVars W := by
  obtain ⟨⟨e1, a1, a2⟩, ⟨e2, a3, a4⟩⟩ := h
  exact ⟨⟨e1, (World.cell?_of_block (g.block _ (lt_of_cell a1) (fun e => h1 (by injection e with e; exact e.symm)))).trans a1, a2⟩, ⟨e2, (World.cell?_of_block (g.block _ (lt_of_cell a3) (fun e => h2 (by injection e with e; exact e.symm)))).trans a3, a4⟩⟩
theorem pre_two (b : ByteArray) (i : Nat) (hi : i < b.size) (h : Lib.hasPrefix (b.extract i b.size).data.toList [61, 61] = true) : i + 2 ≤ b.size := by
  have h1 : [61, 61] <+: (b.extract i b.size).data.toList := List.isPrefixOf_iff_prefix.1 h
  have h2 := h1.length_le
  have h3 : (b.extract i b.size).data.toList.length = (b.extract i b.size).size := Array.length_toList
  rw [h3, ByteArray.size_extract] at h2
  simp at h2
  omega
theorem setRow_same {w : World} {g T : Nat} {cs : Array Value} (h : Blk w g cs T) : w.setRow g cs = w := by
  have e : (w.setRow g cs).heap = w.heap := by
    apply Array.ext_getElem?
    intro k
    by_cases hk : k = g
    · subst hk
      exact (h.row cs).trans h.symm
    · exact setRow_other _ _ _ _ hk
  unfold World.setRow at *
  cases w
  simp only at e ⊢
  rw [e]
/-- What the walk says of a word. -/
def WordPost (w : World) (p : Nat) (b : ByteArray) (i : Nat) (r : Option (Tok × Nat)) : Ending → World → Prop := fun e w' =>
  ∃ t : Tok, ∃ q : Nat, e = .returned (.tuple #[.agg t.cells, .bool r.isSome]) ∧ t.at_ = i ∧ q ≤ b.size ∧ SrcAt w w' p b q ∧ ∀ x, r = some x → x = (t, q)
theorem word_end {w W : World} {p n i : Nat} {b : ByteArray} {t : Tok} {a : Act} {r : Option (Tok × Nat)} (H : WAt w W p b n t) (hd : a.defers = []) (h2 : a.tmps.getD 2 undef = .pointer (some ⟨w.heap.size, 0, none⟩)) (h3 : a.tmps.getD 3 undef = .bool r.isSome)
    (ht : t.at_ = i) (hn : n ≤ b.size) (hr : ∀ x, r = some x → x = (t, n)) : bodyPost Tryd.prog Tryd.f17 (WordPost w p b i r) .ret a W :=
  ⟨hd, _, M.results_cell_tmp (fn := Tryd.f17) (by kernel_rfl) a.tmps W w.heap.size _ _ _ h2 H.t Tryd.underlying34 rfl tok_info, t, n, by rw [h3], ht, hn, H.s, hr⟩
set_option maxRecDepth 100000 in
set_option maxHeartbeats 8000000 in
theorem word_any (b : ByteArray) (p i : Nat) (w : World) (hb : Blk w p #[.string b, .int .i64 i] 39) (hi : i < b.size) (hs0 : b.size ≤ 281474976710656) (hV : ErrVars w) (hp : p < w.heap.size) (hp1 : p ≠ lays172_ren.g 15) (hp2 : p ≠ lays172_ren.g 16) :
    Calls Tryd.prog 17 #[.pointer (some ⟨p, 0, none⟩)] w (WordPost w p b i (wordOf b i b[i])) := by
  have HS := Lib.hid (SrcAt.start hb)
  have hl := str_len b
  have hs : b.size ≤ 4611686018427387904 := by omega
  have HT := Lib.hid fun W h => take_any b p i 21 partU W h (Nat.le_of_lt hi) hs (fun _ _ => rfl) (fun u W => part_any _ W)
  have HT2 := Lib.hid fun W h => take_any b p i 20 digitU W h (Nat.le_of_lt hi) hs (fun _ _ => rfl) (fun u W => digit_any _ W)
  have HT3 := Lib.hid fun W h => take_any b p (i + 1) 21 partU W h (by omega) hs (fun _ _ => rfl) (fun u W => part_any _ W)
  have HLt := Lib.hid fun W => letter_any (b[i].toNat : Int) W
  have HDg := Lib.hid fun W => digit_any (b[i].toNat : Int) W
  obtain ⟨R, hR⟩ : ∃ R, wordOf b i b[i] = R := ⟨_, rfl⟩
  rw [hR]
  replace hR := Lib.hid hR
  clear hb
  go_enter Tryd.func17, Tryd.ntmps17
  go_upto_region 1 with fail
  try simp only [Act.put]
  generalize hX : World.alloc w _ = X
  obtain ⟨B, dX, sX⟩ := arg_box hX
  clear hX
  replace HS := Lib.hid (HS.out.below dX)
  have HW : Hid (WAt w X p b i ⟨0, 0, ⟨#[]⟩, 0⟩) := Lib.hid ⟨HS.out, B, hp⟩
  have c1 : X.cell? ⟨p, 1, none⟩ = some (.int .i64 i) := HS.out.b.cell 1
  clear HS B dX
  go_upto_region 3 with (refine wpList_store_val rfl 3 _ _ rfl w.heap.size 1 (.int .i64 i) rfl rfl rfl rfl _ _ HW.out.t (by rw [Tok.len]; omega) i64_info ?_; (generalize hZ : World.setCell X _ _ = Y; replace HW := Lib.hid (hZ ▸ HW.out.set 1 (.int .i64 i) ⟨0, i, ⟨#[]⟩, 0⟩ rfl); clear hZ c1))
  try simp only [Act.put]
  have c0 : Y.cell? ⟨p, 0, none⟩ = some (.string b) := HW.out.s.b.cell 0
  have c1 : Y.cell? ⟨p, 1, none⟩ = some (.int .i64 i) := HW.out.s.b.cell 1
  have r0 := cell_regrown c0
  have r1 := cell_regrown c1
  clear c0 c1
  refine wp_region_quiet_below (by kernel_rfl) (by kernel_rfl) ?_
  repeat go_big_quiet_step (fail)
  refine wpQuiet_nil ?_
  intro _ hw'
  obtain ⟨⟨dq, osq⟩, hw''⟩ := hw'
  subst hw''
  clear r0 r1
  replace HW := Lib.hid (HW.out.below (below_regrown Y dq osq))
  generalize Sort.grow (redrawn Y dq) osq = Z at *
  have hU1 := Lib.hid (show letterU b[i] = letterB (b[i].toNat : Int) from rfl)
  have hU2 := Lib.hid (show digitU b[i] = digitB (b[i].toNat : Int) from rfl)
  have hU3 := Lib.hid fun v : UInt8 => u8_eq b[i] v
  have hU4 := Lib.hid (show (b[i].toNat : Int).toNat.toUInt8 = b[i] by simp)
  generalize (b[i].toNat : Int) = z at *
  cases hz1 : letterB z
  · cases hz2 : digitB z
    · by_cases hz3 : z = 39
      · generalize hm : takeN partU (b.toList.drop (i + 1)) = m at *
        have hle : i + 1 + m ≤ b.size := by have := takeN_le partU (b.toList.drop (i + 1)); rw [List.length_drop] at this; omega
        have hwo := Lib.hid (show R = if nameB (b.extract (i + 1) (i + 1 + m)).toList = true then some (⟨3, i, b.extract (i + 1) (i + 1 + m), 0⟩, i + 1 + m) else none by rw [← hR.out]; unfold wordOf; rw [if_neg (show ¬ letterU b[i] = true from fun h => by rw [hU1.out, hz1] at h; cases h), if_neg (show ¬ digitU b[i] = true from fun h => by rw [hU2.out, hz2] at h; cases h), if_pos ((hU3.out 39).1 hz3), hm])
        clear hm hU1 hU2 hU3
        subst hz3
        go_upto_region 8 with (go_at_call 25; refine (HLt.out _).mono ?_; clear HLt; rintro e W ⟨rfl, rfl⟩; rw [hz1])
        go_upto_region 13 with (go_at_call 20; refine (HDg.out _).mono ?_; clear HDg; rintro e W ⟨rfl, rfl⟩; rw [hz2])
        try simp only [Act.put]
        have c1 : Z.cell? ⟨p, 1, none⟩ = some (.int .i64 i) := HW.out.s.b.cell 1
        have hfz := HW.out.s.b.frozen 1
        go_upto_region 15 with fail
        try simp only [Act.put]
        generalize hZ : World.setCell Z _ _ = Z0
        replace HW := Lib.hid (show WAt w Z0 p b (i + 1) _ from hZ ▸ HW.out.place (i + 1))
        clear hZ c1 hfz
        go_upto_region 16 with (first
          | (go_at_call 23; refine (HT3.out _ HW.out.s.b).mono ?_; clear HT3; rintro e W ⟨rfl, HX⟩; replace HW := Lib.hid (HW.out.more HX))
          | (refine wpList_store_val rfl 3 _ _ rfl w.heap.size 0 (.int .i64 3) rfl rfl rfl rfl _ _ HW.out.t (by rw [Tok.len]; omega) i64_info ?_; (generalize hZ : World.setCell W _ _ = Z1; have HW1 := Lib.hid (hZ ▸ HW.out.set 0 (.int .i64 3) ⟨3, i, ⟨#[]⟩, 0⟩ rfl); clear hZ HW))
          | (refine wpList_store_val rfl 9 _ _ rfl w.heap.size 2 (.string (b.extract (i + 1) (i + 1 + m))) rfl rfl rfl rfl _ _ HW1.out.t (by rw [Tok.len]; omega) str_info ?_; (generalize hZ : World.setCell Z1 _ _ = Z2; have HW := Lib.hid (hZ ▸ HW1.out.set 2 (.string (b.extract (i + 1) (i + 1 + m))) ⟨3, i, b.extract (i + 1) (i + 1 + m), 0⟩ rfl); clear hZ HW1)))
        try simp only [Act.put]
        have hsz : (b.extract (i + 1) (i + 1 + m)).size = m := by rw [ByteArray.size_extract]; omega
        generalize b.extract (i + 1) (i + 1 + m) = tx at *
        have HN := Lib.hid fun W => Name_any tx W (by omega)
        generalize nameB tx.toList = nb at *
        have HC : Hid (∀ W, (∃ pp : Regrown, W = Sort.grow (redrawn Z2 pp.d) pp.os) → CellsAt W ⟨w.heap.size, 0, none⟩ (⟨3, i, tx, 0⟩ : Tok).cells) := Lib.hid fun W hW => by
          obtain ⟨pp, rfl⟩ := hW
          exact (HW.out.t.below (below_regrown Z2 pp.d pp.os)).cellsAt (o := 0) fun j v hv => by rw [Nat.zero_add]; exact hv
        have c2 : Z2.cell? ⟨w.heap.size, 2, none⟩ = some (.string tx) := HW.out.t.cell 2
        have r2 := cell_regrown c2
        clear c2
        refine wp_region_picks [0, 1, 2] [{ dst := some 73, op := Op.load 34 (Operand.tmp 2), type := 34, pos := "lex.go:85", after := #[], guard := none }, { dst := some 74, op := Op.fieldAddr 34 (Operand.tmp 2) 2, type := 0, pos := "lex.go:85", after := #[], guard := none }, { dst := some 75, op := Op.load 9 (Operand.tmp 74), type := 9, pos := "lex.go:85", after := #[{ on := 1, ground := Ground.data }], guard := none }] rfl (by kernel_rfl) (by decide) (by kernel_rfl) (by kernel_rfl) (by kernel_rfl) (fun _ _ _ _ _ h => h) ?_
        refine wpQuiet_load rfl 34 _ rfl ⟨w.heap.size, 0, none⟩ rfl (⟨3, i, tx, 0⟩ : Tok).cells _ (fun V hV => HC.out V hV) Tryd.underlying34 rfl tok_info ?_
        try simp only [List.getElem_toArray, List.getElem_cons_succ, List.getElem_cons_zero, Act.put, List.setIfInBounds_toArray, List.set_cons_succ, List.set_cons_zero]
        go_big_quiet_step (fail)
        go_big_quiet_step (fail)
        refine wpQuiet_nil ?_
        intro _ hw'
        obtain ⟨⟨dq, osq⟩, hw''⟩ := hw'
        subst hw''
        clear HC r2
        show wpAnyH Tryd.prog .any _ _ _ 3 _ _ _
        have bY := below_regrown Z2 dq osq
        replace HW := Lib.hid (HW.out.below bY)
        generalize Sort.grow (redrawn Z2 dq) osq = Y9 at *
        refine wpAnyH_all (rs := [3]) (by kernel_rfl) (by simp) ?_
        intro kk hkk
        simp only [List.mem_singleton] at hkk
        subst hkk
        refine wpOp_calls (f := 14) (args := #[.string tx]) rfl rfl ?hrN ?_
        case hrN => go_simp
        refine (HN.out _).mono ?_
        rintro e W ⟨rfl, rfl⟩
        refine ⟨_, rfl, regrown_of_below bY, ?_⟩
        try simp only [List.getElem_toArray, List.getElem_cons_succ, List.getElem_cons_zero, Act.put, List.setIfInBounds_toArray, List.set_cons_succ, List.set_cons_zero]
        refine wpAnyH_all (rs := [4]) (by kernel_rfl) (by simp) ?_
        intro kk hkk
        simp only [List.mem_singleton] at hkk
        subst hkk
        refine wpOp_of_list rfl ?_
        refine wpList_store_row rfl 34 _ _ rfl w.heap.size _ rfl rfl 34 _ HW.out.t tok_info rfl (Tok.one _) ?_
        rw [setRow_same HW.out.t]
        refine wpList_thenK ?_
        refine ⟨regrown_of_below bY, ?_⟩
        try simp only [List.getElem_toArray, List.getElem_cons_succ, List.getElem_cons_zero, Act.put, List.setIfInBounds_toArray, List.set_cons_succ, List.set_cons_zero]
        refine wpAnyH_all (rs := [5]) (by kernel_rfl) (by simp) ?_
        intro kk hkk
        simp only [List.mem_singleton] at hkk
        subst hkk
        refine wpOp_of_list rfl ?_
        go_wp2_with fail
        refine thenK_intro ?_
        refine ⟨regrown_of_below bY, ?_⟩
        try simp only [List.getElem_toArray, List.getElem_cons_succ, List.getElem_cons_zero, Act.put, List.setIfInBounds_toArray, List.set_cons_succ, List.set_cons_zero]
        refine wpAnyH_done (by kernel_rfl) ?_ _
        go_wp2_with fail
        refine word_end HW.out rfl rfl ?_ rfl hle (fun x hx => ?_)
        · show Value.bool nb = _
          rw [hwo.out]; cases nb <;> rfl
        · rw [hwo.out] at hx
          cases nb
          · cases hx
          · injection hx with hx; exact hx.symm
      · have hwo := Lib.hid (show R = if Lib.hasPrefix (b.extract i b.size).data.toList [61, 61] = true then some (⟨4, i, ⟨#[61, 61]⟩, 0⟩, i + 2) else if 0 ≤ Lib.indexByte [40, 41, 123, 125, 44, 59, 61, 43, 45, 42, 60] b[i] then some (⟨4, i, b.extract i (i + 1), 0⟩, i + 1) else none by rw [← hR.out]; unfold wordOf; rw [if_neg (show ¬ letterU b[i] = true from fun h => by rw [hU1.out, hz1] at h; cases h), if_neg (show ¬ digitU b[i] = true from fun h => by rw [hU2.out, hz2] at h; cases h), if_neg (show ¬ b[i] = 39 from fun h => hz3 ((hU3.out 39).2 h))])
        clear hU1 hU2
        go_upto_region 8 with (go_at_call 25; refine (HLt.out _).mono ?_; clear HLt; rintro e W ⟨rfl, rfl⟩; rw [hz1])
        have hz3' : (z == 39) = false := by simpa using hz3
        go_upto_region 17 with (go_at_call 20; refine (HDg.out _).mono ?_; clear HDg; rintro e W ⟨rfl, rfl⟩; rw [hz2])
        try simp only [Act.put]
        have c0 : Z.cell? ⟨p, 0, none⟩ = some (.string b) := HW.out.s.b.cell 0
        have c1 : Z.cell? ⟨p, 1, none⟩ = some (.int .i64 i) := HW.out.s.b.cell 1
        have r0 := cell_regrown c0
        have r1 := cell_regrown c1
        clear c0 c1
        have HP := Lib.hid fun W => (HasPrefix_any (b.extract i b.size) ⟨#[61, 61]⟩ W).mono fun e w' (h : e = .returned (.bool (Lib.hasPrefix (b.extract i b.size).data.toList [61, 61])) ∧ w' = W) => (⟨h.1, h.2 ▸ Below.refl _ _⟩ : e = .returned (.bool (Lib.hasPrefix (b.extract i b.size).data.toList [61, 61])) ∧ Below W.heap.size W w')
        have hle2 : Lib.hasPrefix (b.extract i b.size).data.toList [61, 61] = true → i + 2 ≤ b.size := pre_two b i hi
        generalize hq2 : Lib.hasPrefix (b.extract i b.size).data.toList [61, 61] = eq2 at *
        refine wp_region_quiet_below (by kernel_rfl) (by kernel_rfl) ?_
        repeat go_big_quiet_step ((go_at_call 27; exact in_grow HP.out _ _))
        refine wpQuiet_nil ?_
        intro _ hw'
        obtain ⟨⟨dq, osq⟩, hw''⟩ := hw'
        subst hw''
        clear r0 r1 HP
        replace HW := Lib.hid (HW.out.below (below_regrown Z dq osq))
        generalize Sort.grow (redrawn Z dq) osq = Y2 at *
        cases eq2
        · replace hwo := Lib.hid (hwo.out.trans (if_neg (by simp)))
          have HX := Lib.hid fun W => IndexByte_any ⟨#[40, 41, 123, 125, 44, 59, 61, 43, 45, 42, 60]⟩ z W
          clear hle2 hq2
          have hzu : z.toNat.toUInt8 = b[i] := hU4.out
          replace HX := Lib.hid fun W => hzu ▸ HX.out W
          clear hzu
          generalize Lib.indexByte (⟨#[40, 41, 123, 125, 44, 59, 61, 43, 45, 42, 60]⟩ : ByteArray).data.toList b[i] = ix at *
          have hwo := Lib.hid (show R = if 0 ≤ ix then some (⟨4, i, b.extract i (i + 1), 0⟩, i + 1) else none from hwo.out)
          by_cases hx0 : 0 ≤ ix
          · replace hwo := Lib.hid (hwo.out.trans (if_pos hx0))
            go_upto_region 20 with (go_at_call 28; refine (HX.out _).mono ?_; clear HX; rintro e W ⟨rfl, rfl⟩)
            try simp only [Act.put]
            have hwr := Lib.hid (show IntKind.i64.wrap ((i : Int) + 1) = i + 1 by rw [IntKind.wrap_i64]; omega)
            have hsl := Lib.hid fun V : World => (show (Instr.slice 9 (.string b) (some (.int .i64 i)) (some (.int .i64 ((i : Int) + 1))) none).run Tryd.prog V = .ok (.string (b.extract i (i + 1))) V by
              have := run_slice_string (P := Tryd.prog) V 9 b .i64 .i64 (i : Int) ((i : Int) + 1) Tryd.underlying9 (by omega) (by omega) (by omega)
              simpa using this)
            have c0 : W.cell? ⟨p, 0, none⟩ = some (.string b) := HW.out.s.b.cell 0
            have c1 : W.cell? ⟨p, 1, none⟩ = some (.int .i64 i) := HW.out.s.b.cell 1
            refine wp_region_held (S := fun V => V.cell? ⟨p, 0, none⟩ = some (.string b) ∧ V.cell? ⟨p, 1, none⟩ = some (.int .i64 i)) (by kernel_rfl) ?_
            have hS : ({ W with drawn := W.drawn + 1 } : World).cell? ⟨p, 0, none⟩ = some (.string b) ∧ ({ W with drawn := W.drawn + 1 } : World).cell? ⟨p, 1, none⟩ = some (.int .i64 i) := ⟨c0, c1⟩
            clear c0 c1
            replace HW := Lib.hid (HW.out.below (show Below W.heap.size W { W with drawn := W.drawn + 1 } from below_drewN (Below.refl _ _) 1))
            generalize ({ W with drawn := W.drawn + 1 } : World) = Y9 at *
            show wpAnyH Tryd.prog .any _ _ _ 18 _ _ _
            refine wpAnyH_take (i := 0) (v := (.pointer (some ⟨p, 0, none⟩))) rfl (by kernel_rfl) (by kernel_rfl) (by kernel_rfl) (fun _ _ _ h => h) (.inl ⟨rfl, fun V hV => ?h20⟩) hS ?_
            case h20 => first | rfl | (obtain ⟨h0, h1⟩ := hV; go_simp; done) | (go_simp; exact hwr.out) | (go_simp; rw [hsl.out V]; rfl)
            try simp only [List.getElem_toArray, List.getElem_cons_succ, List.getElem_cons_zero, Act.put, List.setIfInBounds_toArray, List.set_cons_succ, List.set_cons_zero]
            refine wpAnyH_take (i := 1) (v := (.pointer (some ⟨p, 0, none⟩))) rfl (by kernel_rfl) (by kernel_rfl) (by kernel_rfl) (fun _ _ _ h => h) (.inl ⟨rfl, fun V hV => ?h20⟩) hS ?_
            case h20 => first | rfl | (obtain ⟨h0, h1⟩ := hV; go_simp; done) | (go_simp; exact hwr.out) | (go_simp; rw [hsl.out V]; rfl)
            try simp only [List.getElem_toArray, List.getElem_cons_succ, List.getElem_cons_zero, Act.put, List.setIfInBounds_toArray, List.set_cons_succ, List.set_cons_zero]
            refine wpAnyH_take (i := 2) (v := (.pointer (some ⟨p, 0, none⟩))) rfl (by kernel_rfl) (by kernel_rfl) (by kernel_rfl) (fun _ _ _ h => h) (.inl ⟨rfl, fun V hV => ?h20⟩) hS ?_
            case h20 => first | rfl | (obtain ⟨h0, h1⟩ := hV; go_simp; done) | (go_simp; exact hwr.out) | (go_simp; rw [hsl.out V]; rfl)
            try simp only [List.getElem_toArray, List.getElem_cons_succ, List.getElem_cons_zero, Act.put, List.setIfInBounds_toArray, List.set_cons_succ, List.set_cons_zero]
            refine wpAnyH_take (i := 3) (v := (.string b)) rfl (by kernel_rfl) (by kernel_rfl) (by kernel_rfl) (fun _ _ _ h => h) (.inl ⟨rfl, fun V hV => ?h20⟩) hS ?_
            case h20 => first | rfl | (obtain ⟨h0, h1⟩ := hV; go_simp; done) | (go_simp; exact hwr.out) | (go_simp; rw [hsl.out V]; rfl)
            try simp only [List.getElem_toArray, List.getElem_cons_succ, List.getElem_cons_zero, Act.put, List.setIfInBounds_toArray, List.set_cons_succ, List.set_cons_zero]
            refine wpAnyH_take (i := 4) (v := (.pointer (some ⟨p, 0, none⟩))) rfl (by kernel_rfl) (by kernel_rfl) (by kernel_rfl) (fun _ _ _ h => h) (.inl ⟨rfl, fun V hV => ?h20⟩) hS ?_
            case h20 => first | rfl | (obtain ⟨h0, h1⟩ := hV; go_simp; done) | (go_simp; exact hwr.out) | (go_simp; rw [hsl.out V]; rfl)
            try simp only [List.getElem_toArray, List.getElem_cons_succ, List.getElem_cons_zero, Act.put, List.setIfInBounds_toArray, List.set_cons_succ, List.set_cons_zero]
            refine wpAnyH_take (i := 5) (v := (.pointer (some ⟨p, 0, none⟩))) rfl (by kernel_rfl) (by kernel_rfl) (by kernel_rfl) (fun _ _ _ h => h) (.inl ⟨rfl, fun V hV => ?h20⟩) hS ?_
            case h20 => first | rfl | (obtain ⟨h0, h1⟩ := hV; go_simp; done) | (go_simp; exact hwr.out) | (go_simp; rw [hsl.out V]; rfl)
            try simp only [List.getElem_toArray, List.getElem_cons_succ, List.getElem_cons_zero, Act.put, List.setIfInBounds_toArray, List.set_cons_succ, List.set_cons_zero]
            refine wpAnyH_take (i := 6) (v := (.pointer (some ⟨p, 1, none⟩))) rfl (by kernel_rfl) (by kernel_rfl) (by kernel_rfl) (fun _ _ _ h => h) (.inl ⟨rfl, fun V hV => ?h20⟩) hS ?_
            case h20 => first | rfl | (obtain ⟨h0, h1⟩ := hV; go_simp; done) | (go_simp; exact hwr.out) | (go_simp; rw [hsl.out V]; rfl)
            try simp only [List.getElem_toArray, List.getElem_cons_succ, List.getElem_cons_zero, Act.put, List.setIfInBounds_toArray, List.set_cons_succ, List.set_cons_zero]
            refine wpAnyH_take (i := 7) (v := (.int .i64 i)) rfl (by kernel_rfl) (by kernel_rfl) (by kernel_rfl) (fun _ _ _ h => h) (.inl ⟨rfl, fun V hV => ?h20⟩) hS ?_
            case h20 => first | rfl | (obtain ⟨h0, h1⟩ := hV; go_simp; done) | (go_simp; exact hwr.out) | (go_simp; rw [hsl.out V]; rfl)
            try simp only [List.getElem_toArray, List.getElem_cons_succ, List.getElem_cons_zero, Act.put, List.setIfInBounds_toArray, List.set_cons_succ, List.set_cons_zero]
            refine wpAnyH_take (i := 8) (v := (.pointer (some ⟨p, 0, none⟩))) rfl (by kernel_rfl) (by kernel_rfl) (by kernel_rfl) (fun _ _ _ h => h) (.inl ⟨rfl, fun V hV => ?h20⟩) hS ?_
            case h20 => first | rfl | (obtain ⟨h0, h1⟩ := hV; go_simp; done) | (go_simp; exact hwr.out) | (go_simp; rw [hsl.out V]; rfl)
            try simp only [List.getElem_toArray, List.getElem_cons_succ, List.getElem_cons_zero, Act.put, List.setIfInBounds_toArray, List.set_cons_succ, List.set_cons_zero]
            refine wpAnyH_take (i := 9) (v := (.pointer (some ⟨p, 0, none⟩))) rfl (by kernel_rfl) (by kernel_rfl) (by kernel_rfl) (fun _ _ _ h => h) (.inl ⟨rfl, fun V hV => ?h20⟩) hS ?_
            case h20 => first | rfl | (obtain ⟨h0, h1⟩ := hV; go_simp; done) | (go_simp; exact hwr.out) | (go_simp; rw [hsl.out V]; rfl)
            try simp only [List.getElem_toArray, List.getElem_cons_succ, List.getElem_cons_zero, Act.put, List.setIfInBounds_toArray, List.set_cons_succ, List.set_cons_zero]
            refine wpAnyH_take (i := 10) (v := (.pointer (some ⟨p, 1, none⟩))) rfl (by kernel_rfl) (by kernel_rfl) (by kernel_rfl) (fun _ _ _ h => h) (.inl ⟨rfl, fun V hV => ?h20⟩) hS ?_
            case h20 => first | rfl | (obtain ⟨h0, h1⟩ := hV; go_simp; done) | (go_simp; exact hwr.out) | (go_simp; rw [hsl.out V]; rfl)
            try simp only [List.getElem_toArray, List.getElem_cons_succ, List.getElem_cons_zero, Act.put, List.setIfInBounds_toArray, List.set_cons_succ, List.set_cons_zero]
            refine wpAnyH_take (i := 11) (v := (.int .i64 i)) rfl (by kernel_rfl) (by kernel_rfl) (by kernel_rfl) (fun _ _ _ h => h) (.inl ⟨rfl, fun V hV => ?h20⟩) hS ?_
            case h20 => first | rfl | (obtain ⟨h0, h1⟩ := hV; go_simp; done) | (go_simp; exact hwr.out) | (go_simp; rw [hsl.out V]; rfl)
            try simp only [List.getElem_toArray, List.getElem_cons_succ, List.getElem_cons_zero, Act.put, List.setIfInBounds_toArray, List.set_cons_succ, List.set_cons_zero]
            refine wpAnyH_take (i := 12) (v := (.int .i64 (↑i + 1))) rfl (by kernel_rfl) (by kernel_rfl) (by kernel_rfl) (fun _ _ _ h => h) (.inl ⟨rfl, fun V hV => ?h20⟩) hS ?_
            case h20 => first | rfl | (obtain ⟨h0, h1⟩ := hV; go_simp; done) | (go_simp; exact hwr.out) | (go_simp; rw [hsl.out V]; rfl)
            try simp only [List.getElem_toArray, List.getElem_cons_succ, List.getElem_cons_zero, Act.put, List.setIfInBounds_toArray, List.set_cons_succ, List.set_cons_zero]
            refine wpAnyH_take (i := 13) (v := (.string (b.extract i (i + 1)))) rfl (by kernel_rfl) (by kernel_rfl) (by kernel_rfl) (fun _ _ _ h => h) (.inl ⟨rfl, fun V hV => ?h20⟩) hS ?_
            case h20 => first | rfl | (obtain ⟨h0, h1⟩ := hV; go_simp; done) | (go_simp; exact hwr.out) | (go_simp; rw [hsl.out V]; rfl)
            try simp only [List.getElem_toArray, List.getElem_cons_succ, List.getElem_cons_zero, Act.put, List.setIfInBounds_toArray, List.set_cons_succ, List.set_cons_zero]
            refine wpAnyH_take (i := 14) (v := (.pointer (some ⟨w.heap.size, 0, none⟩))) rfl (by kernel_rfl) (by kernel_rfl) (by kernel_rfl) (fun _ _ _ h => h) (.inl ⟨rfl, fun V hV => ?h20⟩) hS ?_
            case h20 => first | rfl | (obtain ⟨h0, h1⟩ := hV; go_simp; done) | (go_simp; exact hwr.out) | (go_simp; rw [hsl.out V]; rfl)
            try simp only [List.getElem_toArray, List.getElem_cons_succ, List.getElem_cons_zero, Act.put, List.setIfInBounds_toArray, List.set_cons_succ, List.set_cons_zero]
            refine wpAnyH_all (rs := [15]) (by kernel_rfl) (by simp) ?_
            intro kk hkk
            simp only [List.mem_singleton] at hkk
            subst hkk
            refine wpOp_of_list rfl ?_
            refine wpList_store_val rfl 3 _ _ rfl w.heap.size 0 (.int .i64 4) rfl rfl rfl rfl _ _ HW.out.t (by rw [Tok.len]; omega) i64_info ?_
            refine wpList_thenK ?_
            generalize hZ : World.setCell Y9 _ _ = Z1
            replace HW := Lib.hid (show WAt w Z1 p b i ⟨4, i, ⟨#[]⟩, 0⟩ from hZ ▸ HW.out.set 0 (.int .i64 4) ⟨4, i, ⟨#[]⟩, 0⟩ rfl)
            clear hZ
            have hS : Z1.cell? ⟨p, 0, none⟩ = some (.string b) ∧ Z1.cell? ⟨p, 1, none⟩ = some (.int .i64 i) := ⟨HW.out.s.b.cell 0, HW.out.s.b.cell 1⟩
            refine ⟨hS, ?_⟩
            try simp only [List.getElem_toArray, List.getElem_cons_succ, List.getElem_cons_zero, Act.put, List.setIfInBounds_toArray, List.set_cons_succ, List.set_cons_zero]
            refine wpAnyH_take (i := 16) (v := (.pointer (some ⟨w.heap.size, 2, none⟩))) rfl (by kernel_rfl) (by kernel_rfl) (by kernel_rfl) (fun _ _ _ h => h) (.inl ⟨rfl, fun V hV => ?h20⟩) hS ?_
            case h20 => first | rfl | (obtain ⟨h0, h1⟩ := hV; go_simp; done) | (go_simp; exact hwr.out) | (go_simp; rw [hsl.out V]; rfl)
            try simp only [List.getElem_toArray, List.getElem_cons_succ, List.getElem_cons_zero, Act.put, List.setIfInBounds_toArray, List.set_cons_succ, List.set_cons_zero]
            refine wpAnyH_all (rs := [17]) (by kernel_rfl) (by simp) ?_
            intro kk hkk
            simp only [List.mem_singleton] at hkk
            subst hkk
            refine wpOp_of_list rfl ?_
            refine wpList_store_val rfl 9 _ _ rfl w.heap.size 2 (.string (b.extract i (i + 1))) rfl rfl rfl rfl _ _ HW.out.t (by rw [Tok.len]; omega) str_info ?_
            refine wpList_thenK ?_
            generalize hZ : World.setCell Z1 _ _ = Z2
            replace HW := Lib.hid (show WAt w Z2 p b i ⟨4, i, b.extract i (i + 1), 0⟩ from hZ ▸ HW.out.set 2 (.string (b.extract i (i + 1))) ⟨4, i, b.extract i (i + 1), 0⟩ rfl)
            clear hZ
            have hS : Z2.cell? ⟨p, 0, none⟩ = some (.string b) ∧ Z2.cell? ⟨p, 1, none⟩ = some (.int .i64 i) := ⟨HW.out.s.b.cell 0, HW.out.s.b.cell 1⟩
            refine ⟨hS, ?_⟩
            try simp only [List.getElem_toArray, List.getElem_cons_succ, List.getElem_cons_zero, Act.put, List.setIfInBounds_toArray, List.set_cons_succ, List.set_cons_zero]
            refine wpAnyH_done (by kernel_rfl) ?_ _
            have hsz : (b.extract i (i + 1)).size = 1 := by rw [ByteArray.size_extract]; omega
            generalize b.extract i (i + 1) = tx at *
            have hle : i + 1 ≤ b.size := by omega
            clear hS
            go_upto_region 21 with fail
            try simp only [Act.put]
            have c1 : Z2.cell? ⟨p, 1, none⟩ = some (.int .i64 i) := HW.out.s.b.cell 1
            have c2 : Z2.cell? ⟨w.heap.size, 2, none⟩ = some (.string tx) := HW.out.t.cell 2
            have r1 := cell_regrown c1
            have r2 := cell_regrown c2
            clear c1 c2
            refine wp_region_below_tail 10 (by kernel_rfl) (by kernel_rfl) ?_
            simp only [List.take_succ_cons, List.take_zero, List.drop_succ_cons, List.drop_zero]
            repeat go_big_quiet_step (fail)
            refine wpQuiet_nil ?_
            intro _ hw'
            obtain ⟨⟨dq, osq⟩, hw''⟩ := hw'
            subst hw''
            clear r1 r2
            replace HW := Lib.hid (HW.out.below (below_regrown Z2 dq osq))
            generalize Sort.grow (redrawn Z2 dq) osq = V1 at *
            have c1 : V1.cell? ⟨p, 1, none⟩ = some (.int .i64 i) := HW.out.s.b.cell 1
            have hfz := HW.out.s.b.frozen 1
            go_upto_region 22 with fail
            try simp only [Act.put]
            generalize hZ : World.setCell V1 _ _ = V2
            replace HW := Lib.hid (show WAt w V2 p b (i + 1) _ from hZ ▸ HW.out.place (i + 1))
            clear hZ c1 hfz
            go_wp2_with (first | (refine wpList_load_row rfl 34 _ rfl w.heap.size rfl 34 _ _ _ HW.out.t Tryd.underlying34 rfl tok_info ?_) | (refine wpList_store_row rfl 34 _ _ rfl w.heap.size _ rfl rfl 34 _ HW.out.t tok_info rfl (Tok.one _) ?_; rw [setRow_same HW.out.t]))
            refine word_end HW.out rfl rfl ?_ rfl hle (fun x hx => ?_)
            · rw [hwo.out]; rfl
            · rw [hwo.out] at hx; injection hx with hx; exact hx.symm
          · replace hwo := Lib.hid (hwo.out.trans (if_neg hx0))
            go_wp2_with (first | (go_at_call 28; refine (HX.out _).mono ?_; clear HX; rintro e W ⟨rfl, rfl⟩) | (refine wpList_load_row rfl 34 _ rfl w.heap.size rfl 34 _ _ _ HW.out.t Tryd.underlying34 rfl tok_info ?_) | (refine wpList_store_row rfl 34 _ _ rfl w.heap.size _ rfl rfl 34 _ HW.out.t tok_info rfl (Tok.one _) ?_; rw [setRow_same HW.out.t]))
            refine word_end HW.out rfl rfl ?_ rfl (show i ≤ b.size by omega) (fun x hx => ?_)
            · rw [hwo.out]; rfl
            · rw [hwo.out] at hx; cases hx
        · replace hwo := Lib.hid (hwo.out.trans (if_pos rfl))
          go_upto_region 21 with (first
            | (refine wpList_store_val rfl 3 _ _ rfl w.heap.size 0 (.int .i64 4) rfl rfl rfl rfl _ _ HW.out.t (by rw [Tok.len]; omega) i64_info ?_; (generalize hZ : World.setCell Y2 _ _ = Z1; have HW1 := Lib.hid (hZ ▸ HW.out.set 0 (.int .i64 4) ⟨4, i, ⟨#[]⟩, 0⟩ rfl); clear hZ HW))
            | (refine wpList_store_val rfl 9 _ _ rfl w.heap.size 2 (.string ⟨#[61, 61]⟩) rfl rfl rfl rfl _ _ HW1.out.t (by rw [Tok.len]; omega) str_info ?_; (generalize hZ : World.setCell Z1 _ _ = Z2; have HW := Lib.hid (hZ ▸ HW1.out.set 2 (.string ⟨#[61, 61]⟩) ⟨4, i, ⟨#[61, 61]⟩, 0⟩ rfl); clear hZ HW1)))
          try simp only [Act.put]
          have hle : i + 2 ≤ b.size := hle2 rfl
          have c1 : Z2.cell? ⟨p, 1, none⟩ = some (.int .i64 i) := HW.out.s.b.cell 1
          have c2 : Z2.cell? ⟨w.heap.size, 2, none⟩ = some (.string ⟨#[61, 61]⟩) := HW.out.t.cell 2
          have r1 := cell_regrown c1
          have r2 := cell_regrown c2
          clear c1 c2
          refine wp_region_below_tail 10 (by kernel_rfl) (by kernel_rfl) ?_
          simp only [List.take_succ_cons, List.take_zero, List.drop_succ_cons, List.drop_zero]
          repeat go_big_quiet_step (fail)
          refine wpQuiet_nil ?_
          intro _ hw'
          obtain ⟨⟨dq, osq⟩, hw''⟩ := hw'
          subst hw''
          clear r1 r2
          replace HW := Lib.hid (HW.out.below (below_regrown Z2 dq osq))
          generalize Sort.grow (redrawn Z2 dq) osq = V1 at *
          have c1 : V1.cell? ⟨p, 1, none⟩ = some (.int .i64 i) := HW.out.s.b.cell 1
          have hfz := HW.out.s.b.frozen 1
          go_upto_region 22 with fail
          try simp only [Act.put]
          generalize hZ : World.setCell V1 _ _ = V2
          replace HW := Lib.hid (show WAt w V2 p b (i + 2) _ from hZ ▸ HW.out.place (i + 2))
          clear hZ c1 hfz
          go_wp2_with (first | (refine wpList_load_row rfl 34 _ rfl w.heap.size rfl 34 _ _ _ HW.out.t Tryd.underlying34 rfl tok_info ?_) | (refine wpList_store_row rfl 34 _ _ rfl w.heap.size _ rfl rfl 34 _ HW.out.t tok_info rfl (Tok.one _) ?_; rw [setRow_same HW.out.t]))
          refine word_end HW.out rfl rfl ?_ rfl hle (fun x hx => ?_)
          · rw [hwo.out]; rfl
          · rw [hwo.out] at hx; injection hx with hx; exact hx.symm
    · generalize hm : takeN digitU (b.toList.drop i) = m at *
      have hle : i + m ≤ b.size := by have := takeN_le digitU (b.toList.drop i); rw [List.length_drop] at this; omega
      have hwo := Lib.hid (show R = (match atoiV (b.extract i (i + m)).toList with | some v => if v ≤ 2305843009213693951 then some (⟨2, i, b.extract i (i + m), v⟩, i + m) else none | none => none) by rw [← hR.out]; unfold wordOf; rw [if_neg (show ¬ letterU b[i] = true from fun h => by rw [hU1.out, hz1] at h; cases h), if_pos (hU2.out.trans hz2), hm])
      clear hm
      go_upto_region 8 with (go_at_call 25; refine (HLt.out _).mono ?_; clear HLt; rintro e W ⟨rfl, rfl⟩; rw [hz1])
      go_upto_region 9 with (go_at_call 20; refine (HDg.out _).mono ?_; clear HDg; rintro e W ⟨rfl, rfl⟩; rw [hz2])
      try simp only [Act.put]
      go_upto_region 10 with (first
        | (go_at_call 23; refine (HT2.out _ HW.out.s.b).mono ?_; clear HT2; rintro e W ⟨rfl, HX⟩; replace HW := Lib.hid (HW.out.more HX))
        | (refine wpList_store_val rfl 3 _ _ rfl w.heap.size 0 (.int .i64 2) rfl rfl rfl rfl _ _ HW.out.t (by rw [Tok.len]; omega) i64_info ?_; (generalize hZ : World.setCell W _ _ = Z1; have HW1 := Lib.hid (hZ ▸ HW.out.set 0 (.int .i64 2) ⟨2, i, ⟨#[]⟩, 0⟩ rfl); clear hZ HW))
        | (refine wpList_store_val rfl 9 _ _ rfl w.heap.size 2 (.string (b.extract i (i + m))) rfl rfl rfl rfl _ _ HW1.out.t (by rw [Tok.len]; omega) str_info ?_; (generalize hZ : World.setCell Z1 _ _ = Z2; have HW := Lib.hid (hZ ▸ HW1.out.set 2 (.string (b.extract i (i + m))) ⟨2, i, b.extract i (i + m), 0⟩ rfl); clear hZ HW1)))
      try simp only [Act.put]
      have hsz : (b.extract i (i + m)).size = m := by rw [ByteArray.size_extract]; omega
      generalize b.extract i (i + m) = tx at *
      have c2 : Z2.cell? ⟨w.heap.size, 2, none⟩ = some (.string tx) := HW.out.t.cell 2
      go_wp2_with fail
      refine (Atoi_any tx _ (by omega) (hV.grown HW.out.s.g hp1 hp2)).mono ?_
      rintro e W5 ⟨dd, hres⟩
      replace HW := Lib.hid (HW.out.below dd)
      clear dd c2
      rcases hres with ⟨v, hv, rfl⟩ | ⟨hv, x, T, y, rfl⟩
      · replace hwo := Lib.hid (show R = if v ≤ 2305843009213693951 then some (⟨2, i, tx, v⟩, i + m) else none by rw [hwo.out, hv])
        go_upto_region 12 with (refine wpList_store_val rfl 3 _ _ rfl w.heap.size 3 (.int .i64 v) rfl rfl rfl rfl _ _ HW.out.t (by rw [Tok.len]; omega) i64_info ?_; (generalize hZ : World.setCell W5 _ _ = Z5; have HW5 := Lib.hid (hZ ▸ HW.out.set 3 (.int .i64 v) ⟨2, i, tx, v⟩ rfl); clear hZ HW; have HW := HW5; clear HW5))
        try simp only [Act.put]
        by_cases hvm : v ≤ 2305843009213693951
        · replace hwo := Lib.hid (hwo.out.trans (if_pos hvm))
          have HC : Hid (∀ W, (∃ pp : Regrown, W = Sort.grow (redrawn Z5 pp.d) pp.os) → CellsAt W ⟨w.heap.size, 0, none⟩ (⟨2, i, tx, v⟩ : Tok).cells) := Lib.hid fun W hW => by
            obtain ⟨pp, rfl⟩ := hW
            exact (HW.out.t.below (below_regrown Z5 pp.d pp.os)).cellsAt (o := 0) fun j v hv => by rw [Nat.zero_add]; exact hv
          refine wp_region_picks [0, 1, 2, 3] [{ dst := some 52, op := Op.load 34 (Operand.tmp 2), type := 34, pos := "lex.go:81", after := #[], guard := none }, { dst := some 53, op := Op.move (Operand.tmp 7), type := 49, pos := "lex.go:81", after := #[], guard := none }, { dst := some 54, op := Op.binOp BinOp.eql 49 (Operand.tmp 53) (Operand.const Value.nilIface) 49, type := 4, pos := "lex.go:81", after := #[{ on := 1, ground := Ground.data }], guard := none }, { dst := some 55, op := Op.move (Operand.tmp 54), type := 4, pos := "lex.go:81", after := #[{ on := 2, ground := Ground.data }], guard := none }] rfl (by kernel_rfl) (by decide) (by kernel_rfl) (by kernel_rfl) (by kernel_rfl) (fun _ _ _ _ _ h => h) ?_
          refine wpQuiet_load rfl 34 _ rfl ⟨w.heap.size, 0, none⟩ rfl (⟨2, i, tx, v⟩ : Tok).cells _ (fun V hV => HC.out V hV) Tryd.underlying34 rfl tok_info ?_
          try simp only [List.getElem_toArray, List.getElem_cons_succ, List.getElem_cons_zero, Act.put, List.setIfInBounds_toArray, List.set_cons_succ, List.set_cons_zero]
          go_big_quiet_step (fail)
          go_big_quiet_step (fail)
          go_big_quiet_step (fail)
          refine wpQuiet_nil ?_
          intro _ hw'
          obtain ⟨⟨dq, osq⟩, hw''⟩ := hw'
          subst hw''
          clear HC
          show wpAnyH Tryd.prog .any _ _ _ 5 _ _ _
          have bY := below_regrown Z5 dq osq
          replace HW := Lib.hid (HW.out.below bY)
          generalize Sort.grow (redrawn Z5 dq) osq = Y9 at *
          refine wpAnyH_take (i := 4) (v := (.int .i64 v)) rfl (by kernel_rfl) (by kernel_rfl) (by kernel_rfl) (fun _ _ _ h => h) (.inl ⟨rfl, fun V hV => ?h12⟩) (regrown_of_below bY) ?_
          case h12 => first | rfl | go_simp
          try simp only [List.getElem_toArray, List.getElem_cons_succ, List.getElem_cons_zero, Act.put, List.setIfInBounds_toArray, List.set_cons_succ, List.set_cons_zero]
          refine wpAnyH_take (i := 5) (v := (.bool (decide (v ≤ 2305843009213693951)))) rfl (by kernel_rfl) (by kernel_rfl) (by kernel_rfl) (fun _ _ _ h => h) (.inl ⟨rfl, fun V hV => ?h12⟩) (regrown_of_below bY) ?_
          case h12 => first | rfl | go_simp
          try simp only [List.getElem_toArray, List.getElem_cons_succ, List.getElem_cons_zero, Act.put, List.setIfInBounds_toArray, List.set_cons_succ, List.set_cons_zero]
          refine wpAnyH_take (i := 6) (v := (.bool (decide (v ≤ 2305843009213693951)))) rfl (by kernel_rfl) (by kernel_rfl) (by kernel_rfl) (fun _ _ _ h => h) (.inl ⟨rfl, fun V hV => ?h12⟩) (regrown_of_below bY) ?_
          case h12 => first | rfl | go_simp
          try simp only [List.getElem_toArray, List.getElem_cons_succ, List.getElem_cons_zero, Act.put, List.setIfInBounds_toArray, List.set_cons_succ, List.set_cons_zero]
          refine wpAnyH_all (rs := [7]) (by kernel_rfl) (by simp) ?_
          intro kk hkk
          simp only [List.mem_singleton] at hkk
          subst hkk
          refine wpOp_of_list rfl ?_
          refine wpList_store_row rfl 34 _ _ rfl w.heap.size _ rfl rfl 34 _ HW.out.t tok_info rfl (Tok.one _) ?_
          rw [setRow_same HW.out.t]
          refine wpList_thenK ?_
          refine ⟨regrown_of_below bY, ?_⟩
          try simp only [List.getElem_toArray, List.getElem_cons_succ, List.getElem_cons_zero, Act.put, List.setIfInBounds_toArray, List.set_cons_succ, List.set_cons_zero]
          refine wpAnyH_all (rs := [8]) (by kernel_rfl) (by simp) ?_
          intro kk hkk
          simp only [List.mem_singleton] at hkk
          subst hkk
          refine wpOp_of_list rfl ?_
          go_wp2_with fail
          refine thenK_intro ?_
          refine ⟨regrown_of_below bY, ?_⟩
          try simp only [List.getElem_toArray, List.getElem_cons_succ, List.getElem_cons_zero, Act.put, List.setIfInBounds_toArray, List.set_cons_succ, List.set_cons_zero]
          refine wpAnyH_done (by kernel_rfl) ?_ _
          go_wp2_with fail
          refine word_end HW.out rfl rfl ?_ rfl hle (fun x hx => ?_)
          · rw [hwo.out]
            first | rfl | (show Value.bool (decide (v ≤ 2305843009213693951)) = _; rw [decide_eq_true hvm]; rfl)
          · rw [hwo.out] at hx; injection hx with hx; exact hx.symm
        · replace hwo := Lib.hid (hwo.out.trans (if_neg hvm))
          have HC : Hid (∀ W, (∃ pp : Regrown, W = Sort.grow (redrawn Z5 pp.d) pp.os) → CellsAt W ⟨w.heap.size, 0, none⟩ (⟨2, i, tx, v⟩ : Tok).cells) := Lib.hid fun W hW => by
            obtain ⟨pp, rfl⟩ := hW
            exact (HW.out.t.below (below_regrown Z5 pp.d pp.os)).cellsAt (o := 0) fun j v hv => by rw [Nat.zero_add]; exact hv
          refine wp_region_picks [0, 1, 2, 3] [{ dst := some 52, op := Op.load 34 (Operand.tmp 2), type := 34, pos := "lex.go:81", after := #[], guard := none }, { dst := some 53, op := Op.move (Operand.tmp 7), type := 49, pos := "lex.go:81", after := #[], guard := none }, { dst := some 54, op := Op.binOp BinOp.eql 49 (Operand.tmp 53) (Operand.const Value.nilIface) 49, type := 4, pos := "lex.go:81", after := #[{ on := 1, ground := Ground.data }], guard := none }, { dst := some 55, op := Op.move (Operand.tmp 54), type := 4, pos := "lex.go:81", after := #[{ on := 2, ground := Ground.data }], guard := none }] rfl (by kernel_rfl) (by decide) (by kernel_rfl) (by kernel_rfl) (by kernel_rfl) (fun _ _ _ _ _ h => h) ?_
          refine wpQuiet_load rfl 34 _ rfl ⟨w.heap.size, 0, none⟩ rfl (⟨2, i, tx, v⟩ : Tok).cells _ (fun V hV => HC.out V hV) Tryd.underlying34 rfl tok_info ?_
          try simp only [List.getElem_toArray, List.getElem_cons_succ, List.getElem_cons_zero, Act.put, List.setIfInBounds_toArray, List.set_cons_succ, List.set_cons_zero]
          go_big_quiet_step (fail)
          go_big_quiet_step (fail)
          go_big_quiet_step (fail)
          refine wpQuiet_nil ?_
          intro _ hw'
          obtain ⟨⟨dq, osq⟩, hw''⟩ := hw'
          subst hw''
          clear HC
          show wpAnyH Tryd.prog .any _ _ _ 5 _ _ _
          have bY := below_regrown Z5 dq osq
          replace HW := Lib.hid (HW.out.below bY)
          generalize Sort.grow (redrawn Z5 dq) osq = Y9 at *
          refine wpAnyH_take (i := 4) (v := (.int .i64 v)) rfl (by kernel_rfl) (by kernel_rfl) (by kernel_rfl) (fun _ _ _ h => h) (.inl ⟨rfl, fun V hV => ?h12⟩) (regrown_of_below bY) ?_
          case h12 => first | rfl | go_simp
          try simp only [List.getElem_toArray, List.getElem_cons_succ, List.getElem_cons_zero, Act.put, List.setIfInBounds_toArray, List.set_cons_succ, List.set_cons_zero]
          refine wpAnyH_take (i := 5) (v := (.bool (decide (v ≤ 2305843009213693951)))) rfl (by kernel_rfl) (by kernel_rfl) (by kernel_rfl) (fun _ _ _ h => h) (.inl ⟨rfl, fun V hV => ?h12⟩) (regrown_of_below bY) ?_
          case h12 => first | rfl | go_simp
          try simp only [List.getElem_toArray, List.getElem_cons_succ, List.getElem_cons_zero, Act.put, List.setIfInBounds_toArray, List.set_cons_succ, List.set_cons_zero]
          refine wpAnyH_take (i := 6) (v := (.bool (decide (v ≤ 2305843009213693951)))) rfl (by kernel_rfl) (by kernel_rfl) (by kernel_rfl) (fun _ _ _ h => h) (.inl ⟨rfl, fun V hV => ?h12⟩) (regrown_of_below bY) ?_
          case h12 => first | rfl | go_simp
          try simp only [List.getElem_toArray, List.getElem_cons_succ, List.getElem_cons_zero, Act.put, List.setIfInBounds_toArray, List.set_cons_succ, List.set_cons_zero]
          refine wpAnyH_all (rs := [7]) (by kernel_rfl) (by simp) ?_
          intro kk hkk
          simp only [List.mem_singleton] at hkk
          subst hkk
          refine wpOp_of_list rfl ?_
          refine wpList_store_row rfl 34 _ _ rfl w.heap.size _ rfl rfl 34 _ HW.out.t tok_info rfl (Tok.one _) ?_
          rw [setRow_same HW.out.t]
          refine wpList_thenK ?_
          refine ⟨regrown_of_below bY, ?_⟩
          try simp only [List.getElem_toArray, List.getElem_cons_succ, List.getElem_cons_zero, Act.put, List.setIfInBounds_toArray, List.set_cons_succ, List.set_cons_zero]
          refine wpAnyH_all (rs := [8]) (by kernel_rfl) (by simp) ?_
          intro kk hkk
          simp only [List.mem_singleton] at hkk
          subst hkk
          refine wpOp_of_list rfl ?_
          go_wp2_with fail
          refine thenK_intro ?_
          refine ⟨regrown_of_below bY, ?_⟩
          try simp only [List.getElem_toArray, List.getElem_cons_succ, List.getElem_cons_zero, Act.put, List.setIfInBounds_toArray, List.set_cons_succ, List.set_cons_zero]
          refine wpAnyH_done (by kernel_rfl) ?_ _
          go_wp2_with fail
          refine word_end HW.out rfl rfl ?_ rfl hle (fun x hx => ?_)
          · rw [hwo.out]
            first | rfl | (show Value.bool (decide (v ≤ 2305843009213693951)) = _; rw [decide_eq_false hvm]; rfl)
          · rw [hwo.out] at hx; cases hx
      · replace hwo := Lib.hid (show R = none by rw [hwo.out, hv])
        go_upto_region 12 with (refine wpList_store_val rfl 3 _ _ rfl w.heap.size 3 (.int .i64 x) rfl rfl rfl rfl _ _ HW.out.t (by rw [Tok.len]; omega) i64_info ?_; (generalize hZ : World.setCell W5 _ _ = Z5; have HW5 := Lib.hid (hZ ▸ HW.out.set 3 (.int .i64 x) ⟨2, i, tx, x⟩ rfl); clear hZ HW; have HW := HW5; clear HW5))
        try simp only [Act.put]
        have HC : Hid (∀ W, (∃ pp : Regrown, W = Sort.grow (redrawn Z5 pp.d) pp.os) → CellsAt W ⟨w.heap.size, 0, none⟩ (⟨2, i, tx, x⟩ : Tok).cells) := Lib.hid fun W hW => by
          obtain ⟨pp, rfl⟩ := hW
          exact (HW.out.t.below (below_regrown Z5 pp.d pp.os)).cellsAt (o := 0) fun j v hv => by rw [Nat.zero_add]; exact hv
        refine wp_region_picks [0, 1, 2, 3] [{ dst := some 52, op := Op.load 34 (Operand.tmp 2), type := 34, pos := "lex.go:81", after := #[], guard := none }, { dst := some 53, op := Op.move (Operand.tmp 7), type := 49, pos := "lex.go:81", after := #[], guard := none }, { dst := some 54, op := Op.binOp BinOp.eql 49 (Operand.tmp 53) (Operand.const Value.nilIface) 49, type := 4, pos := "lex.go:81", after := #[{ on := 1, ground := Ground.data }], guard := none }, { dst := some 55, op := Op.move (Operand.tmp 54), type := 4, pos := "lex.go:81", after := #[{ on := 2, ground := Ground.data }], guard := none }] rfl (by kernel_rfl) (by decide) (by kernel_rfl) (by kernel_rfl) (by kernel_rfl) (fun _ _ _ _ _ h => h) ?_
        refine wpQuiet_load rfl 34 _ rfl ⟨w.heap.size, 0, none⟩ rfl (⟨2, i, tx, x⟩ : Tok).cells _ (fun V hV => HC.out V hV) Tryd.underlying34 rfl tok_info ?_
        try simp only [List.getElem_toArray, List.getElem_cons_succ, List.getElem_cons_zero, Act.put, List.setIfInBounds_toArray, List.set_cons_succ, List.set_cons_zero]
        go_big_quiet_step (fail)
        go_big_quiet_step (fail)
        go_big_quiet_step (fail)
        refine wpQuiet_nil ?_
        intro _ hw'
        obtain ⟨⟨dq, osq⟩, hw''⟩ := hw'
        subst hw''
        clear HC
        show wpAnyH Tryd.prog .any _ _ _ 5 _ _ _
        have bY := below_regrown Z5 dq osq
        replace HW := Lib.hid (HW.out.below bY)
        generalize Sort.grow (redrawn Z5 dq) osq = Y9 at *
        refine wpAnyH_take (i := 4) (v := undef) rfl (by kernel_rfl) (by kernel_rfl) (by kernel_rfl) (fun _ _ _ h => h) (.inr ⟨rfl, rfl⟩) (regrown_of_below bY) ?_
        try simp only [List.getElem_toArray, List.getElem_cons_succ, List.getElem_cons_zero, Act.put, List.setIfInBounds_toArray, List.set_cons_succ, List.set_cons_zero]
        refine wpAnyH_take (i := 5) (v := undef) rfl (by kernel_rfl) (by kernel_rfl) (by kernel_rfl) (fun _ _ _ h => h) (.inr ⟨rfl, rfl⟩) (regrown_of_below bY) ?_
        try simp only [List.getElem_toArray, List.getElem_cons_succ, List.getElem_cons_zero, Act.put, List.setIfInBounds_toArray, List.set_cons_succ, List.set_cons_zero]
        refine wpAnyH_take (i := 6) (v := (.bool false)) rfl (by kernel_rfl) (by kernel_rfl) (by kernel_rfl) (fun _ _ _ h => h) (.inl ⟨rfl, fun V hV => ?h12⟩) (regrown_of_below bY) ?_
        case h12 => first | rfl | go_simp
        try simp only [List.getElem_toArray, List.getElem_cons_succ, List.getElem_cons_zero, Act.put, List.setIfInBounds_toArray, List.set_cons_succ, List.set_cons_zero]
        refine wpAnyH_all (rs := [7]) (by kernel_rfl) (by simp) ?_
        intro kk hkk
        simp only [List.mem_singleton] at hkk
        subst hkk
        refine wpOp_of_list rfl ?_
        refine wpList_store_row rfl 34 _ _ rfl w.heap.size _ rfl rfl 34 _ HW.out.t tok_info rfl (Tok.one _) ?_
        rw [setRow_same HW.out.t]
        refine wpList_thenK ?_
        refine ⟨regrown_of_below bY, ?_⟩
        try simp only [List.getElem_toArray, List.getElem_cons_succ, List.getElem_cons_zero, Act.put, List.setIfInBounds_toArray, List.set_cons_succ, List.set_cons_zero]
        refine wpAnyH_all (rs := [8]) (by kernel_rfl) (by simp) ?_
        intro kk hkk
        simp only [List.mem_singleton] at hkk
        subst hkk
        refine wpOp_of_list rfl ?_
        go_wp2_with fail
        refine thenK_intro ?_
        refine ⟨regrown_of_below bY, ?_⟩
        try simp only [List.getElem_toArray, List.getElem_cons_succ, List.getElem_cons_zero, Act.put, List.setIfInBounds_toArray, List.set_cons_succ, List.set_cons_zero]
        refine wpAnyH_done (by kernel_rfl) ?_ _
        go_wp2_with fail
        refine word_end HW.out rfl rfl ?_ rfl hle (fun x hx => ?_)
        · rw [hwo.out]; rfl
        · rw [hwo.out] at hx; cases hx
  · generalize hm : takeN partU (b.toList.drop i) = m at *
    have hle : i + m ≤ b.size := by have := takeN_le partU (b.toList.drop i); rw [List.length_drop] at this; omega
    have hwo := Lib.hid (show R = if m ≤ 32 then some (⟨1, i, b.extract i (i + m), 0⟩, i + m) else none by rw [← hR.out]; unfold wordOf; rw [if_pos (hU1.out.trans hz1), hm])
    clear hm
    go_upto_region 6 with (go_at_call 25; refine (HLt.out _).mono ?_; clear HLt; rintro e W ⟨rfl, rfl⟩; rw [hz1])
    try simp only [Act.put]
    go_upto_region 7 with (first
      | (go_at_call 23; refine (HT.out _ HW.out.s.b).mono ?_; clear HT; rintro e W ⟨rfl, HX⟩; replace HW := Lib.hid (HW.out.more HX))
      | (refine wpList_store_val rfl 3 _ _ rfl w.heap.size 0 (.int .i64 1) rfl rfl rfl rfl _ _ HW.out.t (by rw [Tok.len]; omega) i64_info ?_; (generalize hZ : World.setCell W _ _ = Z1; have HW1 := Lib.hid (hZ ▸ HW.out.set 0 (.int .i64 1) ⟨1, i, ⟨#[]⟩, 0⟩ rfl); clear hZ HW))
      | (refine wpList_store_val rfl 9 _ _ rfl w.heap.size 2 (.string (b.extract i (i + m))) rfl rfl rfl rfl _ _ HW1.out.t (by rw [Tok.len]; omega) str_info ?_; (generalize hZ : World.setCell Z1 _ _ = Z2; have HW := Lib.hid (hZ ▸ HW1.out.set 2 (.string (b.extract i (i + m))) ⟨1, i, b.extract i (i + m), 0⟩ rfl); clear hZ HW1)))
    try simp only [Act.put]
    have hsz : (b.extract i (i + m)).size = m := by rw [ByteArray.size_extract]; omega
    generalize b.extract i (i + m) = tx at *
    have c2 : Z2.cell? ⟨w.heap.size, 2, none⟩ = some (.string tx) := HW.out.t.cell 2
    replace hwo := hwo.out
    by_cases h32 : m ≤ 32
    · have hle2 : (tx.size : Int) ≤ 32 := by omega
      rw [if_pos h32] at hwo
      replace hwo := Lib.hid hwo
      go_wp2_with (first
        | (refine wpList_load_row rfl 34 _ rfl w.heap.size rfl 34 _ _ _ HW.out.t Tryd.underlying34 rfl tok_info ?_)
        | (refine wpList_store_row rfl 34 _ _ rfl w.heap.size _ rfl rfl 34 _ HW.out.t tok_info rfl (Tok.one _) ?_; (generalize hZ : World.setRow Z2 _ _ = Z3; replace HW := Lib.hid (hZ ▸ HW.out.row); clear hZ c2)))
      refine word_end HW.out rfl rfl ?_ rfl hle (fun x hx => ?_)
      · show Value.bool _ = _
        rw [hwo.out, decide_eq_true (show (m : Int) ≤ 32 by omega)]; rfl
      · rw [hwo.out] at hx; injection hx with hx; exact hx.symm
    · have hle2 : ¬ (tx.size : Int) ≤ 32 := by omega
      rw [if_neg h32] at hwo
      replace hwo := Lib.hid hwo
      go_wp2_with (first
        | (refine wpList_load_row rfl 34 _ rfl w.heap.size rfl 34 _ _ _ HW.out.t Tryd.underlying34 rfl tok_info ?_)
        | (refine wpList_store_row rfl 34 _ _ rfl w.heap.size _ rfl rfl 34 _ HW.out.t tok_info rfl (Tok.one _) ?_; (generalize hZ : World.setRow Z2 _ _ = Z3; replace HW := Lib.hid (hZ ▸ HW.out.row); clear hZ c2)))
      refine word_end HW.out rfl rfl ?_ rfl hle (fun x hx => ?_)
      · show Value.bool _ = _
        rw [hwo.out, decide_eq_false (show ¬ (m : Int) ≤ 32 by omega)]; rfl
      · rw [hwo.out] at hx; cases hx
end Go.Proofs.YtbakfpoejoajeaaDoor.Hand
