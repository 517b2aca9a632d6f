/- DERIVED. DERIVED. All words of a program: the walk of Tokens. -/
import Derived.Test.YtbakfpoejoajeaaDoorProg
import Derived.Test.YtbakfpoejoajeaaDoorMBits
import Derived.Test.YtbakfpoejoajeaaDoorMWalk
import Derived.Test.YtbakfpoejoajeaaDoorMArg
import Derived.Test.YtbakfpoejoajeaaDoorMRow
import Derived.Test.YtbakfpoejoajeaaDoorMOpen
import Derived.Test.YtbakfpoejoajeaaDoorMPart
import Derived.Test.YtbakfpoejoajeaaDoorMStore
import Derived.Test.YtbakfpoejoajeaaDoorMQTwo
import Derived.Test.YtbakfpoejoajeaaDoorMQTail
import Derived.Test.YtbakfpoejoajeaaDoorMReg
import Derived.Test.YtbakfpoejoajeaaDoorHE
import Derived.Below
import Derived.Deep.Draws
import Derived.Deep.AppendLies
import Derived.Maps.AppendAt
import Derived.OwnWalk
import Derived.Laws.BytesArg
import Derived.Laws.MakeOwn
import Derived.Laws.OwnMore
import Derived.Deep.OwnRows
import Derived.Tactics
import Derived.Lib.ConvBytes
import Derived.Laws.Slices
import Derived.WalkKit
import Derived.KernelRfl
import Derived.RowKit3
import Derived.Deep.LoopGhost
import Derived.Deep.QuietTactic
import Derived.BigQuiet
import Derived.WideLaws
import Derived.Deep.DeepCutAuto
import Derived.Deep.CutBlock
import Derived.Deep.RegionHeld3
import Derived.Laws.Rows
import Derived.Lib.AppendStr
import Derived.ArgAppend
import Derived.Laws.IdiomCopy
import Derived.OrdersHeld
import Derived.Laws.BitsLemmas
import Derived.Laws.Bits64
import Derived.RowKit
import Derived.Outline
import Derived.Handy
import Derived.Lib.Hide
import Derived.Deep.Light
import Derived.Laws.CopyOwn
import Derived.Lib.QuietBelow
import Derived.Shelf.Strings.Prefix
import Derived.Shelf.Small.Strs
import Derived.Shelf.Strconv.AtoiAll
import Derived.Ground.NamesProg
import Derived.Lib.AtoiErrMem
namespace Go.Proofs.YtbakfpoejoajeaaDoor.Hand
open Go Go.RowKit Go.Proofs.YtbakfpoejoajeaaDoor.M
set_option linter.unusedVariables false
set_option linter.unusedSimpArgs false
attribute [local go_sem] Oper.semAt_some
def flatToks (l : List Tok) : List Value := l.flatMap (fun o => o.cells.toList)
theorem flatToks_len (l : List Tok) : (flatToks l).length = l.length * 4 := by
  induction l with
  | nil => rfl
  | cons o l ih => rw [flatToks, List.flatMap_cons, List.length_append, ← flatToks, ih, List.length_cons, Array.length_toList, Tok.len]; omega
theorem tok_infos : ∃ (i : TypeInfo) (z : Value), Tryd.prog.info? 34 = some i ∧ i.zero = some z ∧ i.size = 4 ∧ z.cells.size = 4 ∧ i.bytes ≤ 1000 := ⟨_, _, rfl, rfl, rfl, rfl, by decide⟩
/-- A slice of the call's own, of words. -/
def OwnToks (w : World) (base : Nat) (v : Value) (l : List Tok) : Prop := w.ownsRow base 34 4 v l.length (flatToks l)
theorem OwnToks.nil (w : World) (base : Nat) : OwnToks w base (.slice none 0 0) [] := World.ownsRow_nil _ _ _ _
theorem append_tok {ops : Array Oper} {rest : List Oper} {o : Oper} {a : Act} {w : World} {Q : Exit → Act → World → Prop} (hgd : o.guard = none) (s x : Operand)
    (ho : o.op = .call { callee := .builtin .append, args := #[s, x], argTypes := #[24, 24] }) (base : Nat) (v : Value) (l : List Tok) (hs : a.eval s = v) (hown : OwnToks w base v l)
    (t : Tok) (g : Nat) (hx : a.eval x = .slice (some ⟨g, 0, none⟩) 1 1) (B : Blk w g t.cells 34) (hn : l.length ≤ 100000) (hbase : base ≤ w.heap.size)
    (h : ∀ v' w', OwnToks w' base v' (l ++ [t]) → w.grownBy w' v.ownBlock → wpList Tryd.prog ops Q rest (a.put o.dst v') w') : wpList Tryd.prog ops Q (o :: rest) a w := by
  obtain ⟨i, z, hi, h1, h2, h3, h4⟩ := tok_infos
  have happ : (flatToks l) ++ t.cells.toList = flatToks (l ++ [t]) := by simp [flatToks]
  refine wpList_append_own w hgd s x 24 ho base 34 i z 4 i.bytes Tryd.underlying24 hi h1 h2 rfl h3 (by decide) v l.length (flatToks l) hs hown ⟨g, 0, none⟩ 1 1 t.cells.toList hx (by rw [Array.length_toList, Tok.len]) (fun j u hu => ?_) (fun u hu => ?_) (by unfold maxLen; omega) ?_ hbase (fun v' w' k1 k2 _ => h v' w' ?_ k2)
  · have := B.cell j
    rw [show (⟨g, 0, none⟩ : Addr).add j = ⟨g, j, none⟩ by simp [Addr.add]; omega]
    rw [this, ← Array.getElem?_toList]; exact hu
  · have := Tok.one t
    rw [Array.all_eq_true'] at this
    exact this u (by simpa using hu)
  · calc (l.length + 1) * i.bytes ≤ 100001 * 1000 := Nat.mul_le_mul (by omega) h4
      _ ≤ 140737488355328 := by decide
  · unfold OwnToks
    rw [List.length_append, ← happ]
    exact k1
/-- A word has a byte at least. -/
theorem wordOf_lt (b : ByteArray) (i : Nat) (hi : i < b.size) (t : Tok) (q : Nat) (h : wordOf b i b[i] = some (t, q)) : i < q := by
  have hl := str_len b
  have hg := str_get b i hi
  unfold wordOf at h
  split at h
  · rename_i h1
    have hs := takeN_step partU b.toList i (by omega)
    have hp : partU b.toList[i] = true := by
      rw [hg]
      unfold letterU at h1
      unfold partU partB
      rw [h1, Bool.or_true]
    rw [if_pos hp] at hs
    dsimp only at h
    split at h
    · injection h with h
      injection h with _ h
      omega
    · cases h
  · split at h
    · rename_i _ h1
      have hs := takeN_step digitU b.toList i (by omega)
      rw [hg, if_pos h1] at hs
      dsimp only at h
      split at h
      · split at h
        · injection h with h
          injection h with _ h
          omega
        · cases h
      · cases h
    · split at h
      · dsimp only at h
        split at h
        · injection h with h
          injection h with _ h
          omega
        · cases h
      · split at h
        · injection h with h
          injection h with _ h
          omega
        · split at h
          · injection h with h
            injection h with _ h
            omega
          · cases h
/-- The words from a place on; a number: there the first wrong one stands. -/
def lexF (b : ByteArray) : Nat → Nat → Except Nat (List Tok)
  | 0, _ => .ok []
  | f + 1, i => if h : i < b.size then
      match wordOf b i b[i] with
      | none => .error i
      | some (t, q) => (lexF b f (q + skipF false (b.toList.drop q))).map (t :: ·)
    else .ok []
/-- All words of a program. -/
def tokensOf (b : ByteArray) : Except Nat (List Tok) := (lexF b (b.size + 1) (skipF false (b.toList.drop 0))).map (· ++ [⟨5, b.size, ⟨#[]⟩, 0⟩])
/-- While words are gathered. -/
structure LexAt (w W : World) (b : ByteArray) (i : Nat) (v : Value) (acc : List Tok) : Prop where
  d : Below w.heap.size w W
  s : Blk W w.heap.size #[.string b, .int .i64 i] 39
  o : OwnToks W (w.heap.size + 1) v acc
theorem LexAt.more {w W V : World} {b : ByteArray} {i j : Nat} {v : Value} {acc : List Tok} (H : LexAt w W b i v acc) (g : SrcAt W V w.heap.size b j) : LexAt w V b j v acc :=
  ⟨H.d.grown g.g H.d.size (fun k e => by injection e with e; omega), g.b, World.ownsRow.kept H.o g.g (by
    cases hv : v.ownBlock with
    | none => exact .inl rfl
    | some k => exact .inr (fun e => by injection e with e; have := (World.ownsRow.lt H.o k hv).1; omega))⟩
theorem LexAt.below {w W V : World} {b : ByteArray} {i : Nat} {v : Value} {acc : List Tok} (H : LexAt w W b i v acc) (d : Below W.heap.size W V) : LexAt w V b i v acc :=
  ⟨H.d.trans (d.mono H.d.size), H.s.below d, World.ownsRow.kept (row := none) H.o ⟨d.os, d.tape, d.output, d.size, fun k hk _ => d.block k hk⟩ (by cases hb : v.ownBlock with | none => exact .inl rfl | some k => exact .inr (by simp))⟩
theorem LexAt.place {w W : World} {b : ByteArray} {i : Nat} {v : Value} {acc : List Tok} (H : LexAt w W b i v acc) : placeOf w.heap.size W = i := by
  unfold placeOf
  rw [show W.cell? ⟨w.heap.size, 1, none⟩ = some (.int .i64 i) from H.s.cell 1]
  simp
theorem LexAt.app {w W V : World} {b : ByteArray} {i : Nat} {v v' : Value} {acc acc' : List Tok} (H : LexAt w W b i v acc) (o : OwnToks V (w.heap.size + 1) v' acc') (g : W.grownBy V v.ownBlock) : LexAt w V b i v' acc' :=
  ⟨H.d.grown g H.d.size (fun k e => by have := (World.ownsRow.lt H.o k e).1; omega), (g.block _ H.s.lt (fun e => by have := (World.ownsRow.lt H.o _ e.symm).1; omega)).trans H.s, o⟩
def endTok (b : ByteArray) : Tok := ⟨5, b.size, ⟨#[]⟩, 0⟩
theorem lexF_step (b : ByteArray) (f i : Nat) (hi : i < b.size) (hf : b.size < f + i) : ∃ f', f = f' + 1 ∧ b.size < f' + i + 1 ∧ lexF b f i = match wordOf b i b[i] with
    | none => .error i
    | some (t, q) => (lexF b f' (q + skipF false (b.toList.drop q))).map (t :: ·) := by
  obtain ⟨f', rfl⟩ : ∃ f', f = f' + 1 := ⟨f - 1, by omega⟩
  refine ⟨f', rfl, by omega, ?_⟩
  conv => lhs; unfold lexF
  rw [dif_pos hi]
theorem lexF_end (b : ByteArray) (f i : Nat) (hi : ¬ i < b.size) : lexF b f i = .ok [] := by
  cases f with
  | zero => rfl
  | succ f => unfold lexF; rw [dif_neg hi]
theorem map_map_e (r : Except Nat (List Tok)) (g h : List Tok → List Tok) : (r.map g).map h = r.map (fun l => h (g l)) := by cases r <;> rfl
/-- What Tokens gives. -/
def TokPost (w : World) (r : Except Nat (List Tok)) : Ending → World → Prop := fun e w' => Below w.heap.size w w' ∧ match r with
  | .error i => e = .returned (.tuple #[.slice none 0 0, .int .i64 i, .int .i64 110])
  | .ok l => ∃ v, e = .returned (.tuple #[v, .int .i64 0, .int .i64 0]) ∧ OwnToks w' (w.heap.size + 1) v l
set_option maxRecDepth 100000 in
set_option maxHeartbeats 8000000 in
theorem Tokens_any (A : Option Addr) (c : Nat) (b : ByteArray) (w : World) (h0 : b.size ≤ 65536) (hc : (convert 22 9 (.slice A b.size c)).run Tryd.prog w = .ok (.string b) w) (hV : ErrVars w) :
    Calls Tryd.prog 9 #[.slice A b.size c] w (TokPost w (tokensOf b)) := by
  have hl := str_len b
  have hg1 : w.heap.size ≠ lays172_ren.g 15 := fun e => by obtain ⟨⟨ev, h1, _⟩, _⟩ := hV; have := lt_of_cell h1; simp only at this; omega
  have hg2 : w.heap.size ≠ lays172_ren.g 16 := fun e => by obtain ⟨_, ⟨ev, h1, _⟩⟩ := hV; have := lt_of_cell h1; simp only at this; omega
  have h0i : ¬ (65536 : Int) < b.size := by omega
  obtain ⟨R, hR⟩ : ∃ R, tokensOf b = R := ⟨_, rfl⟩
  rw [hR]
  replace hR := Lib.hid hR
  replace hV := Lib.hid hV
  go_enter Tryd.func9, Tryd.ntmps9
  go_upto_region 4 with fail
  try simp only [Act.put]
  generalize hX : World.alloc w _ = X
  obtain ⟨B, dX, sX⟩ := arg_box hX
  clear hX hc
  have HW : Hid (LexAt w X b 0 (.slice none 0 0) []) := Lib.hid ⟨dX, B, OwnToks.nil _ _⟩
  clear B dX
  have HK := Lib.hid fun (W : World) (i : Nat) (hb : Blk W w.heap.size #[.string b, .int .i64 i] 39) (hi : i ≤ b.size) => skip_any b w.heap.size i W hb hi (by omega)
  have HO := Lib.hid fun (W : World) (i : Nat) (v : Value) (acc : List Tok) (H : LexAt w W b i v acc) (hi : i < b.size) => word_any b w.heap.size i W H.s hi (by omega) (hV.out.below H.d) H.s.lt hg1 hg2
  go_wp2_with (go_at_call 16; refine (HK.out _ 0 HW.out.s (Nat.zero_le _)).mono ?_; rintro e W ⟨rfl, HX⟩; replace HW := Lib.hid (HW.out.more HX))
  rw [Nat.zero_add] at HW
  have hi0 : skipF false (b.toList.drop 0) ≤ b.size := by have := skipF_le (b.toList.drop 0) false; rw [List.length_drop] at this; omega
  go_loopw [2] (fun v wr => ∃ i f acc, i ≤ b.size ∧ b.size < f + i ∧ acc.length ≤ i ∧ Hid (R = (lexF b f i).map (fun l => acc ++ (l ++ [endTok b]))) ∧ Hid (LexAt w wr b i v acc)) (fun _ wr => b.size - placeOf w.heap.size wr)
  case atStart => exact ⟨_, b.size + 1, [], hi0, by omega, by simp, Lib.hid (by rw [← hR.out]; rfl), HW⟩
  case round =>
    obtain ⟨i, f, acc, hi, hf, hac, hR, HW⟩ := hrel
    have HM := HW
    have c0 : wr.cell? ⟨w.heap.size, 0, none⟩ = some (.string b) := HW.out.s.cell 0
    have c1 : wr.cell? ⟨w.heap.size, 1, none⟩ = some (.int .i64 i) := HW.out.s.cell 1
    have r0 := cell_regrown c0
    have r1 := cell_regrown c1
    clear c0 c1
    by_cases hlt : i < b.size
    · go_wp2_with fail
      refine wp_region_quiet_below (by kernel_rfl) (by kernel_rfl) ?_
      repeat go_big_quiet_step (fail)
      refine wpQuiet_nil ?_
      intro _ hw'
      obtain ⟨⟨dq, osq⟩, hw''⟩ := hw'
      subst hw''
      clear r0 r1
      replace HW := Lib.hid (HW.out.below (below_regrown wr dq osq))
      generalize Sort.grow (redrawn wr dq) osq = Y at *
      obtain ⟨f', rfl, hf', hst⟩ := lexF_step b f i hlt hf
      have hlw := wordOf_lt b i hlt
      have HQ := Lib.hid (HO.out Y i _ acc HW.out hlt)
      replace hR := Lib.hid (hR.out.trans (by rw [hst]))
      generalize wordOf b i b[i] = ro at *
      rcases ro with _ | tq
      · go_upto_region 9 with (first
          | (go_at_call 17; refine HQ.out.mono ?_; clear HQ; rintro e W ⟨⟨tk, ta, tx, tn⟩, q, rfl, ht, hq, HX, hx⟩; obtain rfl : ta = (i : Int) := ht; replace HW := Lib.hid (HW.out.more HX); simp only [Option.isSome]; clear HX)
          | (refine wpList_store_row rfl 34 (.tmp 6) (.tmp 32) rfl W.heap.size ((⟨tk, i, tx, tn⟩ : Tok).cells) rfl rfl 34 (#[.int .i64 0, .int .i64 0, .string ⟨#[]⟩, .int .i64 0]) (Blk.new W _ _) tok_info rfl (Tok.one _) ?_; (generalize hZ : World.setRow _ _ _ = Z; have B := Lib.hid (hZ ▸ (Blk.new W #[.int .i64 0, .int .i64 0, .string ⟨#[]⟩, .int .i64 0] 34).row (⟨tk, i, tx, tn⟩ : Tok).cells); have dZ := hZ ▸ below_row ((Below.refl W.heap.size W).alloc (Nat.le_refl _) (.cells #[.int .i64 0, .int .i64 0, .string ⟨#[]⟩, .int .i64 0] 34)) (Nat.le_refl _) (⟨tk, i, tx, tn⟩ : Tok).cells; replace HW := Lib.hid (HW.out.below dZ); clear hZ dZ)))
        try simp only [Act.put]
        have c1 : Z.cell? ⟨W.heap.size, 1, none⟩ = some (.int .i64 i) := B.out.cell 1
        have r1 := cell_regrown c1
        clear c1
        refine wp_region_quiet_below (by kernel_rfl) (by kernel_rfl) ?_
        repeat go_big_quiet_step (fail)
        refine wpQuiet_nil ?_
        intro _ hw'
        obtain ⟨⟨dq, osq⟩, hw''⟩ := hw'
        subst hw''
        clear r1
        replace HW := Lib.hid (HW.out.below (below_regrown Z dq osq))
        generalize Sort.grow (redrawn Z dq) osq = Z1 at *
        go_wp2_with fail
        go_ret3
        have hRo : R = .error i := hR.out
        rw [hRo]
        exact ⟨HW.out.d, rfl⟩
      · obtain ⟨t0, q0⟩ := tq
        have hiq := hlw t0 q0 rfl
        go_upto_region 10 with (first
          | (go_at_call 17; refine HQ.out.mono ?_; clear HQ; rintro e W ⟨⟨tk, ta, tx, tn⟩, q, rfl, ht, hq, HX, hx⟩; obtain rfl : ta = (i : Int) := ht; replace HW := Lib.hid (HW.out.more HX); simp only [Option.isSome]; clear HX)
          | (refine wpList_store_row rfl 34 (.tmp 6) (.tmp 32) rfl W.heap.size ((⟨tk, i, tx, tn⟩ : Tok).cells) rfl rfl 34 (#[.int .i64 0, .int .i64 0, .string ⟨#[]⟩, .int .i64 0]) (Blk.new W _ _) tok_info rfl (Tok.one _) ?_; (generalize hZ : World.setRow _ _ _ = Z; have B := Lib.hid (hZ ▸ (Blk.new W #[.int .i64 0, .int .i64 0, .string ⟨#[]⟩, .int .i64 0] 34).row (⟨tk, i, tx, tn⟩ : Tok).cells); have dZ := hZ ▸ below_row ((Below.refl W.heap.size W).alloc (Nat.le_refl _) (.cells #[.int .i64 0, .int .i64 0, .string ⟨#[]⟩, .int .i64 0] 34)) (Nat.le_refl _) (⟨tk, i, tx, tn⟩ : Tok).cells; replace HW := Lib.hid (HW.out.below dZ); clear hZ dZ)))
        try simp only [Act.put]
        obtain ⟨rfl, rfl⟩ : t0 = ⟨tk, i, tx, tn⟩ ∧ q0 = q := by have := hx _ rfl; injection this with h1 h2; exact ⟨h1, h2⟩
        have hsk := skipF_le (b.toList.drop q0) false
        rw [List.length_drop] at hsk
        go_wp2_with (first
          | (refine wpList_load_in rfl 34 _ rfl ⟨W.heap.size, 0, none⟩ rfl #[.int .i64 tk, .int .i64 i, .string tx, .int .i64 tn] _ B.out.whole Tryd.underlying34 rfl tok_info ?_)
          | (refine wpList_load_at rfl 34 _ rfl ⟨W.heap.size, 0, none⟩ rfl #[.int .i64 tk, .int .i64 i, .string tx, .int .i64 tn] _ B.out.whole Tryd.underlying34 rfl tok_info ?_)
          | (at_builtin; (generalize hY : World.alloc Z _ = Z1; obtain ⟨B1, d1, s1⟩ := arg_box (cs := (⟨tk, i, tx, tn⟩ : Tok).cells) hY; clear hY; have HB := Lib.hid (HW.out.below d1)); refine append_tok rfl (.tmp 38) (.tmp 40) rfl (w.heap.size + 1) _ acc rfl HB.out.o ⟨tk, i, tx, tn⟩ Z.heap.size rfl B1 (by omega) (by have := HB.out.d.size; have := HB.out.s.lt; omega) ?_; intro v' W' o1 g1; have HZ := Lib.hid (HB.out.app o1 g1); clear B1 d1 o1 g1)
          | (go_at_call 16; refine (HK.out _ q0 HZ.out.s hq).mono ?_; rintro e W'' ⟨rfl, HX⟩; replace HZ := Lib.hid (HZ.out.more HX)))
        go_roundw
        case rel => exact ⟨_, f', _, by omega, by omega, by simp; omega, Lib.hid (by rw [hR.out]; simp only [map_map_e]; congr 1; funext l; simp), HZ⟩
        case measure => rw [HZ.out.place, HM.out.place]; omega
    · have hRo : R = .ok (acc ++ [endTok b]) := by rw [hR.out, lexF_end b f i hlt]; rfl
      go_wp2_with fail
      refine wp_region_quiet_below (by kernel_rfl) (by kernel_rfl) ?_
      repeat go_big_quiet_step (fail)
      refine wpQuiet_nil ?_
      intro _ hw'
      obtain ⟨⟨dq, osq⟩, hw''⟩ := hw'
      subst hw''
      clear r0 r1
      replace HW := Lib.hid (HW.out.below (below_regrown wr dq osq))
      generalize Sort.grow (redrawn wr dq) osq = Y at *
      replace hRo := Lib.hid hRo
      go_wp2_with (at_builtin; (generalize hY : World.alloc Y _ = Z1; obtain ⟨B1, d1, s1⟩ := arg_box (cs := (endTok b).cells) hY; clear hY; have HB := Lib.hid (HW.out.below d1)); refine append_tok rfl (.tmp 42) (.tmp 46) rfl (w.heap.size + 1) _ acc rfl HB.out.o (endTok b) Y.heap.size rfl B1 (by omega) (by have := HB.out.d.size; have := HB.out.s.lt; omega) ?_; intro v' W' o1 g1; have HZ := Lib.hid (HB.out.app o1 g1); clear B1 d1 o1 g1)
      go_ret3
      rw [hRo.out]
      exact ⟨HZ.out.d, v', rfl, HZ.out.o⟩
end Go.Proofs.YtbakfpoejoajeaaDoor.Hand
