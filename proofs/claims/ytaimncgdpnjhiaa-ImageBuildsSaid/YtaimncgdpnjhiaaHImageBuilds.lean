/- DERIVED. What an image has at first is as the document says, and another layout is refused: the law returns true for every input. -/
import Derived.Test.YtaimncgdpnjhiaaProg
import Derived.Test.YtaimncgdpnjhiaaMBits
import Derived.Test.YtaimncgdpnjhiaaMWalk
import Derived.Test.YtaimncgdpnjhiaaMArg
import Derived.Test.YtaimncgdpnjhiaaMMem
import Derived.Test.YtaimncgdpnjhiaaMMemK
import Derived.Test.YtaimncgdpnjhiaaMMemR
import Derived.Test.YtaimncgdpnjhiaaMImage
import Derived.Test.YtaimncgdpnjhiaaMImageK
import Derived.Test.YtaimncgdpnjhiaaHC
import Derived.Below
import Derived.Deep.Draws
import Derived.Deep.AppendLies
import Derived.Maps.AppendAt
import Derived.OwnWalk
import Derived.Laws.BytesArg
import Derived.Laws.MakeOwn
import Derived.Laws.OwnMore
import Derived.Deep.OwnRows
import Derived.Tactics
import Derived.Lib.ConvBytes
import Derived.Laws.Slices
import Derived.WalkKit
import Derived.KernelRfl
import Derived.RowKit3
import Derived.Deep.LoopGhost
import Derived.Deep.QuietTactic
import Derived.BigQuiet
import Derived.WideLaws
import Derived.Deep.DeepCutAuto
import Derived.Deep.CutBlock
import Derived.Deep.RegionHeld3
import Derived.Laws.Rows
import Derived.Lib.AppendStr
import Derived.ArgAppend
import Derived.Laws.IdiomCopy
import Derived.OrdersHeld
import Derived.Laws.BitsLemmas
import Derived.Laws.Bits64
import Derived.RowKit
import Derived.Outline
import Derived.Handy
import Derived.Lib.Hide
import Derived.Deep.Light
import Derived.Laws.CopyOwn
namespace Go.Proofs.Ytaimncgdpnjhiaa.Hand
open Go Go.RowKit Go.Proofs.Ytaimncgdpnjhiaa.M
set_option linter.unusedVariables false
set_option linter.unusedSimpArgs false
theorem lives20 (w : World) : Calls Try.prog 8 #[] w fun e w' => e = .returned (.bool true) ∧ Below w.heap.size w w' := by
  have HL := Lib.hid (fun W => image_Lay.c 1 2 3 8 1 10 4 _ _ _ _ _ _ _ _ _ W (show layOf 1 2 3 8 1 10 4 = (0, 64, 128, 256, 640, 256, 1408, 4, 0) by simp [layOf, goodOf, endOf, bkOf, szOf, glOf]))
  go_enter Try.func8, Try.ntmps8
  go_wp2_with fail
  refine (HL.out _).mono ?_
  rintro e w1 ⟨rfl, hd⟩
  have hB := Lib.hid hd
  clear hd HL
  go_wp2
  go_ret
  exact ⟨rfl, hB.out.alloc hB.out.size _⟩
theorem lay_fails {h a b x g c s r1 r2 r3 r4 r5 r6 r7 r8 r9 : Int} (e : layOf h a b x g c s = (r1, r2, r3, r4, r5, r6, r7, r8, r9)) (h9 : r9 ≠ 0) : r8 = 0 := by
  unfold layOf at e
  split at e
  · split at e
    · simp only [Prod.mk.injEq] at e; omega
    · simp only [Prod.mk.injEq] at e; omega
  · simp only [Prod.mk.injEq] at e; omega
theorem lay_zero (h a b x g c : Int) : layOf h a b x g c 0 = (0, 0, 0, 0, 0, 0, 0, 0, 2) := by
  unfold layOf; rw [if_neg (by omega)]
def TwoPost (W : World) (E : Int) (e : Ending) (w' : World) : Prop := ∃ v, e = .returned (.tuple #[v, .int .i64 E]) ∧ Below W.heap.size W w'
theorem two_builds (h a b x g : Int) (o1 o2 o3 o4 o5 o6 o7 o8 : Int) (A : Option Addr) (n cap : Nat) (ws : List Int) (hn : n ≤ 2000) (hl : ws.length = n) (hw : ∀ y ∈ ws, (Lit.int .u32 y).wf = true) :
    ∃ E, (∀ W, RowAt .u32 W A ws → Calls Try.prog 14 #[.agg #[.int .i64 h, .int .i64 a, .int .i64 b, .int .i64 x, .int .i64 g], .agg #[.int .u64 o1, .int .u64 o2, .int .u64 o3, .int .u64 o4, .int .u64 o5, .int .u64 o6, .int .u64 o7, .int .i64 o8], .slice A n cap] W (TwoPost W E)) ∧
      (∀ W, RowAt .u32 W A ws → Calls Try.prog 15 #[.agg #[.int .i64 h, .int .i64 a, .int .i64 b, .int .i64 x, .int .i64 g], .agg #[.int .u64 o1, .int .u64 o2, .int .u64 o3, .int .u64 o4, .int .u64 o5, .int .u64 o6, .int .u64 o7, .int .i64 o8], .slice A n cap] W (TwoPost W E)) := by
  by_cases hy : layOf h a b x g n o8 = (o1, o2, o3, o4, o5, o6, o7, o8, 0)
  · obtain ⟨rfl, rfl, -, hb, -⟩ := lay_yes hy
    have HN := Lib.hid (show (((b - 1).toNat : Nat) : Int) = b - 1 by omega)
    exact ⟨0, fun W hr => (image_Build.yes h a b x g o2 o3 o4 o5 o7 o8 A n cap ws W hy hr hl hw _ HN _ (Lib.hid rfl)).mono fun e w' ⟨q, p, he, _, _, _, hB⟩ => ⟨_, he, hB⟩,
      fun W hr => (ref20_Build.yes h a b x g o2 o3 o4 o5 o7 o8 A n cap ws W hy hr hl hw _ HN _ (Lib.hid rfl)).mono fun e w' ⟨q, p, he, _, _, _, hB⟩ => ⟨_, he, hB⟩⟩
  · obtain ⟨⟨r1, r2, r3, r4, r5, r6, r7, r8, r9⟩, hr⟩ : ∃ r, layOf h a b x g n o8 = r := ⟨_, rfl⟩
    have hne : r9 ≠ 0 ∨ r9 = 0 ∧ (r1, r2, r3, r4, r5, r6, r7, r8) ≠ (o1, o2, o3, o4, o5, o6, o7, o8) := by
      by_cases h9 : r9 = 0
      · refine .inr ⟨h9, fun e => hy ?_⟩
        rw [hr, h9]
        simp only [Prod.mk.injEq] at e ⊢
        simp [e]
      · exact .inl h9
    exact ⟨2, fun W _ => (image_Build.no h a b x g o1 o2 o3 o4 o5 o6 o7 o8 r1 r2 r3 r4 r5 r6 r7 r8 r9 A n cap W (by omega) hr hne).mono fun e w' ⟨he, hB⟩ => ⟨_, he, hB⟩,
      fun W _ => (ref20_Build.no h a b x g o1 o2 o3 o4 o5 o6 o7 o8 r1 r2 r3 r4 r5 r6 r7 r8 r9 A n cap W (by omega) hr hne).mono fun e w' ⟨he, hB⟩ => ⟨_, he, hB⟩⟩
set_option maxHeartbeats 8000000 in
set_option maxRecDepth 100000 in
theorem ImageBuilds.all (a0_0 a0_1 a0_2 a0_3 a0_4 : Int) (A1 : Option Addr) (n1 c1 : Nat) (z1 : List Int) (a2 : Int) (a3_0 a3_1 a3_2 a3_3 a3_4 a3_5 a3_6 a3_7 : Int) (w : World) (w0_0 : (Lit.int .i64 a0_0).wf = true) (w0_1 : (Lit.int .i64 a0_1).wf = true) (w0_2 : (Lit.int .i64 a0_2).wf = true) (w0_3 : (Lit.int .i64 a0_3).wf = true) (w0_4 : (Lit.int .i64 a0_4).wf = true)
    (w1 : IsRow .u32 w A1 n1 c1 z1) (y1 : n1 * 4 ≤ 140737488351232) (w2 : (Lit.int .i64 a2).wf = true) (w3_0 : (Lit.int .u64 a3_0).wf = true) (w3_1 : (Lit.int .u64 a3_1).wf = true) (w3_2 : (Lit.int .u64 a3_2).wf = true) (w3_3 : (Lit.int .u64 a3_3).wf = true) (w3_4 : (Lit.int .u64 a3_4).wf = true) (w3_5 : (Lit.int .u64 a3_5).wf = true) (w3_6 : (Lit.int .u64 a3_6).wf = true) (w3_7 : (Lit.int .i64 a3_7).wf = true) :
    Calls Try.prog 6 #[.agg #[.int .i64 a0_0, .int .i64 a0_1, .int .i64 a0_2, .int .i64 a0_3, .int .i64 a0_4], .slice A1 n1 c1, .int .i64 a2, .agg #[.int .u64 a3_0, .int .u64 a3_1, .int .u64 a3_2, .int .u64 a3_3, .int .u64 a3_4, .int .u64 a3_5, .int .u64 a3_6, .int .i64 a3_7]] w fun e w' => e = .returned (.bool true) ∧ Below w.heap.size w w' := by
  clear w0_0 w0_1 w0_2 w0_3 w0_4 w2 w3_0 w3_1 w3_2 w3_3 w3_4 w3_5 w3_6 w3_7 y1
  obtain ⟨hr, hl, hw⟩ := w1.at_
  clear w1
  generalize z1.take n1 = ws at *
  by_cases hc : 2000 < n1 ∨ n1 ≤ 2000 ∧ 300 < a0_2 ∨ n1 ≤ 2000 ∧ a0_2 ≤ 300 ∧ 2000 < a0_3 ∨ n1 ≤ 2000 ∧ a0_2 ≤ 300 ∧ a0_3 ≤ 2000 ∧ 100 < a0_1
  · clear hr hl hw
    rcases hc with h | ⟨h1, h⟩ | ⟨h1, h2, h⟩ | ⟨h1, h2, h3, h⟩
    all_goals (
      go_enter Try.func6, Try.ntmps6
      go_wp2_with fail
      generalize hX : World.alloc (World.alloc w _) _ = X
      have hB := Lib.hid (hX ▸ (((Below.refl w.heap.size w).alloc (Nat.le_refl _) _).alloc (by simp) _))
      clear hX
      refine (lives20 _).mono ?_
      rintro e w1 ⟨rfl, hd⟩
      have hB1 := Lib.hid (hB.out.trans (hd.mono hB.out.size))
      clear hd hB
      go_wp2_with fail
      go_ret
      exact ⟨rfl, hB1.out⟩)
  · have h1 : n1 ≤ 2000 := by omega
    have h2 : a0_2 ≤ 300 := by omega
    have h3 : a0_3 ≤ 2000 := by omega
    have h4 : a0_1 ≤ 100 := by omega
    clear hc
    have h1' : (n1 : Int) ≤ 2000 := by omega
    obtain ⟨E, HI, HR⟩ := two_builds a0_0 a0_1 a0_2 a0_3 a0_4 a3_0 a3_1 a3_2 a3_3 a3_4 a3_5 a3_6 a3_7 A1 n1 c1 ws h1 hl hw
    replace HI := Lib.hid HI
    replace HR := Lib.hid HR
    replace hl := Lib.hid hl
    replace hw := Lib.hid hw
    replace hr := Lib.hid hr
    obtain ⟨⟨r1, r2, r3, r4, r5, r6, r7, r8, r9⟩, hlay⟩ : ∃ r, layOf a0_0 a0_1 a0_2 a0_3 a0_4 n1 a2 = r := ⟨_, rfl⟩
    have HL := Lib.hid (fun W => postbagref20_Lay.c a0_0 a0_1 a0_2 a0_3 a0_4 n1 a2 _ _ _ _ _ _ _ _ _ W hlay)
    replace hlay := Lib.hid hlay
    go_enter Try.func6, Try.ntmps6
    go_wp2_with fail
    generalize hX : World.alloc (World.alloc w _) _ = X
    have B1 := (Blk.new w _ _).alloc_eq hX
    have B2 := Blk.new_eq hX
    rw [show ∀ o, (World.alloc w o).heap.size = w.heap.size + 1 from fun o => by simp] at B2
    have hB := Lib.hid (hX ▸ (((Below.refl w.heap.size w).alloc (Nat.le_refl _) _).alloc (by simp) _))
    clear hX
    refine (HI.out X (hr.out.below hB.out)).mono ?_
    rintro e W1 ⟨v1, rfl, hd⟩
    have D1 := Lib.hid (B1.below hd)
    have D2 := Lib.hid (B2.below hd)
    have hB1 := Lib.hid (hB.out.trans (hd.mono hB.out.size))
    clear B1 B2 hB hd
    have c1 := D1.out.cell
    have c2 := D2.out.cell
    go_wp2_with fail
    refine (HR.out W1 (hr.out.below hB1.out)).mono ?_
    rintro e W2 ⟨v2, rfl, hd⟩
    have E1 := Lib.hid (D1.out.below hd)
    have hB2 := Lib.hid (hB1.out.trans (hd.mono hB1.out.size))
    clear D1 D2 hB1 hd c1 c2
    have c1 := E1.out.cell
    have l1 := E1.out.lt
    go_wp2_with fail
    refine (HL.out W2).mono ?_
    rintro e W3 ⟨rfl, hd⟩
    have F1 := Lib.hid (E1.out.below hd)
    have hB3 := Lib.hid (hB2.out.trans (hd.mono hB2.out.size))
    clear E1 hB2 hd c1 l1 HI HR HL
    have c1 := F1.out.cell
    have l1 := F1.out.lt
    go_wp2_with fail
    generalize hX : World.alloc W3 _ = W4
    have G1 := Lib.hid (F1.out.alloc_eq hX)
    have G2 := Lib.hid (Blk.new_eq hX)
    have hB4 := Lib.hid (below_alloc_eq hB3.out hB3.out.size hX)
    have hz : W4.heap.size = W3.heap.size + 1 := by rw [← hX]; simp
    clear hX F1 hB3 c1 l1
    by_cases h9 : r9 = 0
    · subst h9
      obtain ⟨rfl, rfl, rfl, hb, hn, hs, _⟩ := lay_yes hlay.out
      have HN := Lib.hid (show (((a0_2 - 1).toNat : Nat) : Int) = a0_2 - 1 by omega)
      obtain ⟨bs, HBS⟩ : ∃ bs, Hid (bs = builtOf r7 r2 r5 (a0_2 - 1).toNat ws) := ⟨_, Lib.hid rfl⟩
      refine (image_Build.yes a0_0 a0_1 a0_2 a0_3 a0_4 r2 r3 r4 r5 r7 _ A1 n1 _ ws W4 hlay.out (hr.out.below hB4.out) hl.out hw.out _ HN bs HBS).mono ?_
      rintro e W5 ⟨q, p, rfl, hM, hq, hp, hd⟩
      have c1 := (G1.out.below hd).cell
      have c2 := (G2.out.below hd).cell
      have l2 := hd.size
      have hB5 := Lib.hid (hB4.out.trans (hd.mono hB4.out.size))
      have hM5 := Lib.hid hM
      clear G1 G2 hB4 hd hM
      go_wp2_with fail
      refine (ref20_Build.yes a0_0 a0_1 a0_2 a0_3 a0_4 r2 r3 r4 r5 r7 _ A1 n1 _ ws W5 hlay.out (hr.out.below hB5.out) hl.out hw.out _ HN bs HBS).mono ?_
      rintro e W6 ⟨q2, p2, rfl, hR, hq2, hp2, hd⟩
      have hM6 := Lib.hid (hM5.out.below hd)
      have hB6 := Lib.hid (hB5.out.trans (hd.mono hB5.out.size))
      have hR6 := Lib.hid hR
      clear hB5 hM5 hd hR c1 c2 HBS HN hlay hr hl hw
      go_wp2_with fail
      refine (Len_any _ q p bs hM6.out).mono ?_
      rintro e W7 ⟨rfl, rfl⟩
      go_wp2_with fail
      refine (Bytes_all0 W6 q p bs _ rfl hM6.out).mono ?_
      rintro e W7 ⟨A7, c7, rfl, ho, hd⟩
      have hR7 := Lib.hid (hR6.out.below hd)
      have hB7 := Lib.hid (hB6.out.trans (hd.mono hB6.out.size))
      have q1 := fun d os => run_convert_src (P := Try.prog) (Sort.grow (redrawn W7 d) os) 45 5 9 Try.underlying45 Try.underlying5 Try.underlying9 A7 bs bs.length c7 rfl (ho.src.below (below_regrown W7 d os))
      have hs2 : Src W7 (some ⟨p2, 0, none⟩) bs := by
        intro hne
        refine ⟨_, rfl, hR7.out.2.1.lt, fun j y hy => ?_⟩
        rw [add_zero, Nat.zero_add, hR7.out.2.1.cell, List.getElem?_toArray, List.getElem?_map, hy]; rfl
      have q2 := fun d os => run_convert_src (P := Try.prog) (Sort.grow (redrawn W7 d) os) 45 5 9 Try.underlying45 Try.underlying5 Try.underlying9 (some ⟨p2, 0, none⟩) bs bs.length bs.length rfl (hs2.below (below_regrown W7 d os))
      have cR := hR7.out.1.gcell
      have hlv := Lib.hid (fun W => lives20 W)
      generalize strOfNums bs = sb at *
      generalize bs.length = L at *
      clear ho hd hM6 hR6 hB6 hR7 hs2
      go_wp2_with fail
      refine wp_region_quiet_below (by kernel_rfl) (by kernel_rfl) ?_
      repeat (first | go_big_quiet_step ((go_at_call 8; exact in_grow hlv.out _ _)) | quiet_step ((go_at_call 8; exact in_grow hlv.out _ _)))
      refine wpQuiet_nil ?_
      intro _ hw'
      obtain ⟨⟨dq, osq⟩, hw''⟩ := hw'
      subst hw''
      go_wp2
      go_ret
      exact ⟨rfl, hB7.out.trans ((below_regrown W7 dq osq).mono hB7.out.size)⟩
    · have h8 := lay_fails hlay.out h9
      subst h8
      refine (image_Build.no a0_0 a0_1 a0_2 a0_3 a0_4 r1 r2 r3 r4 r5 r6 r7 0 _ _ _ _ _ _ _ _ _ A1 n1 _ W4 (by omega) (lay_zero _ _ _ _ _ _) (.inl (by decide))).mono ?_
      rintro e W5 ⟨rfl, hd⟩
      have c1 := (G1.out.below hd).cell
      have c2 := (G2.out.below hd).cell
      have l2 := hd.size
      have hB5 := Lib.hid (hB4.out.trans (hd.mono hB4.out.size))
      clear G1 G2 hB4 hd
      go_wp2_with fail
      refine (ref20_Build.no a0_0 a0_1 a0_2 a0_3 a0_4 r1 r2 r3 r4 r5 r6 r7 0 _ _ _ _ _ _ _ _ _ A1 n1 _ W5 (by omega) (lay_zero _ _ _ _ _ _) (.inl (by decide))).mono ?_
      rintro e W6 ⟨rfl, hd⟩
      have hB6 := Lib.hid (hB5.out.trans (hd.mono hB5.out.size))
      clear hB5 hd c1 c2
      go_wp2_with fail
      refine (lives20 _).mono ?_
      rintro e W7 ⟨rfl, hd⟩
      have hB7 := Lib.hid (hB6.out.trans (hd.mono hB6.out.size))
      clear hd hB6
      go_wp2_with fail
      go_ret
      exact ⟨rfl, hB7.out⟩
end Go.Proofs.Ytaimncgdpnjhiaa.Hand
