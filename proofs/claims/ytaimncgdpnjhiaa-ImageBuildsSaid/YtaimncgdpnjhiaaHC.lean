/- DERIVED. DERIVED. Build, the program's and the reference's: the bytes that an image has at first. -/
import Derived.Test.YtaimncgdpnjhiaaProg
import Derived.Test.YtaimncgdpnjhiaaMBits
import Derived.Test.YtaimncgdpnjhiaaMWalk
import Derived.Test.YtaimncgdpnjhiaaMArg
import Derived.Test.YtaimncgdpnjhiaaMMem
import Derived.Test.YtaimncgdpnjhiaaMMemK
import Derived.Test.YtaimncgdpnjhiaaMMemR
import Derived.Test.YtaimncgdpnjhiaaMImage
import Derived.Test.YtaimncgdpnjhiaaMImageK
import Derived.Below
import Derived.Deep.Draws
import Derived.Deep.AppendLies
import Derived.Maps.AppendAt
import Derived.OwnWalk
import Derived.Laws.BytesArg
import Derived.Laws.MakeOwn
import Derived.Laws.OwnMore
import Derived.Deep.OwnRows
import Derived.Tactics
import Derived.Lib.ConvBytes
import Derived.Laws.Slices
import Derived.WalkKit
import Derived.KernelRfl
import Derived.RowKit3
import Derived.Deep.LoopGhost
import Derived.Deep.QuietTactic
import Derived.BigQuiet
import Derived.WideLaws
import Derived.Deep.DeepCutAuto
import Derived.Deep.CutBlock
import Derived.Deep.RegionHeld3
import Derived.Laws.Rows
import Derived.Lib.AppendStr
import Derived.ArgAppend
import Derived.Laws.IdiomCopy
import Derived.OrdersHeld
import Derived.Laws.BitsLemmas
import Derived.Laws.Bits64
import Derived.RowKit
import Derived.Outline
import Derived.Handy
import Derived.Lib.Hide
import Derived.Deep.Light
import Derived.Laws.CopyOwn
namespace Go.Proofs.Ytaimncgdpnjhiaa.Hand
open Go Go.RowKit Go.Proofs.Ytaimncgdpnjhiaa.M
set_option linter.unusedVariables false
set_option linter.unusedSimpArgs false
/-- The first so many words laid. -/
def layWords (bs ws : List Int) : Nat → List Int
  | 0 => bs
  | i + 1 => storeOf (layWords bs ws i) (4 * i) 4 (ws.getD i 0)
/-- The first so many blocks chained. -/
def layBlocks (bs : List Int) (bk : Int) : Nat → List Int
  | 0 => bs
  | i + 1 => storeOf (layBlocks bs bk i) (bk + i * 256) 8 (i + 2)
def builtOf (en gl bk : Int) (nb : Nat) (ws : List Int) : List Int := layBlocks (storeOf (storeOf (layWords (List.replicate en.toNat 0) ws ws.length) gl 8 1) (gl + 16) 8 1) bk nb
theorem lay_yes {h a b x g c s r1 r2 r3 r4 r5 r6 r7 r8 : Int} (e : layOf h a b x g c s = (r1, r2, r3, r4, r5, r6, r7, r8, 0)) : r1 = 0 ∧ r6 = 256 ∧ r8 = s ∧ (1 ≤ b ∧ b ≤ 256) ∧ (0 ≤ c ∧ c ≤ 65536) ∧ (1 ≤ s ∧ s ≤ 256) ∧ (0 ≤ r2 ∧ r2 ≤ 16777216) ∧ (0 ≤ r5 ∧ r5 + b * 256 = r7) ∧ r7 ≤ 16777216 ∧ 0 ≤ r7 := by
  unfold layOf at e
  split at e
  · rename_i hc
    obtain ⟨_, ha, hb, hw, _⟩ := goodOf_yes hc.1
    split at e
    · simp at e
    · rename_i hz
      simp only [Prod.mk.injEq] at e
      obtain ⟨rfl, rfl, rfl, rfl, rfl, rfl, rfl, rfl, _⟩ := e
      have h1 : 0 ≤ a * szOf s x := Int.mul_nonneg (by omega) (by unfold szOf; omega)
      have h2 : 0 ≤ glOf c := by unfold glOf; omega
      have h3 : bkOf a x c s = glOf c + 64 + a * szOf s x := rfl
      have h4 : endOf a b x c s = bkOf a x c s + b * 256 := rfl
      refine ⟨rfl, rfl, rfl, hb, ⟨hc.2.1, hc.2.2.1⟩, hc.2.2.2, ⟨by omega, by omega⟩, ⟨by omega, by omega⟩, by omega, by omega⟩
  · simp at e
theorem u32_wf {x : Int} (h : (Lit.int .u32 x).wf = true) : 0 ≤ x ∧ x ≤ 4294967295 := by
  simp [Lit.wf, IntKind.min, IntKind.max, IntKind.signed, IntKind.bits] at h; omega
def BuiltPost (w : World) (bs : List Int) (e : Ending) (w' : World) : Prop := ∃ g b, e = .returned (.tuple #[.pointer (some ⟨g, 0, none⟩), .int .i64 0]) ∧ MemAt w' g b bs ∧ w.heap.size ≤ g ∧ w.heap.size ≤ b ∧ Below w.heap.size w w'
theorem grown_trans {a b c : World} {k : Nat} (h : a.grownBy b (some k)) (h2 : b.grownBy c (some k)) : a.grownBy c (some k) :=
  ⟨h2.os.trans h.os, h2.tape.trans h.tape, h2.output.trans h.output, Nat.le_trans h.size h2.size, fun i hi hne => (h2.block i (Nat.lt_of_lt_of_le hi h.size) hne).trans (h.block i hi hne)⟩
theorem image_Block.c (o2 o3 o4 o5 o7 o8 : Int) (k : Nat) (W : World) (h : 0 ≤ o5) (h2 : o5 + k * 256 ≤ 1000000000) :
    Calls Try.prog 13 #[.agg #[.int .u64 0, .int .u64 o2, .int .u64 o3, .int .u64 o4, .int .u64 o5, .int .u64 256, .int .u64 o7, .int .i64 o8], .int .i64 k] W fun e w' => e = .returned (.int .u64 (o5 + k * 256)) ∧ Below W.heap.size W w' := by
  have hk : (k : Int) * 256 ≤ 1000000000 := by omega
  go_enter Try.func13, Try.ntmps13
  go_wp2
  go_ret
  exact ⟨rfl, by go_grown⟩
set_option maxHeartbeats 8000000 in
set_option maxRecDepth 100000 in
theorem image_Build.yes (h a b x g : Int) (o2 o3 o4 o5 o7 o8 : Int) (A : Option Addr) (n cap : Nat) (ws : List Int) (w : World) (HR : layOf h a b x g n o8 = (0, o2, o3, o4, o5, 256, o7, o8, 0)) (hr : RowAt .u32 w A ws) (hl : ws.length = n) (hw : ∀ y ∈ ws, (Lit.int .u32 y).wf = true) (nb : Nat) (HN : Hid ((nb : Int) = b - 1)) (bs : List Int) (HBS : Hid (bs = builtOf o7 o2 o5 nb ws)) :
    Calls Try.prog 14 #[.agg #[.int .i64 h, .int .i64 a, .int .i64 b, .int .i64 x, .int .i64 g], .agg #[.int .u64 0, .int .u64 o2, .int .u64 o3, .int .u64 o4, .int .u64 o5, .int .u64 256, .int .u64 o7, .int .i64 o8], .slice A n cap] w (BuiltPost w bs) := by
  obtain ⟨-, -, -, hb, hn, hs, h2, h5, h7, h70⟩ := lay_yes HR
  have HL := Lib.hid (fun W => image_Lay.c h a b x g n o8 _ _ _ _ _ _ _ _ _ W HR)
  clear HR
  go_enter Try.func14, Try.ntmps14
  go_wp2_with fail
  generalize hX : World.alloc (World.alloc w _) _ = X
  have B1 := (Blk.new w _ _).alloc_eq hX
  have B2 := Blk.new_eq hX
  rw [show ∀ o, (World.alloc w o).heap.size = w.heap.size + 1 from fun o => by simp] at B2
  have hB := Lib.hid (hX ▸ (((Below.refl w.heap.size w).alloc (Nat.le_refl _) _).alloc (by simp) _))
  clear hX
  refine (HL.out _).mono ?_
  rintro e w1 ⟨rfl, hd⟩
  have C1 := (B1.below hd).cell
  have C2 := (B2.below hd).cell
  have l2 := (B2.below hd).lt
  have HC1 := Lib.hid (B1.below hd)
  have HC2 := Lib.hid (B2.below hd)
  have hB1 := Lib.hid (hB.out.trans (hd.mono hB.out.size))
  have HR1 := Lib.hid (hr.below hB1.out)
  have hA : ∀ ad, A = some ad → ws ≠ [] → ad.block < w.heap.size := fun ad e hne => by obtain ⟨ad', e', h1, _⟩ := hr hne; rw [e] at e'; injection e' with e'; rw [e']; exact h1
  replace hA := Lib.hid hA
  clear B1 B2 hB hd hr HL
  go_wp2_with fail
  generalize hX : World.alloc w1 _ = Y
  have D1 := HC1.out.alloc_eq hX
  have D2 := HC2.out.alloc_eq hX
  have hB2 := Lib.hid (below_alloc_eq hB1.out hB1.out.size hX)
  have HR2 := Lib.hid (show RowAt .u32 Y A ws from hX ▸ HR1.out.below ((Below.refl _ _).alloc (Nat.le_refl _) _))
  clear hX C1 C2 l2 HC1 HC2 hB1 HR1
  have hen : ∃ m : Nat, o7 = m := ⟨o7.toNat, by omega⟩
  obtain ⟨m, rfl⟩ := hen
  refine (New_ok _ m _ rfl (by omega)).mono ?_
  rintro e W1 ⟨q, p, rfl, hM, hq, hp, hd⟩
  have C1 := (D1.below hd).cell
  have C2 := (D2.below hd).cell
  have HC1 := Lib.hid (D1.below hd)
  have HC2 := Lib.hid (D2.below hd)
  have hY : w.heap.size ≤ Y.heap.size := hB2.out.size
  have hq1 : w.heap.size ≤ q ∧ w.heap.size ≤ p := by omega
  have hpn : w.heap.size + 1 < p := by have := D2.lt; omega
  have hB3 := Lib.hid (hB2.out.trans (hd.mono hB2.out.size))
  have HR3 := Lib.hid (HR2.out.below hd)
  have HM := Lib.hid hM
  clear D1 D2 hB2 hd HR2 hM hq hp hY
  go_wp2_with fail
  have hnk := Lib.hid (show ws.length = n from hl)
  have hW := Lib.hid hw
  clear hw hl
  go_loopw [11, 12, 36] (fun _ _ i wr => ∃ j : Nat, j ≤ n ∧ i = .int .i64 j ∧ Hid (MemAt wr q p (layWords (List.replicate m 0) ws j)) ∧ Hid (W1.grownBy wr (some p))) (fun _ _ i _ => n - (intOf i).toNat)
  case atStart => exact ⟨0, by omega, rfl, HM, Lib.hid (World.grownBy.refl _ _)⟩
  case round =>
    obtain ⟨j, hj, rfl, hM, hG⟩ := hrel
    by_cases hlt : j < n
    · obtain ⟨ad, rfl, had, hc⟩ := HR3.out (by intro e; have := hnk.out; rw [e] at this; simp at this; omega)
      have hjl : j < ws.length := by have := hnk.out; omega
      have hcj := (World.cell?_of_block (a := ad.add j) (hG.out.block _ (by rw [block_add]; exact had) (fun e => by injection e with e; rw [block_add] at e; exact absurd e (by have := hA.out ad rfl (by intro e; rw [e] at hjl; simp at hjl); omega)))).trans (hc j (ws.getD j 0) (by rw [List.getElem?_eq_getElem hjl, List.getD_eq_getElem?_getD, List.getElem?_eq_getElem hjl]; rfl))
      have hv := hW.out (ws.getD j 0) (by rw [List.getD_eq_getElem?_getD, List.getElem?_eq_getElem hjl]; exact List.getElem_mem _)
      have hv2 := u32_wf hv
      have hst := Lib.hid (show storeOf (layWords (List.replicate m 0) ws j) (4 * j) 4 (ws.getD j 0) = layWords (List.replicate m 0) ws (j + 1) from rfl)
      clear hc hv hjl C1 C2
      generalize ws.getD j 0 = v at *
      go_wp2_with fail
      refine (Store_any _ q p _ (4 * j) 4 v hM.out ⟨by omega, by omega⟩ ⟨by omega, by omega⟩ ⟨by omega, by omega⟩).mono ?_
      rintro e W2 ⟨rfl, hM2, hG2⟩
      rw [hst.out] at hM2
      replace hM2 := Lib.hid hM2
      have hG3 := Lib.hid (grown_trans hG.out hG2)
      clear hG2 hM hG hcj
      go_wp2
      go_roundw
      case rel => exact ⟨j + 1, by omega, by go_num, hM2, hG3⟩
      case measure => simp [intOf]; omega
    · obtain rfl : j = n := by omega
      have E2 := Lib.hid (show Blk wr (w.heap.size + 1) _ _ from (hG.out.block (w.heap.size + 1) HC2.out.lt (fun e => by injection e with e; omega)).trans HC2.out)
      have E1 := Lib.hid (show Blk wr w.heap.size _ _ from (hG.out.block w.heap.size HC1.out.lt (fun e => by injection e with e; omega)).trans HC1.out)
      have hB4 := Lib.hid (below_grown hB3.out hG.out hq1.2 hB3.out.size)
      have c2 := E2.out.cell
      clear HC1 HC2 hB3 hG HR3 HM C1 C2
      go_wp2_with fail
      refine (Store_any _ q p _ o2 8 1 hM.out ⟨by omega, by omega⟩ ⟨by omega, by omega⟩ ⟨by omega, by omega⟩).mono ?_
      rintro e W2 ⟨rfl, hM2, hG⟩
      have E22 := Lib.hid (show Blk W2 (w.heap.size + 1) _ _ from (hG.block (w.heap.size + 1) E2.out.lt (fun e => by injection e with e; omega)).trans E2.out)
      have E12 := Lib.hid (show Blk W2 w.heap.size _ _ from (hG.block w.heap.size E1.out.lt (fun e => by injection e with e; omega)).trans E1.out)
      have hB5 := Lib.hid (below_grown hB4.out hG hq1.2 hB4.out.size)
      replace hM2 := Lib.hid hM2
      clear hM E1 E2 hB4 hG c2
      have c2 := E22.out.cell
      go_wp2_with fail
      refine (Store_any _ q p _ (o2 + 16) 8 1 hM2.out ⟨by omega, by omega⟩ ⟨by omega, by omega⟩ ⟨by omega, by omega⟩).mono ?_
      rintro e W3 ⟨rfl, hM3, hG⟩
      have E2 := Lib.hid (show Blk W3 (w.heap.size + 1) _ _ from (hG.block (w.heap.size + 1) E22.out.lt (fun e => by injection e with e; omega)).trans E22.out)
      have E1 := Lib.hid (show Blk W3 w.heap.size _ _ from (hG.block w.heap.size E12.out.lt (fun e => by injection e with e; omega)).trans E12.out)
      have hB6 := Lib.hid (below_grown hB5.out hG hq1.2 hB5.out.size)
      replace hM3 := Lib.hid hM3
      clear hM2 E12 E22 hB5 hG c2
      have c1 := E1.out.cell
      have hnb : b = nb + 1 := by have := HN.out; omega
      subst hnb
      have hz : storeOf (storeOf (layWords (List.replicate m 0) ws j) o2 8 1) (o2 + 16) 8 1 = storeOf (storeOf (layWords (List.replicate (m : Int).toNat 0) ws ws.length) o2 8 1) (o2 + 16) 8 1 := by rw [hnk.out]; rfl
      have HBS2 := Lib.hid (show bs = layBlocks (storeOf (storeOf (layWords (List.replicate m 0) ws j) o2 8 1) (o2 + 16) 8 1) o5 nb by rw [hz]; exact HBS.out)
      clear hz
      generalize storeOf (storeOf (layWords (List.replicate m 0) ws j) o2 8 1) (o2 + 16) 8 1 = bs1 at *
      go_wp2_with fail
      go_loopw [13, 62] (fun _ i wr => ∃ j : Nat, j ≤ nb ∧ i = .int .i64 j ∧ Hid (MemAt wr q p (layBlocks bs1 o5 j)) ∧ Hid (Blk wr (w.heap.size + 1) #[Value.int IntKind.u64 0, Value.int IntKind.u64 o2, Value.int IntKind.u64 o3, Value.int IntKind.u64 o4, Value.int IntKind.u64 o5, Value.int IntKind.u64 256, Value.int IntKind.u64 ↑m, Value.int IntKind.i64 o8] 26) ∧ Hid (Below w.heap.size w wr)) (fun _ i _ => nb - (intOf i).toNat)
      case atStart => exact ⟨0, by omega, rfl, hM3, E2, hB6⟩
      case round =>
        obtain ⟨k, hk, rfl, hM, hE, hB⟩ := hrel
        by_cases hlt : k < nb
        · have c2 := hE.out.cell
          have hk1 : o5 + (k : Int) * 256 ≤ 33554432 := by omega
          go_wp2_with fail
          refine (image_Block.c o2 o3 o4 o5 m o8 k _ (by omega) (by omega)).mono ?_
          rintro e W4 ⟨rfl, hd⟩
          have hM4 := Lib.hid (hM.out.below hd)
          have hE4 := Lib.hid (hE.out.below hd)
          have hB4 := Lib.hid (hB.out.trans (hd.mono hB.out.size))
          clear hM hE hB hd c2
          go_wp2_with fail
          refine (Store_any _ q p _ (o5 + k * 256) 8 (k + 2) hM4.out ⟨by omega, by omega⟩ ⟨by omega, by omega⟩ ⟨by omega, by omega⟩).mono ?_
          rintro e W5 ⟨rfl, hM5, hG⟩
          have hE5 := Lib.hid (show Blk W5 (w.heap.size + 1) _ _ from (hG.block (w.heap.size + 1) hE4.out.lt (fun e => by injection e with e; omega)).trans hE4.out)
          have hB5 := Lib.hid (below_grown hB4.out hG hq1.2 hB4.out.size)
          replace hM5 := Lib.hid hM5
          clear hM4 hE4 hB4 hG
          go_wp2
          go_roundw
          case rel => exact ⟨k + 1, by omega, by go_num, hM5, hE5, hB5⟩
          case measure => simp [intOf]; omega
        · obtain rfl : k = nb := by omega
          have e := HBS2.out
          clear HBS HBS2
          rw [← e] at hM
          replace e := Lib.hid e
          go_wp2
          go_ret2
          exact ⟨q, p, rfl, hM.out, hq1.1, hq1.2, hB.out⟩
set_option maxHeartbeats 8000000 in
set_option maxRecDepth 100000 in
theorem image_Build.no (h a b x g : Int) (o1 o2 o3 o4 o5 o6 o7 o8 r1 r2 r3 r4 r5 r6 r7 r8 r9 : Int) (A : Option Addr) (n cap : Nat) (w : World) (hn : n ≤ 65536) (HR : layOf h a b x g n o8 = (r1, r2, r3, r4, r5, r6, r7, r8, r9)) (hne : r9 ≠ 0 ∨ r9 = 0 ∧ (r1, r2, r3, r4, r5, r6, r7, r8) ≠ (o1, o2, o3, o4, o5, o6, o7, o8)) :
    Calls Try.prog 14 #[.agg #[.int .i64 h, .int .i64 a, .int .i64 b, .int .i64 x, .int .i64 g], .agg #[.int .u64 o1, .int .u64 o2, .int .u64 o3, .int .u64 o4, .int .u64 o5, .int .u64 o6, .int .u64 o7, .int .i64 o8], .slice A n cap] w fun e w' => e = .returned (.tuple #[.pointer none, .int .i64 2]) ∧ Below w.heap.size w w' := by
  have HL := Lib.hid (fun W => image_Lay.c h a b x g n o8 _ _ _ _ _ _ _ _ _ W HR)
  clear HR
  rcases hne with hne | ⟨rfl, hne⟩
  · have d : (r9 != 0) = true := by simpa using hne
    clear hne
    go_enter Try.func14, Try.ntmps14
    go_wp2_with fail
    generalize hX : World.alloc (World.alloc w _) _ = X
    have B2 := Blk.new_eq hX
    rw [show ∀ o, (World.alloc w o).heap.size = w.heap.size + 1 from fun o => by simp] at B2
    have hB := Lib.hid (hX ▸ (((Below.refl w.heap.size w).alloc (Nat.le_refl _) _).alloc (by simp) _))
    clear hX
    refine (HL.out _).mono ?_
    rintro e w1 ⟨rfl, hd⟩
    have C2 := (B2.below hd).cell
    have l2 := (B2.below hd).lt
    have hB1 := Lib.hid (hB.out.trans (hd.mono hB.out.size))
    clear B2 hB hd HL
    go_wp2
    go_ret2
    exact ⟨rfl, hB1.out.alloc hB1.out.size _⟩
  · replace hne := Lib.hid hne
    go_enter Try.func14, Try.ntmps14
    go_wp2_with fail
    generalize hX : World.alloc (World.alloc w _) _ = X
    have B2 := Blk.new_eq hX
    rw [show ∀ o, (World.alloc w o).heap.size = w.heap.size + 1 from fun o => by simp] at B2
    have hB := Lib.hid (hX ▸ (((Below.refl w.heap.size w).alloc (Nat.le_refl _) _).alloc (by simp) _))
    clear hX
    refine (HL.out _).mono ?_
    rintro e w1 ⟨rfl, hd⟩
    have C2 := (B2.below hd).cell
    have l2 := (B2.below hd).lt
    have hB1 := Lib.hid (hB.out.trans (hd.mono hB.out.size))
    clear B2 hB hd HL
    go_wp2_with fail
    all_goals first
      | (go_ret2; exact ⟨rfl, hB1.out.alloc hB1.out.size _⟩)
      | (exfalso; apply hne.out; simp [*])
def BuiltRef (w : World) (bs : List Int) (e : Ending) (w' : World) : Prop := ∃ g b, e = .returned (.tuple #[.pointer (some ⟨g, 0, none⟩), .int .i64 0]) ∧ RefAt w' g b bs ∧ w.heap.size ≤ g ∧ w.heap.size ≤ b ∧ Below w.heap.size w w'
set_option maxHeartbeats 8000000 in
set_option maxRecDepth 100000 in
theorem ref20_Build.yes (h a b x g : Int) (o2 o3 o4 o5 o7 o8 : Int) (A : Option Addr) (n cap : Nat) (ws : List Int) (w : World) (HR : layOf h a b x g n o8 = (0, o2, o3, o4, o5, 256, o7, o8, 0)) (hr : RowAt .u32 w A ws) (hl : ws.length = n) (hw : ∀ y ∈ ws, (Lit.int .u32 y).wf = true) (nb : Nat) (HN : Hid ((nb : Int) = b - 1)) (bs : List Int) (HBS : Hid (bs = builtOf o7 o2 o5 nb ws)) :
    Calls Try.prog 15 #[.agg #[.int .i64 h, .int .i64 a, .int .i64 b, .int .i64 x, .int .i64 g], .agg #[.int .u64 0, .int .u64 o2, .int .u64 o3, .int .u64 o4, .int .u64 o5, .int .u64 256, .int .u64 o7, .int .i64 o8], .slice A n cap] w (BuiltRef w bs) := by
  obtain ⟨-, -, -, hb, hn, hs, h2, h5, h7, h70⟩ := lay_yes HR
  have HL := Lib.hid (fun W => postbagref20_Lay.c h a b x g n o8 _ _ _ _ _ _ _ _ _ W HR)
  clear HR
  go_enter Try.func15, Try.ntmps15
  go_wp2_with fail
  generalize hX : World.alloc (World.alloc w _) _ = X
  have B1 := (Blk.new w _ _).alloc_eq hX
  have B2 := Blk.new_eq hX
  rw [show ∀ o, (World.alloc w o).heap.size = w.heap.size + 1 from fun o => by simp] at B2
  have hB := Lib.hid (hX ▸ (((Below.refl w.heap.size w).alloc (Nat.le_refl _) _).alloc (by simp) _))
  clear hX
  refine (HL.out _).mono ?_
  rintro e w1 ⟨rfl, hd⟩
  have C1 := (B1.below hd).cell
  have C2 := (B2.below hd).cell
  have l2 := (B2.below hd).lt
  have HC1 := Lib.hid (B1.below hd)
  have HC2 := Lib.hid (B2.below hd)
  have hB1 := Lib.hid (hB.out.trans (hd.mono hB.out.size))
  have HR1 := Lib.hid (hr.below hB1.out)
  have hA : ∀ ad, A = some ad → ws ≠ [] → ad.block < w.heap.size := fun ad e hne => by obtain ⟨ad', e', h1, _⟩ := hr hne; rw [e] at e'; injection e' with e'; rw [e']; exact h1
  replace hA := Lib.hid hA
  clear B1 B2 hB hd hr HL
  go_wp2_with fail
  generalize hX : World.alloc w1 _ = Y
  have D1 := HC1.out.alloc_eq hX
  have D2 := HC2.out.alloc_eq hX
  have hB2 := Lib.hid (below_alloc_eq hB1.out hB1.out.size hX)
  have HR2 := Lib.hid (show RowAt .u32 Y A ws from hX ▸ HR1.out.below ((Below.refl _ _).alloc (Nat.le_refl _) _))
  clear hX C1 C2 l2 HC1 HC2 hB1 HR1
  have hen : ∃ m : Nat, o7 = m := ⟨o7.toNat, by omega⟩
  obtain ⟨m, rfl⟩ := hen
  refine (NewRef_ok _ m _ rfl (by omega)).mono ?_
  rintro e W1 ⟨q, p, rfl, hM, hq, hp, hd⟩
  have C1 := (D1.below hd).cell
  have C2 := (D2.below hd).cell
  have HC1 := Lib.hid (D1.below hd)
  have HC2 := Lib.hid (D2.below hd)
  have hY : w.heap.size ≤ Y.heap.size := hB2.out.size
  have hq1 : w.heap.size ≤ q ∧ w.heap.size ≤ p := by omega
  have hpn : w.heap.size + 1 < p := by have := D2.lt; omega
  have hB3 := Lib.hid (hB2.out.trans (hd.mono hB2.out.size))
  have HR3 := Lib.hid (HR2.out.below hd)
  have HM := Lib.hid hM
  clear D1 D2 hB2 hd HR2 hM hq hp hY
  go_wp2_with fail
  have hnk := Lib.hid (show ws.length = n from hl)
  have hW := Lib.hid hw
  clear hw hl
  go_loopw [11] (fun i wr => ∃ j : Nat, j ≤ n ∧ i = .int .i64 j ∧ Hid (RefAt wr q p (layWords (List.replicate m 0) ws j)) ∧ Hid (W1.grownBy wr (some p))) (fun i _ => n - (intOf i).toNat)
  case atStart => exact ⟨0, by omega, rfl, HM, Lib.hid (World.grownBy.refl _ _)⟩
  case round =>
    obtain ⟨j, hj, rfl, hM, hG⟩ := hrel
    by_cases hlt : j < n
    · obtain ⟨ad, rfl, had, hc⟩ := HR3.out (by intro e; have := hnk.out; rw [e] at this; simp at this; omega)
      have hjl : j < ws.length := by have := hnk.out; omega
      have hcj := (World.cell?_of_block (a := ad.add j) (hG.out.block _ (by rw [block_add]; exact had) (fun e => by injection e with e; rw [block_add] at e; exact absurd e (by have := hA.out ad rfl (by intro e; rw [e] at hjl; simp at hjl); omega)))).trans (hc j (ws.getD j 0) (by rw [List.getElem?_eq_getElem hjl, List.getD_eq_getElem?_getD, List.getElem?_eq_getElem hjl]; rfl))
      have hv := hW.out (ws.getD j 0) (by rw [List.getD_eq_getElem?_getD, List.getElem?_eq_getElem hjl]; exact List.getElem_mem _)
      have hv2 := u32_wf hv
      have hst := Lib.hid (show storeOf (layWords (List.replicate m 0) ws j) (4 * j) 4 (ws.getD j 0) = layWords (List.replicate m 0) ws (j + 1) from rfl)
      clear hc hv hjl C1 C2
      generalize ws.getD j 0 = v at *
      go_wp2_with fail
      refine (StoreRef_any _ q p _ (4 * j) 4 v hM.out ⟨by omega, by omega⟩ ⟨by omega, by omega⟩ ⟨by omega, by omega⟩).mono ?_
      rintro e W2 ⟨rfl, hM2, hG2⟩
      rw [hst.out] at hM2
      replace hM2 := Lib.hid hM2
      have hG3 := Lib.hid (grown_trans hG.out hG2)
      clear hG2 hM hG hcj
      go_wp2
      go_roundw
      case rel => exact ⟨j + 1, by omega, by go_num, hM2, hG3⟩
      case measure => simp [intOf]; omega
    · obtain rfl : j = n := by omega
      have E2 := Lib.hid (show Blk wr (w.heap.size + 1) _ _ from (hG.out.block (w.heap.size + 1) HC2.out.lt (fun e => by injection e with e; omega)).trans HC2.out)
      have E1 := Lib.hid (show Blk wr w.heap.size _ _ from (hG.out.block w.heap.size HC1.out.lt (fun e => by injection e with e; omega)).trans HC1.out)
      have hB4 := Lib.hid (below_grown hB3.out hG.out hq1.2 hB3.out.size)
      have c2 := E2.out.cell
      clear HC1 HC2 hB3 hG HR3 HM C1 C2
      go_wp2_with fail
      refine (StoreRef_any _ q p _ o2 8 1 hM.out ⟨by omega, by omega⟩ ⟨by omega, by omega⟩ ⟨by omega, by omega⟩).mono ?_
      rintro e W2 ⟨rfl, hM2, hG⟩
      have E22 := Lib.hid (show Blk W2 (w.heap.size + 1) _ _ from (hG.block (w.heap.size + 1) E2.out.lt (fun e => by injection e with e; omega)).trans E2.out)
      have E12 := Lib.hid (show Blk W2 w.heap.size _ _ from (hG.block w.heap.size E1.out.lt (fun e => by injection e with e; omega)).trans E1.out)
      have hB5 := Lib.hid (below_grown hB4.out hG hq1.2 hB4.out.size)
      replace hM2 := Lib.hid hM2
      clear hM E1 E2 hB4 hG c2
      have c2 := E22.out.cell
      go_wp2_with fail
      refine (StoreRef_any _ q p _ (o2 + 16) 8 1 hM2.out ⟨by omega, by omega⟩ ⟨by omega, by omega⟩ ⟨by omega, by omega⟩).mono ?_
      rintro e W3 ⟨rfl, hM3, hG⟩
      have E2 := Lib.hid (show Blk W3 (w.heap.size + 1) _ _ from (hG.block (w.heap.size + 1) E22.out.lt (fun e => by injection e with e; omega)).trans E22.out)
      have E1 := Lib.hid (show Blk W3 w.heap.size _ _ from (hG.block w.heap.size E12.out.lt (fun e => by injection e with e; omega)).trans E12.out)
      have hB6 := Lib.hid (below_grown hB5.out hG hq1.2 hB5.out.size)
      replace hM3 := Lib.hid hM3
      clear hM2 E12 E22 hB5 hG c2
      have c1 := E1.out.cell
      have hnb : b = nb + 1 := by have := HN.out; omega
      subst hnb
      have hz : storeOf (storeOf (layWords (List.replicate m 0) ws j) o2 8 1) (o2 + 16) 8 1 = storeOf (storeOf (layWords (List.replicate (m : Int).toNat 0) ws ws.length) o2 8 1) (o2 + 16) 8 1 := by rw [hnk.out]; rfl
      have HBS2 := Lib.hid (show bs = layBlocks (storeOf (storeOf (layWords (List.replicate m 0) ws j) o2 8 1) (o2 + 16) 8 1) o5 nb by rw [hz]; exact HBS.out)
      clear hz
      generalize storeOf (storeOf (layWords (List.replicate m 0) ws j) o2 8 1) (o2 + 16) 8 1 = bs1 at *
      go_wp2_with fail
      go_loopw [12] (fun i wr => ∃ j : Nat, j ≤ nb ∧ i = .int .i64 j ∧ Hid (RefAt wr q p (layBlocks bs1 o5 j)) ∧ Hid (Blk wr (w.heap.size + 1) #[Value.int IntKind.u64 0, Value.int IntKind.u64 o2, Value.int IntKind.u64 o3, Value.int IntKind.u64 o4, Value.int IntKind.u64 o5, Value.int IntKind.u64 256, Value.int IntKind.u64 ↑m, Value.int IntKind.i64 o8] 26) ∧ Hid (Blk wr w.heap.size #[Value.int IntKind.i64 h, Value.int IntKind.i64 a, Value.int IntKind.i64 (↑nb + 1), Value.int IntKind.i64 x, Value.int IntKind.i64 g] 23) ∧ Hid (Below w.heap.size w wr)) (fun i _ => nb - (intOf i).toNat)
      case atStart => exact ⟨0, by omega, rfl, hM3, E2, E1, hB6⟩
      case round =>
        obtain ⟨k, hk, rfl, hM, hE, hF, hB⟩ := hrel
        have c1 := hF.out.cell
        by_cases hlt : k < nb
        · have c2 := hE.out.cell
          have hk1 : o5 + (k : Int) * 256 ≤ 33554432 := by omega
          go_wp2_with fail
          refine (StoreRef_any _ q p _ (o5 + k * 256) 8 (k + 2) hM.out ⟨by omega, by omega⟩ ⟨by omega, by omega⟩ ⟨by omega, by omega⟩).mono ?_
          rintro e W5 ⟨rfl, hM5, hG⟩
          have hE5 := Lib.hid (show Blk W5 (w.heap.size + 1) _ _ from (hG.block (w.heap.size + 1) hE.out.lt (fun e => by injection e with e; omega)).trans hE.out)
          have hF5 := Lib.hid (show Blk W5 w.heap.size _ _ from (hG.block w.heap.size hF.out.lt (fun e => by injection e with e; omega)).trans hF.out)
          have hB5 := Lib.hid (below_grown hB.out hG hq1.2 hB.out.size)
          replace hM5 := Lib.hid hM5
          clear hM hE hF hB hG c1 c2
          go_wp2
          go_roundw
          case rel => exact ⟨k + 1, by omega, by go_num, hM5, hE5, hF5, hB5⟩
          case measure => simp [intOf]; omega
        · obtain rfl : k = nb := by omega
          have e := HBS2.out
          clear HBS HBS2
          rw [← e] at hM
          replace e := Lib.hid e
          go_wp2
          go_ret2
          exact ⟨q, p, rfl, hM.out, hq1.1, hq1.2, hB.out⟩
set_option maxHeartbeats 8000000 in
set_option maxRecDepth 100000 in
theorem ref20_Build.no (h a b x g : Int) (o1 o2 o3 o4 o5 o6 o7 o8 r1 r2 r3 r4 r5 r6 r7 r8 r9 : Int) (A : Option Addr) (n cap : Nat) (w : World) (hn : n ≤ 65536) (HR : layOf h a b x g n o8 = (r1, r2, r3, r4, r5, r6, r7, r8, r9)) (hne : r9 ≠ 0 ∨ r9 = 0 ∧ (r1, r2, r3, r4, r5, r6, r7, r8) ≠ (o1, o2, o3, o4, o5, o6, o7, o8)) :
    Calls Try.prog 15 #[.agg #[.int .i64 h, .int .i64 a, .int .i64 b, .int .i64 x, .int .i64 g], .agg #[.int .u64 o1, .int .u64 o2, .int .u64 o3, .int .u64 o4, .int .u64 o5, .int .u64 o6, .int .u64 o7, .int .i64 o8], .slice A n cap] w fun e w' => e = .returned (.tuple #[.pointer none, .int .i64 2]) ∧ Below w.heap.size w w' := by
  have HL := Lib.hid (fun W => postbagref20_Lay.c h a b x g n o8 _ _ _ _ _ _ _ _ _ W HR)
  clear HR
  rcases hne with hne | ⟨rfl, hne⟩
  · have d : (r9 != 0) = true := by simpa using hne
    clear hne
    go_enter Try.func15, Try.ntmps15
    go_wp2_with fail
    generalize hX : World.alloc (World.alloc w _) _ = X
    have B2 := Blk.new_eq hX
    rw [show ∀ o, (World.alloc w o).heap.size = w.heap.size + 1 from fun o => by simp] at B2
    have hB := Lib.hid (hX ▸ (((Below.refl w.heap.size w).alloc (Nat.le_refl _) _).alloc (by simp) _))
    clear hX
    refine (HL.out _).mono ?_
    rintro e w1 ⟨rfl, hd⟩
    have C2 := (B2.below hd).cell
    have l2 := (B2.below hd).lt
    have hB1 := Lib.hid (hB.out.trans (hd.mono hB.out.size))
    clear B2 hB hd HL
    go_wp2
    go_ret2
    exact ⟨rfl, hB1.out.alloc hB1.out.size _⟩
  · replace hne := Lib.hid hne
    go_enter Try.func15, Try.ntmps15
    go_wp2_with fail
    generalize hX : World.alloc (World.alloc w _) _ = X
    have B2 := Blk.new_eq hX
    rw [show ∀ o, (World.alloc w o).heap.size = w.heap.size + 1 from fun o => by simp] at B2
    have hB := Lib.hid (hX ▸ (((Below.refl w.heap.size w).alloc (Nat.le_refl _) _).alloc (by simp) _))
    clear hX
    refine (HL.out _).mono ?_
    rintro e w1 ⟨rfl, hd⟩
    have C2 := (B2.below hd).cell
    have l2 := (B2.below hd).lt
    have hB1 := Lib.hid (hB.out.trans (hd.mono hB.out.size))
    clear B2 hB hd HL
    go_wp2_with fail
    all_goals first
      | (go_ret2; exact ⟨rfl, hB1.out.alloc hB1.out.size _⟩)
      | (exfalso; apply hne.out; simp [*])
end Go.Proofs.Ytaimncgdpnjhiaa.Hand
