/- DERIVED. The contracts of the Go functions that one law reaches: each call returns what the plain function beside it says, under that theorem's own premises. Written by a program (hp.py) over the kit's printed words. -/
import Derived.Test.YtcjfafhbohkhlaaPAllx0
import Derived.Test.YtcjfafhbohkhlaaPAllx2
import Derived.Test.YtcjfafhbohkhlaaPAllx3
import Derived.Test.YtcjfafhbohkhlaaPAllx5
import Derived.Test.YtcjfafhbohkhlaaPAllx6
namespace Go.Proofs.Ytcjfafhbohkhlaa.PAll
open Go.RowKit Go.Proofs.YtcjfafhbohkhlaaW.PrintWords Go.Proofs.YtcjfafhbohkhlaaW.PrintLast Go.Proofs.YtcjfafhbohkhlaaW.PrintMore Go.Proofs.Ytcjfafhbohkhlaa.M
attribute [local go_sem] max2_int min2_int max_two min_two max_three min_three max_four min_four   -- for this text's walks alone
set_option linter.unusedVariables false
set_option linter.unusedSimpArgs false

/-! ### inst_width0: function 59 -/
def inst_width0.j0 : Nat → Int → Bool → Option (Int)
  | 0, _, _ => none
  | k + 1, x3, x8 => if x8 = true then (some 12) else (if x3 = 4 then (some 13) else (some 0))
def inst_width0.f (k : Nat) (a0 : Int) : Option (Int) := if a0 = 1 then (some 32) else (if a0 = 2 then (some 21) else (if a0 = 3 then (inst_width0.j0 k a0 (a0 == 3)) else (inst_width0.j0 k a0 (a0 == 5))))
theorem inst_width0.mono_l : ∀ k, (∀ y0 y1, LeO (inst_width0.j0 k y0 y1) (inst_width0.j0 (k + 1) y0 y1))
  | 0 => fun _ _ r h => by simp [inst_width0.j0] at h
  | k + 1 => by
    have ih0 := inst_width0.mono_l k
    · intro y0 y1
      unfold inst_width0.j0
      repeat' first
      | (with_reducible exact ih0 _ _)
      | (with_reducible exact LeO.refl _)
      | (with_reducible exact LeO.none _)
      | (with_reducible refine LeO.ite ?_ ?_)
      | (with_reducible refine LeO.bind ?_ (fun _ => ?_))
      | exact ih0 _ _
      | exact LeO.none _
      | refine LeO.ite ?_ ?_
      | refine LeO.bind ?_ (fun _ => ?_)
theorem inst_width0.mono : ∀ a0 k, LeO (inst_width0.f k a0) (inst_width0.f (k + 1) a0) := by
  intro a0 k
  have ih0 := inst_width0.mono_l k
  unfold inst_width0.f
  repeat' first
      | (with_reducible exact ih0 _ _)
      | (with_reducible exact LeO.refl _)
      | (with_reducible exact LeO.none _)
      | (with_reducible refine LeO.ite ?_ ?_)
      | (with_reducible refine LeO.bind ?_ (fun _ => ?_))
      | exact ih0 _ _
      | exact LeO.none _
      | refine LeO.ite ?_ ?_
      | refine LeO.bind ?_ (fun _ => ?_)
set_option maxHeartbeats 8000000 in
set_option maxRecDepth 100000 in
theorem inst_width0.calls (k : Nat) (a0 : Int) (r : Int) (w : World) (h : inst_width0.f k a0 = some r) :
    Calls Try.prog 59 #[.int .i64 a0] w fun e w' => e = .returned (.int .i64 r) ∧ Drawn0 w w' := by
  have H : (if a0 = 1 then (some 32) else (if a0 = 2 then (some 21) else (if a0 = 3 then (inst_width0.j0 k a0 (a0 == 3)) else (inst_width0.j0 k a0 (a0 == 5))))) = some r := h
  clear h
  by_cases c2 : a0 = 1
  · rw [if_pos c2] at H
    have c2b0 : (a0 == 1) = true := beq_iff_eq.mpr c2
    have c2b1 : (a0 != 1) = false := bne_eq_false_iff_eq.mpr c2
    clear c2
    obtain rfl := Option.some.inj H
    go_enter Try.func59, Try.ntmps59
    go_wp2
    go_ret
    exact ⟨by first | rfl | (simp; done) | (simp [*]; done), by repeat (first | exact Drawn0.refl _ | apply Drawn0.step)⟩
  · rw [if_neg c2] at H
    have c2b0 : (a0 == 1) = false := beq_eq_false_iff_ne.mpr c2
    have c2b1 : (a0 != 1) = true := bne_iff_ne.mpr c2
    by_cases c3 : a0 = 2
    · rw [if_pos c3] at H
      have c3b0 : (a0 == 2) = true := beq_iff_eq.mpr c3
      have c3b1 : (a0 != 2) = false := bne_eq_false_iff_eq.mpr c3
      clear c3
      obtain rfl := Option.some.inj H
      go_enter Try.func59, Try.ntmps59
      go_wp2
      go_ret
      exact ⟨by first | rfl | (simp; done) | (simp [*]; done), by repeat (first | exact Drawn0.refl _ | apply Drawn0.step)⟩
    · rw [if_neg c3] at H
      have c3b0 : (a0 == 2) = false := beq_eq_false_iff_ne.mpr c3
      have c3b1 : (a0 != 2) = true := bne_iff_ne.mpr c3
      have HC4 := Aside0.mk H
      clear H
      go_enter Try.func59, Try.ntmps59
      go_upto_if 8 with (fail)
      go_cut [8] (fun v8 wc => ∃ (kq : Nat) (x8_3 : Bool), v8 = .bool x8_3 ∧ Aside0 (inst_width0.j0 kq a0 x8_3 = some r) ∧ Aside0 (kq ≤ k) ∧ Drawn0 w wc)
      case first =>
        have H := HC4.out
        clear HC4
        by_cases c5 : a0 = 3
        · rw [if_pos c5] at H
          have c5b0 : (a0 == 3) = true := beq_iff_eq.mpr c5
          have c5b1 : (a0 != 3) = false := bne_eq_false_iff_eq.mpr c5
          clear c5
          (first | rw [c5b0] | (simp only [i64_w, i32_w]; rw [c5b0]) | skip)
          have H' := Aside0.mk H
          clear H
          go_wp2
          go_meet
          case rel => exact ⟨_, ((a0 == 3)), (by first | rfl | (simp; done) | (simp [*]; done)), H', ⟨by first | omega | exact Nat.le_refl _⟩, by repeat (first | exact Drawn0.refl _ | apply Drawn0.step)⟩
        · rw [if_neg c5] at H
          have c5b0 : (a0 == 3) = false := beq_eq_false_iff_ne.mpr c5
          have c5b1 : (a0 != 3) = true := bne_iff_ne.mpr c5
          (first | rw [c5b0] | (simp only [i64_w, i32_w]; rw [c5b0]) | skip)
          have H' := Aside0.mk H
          clear H
          go_wp2
          go_meet
          case rel => exact ⟨_, ((a0 == 5)), (by first | rfl | (simp; done) | (simp [*]; done)), H', ⟨by first | omega | exact Nat.le_refl _⟩, by repeat (first | exact Drawn0.refl _ | apply Drawn0.step)⟩
      case rest =>
        clear HC4
        try clear c2
        try clear c2b0
        try clear c2b1
        try clear p2
        try clear c3
        try clear c3b0
        try clear c3b1
        try clear c5
        try clear c5b0
        try clear c5b1
        obtain ⟨kq, x8_3, rfl, HA, HJ3, ⟨mc3, rfl⟩⟩ := hcut
        cases kq with
        | zero => exact absurd HA.out (by simp [inst_width0.j0])
        | succ kj3 =>
          have H := HA.out
          clear HA
          simp only [inst_width0.j0] at H
          by_cases c6 : x8_3 = true
          · subst c6
            have H1 : (some 12) = some r := by rw [if_pos rfl] at H; exact H
            clear H
            have H := H1
            clear H1
            obtain rfl := Option.some.inj H
            go_wp2
            go_ret
            exact ⟨by first | rfl | (simp; done) | (simp [*]; done), by repeat (first | exact Drawn0.refl _ | apply Drawn0.step)⟩
          · replace c6 := Bool.eq_false_iff.mpr c6
            subst c6
            have H1 : (if a0 = 4 then (some 13) else (some 0)) = some r := by rw [if_neg (show ¬ (false = true) by decide)] at H; exact H
            clear H
            have H := H1
            clear H1
            by_cases c7 : a0 = 4
            · rw [if_pos c7] at H
              have c7b0 : (a0 == 4) = true := beq_iff_eq.mpr c7
              have c7b1 : (a0 != 4) = false := bne_eq_false_iff_eq.mpr c7
              clear c7
              obtain rfl := Option.some.inj H
              go_wp2
              go_ret
              exact ⟨by first | rfl | (simp; done) | (simp [*]; done), by repeat (first | exact Drawn0.refl _ | apply Drawn0.step)⟩
            · rw [if_neg c7] at H
              have c7b0 : (a0 == 4) = false := beq_eq_false_iff_ne.mpr c7
              have c7b1 : (a0 != 4) = true := bne_iff_ne.mpr c7
              obtain rfl := Option.some.inj H
              go_wp2
              go_ret
              exact ⟨by first | rfl | (simp; done) | (simp [*]; done), by repeat (first | exact Drawn0.refl _ | apply Drawn0.step)⟩
def inst_width.f (a0 : Int) : Option (Int) := some (widthOf a0)
theorem inst_width.spec (a0 r : Int) (h : inst_width.f a0 = some r) : ∃ k, inst_width0.f k a0 = some r := by
  simp only [inst_width.f, Option.some.injEq] at h
  subst h
  refine ⟨3, ?_⟩
  unfold widthOf
  by_cases h1 : a0 = 1
  · subst h1; rfl
  by_cases h2 : a0 = 2
  · subst h2; rfl
  by_cases h3 : a0 = 3
  · subst h3; rfl
  by_cases h5 : a0 = 5
  · subst h5; rfl
  by_cases h4 : a0 = 4
  · subst h4; rfl
  have e5 : (a0 == 5) = false := by simpa using h5
  simp [inst_width0.f, inst_width0.j0, h1, h2, h3, h4, h5, e5]

theorem inst_width.calls (a0 : Int) (r : Int) (w : World) (h : inst_width.f a0 = some r) :
    Calls Try.prog 59 #[.int .i64 a0] w fun e w' => e = .returned (.int .i64 r) ∧ Drawn0 w w' := by
  obtain ⟨k, hk⟩ := inst_width.spec a0 r h
  exact inst_width0.calls k a0 r w hk

/-! ### inst_as: function 40 -/
set_option maxHeartbeats 4000000 in
theorem inst_places.c (f : Int) (w : World) : Calls Try.prog 36 #[.int .i64 f] w fun e w' => Below w.heap.size w w' ∧ ((placesOf f = [] ∧ e = .returned (.slice none 0 0)) ∨ (∃ b T, w.heap.size ≤ b ∧ e = .returned (.slice (some ⟨b, 0, none⟩) ((placesOf f).length / 3) ((placesOf f).length / 3)) ∧ Blk w' b ((placesOf f).map (Value.int .i64)).toArray T)) := by
  go_enter Try.func36, Try.ntmps36
  go_wp2
  all_goals go_ret
  all_goals simp only [beq_iff_eq, beq_eq_false_iff_ne, ne_eq] at *
  all_goals (first
    | (subst_vars; exact ⟨by go_grown, Or.inr ⟨w.heap.size, _, Nat.le_refl _, rfl, Blk.new _ _ _⟩⟩)
    | (refine ⟨by go_grown, Or.inl ⟨?_, rfl⟩⟩; simp [placesOf, *])
    | trace_state)
set_option maxHeartbeats 4000000 in
theorem inst_as1.c (w0 low n : Int) (h : U64 w0) (w : World) (b T : Nat) (B : Blk w b #[.int .u64 w0] T) : Calls Try.prog 57 #[.int .i64 low, .int .i64 n, .pointer (some ⟨b, 0, none⟩)] w fun e w' => e = .returned (.int .i64 (wrap64 (fieldOf w0 low n))) ∧ Drawn0 w w' := by
  have hF := Lib.hid (bits_Field.calls w0 low n _ · (by unfold bits_Field.f; rw [if_pos h]))
  have c1 := B.cell 0
  go_enter Try.func57, Try.ntmps57
  go_wp2_with fail
  refine (hF.out _).mono ?_
  rintro e w1 ⟨rfl, hb⟩
  have hb := Lib.hid hb
  go_wp2_with fail
  go_returns
  exact ⟨rfl, hb.out⟩
def PlIn (w' : World) (B : Nat) (A : Option Addr) (n : Nat) (l : List Int) : Prop := n = 0 ∨ ∃ b T, B ≤ b ∧ A = some ⟨b, 0, none⟩ ∧ Blk w' b (l.map (Value.int .i64)).toArray T
structure AsRel (w : World) (G : Nat) (f c x3 x7 a2 op r1 r2 r3 : Int) (p q : Bool) (A : Option Addr) (n : Nat) (kq : Nat) (v : Value) (w' : World) (j : Nat) (acc : Int) : Prop where
  hj : j + kq = n
  hv : v = .int .i64 j
  h4 : Blk w' G #[.int .i64 op, .int .i64 r1, .int .i64 r2, .int .i64 r3, .int .i64 acc, .bool p, .bool q] 37
  h1 : Blk w' w.heap.size #[.int .i64 f, .int .i64 c, .int .i64 x3, .int .i64 x7] 74
  h2 : Blk w' (w.heap.size + 1) #[.int .u64 a2] 22
  h3 : Blk w' (w.heap.size + 1 + 1) #[.int .i64 0, .int .i64 0, .int .i64 0, .int .i64 0, .int .i64 0, .bool false, .bool false] 37
  hp : PlIn w' (G + 1) A n (placesOf f)
  hb : Below w.heap.size w w'
  hg : w.heap.size + 1 + 1 < G
  hs : orImm a2 ((placesOf f).drop (3 * j)) acc = orImm a2 (placesOf f) 0
theorem pl_cell {w : World} {b T : Nat} {l : List Int} (B : Blk w b (l.map (Value.int .i64)).toArray T) (i : Nat) (h : i < l.length) : w.cell? ⟨b, i, none⟩ = some (.int .i64 (l.getD i 0)) := by
  rw [B.cell i]
  simp [List.getD_eq_getElem?_getD, List.getElem?_eq_getElem h]
theorem agg7 {a b c d e a' b' c' d' e' : Int} {p q p' q' : Bool} (h1 : a = a') (h2 : b = b') (h3 : c = c') (h4 : d = d') (h5 : e = e') (h6 : p = p') (h7 : q = q') : Ending.returned (.agg #[.int .i64 a, .int .i64 b, .int .i64 c, .int .i64 d, .int .i64 e, .bool p, .bool q]) = .returned (.agg #[.int .i64 a', .int .i64 b', .int .i64 c', .int .i64 d', .int .i64 e', .bool p', .bool q']) := by subst_vars; rfl
def inst_as.f (a0 f a1_1 a1_2 a1_3 a2 : Int) : Option (Int × Int × Int × Int × Int × Bool × Bool) :=
  if U64 a2 then some (a0, keep (hasRd f) (a2 / 128 % 32), keep (hasRs1 f) (a2 / 32768 % 32), keep (hasRs2 f) (a2 / 1048576 % 32), decImm f a2, hasAq f && a2 / 67108864 % 2 == 1, hasAq f && a2 / 33554432 % 2 == 1) else none
set_option maxHeartbeats 16000000 in
set_option maxRecDepth 100000 in
theorem inst_as.c (a0 f c x3 x7 a2 : Int) (w : World) (h : U64 a2) : Calls Try.prog 40 #[.int .i64 a0, .agg #[.int .i64 f, .int .i64 c, .int .i64 x3, .int .i64 x7], .int .u64 a2] w fun e w' => e = .returned (.agg #[.int .i64 a0, .int .i64 (keep (fieldsOf f % 2 == 1) (wrap64 (fieldOf a2 7 5))), .int .i64 (keep (fieldsOf f / 2 % 2 == 1) (wrap64 (fieldOf a2 15 5))), .int .i64 (keep (fieldsOf f / 4 % 2 == 1) (wrap64 (fieldOf a2 20 5))), .int .i64 (decImm f a2), .bool (fieldsOf f / 16 % 2 == 1 && wrap64 (fieldOf a2 26 1) == 1), .bool (fieldsOf f / 16 % 2 == 1 && wrap64 (fieldOf a2 25 1) == 1)]) ∧ Below w.heap.size w w' := by
  have hm : 0 ≤ fieldsOf f ∧ fieldsOf f < 32 := ⟨(fields_has f).2.2.2.2.1, (fields_has f).2.2.2.2.2⟩
  have hA := Lib.hid (fun (low n : Int) => inst_as1.c a2 low n h)
  have hf' := Lib.hid (fun (W : World) => inst_fields.calls f _ W rfl)
  have hk' := Lib.hid (fun a b c d i p q (W : World) => inst_kept.calls a b c d i p q (fieldsOf f) _ _ _ _ _ _ _ W (by unfold inst_kept.f; rw [if_pos hm]))
  have hW' := Lib.hid (fun (W : World) => inst_width.calls f _ W rfl)
  have hS' := Lib.hid (fun (x : Int) (n : Int) (hx : U64 x) (W : World) => bits_Sign.calls x n _ W (by unfold bits_Sign.f; rw [if_pos hx]))
  have hU := Lib.hid h
  have hM := Lib.hid hm
  clear h hm
  go_enter Try.func40, Try.ntmps40
  go_wp2_with fail
  generalize hX : World.alloc _ _ = X
  have B1 := new3a hX
  have B2 := new3b hX
  have B3 := new3c hX
  have hb := new3d hX
  clear hX
  refine (hf'.out X).mono ?_
  rintro e w1 ⟨rfl, hb1⟩
  replace hb1 := hb1.below
  replace B1 := B1.below hb1
  replace B2 := B2.below hb1
  replace B3 := B3.below hb1
  replace hb := Lib.hid (hb.trans (hb1.mono hb.size))
  clear hb1
  have c1 := B1.cell
  go_wp2_with fail
  refine (hA.out 7 5 w1 _ _ B2).mono ?_
  rintro e w2 ⟨rfl, hb1⟩
  replace hb1 := hb1.below
  replace B1 := B1.below hb1
  replace B2 := B2.below hb1
  replace B3 := B3.below hb1
  replace hb := Lib.hid (hb.out.trans (hb1.mono hb.out.size))
  clear hb1 c1
  go_wp2_with fail
  refine (hA.out 15 5 w2 _ _ B2).mono ?_
  rintro e w3 ⟨rfl, hb1⟩
  replace hb1 := hb1.below
  replace B1 := B1.below hb1
  replace B2 := B2.below hb1
  replace B3 := B3.below hb1
  replace hb := Lib.hid (hb.out.trans (hb1.mono hb.out.size))
  clear hb1
  go_wp2_with fail
  refine (hA.out 20 5 w3 _ _ B2).mono ?_
  rintro e w4 ⟨rfl, hb1⟩
  replace hb1 := hb1.below
  replace B1 := B1.below hb1
  replace B2 := B2.below hb1
  replace B3 := B3.below hb1
  replace hb := Lib.hid (hb.out.trans (hb1.mono hb.out.size))
  clear hb1
  go_wp2_with fail
  refine (hA.out 26 1 w4 _ _ B2).mono ?_
  rintro e w5 ⟨rfl, hb1⟩
  replace hb1 := hb1.below
  replace B1 := B1.below hb1
  replace B2 := B2.below hb1
  replace B3 := B3.below hb1
  replace hb := Lib.hid (hb.out.trans (hb1.mono hb.out.size))
  clear hb1
  go_wp2_with fail
  refine (hA.out 25 1 w5 _ _ B2).mono ?_
  rintro e w6 ⟨rfl, hb1⟩
  replace hb1 := hb1.below
  replace B1 := B1.below hb1
  replace B2 := B2.below hb1
  replace B3 := B3.below hb1
  replace hb := Lib.hid (hb.out.trans (hb1.mono hb.out.size))
  clear hb1
  go_wp2_with fail
  refine (hk'.out _ _ _ _ _ _ _ w6).mono ?_
  rintro e w7 ⟨rfl, hb1⟩
  replace B1 := B1.below hb1
  replace B2 := B2.below hb1
  replace hb := Lib.hid (hb.out.trans (hb1.mono hb.out.size))
  replace B3 := B3.below hb1
  clear hb1
  have c1 := B1.cell
  have l1 := B1.lt
  have l2 := B3.lt
  have hb1x := Lib.hid l2
  go_wp2_with fail
  generalize hY : World.alloc _ _ = Y
  have B4 := Blk.new_eq hY
  replace B1 := B1.alloc_eq hY
  replace B2 := B2.alloc_eq hY
  replace B3 := B3.alloc_eq hY
  have l7 : w.heap.size ≤ w7.heap.size := hb.out.size
  have e7 : Y.heap.size = w7.heap.size + 1 := by rw [← hY, World.size_alloc]
  replace hb := Lib.hid (below_alloc_eq hb.out hb.out.size hY)
  clear hY c1
  refine (inst_places.c f Y).mono ?_
  rintro e w8 ⟨hb1, hp⟩
  replace B1 := B1.below hb1
  replace B2 := B2.below hb1
  replace B3 := B3.below hb1
  replace B4 := B4.below hb1
  have l8 := hb1.size
  replace hb := Lib.hid (hb.out.trans (hb1.mono hb.out.size))
  clear hb1
  have hpl : ∃ (A : Option Addr) (n : Nat), e = .returned (.slice A n n) ∧ (placesOf f).length = 3 * n ∧ (n = 0 ∨ ∃ b T, w7.heap.size + 1 ≤ b ∧ A = some ⟨b, 0, none⟩ ∧ Blk w8 b ((placesOf f).map (Value.int .i64)).toArray T) := by
    rcases hp with ⟨h0, rfl⟩ | ⟨b, T, h0, rfl, B⟩
    · exact ⟨none, 0, rfl, by rw [h0]; rfl, Or.inl rfl⟩
    · refine ⟨_, _, rfl, ?_, Or.inr ⟨b, T, by omega, rfl, B⟩⟩
      unfold placesOf; repeat' split
      all_goals rfl
  clear hp
  obtain ⟨A, n, rfl, hn, hB⟩ := hpl
  have hB := Lib.hid hB
  have c1 := B1.cell
  go_wp2_with fail
  have hb := hb.out
  have hS := Lib.hid (AsRel.mk (w := w) (v := .int .i64 ((0 : Nat) : Int)) (j := 0) (Nat.zero_add n) rfl B4 B1 B2 B3 (hB.out) hb (by have := hb1x.out; omega) rfl)
  clear c1 B1 B2 B3 B4 hb hB
  go_loopg [37] n (fun kq v37 w' => ∃ j acc, AsRel w w7.heap.size f c x3 x7 a2 _ _ _ _ _ _ A n kq v37 w' j acc)
  case atStart => exact ⟨0, 0, hS.out⟩
  case round =>
    obtain ⟨j, acc, R⟩ := hrel
    obtain rfl := R.hv
    have e : j + gk = n := R.hj
    by_cases hlt : j < n
    · obtain h0 | ⟨b, T, hb1, rfl, B⟩ := R.hp
      · omega
      have q0 : wr.cell? ⟨b, j * 3, none⟩ = some (.int .i64 ((placesOf f).getD (3 * j) 0)) := by rw [Nat.mul_comm j 3]; exact pl_cell B _ (by omega)
      have q1 : wr.cell? ⟨b, j * 3 + 1, none⟩ = some (.int .i64 ((placesOf f).getD (3 * j + 1) 0)) := by rw [Nat.mul_comm j 3]; exact pl_cell B _ (by omega)
      have q2 : wr.cell? ⟨b, j * 3 + 2, none⟩ = some (.int .i64 ((placesOf f).getD (3 * j + 2) 0)) := by rw [Nat.mul_comm j 3]; exact pl_cell B _ (by omega)
      have k0 : 0 ≤ (placesOf f).getD (3 * j) 0 := (getD_mem_all (places_small f).1 _ (by omega)).1
      have hd3 := drop3 (placesOf f) j (by omega)
      have hs := R.hs
      rw [hd3] at hs
      generalize (placesOf f).getD (3 * j) 0 = lo at *
      generalize (placesOf f).getD (3 * j + 1) 0 = nn at *
      generalize (placesOf f).getD (3 * j + 2) 0 = at_ at *
      have l1 := B.lt
      have l2 := R.h4.lt
      have hlt' : (j : Int) < (n : Int) := by omega
      have hn' : n < 100 := by have := (places_small f).2; omega
      have HS := Lib.hid hs
      clear hs hd3
      have R4 := Lib.hid R.h4
      have R2 := Lib.hid R.h2
      have RR := Lib.hid R
      have BB := Lib.hid B
      have ee := Lib.hid e
      have gg : w7.heap.size < b := hb1
      clear R B e
      go_wp2_with fail
      generalize hZ : World.alloc _ _ = Z
      have C1 := R4.out.alloc_eq hZ
      have C2 := R2.out.alloc_eq hZ
      have C3 := Blk.new_eq hZ
      have c1 := C1.cell
      have c3 := C3.cell
      have f1 := C1.frozen
      have hZ := Lib.hid hZ
      have C1 := Lib.hid C1
      have C3 := Lib.hid C3
      clear q0 q1 q2
      refine wp_region_draws_tail 13 (by kernel_rfl) (by kernel_rfl) ?_
      simp only [List.take_succ_cons, List.take_zero, List.drop_succ_cons, List.drop_zero]
      repeat (any_goals (first | go_big_quiet_step (((go_at_call 57; refine (hA.out _ _ _ _ _ C2.drewN).mono ?_; rintro e w' ⟨rfl, ⟨nd, rfl⟩⟩; exact ⟨rfl, _, World.drewN_drewN _ _ _⟩))) | quiet_step (((go_at_call 57; refine (hA.out _ _ _ _ _ C2.drewN).mono ?_; rintro e w' ⟨rfl, ⟨nd, rfl⟩⟩; exact ⟨rfl, _, World.drewN_drewN _ _ _⟩)))))
      refine wpQuiet_nil ?_
      intro _ hw'
      obtain ⟨nq, hw''⟩ := hw'
      subst hw''
      go_wp2
      go_roundg (gk - 1)
      case measure => have := ee.out; omega
      case rel =>
        have D := RR.out
        have hZ := hZ.out
        have lz : w.heap.size ≤ wr.heap.size := D.hb.size
        refine ⟨j + 1, _, AsRel.mk (by have := ee.out; omega) (by go_num) (C1.out.drewN.set 4 _) ((D.h1.alloc_eq hZ).drewN.far (by have := D.hg; simp; omega) _) ((D.h2.alloc_eq hZ).drewN.far (by have := D.hg; simp; omega) _) ((D.h3.alloc_eq hZ).drewN.far (by have := D.hg; simp; omega) _) (Or.inr ⟨b, T, hb1, rfl, ((BB.out.alloc_eq hZ).drewN.far (by simp; omega) _)⟩) ?_ D.hg HS.out⟩
        exact (below_drewN (below_alloc_eq D.hb lz hZ) _).setCell (by have := D.hg; simp; omega) _
    · have hn0 : j = n := by have := R.hj; omega
      have hac : acc = rawImm f a2 := by
        have h := R.hs
        rw [hn0, ← hn, List.drop_length] at h
        rw [← orImm_raw f a2, ← h]; rfl
      subst hac
      have R4 := R.h4
      have R1 := R.h1
      have rr := rawImm_range f a2
      have RR := Lib.hid R
      have c1 := R4.cell
      have f1 := R4.frozen
      have c2 := R1.cell
      have hlt' : ¬ (j : Int) < (n : Int) := by omega
      have R3 := R.h3
      have c3 := R3.cell
      have f3 := R3.frozen
      have l3 := R3.lt
      have l4 := R4.lt
      have RR4 := Lib.hid R4
      have RR1 := Lib.hid R1
      have RR3 := Lib.hid R3
      have hG := R.hg
      clear R4 R1 R3 R e hn0
      go_wp2_with fail
      refine (hW'.out wr).mono ?_
      rintro e w9 ⟨rfl, ⟨nd, rfl⟩⟩
      by_cases hw : 0 < widthOf f
      · go_wp2_with fail
        refine (hS'.out _ _ (by unfold U64; omega) _).mono ?_
        rintro e w9 ⟨rfl, ⟨ne, rfl⟩⟩
        have hd : Hid (wrap64 (signOf (rawImm f a2) (widthOf f)) = decImm f a2) := by unfold decImm; rw [if_pos hw]; rfl
        go_wp2_with fail
        (try simp only [Exit.inBlock, Exit.then])
        generalize hV : World.setCell _ _ _ = V
        have D : Blk V (w.heap.size + 1 + 1) #[.int .i64 a0, .int .i64 (keep (fieldsOf f % 2 == 1) (wrap64 (fieldOf a2 7 5))), .int .i64 (keep (fieldsOf f / 2 % 2 == 1) (wrap64 (fieldOf a2 15 5))), .int .i64 (keep (fieldsOf f / 4 % 2 == 1) (wrap64 (fieldOf a2 20 5))), .int .i64 (wrap64 (signOf (rawImm f a2) (widthOf f))), .bool (fieldsOf f / 16 % 2 == 1 && wrap64 (fieldOf a2 26 1) == 1), .bool (fieldsOf f / 16 % 2 == 1 && wrap64 (fieldOf a2 25 1) == 1)] 37 := by
          rw [← hV]
          have h := ((((((((RR3.out.drewN (n := nd + ne)).far (p := ⟨w7.heap.size, 4, none⟩) (by simp; omega) (.int .i64 (wrap64 (signOf (rawImm f a2) (widthOf f))))).set 0 (.int .i64 a0)).set 1 (.int .i64 (keep (fieldsOf f % 2 == 1) (wrap64 (fieldOf a2 7 5))))).set 2 (.int .i64 (keep (fieldsOf f / 2 % 2 == 1) (wrap64 (fieldOf a2 15 5))))).set 3 (.int .i64 (keep (fieldsOf f / 4 % 2 == 1) (wrap64 (fieldOf a2 20 5))))).set 4 (.int .i64 (wrap64 (signOf (rawImm f a2) (widthOf f))))).set 5 (.bool (fieldsOf f / 16 % 2 == 1 && wrap64 (fieldOf a2 26 1) == 1))).set 6 (.bool (fieldsOf f / 16 % 2 == 1 && wrap64 (fieldOf a2 25 1) == 1))
          simpa using h
        have hbV : Below w.heap.size w V := by
          rw [← hV]
          have hb := RR.out.hb
          iterate 8 (refine Below.setCell ?_ (by simp; omega) _)
          exact below_drewN hb _
        have cV := D.cell
        refine bodyPost_ret (v := .agg #[.int .i64 a0, .int .i64 (keep (fieldsOf f % 2 == 1) (wrap64 (fieldOf a2 7 5))), .int .i64 (keep (fieldsOf f / 2 % 2 == 1) (wrap64 (fieldOf a2 15 5))), .int .i64 (keep (fieldsOf f / 4 % 2 == 1) (wrap64 (fieldOf a2 20 5))), .int .i64 (wrap64 (signOf (rawImm f a2) (widthOf f))), .bool (fieldsOf f / 16 % 2 == 1 && wrap64 (fieldOf a2 26 1) == 1), .bool (fieldsOf f / 16 % 2 == 1 && wrap64 (fieldOf a2 25 1) == 1)]) (by simp [results, Try.results40, go_sem, cV]) rfl ?_
        rw [← hd.out]
        exact ⟨rfl, hbV⟩
      · have hd : Hid (rawImm f a2 = decImm f a2) := by unfold decImm; rw [if_neg hw]; rfl
        go_wp2_with fail
        (try simp only [Exit.inBlock, Exit.then])
        generalize hV : World.setCell _ _ _ = V
        have D : Blk V (w.heap.size + 1 + 1) #[.int .i64 a0, .int .i64 (keep (fieldsOf f % 2 == 1) (wrap64 (fieldOf a2 7 5))), .int .i64 (keep (fieldsOf f / 2 % 2 == 1) (wrap64 (fieldOf a2 15 5))), .int .i64 (keep (fieldsOf f / 4 % 2 == 1) (wrap64 (fieldOf a2 20 5))), .int .i64 (rawImm f a2), .bool (fieldsOf f / 16 % 2 == 1 && wrap64 (fieldOf a2 26 1) == 1), .bool (fieldsOf f / 16 % 2 == 1 && wrap64 (fieldOf a2 25 1) == 1)] 37 := by
          rw [← hV]
          have h := (((((((RR3.out.drewN (n := nd)).set 0 (.int .i64 a0)).set 1 (.int .i64 (keep (fieldsOf f % 2 == 1) (wrap64 (fieldOf a2 7 5))))).set 2 (.int .i64 (keep (fieldsOf f / 2 % 2 == 1) (wrap64 (fieldOf a2 15 5))))).set 3 (.int .i64 (keep (fieldsOf f / 4 % 2 == 1) (wrap64 (fieldOf a2 20 5))))).set 4 (.int .i64 (rawImm f a2))).set 5 (.bool (fieldsOf f / 16 % 2 == 1 && wrap64 (fieldOf a2 26 1) == 1))).set 6 (.bool (fieldsOf f / 16 % 2 == 1 && wrap64 (fieldOf a2 25 1) == 1))
          simpa using h
        have hbV : Below w.heap.size w V := by
          rw [← hV]
          have hb := RR.out.hb
          iterate 7 (refine Below.setCell ?_ (by simp; omega) _)
          exact below_drewN hb _
        have cV := D.cell
        refine bodyPost_ret (v := .agg #[.int .i64 a0, .int .i64 (keep (fieldsOf f % 2 == 1) (wrap64 (fieldOf a2 7 5))), .int .i64 (keep (fieldsOf f / 2 % 2 == 1) (wrap64 (fieldOf a2 15 5))), .int .i64 (keep (fieldsOf f / 4 % 2 == 1) (wrap64 (fieldOf a2 20 5))), .int .i64 (rawImm f a2), .bool (fieldsOf f / 16 % 2 == 1 && wrap64 (fieldOf a2 26 1) == 1), .bool (fieldsOf f / 16 % 2 == 1 && wrap64 (fieldOf a2 25 1) == 1)]) (by simp [results, Try.results40, go_sem, cV]) rfl ?_
        rw [← hd.out]
        exact ⟨rfl, hbV⟩
theorem inst_as.calls (a0 f a1_1 a1_2 a1_3 a2 : Int) (r1 r2 r3 r4 r5 : Int) (r6 r7 : Bool) (w : World) (h : inst_as.f a0 f a1_1 a1_2 a1_3 a2 = some (r1, r2, r3, r4, r5, r6, r7)) : Calls Try.prog 40 #[.int .i64 a0, .agg #[.int .i64 f, .int .i64 a1_1, .int .i64 a1_2, .int .i64 a1_3], .int .u64 a2] w fun e w' => e = .returned (.agg #[.int .i64 r1, .int .i64 r2, .int .i64 r3, .int .i64 r4, .int .i64 r5, .bool r6, .bool r7]) ∧ Below w.heap.size w w' := by
  unfold inst_as.f at h
  split at h
  · rename_i hu
    simp only [Option.some.injEq, Prod.mk.injEq] at h
    obtain ⟨rfl, rfl, rfl, rfl, rfl, rfl, rfl⟩ := h
    have q := fields_has f
    have g : ∀ (a n : Nat), a ≤ 63 → 1 ≤ n → n ≤ 5 → wrap64 (fieldOf a2 a n) = a2 / 2 ^ a % 2 ^ n := by
      intro a n ha h1 h2
      rw [field_lit a2 a n ha h1 (by omega)]
      have p1 := ipos n
      have p3 := ipow_le n 5 h2
      have b0 : 0 ≤ a2 / 2 ^ a % 2 ^ n := Int.emod_nonneg _ (Int.ne_of_gt p1)
      have b1 : a2 / 2 ^ a % 2 ^ n < 2 ^ n := Int.emod_lt_of_pos _ p1
      exact I64.wrap_eq ⟨by omega, by omega⟩
    refine (inst_as.c a0 f a1_1 a1_2 a1_3 a2 w hu).mono ?_
    rintro e w' ⟨rfl, hb⟩
    refine ⟨agg7 rfl ?_ ?_ ?_ rfl ?_ ?_, hb⟩
    · rw [q.1]; congr 1; exact g 7 5 (by omega) (by omega) (by omega)
    · rw [q.2.1]; congr 1; exact g 15 5 (by omega) (by omega) (by omega)
    · rw [q.2.2.1]; congr 1; exact g 20 5 (by omega) (by omega) (by omega)
    · rw [q.2.2.2.1]; congr 2; exact g 26 1 (by omega) (by omega) (by omega)
    · rw [q.2.2.2.1]; congr 2; exact g 25 1 (by omega) (by omega) (by omega)
  · simp at h


/-! ### inst_Decode0: function 23 -/
def inst_Decode0.l0 : Nat → Int → Int → Int → Option (Int × Int × Int × Int × Int × Bool × Bool × Int)
  | 0, _, _, _ => none
  | k + 1, x0, x4, x13 => if x13 < 87 then ((inst_near.f (wrap64 (x13 + 1)) x4).bind fun t158 => (if t158 = true then ((inst_of.f (wrap64 (x13 + 1))).bind fun bt159 => ((inst_as.f (wrap64 (x13 + 1)) bt159.1 bt159.2.1 bt159.2.2.1 bt159.2.2.2 (IntKind.u64.wrap (x0))).bind fun bt164 => ((inst_Encode.f bt164.1 bt164.2.1 bt164.2.2.1 bt164.2.2.2.1 bt164.2.2.2.2.1 bt164.2.2.2.2.2.1 bt164.2.2.2.2.2.2).bind fun bt172 => (if bt172.2 = 0 then (if bt172.1 = x0 then (some (bt164.1, bt164.2.1, bt164.2.2.1, bt164.2.2.2.1, bt164.2.2.2.2.1, bt164.2.2.2.2.2.1, bt164.2.2.2.2.2.2, 0)) else (inst_Decode0.l0 k x0 x4 (wrap64 (x13 + 1)))) else (inst_Decode0.l0 k x0 x4 (wrap64 (x13 + 1))))))) else (inst_Decode0.l0 k x0 x4 (wrap64 (x13 + 1))))) else (some (0, 0, 0, 0, 0, false, false, 21))
def inst_Decode0.f (k : Nat) (a0 : Int) : Option (Int × Int × Int × Int × Int × Bool × Bool × Int) := inst_Decode0.l0 k a0 (wrap64 (Go.bits .and .u32 a0 127)) 0
theorem inst_Decode0.mono_l : ∀ k, (∀ y0 y1 y2, LeO (inst_Decode0.l0 k y0 y1 y2) (inst_Decode0.l0 (k + 1) y0 y1 y2))
  | 0 => fun _ _ _ r h => by simp [inst_Decode0.l0] at h
  | k + 1 => by
    have ih0 := inst_Decode0.mono_l k
    · intro y0 y1 y2
      unfold inst_Decode0.l0
      repeat' first
      | (with_reducible exact ih0 _ _ _)
      | (with_reducible exact LeO.refl _)
      | (with_reducible exact LeO.none _)
      | (with_reducible refine LeO.ite ?_ ?_)
      | (with_reducible refine LeO.bind ?_ (fun _ => ?_))
      | exact ih0 _ _ _
      | exact LeO.none _
      | refine LeO.ite ?_ ?_
      | refine LeO.bind ?_ (fun _ => ?_)
theorem inst_Decode0.mono : ∀ a0 k, LeO (inst_Decode0.f k a0) (inst_Decode0.f (k + 1) a0) := by
  intro a0 k
  have ih0 := inst_Decode0.mono_l k
  unfold inst_Decode0.f
  repeat' first
      | (with_reducible exact ih0 _ _ _)
      | (with_reducible exact LeO.refl _)
      | (with_reducible exact LeO.none _)
      | (with_reducible refine LeO.ite ?_ ?_)
      | (with_reducible refine LeO.bind ?_ (fun _ => ?_))
      | exact ih0 _ _ _
      | exact LeO.none _
      | refine LeO.ite ?_ ?_
      | refine LeO.bind ?_ (fun _ => ?_)
set_option maxHeartbeats 8000000 in
set_option maxRecDepth 100000 in
theorem inst_Decode0.calls (k : Nat) (a0 : Int) (r1 : Int) (r2 : Int) (r3 : Int) (r4 : Int) (r5 : Int) (r6 : Bool) (r7 : Bool) (r8 : Int) (w : World) (h : inst_Decode0.f k a0 = some (r1, r2, r3, r4, r5, r6, r7, r8)) :
    Calls Try.prog 23 #[.int .u32 a0] w fun e w' => e = .returned (.tuple #[.agg #[.int .i64 r1, .int .i64 r2, .int .i64 r3, .int .i64 r4, .int .i64 r5, .bool r6, .bool r7], .int .i64 r8]) ∧ Below w.heap.size w w' := by
  have hu37 := Try.underlying37
  have hu74 := Try.underlying74
  have HB := Aside0.mk (Below.refl w.heap.size w)
  have H : (inst_Decode0.l0 k a0 (wrap64 (Go.bits .and .u32 a0 127)) 0) = some (r1, r2, r3, r4, r5, r6, r7, r8) := h
  clear h
  have H' := Aside0.mk H
  clear H
  go_enter Try.func23, Try.ntmps23
  go_wp2_with (first | ((with_reducible refine gate_dst (N := 2) rfl ?_); refine box_event ?hg (N := 2) ?hd (cs := #[.int .i64 0, .int .i64 0, .int .i64 0, .int .i64 0, .int .i64 0, .bool false, .bool false]) (t := 37) ?hr ?_; (case hd => rfl); (case hg => rfl); (case hr => first | (go_simp; done) | (go_simp; rfl)); intro gb157 hg w2 hbox hb; have n0_ := Aside0.mk (below_step (by repeat (first | (with_reducible first | exact HB.out | apply below_alloc | apply pw_below_drewN | apply below_drew1) | exact HB.out)) hb); have n1_ := Aside0.mk (hbox); have n2_ := Aside0.mk ((by rw [hg]; exact (below_size (by repeat (first | (with_reducible first | exact HB.out | apply below_alloc | apply pw_below_drewN | apply below_drew1) | exact HB.out))) : w.heap.size ≤ gb157)); have n3_ := Aside0.mk ((by rw [hg]; exact (below_size (by repeat (first | (with_reducible first | exact HB.out | apply below_alloc | apply pw_below_drewN | apply below_drew1) | exact HB.out))) : w.heap.size ≤ gb157)); clear HB; have HB := n0_; have BK157 := n1_; have GW157 := n2_; have GE157 := n3_; clear n0_ n1_ n2_ n3_; clear hb hbox hg))
  go_loopg [13] k (fun kq v13 w' => ∃ (x13_1 : Int) (x158000_1 : Int) (x158001_1 : Int) (x158002_1 : Int) (x158003_1 : Int) (x158004_1 : Int) (x158005_1 : Bool) (x158006_1 : Bool), v13 = .int .i64 x13_1 ∧ Aside0 (inst_Decode0.l0 kq a0 (wrap64 (Go.bits .and .u32 a0 127)) x13_1 = some (r1, r2, r3, r4, r5, r6, r7, r8)) ∧ Aside0 (kq ≤ k) ∧ Aside0 (w'.heap[gb157]? = some (.cells #[.int .i64 x158000_1, .int .i64 x158001_1, .int .i64 x158002_1, .int .i64 x158003_1, .int .i64 x158004_1, .bool x158005_1, .bool x158006_1] 37 (0, 0))) ∧ Aside0 (Below w.heap.size w w'))
  case atStart => exact ⟨(0), (0), (0), (0), (0), (0), (false), (false), (by first | rfl | (simp; done) | (simp [*]; done)), H', ⟨Nat.le_refl _⟩, ⟨by (with_reducible repeat (first | refine blk_drewN ?_ _ | refine blk_drew ?_ | refine blk_alloc ?_ _)); exact BK157.out⟩, ⟨by repeat (first | (with_reducible first | exact HB.out | apply below_alloc | apply pw_below_drewN | apply below_drew1 | refine below_set ?_ GE157.out) | exact HB.out)⟩⟩
  case round =>
    clear H'
    try clear c2
    try clear p2
    obtain ⟨x13_1, x158000_1, x158001_1, x158002_1, x158003_1, x158004_1, x158005_1, x158006_1, rfl, HA, HK1, BK157, HB⟩ := hrel
    cases gk with
    | zero => exact absurd HA.out (by simp [inst_Decode0.l0])
    | succ k1 =>
      have H := HA.out
      clear HA
      simp only [inst_Decode0.l0] at H
      by_cases c3 : x13_1 < 87
      · rw [if_pos c3] at H
        have c3b0 : decide (x13_1 < 87) = true := decide_eq_true c3
        clear c3
        replace H := Option.bind_eq_some_iff.mp H
        obtain ⟨t158, A40, H⟩ := H
        replace H : (if t158 = true then ((inst_of.f (wrap64 (x13_1 + 1))).bind fun bt159 => ((inst_as.f (wrap64 (x13_1 + 1)) bt159.1 bt159.2.1 bt159.2.2.1 bt159.2.2.2 (IntKind.u64.wrap (a0))).bind fun bt164 => ((inst_Encode.f bt164.1 bt164.2.1 bt164.2.2.1 bt164.2.2.2.1 bt164.2.2.2.2.1 bt164.2.2.2.2.2.1 bt164.2.2.2.2.2.2).bind fun bt172 => (if bt172.2 = 0 then (if bt172.1 = a0 then (some (bt164.1, bt164.2.1, bt164.2.2.1, bt164.2.2.2.1, bt164.2.2.2.2.1, bt164.2.2.2.2.2.1, bt164.2.2.2.2.2.2, 0)) else (inst_Decode0.l0 k1 a0 (wrap64 (Go.bits .and .u32 a0 127)) (wrap64 (x13_1 + 1)))) else (inst_Decode0.l0 k1 a0 (wrap64 (Go.bits .and .u32 a0 127)) (wrap64 (x13_1 + 1))))))) else (inst_Decode0.l0 k1 a0 (wrap64 (Go.bits .and .u32 a0 127)) (wrap64 (x13_1 + 1)))) = some (r1, r2, r3, r4, r5, r6, r7, r8) := H
        have A4 := Aside0.mk A40
        clear A40
        by_cases c5 : t158 = true
        · subst c5
          have H1 : ((inst_of.f (wrap64 (x13_1 + 1))).bind fun bt159 => ((inst_as.f (wrap64 (x13_1 + 1)) bt159.1 bt159.2.1 bt159.2.2.1 bt159.2.2.2 (IntKind.u64.wrap (a0))).bind fun bt164 => ((inst_Encode.f bt164.1 bt164.2.1 bt164.2.2.1 bt164.2.2.2.1 bt164.2.2.2.2.1 bt164.2.2.2.2.2.1 bt164.2.2.2.2.2.2).bind fun bt172 => (if bt172.2 = 0 then (if bt172.1 = a0 then (some (bt164.1, bt164.2.1, bt164.2.2.1, bt164.2.2.2.1, bt164.2.2.2.2.1, bt164.2.2.2.2.2.1, bt164.2.2.2.2.2.2, 0)) else (inst_Decode0.l0 k1 a0 (wrap64 (Go.bits .and .u32 a0 127)) (wrap64 (x13_1 + 1)))) else (inst_Decode0.l0 k1 a0 (wrap64 (Go.bits .and .u32 a0 127)) (wrap64 (x13_1 + 1))))))) = some (r1, r2, r3, r4, r5, r6, r7, r8) := by rw [if_pos rfl] at H; exact H
          clear H
          have H := H1
          clear H1
          replace H := Option.bind_eq_some_iff.mp H
          obtain ⟨⟨t159, t160, t161, t162⟩, A60, H⟩ := H
          replace H : ((inst_as.f (wrap64 (x13_1 + 1)) t159 t160 t161 t162 (IntKind.u64.wrap (a0))).bind fun bt164 => ((inst_Encode.f bt164.1 bt164.2.1 bt164.2.2.1 bt164.2.2.2.1 bt164.2.2.2.2.1 bt164.2.2.2.2.2.1 bt164.2.2.2.2.2.2).bind fun bt172 => (if bt172.2 = 0 then (if bt172.1 = a0 then (some (bt164.1, bt164.2.1, bt164.2.2.1, bt164.2.2.2.1, bt164.2.2.2.2.1, bt164.2.2.2.2.2.1, bt164.2.2.2.2.2.2, 0)) else (inst_Decode0.l0 k1 a0 (wrap64 (Go.bits .and .u32 a0 127)) (wrap64 (x13_1 + 1)))) else (inst_Decode0.l0 k1 a0 (wrap64 (Go.bits .and .u32 a0 127)) (wrap64 (x13_1 + 1)))))) = some (r1, r2, r3, r4, r5, r6, r7, r8) := H
          have A6 := Aside0.mk A60
          clear A60
          replace H := Option.bind_eq_some_iff.mp H
          obtain ⟨⟨t164, t165, t166, t167, t168, t169, t170⟩, A70, H⟩ := H
          replace H : ((inst_Encode.f t164 t165 t166 t167 t168 t169 t170).bind fun bt172 => (if bt172.2 = 0 then (if bt172.1 = a0 then (some (t164, t165, t166, t167, t168, t169, t170, 0)) else (inst_Decode0.l0 k1 a0 (wrap64 (Go.bits .and .u32 a0 127)) (wrap64 (x13_1 + 1)))) else (inst_Decode0.l0 k1 a0 (wrap64 (Go.bits .and .u32 a0 127)) (wrap64 (x13_1 + 1))))) = some (r1, r2, r3, r4, r5, r6, r7, r8) := H
          have A7 := Aside0.mk A70
          clear A70
          replace H := Option.bind_eq_some_iff.mp H
          obtain ⟨⟨t172, t173⟩, A80, H⟩ := H
          replace H : (if t173 = 0 then (if t172 = a0 then (some (t164, t165, t166, t167, t168, t169, t170, 0)) else (inst_Decode0.l0 k1 a0 (wrap64 (Go.bits .and .u32 a0 127)) (wrap64 (x13_1 + 1)))) else (inst_Decode0.l0 k1 a0 (wrap64 (Go.bits .and .u32 a0 127)) (wrap64 (x13_1 + 1)))) = some (r1, r2, r3, r4, r5, r6, r7, r8) := H
          have A8 := Aside0.mk A80
          clear A80
          by_cases c9 : t173 = 0
          · rw [if_pos c9] at H
            have c9b0 : (t173 == 0) = true := beq_iff_eq.mpr c9
            have c9b1 : (t173 != 0) = false := bne_eq_false_iff_eq.mpr c9
            clear c9
            by_cases c10 : t172 = a0
            · rw [if_pos c10] at H
              have c10b0 : (t172 == a0) = true := beq_iff_eq.mpr c10
              have c10b1 : (t172 != a0) = false := bne_eq_false_iff_eq.mpr c10
              clear c10
              simp only [Option.some.injEq, Prod.mk.injEq] at H
              obtain ⟨rfl, rfl, rfl, rfl, rfl, rfl, rfl, rfl⟩ := H
              go_wp2_with (first | ((with_reducible refine gate_callee (f := 39) rfl ?_); refine goesL_ (some 19) rfl rfl Try.func39 (by kernel_rfl) rfl #[.int .i64 (wrap64 (x13_1 + 1)), .int .i64 (wrap64 (Go.bits .and .u32 a0 127))] rfl (by (try simp only [List.map_toArray, List.map_cons, List.map_nil]); first | done | rfl | (simp only [List.length_drop, List.length_take]; rfl)) ?_; (with_reducible refine (inst_near.calls (wrap64 (x13_1 + 1)) (wrap64 (Go.bits .and .u32 a0 127)) true _ A4.out).mono ?_); rintro e w11 ⟨rfl, hb⟩; refine ⟨_, rfl, ?_⟩; have n0_ := Aside0.mk (blk_below (g := gb157) (o := .cells #[.int .i64 x158000_1, .int .i64 x158001_1, .int .i64 x158002_1, .int .i64 x158003_1, .int .i64 x158004_1, .bool x158005_1, .bool x158006_1] 37 (0, 0)) (by (with_reducible repeat (first | refine blk_drewN ?_ _ | refine blk_drew ?_ | refine blk_alloc ?_ _)); exact BK157.out) hb); have n1_ := Aside0.mk (below_step (by repeat (first | (with_reducible first | exact HB.out | apply below_alloc | apply pw_below_drewN | apply below_drew1 | refine below_set ?_ GE157.out) | exact HB.out)) hb); clear BK157; clear HB; have BK157 := n0_; have HB := n1_; clear n0_ n1_; (try clear hb); (try clear hb2); (try clear hk); (try clear hi)) | ((with_reducible refine gate_callee (f := 34) rfl ?_); refine goesL_ (some 23) rfl rfl Try.func34 (by kernel_rfl) rfl #[.int .i64 (wrap64 (x13_1 + 1))] rfl (by (try simp only [List.map_toArray, List.map_cons, List.map_nil]); first | done | rfl | (simp only [List.length_drop, List.length_take]; rfl)) ?_; (with_reducible refine (inst_of.calls (wrap64 (x13_1 + 1)) t159 t160 t161 t162 _ A6.out).mono ?_); rintro e w12 ⟨rfl, hb⟩; refine ⟨_, rfl, ?_⟩; have n0_ := Aside0.mk (blk_below (g := gb157) (o := .cells #[.int .i64 x158000_1, .int .i64 x158001_1, .int .i64 x158002_1, .int .i64 x158003_1, .int .i64 x158004_1, .bool x158005_1, .bool x158006_1] 37 (0, 0)) (by (with_reducible repeat (first | refine blk_drewN ?_ _ | refine blk_drew ?_ | refine blk_alloc ?_ _)); exact BK157.out) hb); have n1_ := Aside0.mk (below_step (by repeat (first | (with_reducible first | exact HB.out | apply below_alloc | apply pw_below_drewN | apply below_drew1 | refine below_set ?_ GE157.out) | exact HB.out)) hb); clear BK157; clear HB; have BK157 := n0_; have HB := n1_; clear n0_ n1_; (try clear hb); (try clear hb2); (try clear hk); (try clear hi)) | ((with_reducible refine gate_dst (N := 6) rfl ?_); refine box_event ?hg (N := 6) ?hd (cs := #[.int .i64 0, .int .i64 0, .int .i64 0, .int .i64 0]) (t := 74) ?hr ?_; (case hd => rfl); (case hg => rfl); (case hr => first | (go_simp; done) | (go_simp; rfl)); intro gb163 hg w13 hbox hb; have n0_ := Aside0.mk (blk_below (g := gb157) (o := .cells #[.int .i64 x158000_1, .int .i64 x158001_1, .int .i64 x158002_1, .int .i64 x158003_1, .int .i64 x158004_1, .bool x158005_1, .bool x158006_1] 37 (0, 0)) (by (with_reducible repeat (first | refine blk_drewN ?_ _ | refine blk_drew ?_ | refine blk_alloc ?_ _)); exact BK157.out) hb); have n1_ := Aside0.mk (below_step (by repeat (first | (with_reducible first | exact HB.out | apply below_alloc | apply pw_below_drewN | apply below_drew1 | refine below_set ?_ GE157.out) | exact HB.out)) hb); have n2_ := Aside0.mk (hbox); have n3_ := Aside0.mk ((by rw [hg]; exact (below_size (by repeat (first | (with_reducible first | exact HB.out | apply below_alloc | apply pw_below_drewN | apply below_drew1 | refine below_set ?_ GE157.out) | exact HB.out))) : w.heap.size ≤ gb163)); have n4_ := Aside0.mk ((by rw [hg]; exact (below_size (by repeat (first | (with_reducible first | exact HB.out | apply below_alloc | apply pw_below_drewN | apply below_drew1 | refine below_set ?_ GE157.out) | exact HB.out))) : w.heap.size ≤ gb163)); have n5_ := Aside0.mk ((by rw [hg]; exact Nat.ne_of_lt (blk_lt (g := gb157) (o := .cells #[.int .i64 x158000_1, .int .i64 x158001_1, .int .i64 x158002_1, .int .i64 x158003_1, .int .i64 x158004_1, .bool x158005_1, .bool x158006_1] 37 (0, 0)) (by (with_reducible repeat (first | refine blk_drewN ?_ _ | refine blk_drew ?_ | refine blk_alloc ?_ _)); exact BK157.out)) : gb157 ≠ gb163)); have n6_ := Aside0.mk ((by rw [hg]; exact Nat.ne_of_gt (blk_lt (g := gb157) (o := .cells #[.int .i64 x158000_1, .int .i64 x158001_1, .int .i64 x158002_1, .int .i64 x158003_1, .int .i64 x158004_1, .bool x158005_1, .bool x158006_1] 37 (0, 0)) (by (with_reducible repeat (first | refine blk_drewN ?_ _ | refine blk_drew ?_ | refine blk_alloc ?_ _)); exact BK157.out)) : gb163 ≠ gb157)); clear BK157; clear HB; have BK157 := n0_; have HB := n1_; have BK163 := n2_; have GW163 := n3_; have GE163 := n4_; have NB157_163 := n5_; have NB163_157 := n6_; clear n0_ n1_ n2_ n3_ n4_ n5_ n6_; clear hb hbox hg; have hnb14 := NB163_157.out; have hnc14 := NB157_163.out; have hcz15_0 : w13.cell? ⟨gb163, 0, none⟩ = some (.int .i64 0) := (blk_cell BK163.out 0).trans rfl; have hcz15_1 : w13.cell? ⟨gb163, 1, none⟩ = some (.int .i64 0) := (blk_cell BK163.out 1).trans rfl; have hcz15_2 : w13.cell? ⟨gb163, 2, none⟩ = some (.int .i64 0) := (blk_cell BK163.out 2).trans rfl; have hcz15_3 : w13.cell? ⟨gb163, 3, none⟩ = some (.int .i64 0) := (blk_cell BK163.out 3).trans rfl; have hfz15_0 := blk_frozen BK163.out 0; have hfz15_1 := blk_frozen BK163.out 1; have hfz15_2 := blk_frozen BK163.out 2; have hfz15_3 := blk_frozen BK163.out 3) | ((with_reducible refine gate_callee (f := 40) rfl ?_); refine goesL_ (some 29) rfl rfl Try.func40 (by kernel_rfl) rfl #[.int .i64 (wrap64 (x13_1 + 1)), .agg #[.int .i64 t159, .int .i64 t160, .int .i64 t161, .int .i64 t162], .int .u64 (IntKind.u64.wrap (a0))] rfl (by (try simp only [List.map_toArray, List.map_cons, List.map_nil]); first | done | rfl | (simp only [List.length_drop, List.length_take]; rfl)) ?_; (with_reducible refine (inst_as.calls (wrap64 (x13_1 + 1)) t159 t160 t161 t162 (IntKind.u64.wrap (a0)) t164 t165 t166 t167 t168 t169 t170 _ A7.out).mono ?_); rintro e w16 ⟨rfl, hb⟩; refine ⟨_, rfl, ?_⟩; have n0_ := Aside0.mk (blk_below (g := gb157) (o := .cells #[.int .i64 x158000_1, .int .i64 x158001_1, .int .i64 x158002_1, .int .i64 x158003_1, .int .i64 x158004_1, .bool x158005_1, .bool x158006_1] 37 (0, 0)) (by (with_reducible repeat (first | refine blk_drewN ?_ _ | refine blk_drew ?_ | refine blk_alloc ?_ _)); refine blk_far ?_ NB157_163.out _; (with_reducible repeat (first | refine blk_drewN ?_ _ | refine blk_drew ?_ | refine blk_alloc ?_ _)); refine blk_far ?_ NB157_163.out _; (with_reducible repeat (first | refine blk_drewN ?_ _ | refine blk_drew ?_ | refine blk_alloc ?_ _)); refine blk_far ?_ NB157_163.out _; (with_reducible repeat (first | refine blk_drewN ?_ _ | refine blk_drew ?_ | refine blk_alloc ?_ _)); refine blk_far ?_ NB157_163.out _; (with_reducible repeat (first | refine blk_drewN ?_ _ | refine blk_drew ?_ | refine blk_alloc ?_ _)); exact BK157.out) hb); have n1_ := Aside0.mk (blk_below (g := gb163) (o := .cells #[.int .i64 t159, .int .i64 t160, .int .i64 t161, .int .i64 t162] 74 (0, 0)) (by (with_reducible repeat (first | refine blk_drewN ?_ _ | refine blk_drew ?_ | refine blk_alloc ?_ _)); refine blk_put (cs := #[.int .i64 t159, .int .i64 t160, .int .i64 t161, .int .i64 0]) ?_ 3 _ rfl; (with_reducible repeat (first | refine blk_drewN ?_ _ | refine blk_drew ?_ | refine blk_alloc ?_ _)); refine blk_put (cs := #[.int .i64 t159, .int .i64 t160, .int .i64 0, .int .i64 0]) ?_ 2 _ rfl; (with_reducible repeat (first | refine blk_drewN ?_ _ | refine blk_drew ?_ | refine blk_alloc ?_ _)); refine blk_put (cs := #[.int .i64 t159, .int .i64 0, .int .i64 0, .int .i64 0]) ?_ 1 _ rfl; (with_reducible repeat (first | refine blk_drewN ?_ _ | refine blk_drew ?_ | refine blk_alloc ?_ _)); refine blk_put (cs := #[.int .i64 0, .int .i64 0, .int .i64 0, .int .i64 0]) ?_ 0 _ rfl; (with_reducible repeat (first | refine blk_drewN ?_ _ | refine blk_drew ?_ | refine blk_alloc ?_ _)); exact BK163.out) hb); have n2_ := Aside0.mk (below_step (by repeat (first | (with_reducible first | exact HB.out | apply below_alloc | apply pw_below_drewN | apply below_drew1 | refine below_set ?_ GE157.out | refine below_set ?_ GE163.out) | exact HB.out)) hb); clear BK157; clear BK163; clear HB; have BK157 := n0_; have BK163 := n1_; have HB := n2_; clear n0_ n1_ n2_; (try clear hb); (try clear hb2); (try clear hk); (try clear hi)) | ((with_reducible refine gate_dst (N := 7) rfl ?_); refine box_event ?hg (N := 7) ?hd (cs := #[.int .i64 0, .int .i64 0, .int .i64 0, .int .i64 0, .int .i64 0, .bool false, .bool false]) (t := 37) ?hr ?_; (case hd => rfl); (case hg => rfl); (case hr => first | (go_simp; done) | (go_simp; rfl)); intro gb171 hg w17 hbox hb; have n0_ := Aside0.mk (blk_below (g := gb157) (o := .cells #[.int .i64 x158000_1, .int .i64 x158001_1, .int .i64 x158002_1, .int .i64 x158003_1, .int .i64 x158004_1, .bool x158005_1, .bool x158006_1] 37 (0, 0)) (by (with_reducible repeat (first | refine blk_drewN ?_ _ | refine blk_drew ?_ | refine blk_alloc ?_ _)); exact BK157.out) hb); have n1_ := Aside0.mk (blk_below (g := gb163) (o := .cells #[.int .i64 t159, .int .i64 t160, .int .i64 t161, .int .i64 t162] 74 (0, 0)) (by (with_reducible repeat (first | refine blk_drewN ?_ _ | refine blk_drew ?_ | refine blk_alloc ?_ _)); exact BK163.out) hb); have n2_ := Aside0.mk (below_step (by repeat (first | (with_reducible first | exact HB.out | apply below_alloc | apply pw_below_drewN | apply below_drew1 | refine below_set ?_ GE157.out | refine below_set ?_ GE163.out) | exact HB.out)) hb); have n3_ := Aside0.mk (hbox); have n4_ := Aside0.mk ((by rw [hg]; exact (below_size (by repeat (first | (with_reducible first | exact HB.out | apply below_alloc | apply pw_below_drewN | apply below_drew1 | refine below_set ?_ GE157.out | refine below_set ?_ GE163.out) | exact HB.out))) : w.heap.size ≤ gb171)); have n5_ := Aside0.mk ((by rw [hg]; exact (below_size (by repeat (first | (with_reducible first | exact HB.out | apply below_alloc | apply pw_below_drewN | apply below_drew1 | refine below_set ?_ GE157.out | refine below_set ?_ GE163.out) | exact HB.out))) : w.heap.size ≤ gb171)); have n6_ := Aside0.mk ((by rw [hg]; exact Nat.ne_of_lt (blk_lt (g := gb157) (o := .cells #[.int .i64 x158000_1, .int .i64 x158001_1, .int .i64 x158002_1, .int .i64 x158003_1, .int .i64 x158004_1, .bool x158005_1, .bool x158006_1] 37 (0, 0)) (by (with_reducible repeat (first | refine blk_drewN ?_ _ | refine blk_drew ?_ | refine blk_alloc ?_ _)); exact BK157.out)) : gb157 ≠ gb171)); have n7_ := Aside0.mk ((by rw [hg]; exact Nat.ne_of_gt (blk_lt (g := gb157) (o := .cells #[.int .i64 x158000_1, .int .i64 x158001_1, .int .i64 x158002_1, .int .i64 x158003_1, .int .i64 x158004_1, .bool x158005_1, .bool x158006_1] 37 (0, 0)) (by (with_reducible repeat (first | refine blk_drewN ?_ _ | refine blk_drew ?_ | refine blk_alloc ?_ _)); exact BK157.out)) : gb171 ≠ gb157)); have n8_ := Aside0.mk ((by rw [hg]; exact Nat.ne_of_lt (blk_lt (g := gb163) (o := .cells #[.int .i64 t159, .int .i64 t160, .int .i64 t161, .int .i64 t162] 74 (0, 0)) (by (with_reducible repeat (first | refine blk_drewN ?_ _ | refine blk_drew ?_ | refine blk_alloc ?_ _)); exact BK163.out)) : gb163 ≠ gb171)); have n9_ := Aside0.mk ((by rw [hg]; exact Nat.ne_of_gt (blk_lt (g := gb163) (o := .cells #[.int .i64 t159, .int .i64 t160, .int .i64 t161, .int .i64 t162] 74 (0, 0)) (by (with_reducible repeat (first | refine blk_drewN ?_ _ | refine blk_drew ?_ | refine blk_alloc ?_ _)); exact BK163.out)) : gb171 ≠ gb163)); clear BK157; clear BK163; clear HB; have BK157 := n0_; have BK163 := n1_; have HB := n2_; have BK171 := n3_; have GW171 := n4_; have GE171 := n5_; have NB157_171 := n6_; have NB171_157 := n7_; have NB163_171 := n8_; have NB171_163 := n9_; clear n0_ n1_ n2_ n3_ n4_ n5_ n6_ n7_ n8_ n9_; clear hb hbox hg; have hnb18 := NB171_157.out; have hnc18 := NB157_171.out; have hnb19 := NB171_163.out; have hnc19 := NB163_171.out; have hcz20_0 : w17.cell? ⟨gb171, 0, none⟩ = some (.int .i64 0) := (blk_cell BK171.out 0).trans rfl; have hcz20_1 : w17.cell? ⟨gb171, 1, none⟩ = some (.int .i64 0) := (blk_cell BK171.out 1).trans rfl; have hcz20_2 : w17.cell? ⟨gb171, 2, none⟩ = some (.int .i64 0) := (blk_cell BK171.out 2).trans rfl; have hcz20_3 : w17.cell? ⟨gb171, 3, none⟩ = some (.int .i64 0) := (blk_cell BK171.out 3).trans rfl; have hcz20_4 : w17.cell? ⟨gb171, 4, none⟩ = some (.int .i64 0) := (blk_cell BK171.out 4).trans rfl; have hcz20_5 : w17.cell? ⟨gb171, 5, none⟩ = some (.bool false) := (blk_cell BK171.out 5).trans rfl; have hcz20_6 : w17.cell? ⟨gb171, 6, none⟩ = some (.bool false) := (blk_cell BK171.out 6).trans rfl; have hfz20_0 := blk_frozen BK171.out 0; have hfz20_1 := blk_frozen BK171.out 1; have hfz20_2 := blk_frozen BK171.out 2; have hfz20_3 := blk_frozen BK171.out 3; have hfz20_4 := blk_frozen BK171.out 4; have hfz20_5 := blk_frozen BK171.out 5; have hfz20_6 := blk_frozen BK171.out 6) | ((with_reducible refine gate_callee (f := 20) rfl ?_); refine goesL_ (some 32) rfl rfl Try.func20 (by kernel_rfl) rfl #[.agg #[.int .i64 t164, .int .i64 t165, .int .i64 t166, .int .i64 t167, .int .i64 t168, .bool t169, .bool t170]] rfl (by (try simp only [List.map_toArray, List.map_cons, List.map_nil]); first | done | rfl | (simp only [List.length_drop, List.length_take]; rfl)) ?_; (with_reducible refine (inst_Encode.calls t164 t165 t166 t167 t168 t169 t170 t172 t173 _ A8.out).mono ?_); rintro e w21 ⟨rfl, hb⟩; refine ⟨_, rfl, ?_⟩; have n0_ := Aside0.mk (blk_below (g := gb157) (o := .cells #[.int .i64 x158000_1, .int .i64 x158001_1, .int .i64 x158002_1, .int .i64 x158003_1, .int .i64 x158004_1, .bool x158005_1, .bool x158006_1] 37 (0, 0)) (by (with_reducible repeat (first | refine blk_drewN ?_ _ | refine blk_drew ?_ | refine blk_alloc ?_ _)); refine blk_far ?_ NB157_171.out _; (with_reducible repeat (first | refine blk_drewN ?_ _ | refine blk_drew ?_ | refine blk_alloc ?_ _)); refine blk_far ?_ NB157_171.out _; (with_reducible repeat (first | refine blk_drewN ?_ _ | refine blk_drew ?_ | refine blk_alloc ?_ _)); refine blk_far ?_ NB157_171.out _; (with_reducible repeat (first | refine blk_drewN ?_ _ | refine blk_drew ?_ | refine blk_alloc ?_ _)); refine blk_far ?_ NB157_171.out _; (with_reducible repeat (first | refine blk_drewN ?_ _ | refine blk_drew ?_ | refine blk_alloc ?_ _)); refine blk_far ?_ NB157_171.out _; (with_reducible repeat (first | refine blk_drewN ?_ _ | refine blk_drew ?_ | refine blk_alloc ?_ _)); refine blk_far ?_ NB157_171.out _; (with_reducible repeat (first | refine blk_drewN ?_ _ | refine blk_drew ?_ | refine blk_alloc ?_ _)); refine blk_far ?_ NB157_171.out _; (with_reducible repeat (first | refine blk_drewN ?_ _ | refine blk_drew ?_ | refine blk_alloc ?_ _)); exact BK157.out) hb); have n1_ := Aside0.mk (blk_below (g := gb163) (o := .cells #[.int .i64 t159, .int .i64 t160, .int .i64 t161, .int .i64 t162] 74 (0, 0)) (by (with_reducible repeat (first | refine blk_drewN ?_ _ | refine blk_drew ?_ | refine blk_alloc ?_ _)); refine blk_far ?_ NB163_171.out _; (with_reducible repeat (first | refine blk_drewN ?_ _ | refine blk_drew ?_ | refine blk_alloc ?_ _)); refine blk_far ?_ NB163_171.out _; (with_reducible repeat (first | refine blk_drewN ?_ _ | refine blk_drew ?_ | refine blk_alloc ?_ _)); refine blk_far ?_ NB163_171.out _; (with_reducible repeat (first | refine blk_drewN ?_ _ | refine blk_drew ?_ | refine blk_alloc ?_ _)); refine blk_far ?_ NB163_171.out _; (with_reducible repeat (first | refine blk_drewN ?_ _ | refine blk_drew ?_ | refine blk_alloc ?_ _)); refine blk_far ?_ NB163_171.out _; (with_reducible repeat (first | refine blk_drewN ?_ _ | refine blk_drew ?_ | refine blk_alloc ?_ _)); refine blk_far ?_ NB163_171.out _; (with_reducible repeat (first | refine blk_drewN ?_ _ | refine blk_drew ?_ | refine blk_alloc ?_ _)); refine blk_far ?_ NB163_171.out _; (with_reducible repeat (first | refine blk_drewN ?_ _ | refine blk_drew ?_ | refine blk_alloc ?_ _)); exact BK163.out) hb); have n2_ := Aside0.mk (blk_below (g := gb171) (o := .cells #[.int .i64 t164, .int .i64 t165, .int .i64 t166, .int .i64 t167, .int .i64 t168, .bool t169, .bool t170] 37 (0, 0)) (by (with_reducible repeat (first | refine blk_drewN ?_ _ | refine blk_drew ?_ | refine blk_alloc ?_ _)); refine blk_put (cs := #[.int .i64 t164, .int .i64 t165, .int .i64 t166, .int .i64 t167, .int .i64 t168, .bool t169, .bool false]) ?_ 6 _ rfl; (with_reducible repeat (first | refine blk_drewN ?_ _ | refine blk_drew ?_ | refine blk_alloc ?_ _)); refine blk_put (cs := #[.int .i64 t164, .int .i64 t165, .int .i64 t166, .int .i64 t167, .int .i64 t168, .bool false, .bool false]) ?_ 5 _ rfl; (with_reducible repeat (first | refine blk_drewN ?_ _ | refine blk_drew ?_ | refine blk_alloc ?_ _)); refine blk_put (cs := #[.int .i64 t164, .int .i64 t165, .int .i64 t166, .int .i64 t167, .int .i64 0, .bool false, .bool false]) ?_ 4 _ rfl; (with_reducible repeat (first | refine blk_drewN ?_ _ | refine blk_drew ?_ | refine blk_alloc ?_ _)); refine blk_put (cs := #[.int .i64 t164, .int .i64 t165, .int .i64 t166, .int .i64 0, .int .i64 0, .bool false, .bool false]) ?_ 3 _ rfl; (with_reducible repeat (first | refine blk_drewN ?_ _ | refine blk_drew ?_ | refine blk_alloc ?_ _)); refine blk_put (cs := #[.int .i64 t164, .int .i64 t165, .int .i64 0, .int .i64 0, .int .i64 0, .bool false, .bool false]) ?_ 2 _ rfl; (with_reducible repeat (first | refine blk_drewN ?_ _ | refine blk_drew ?_ | refine blk_alloc ?_ _)); refine blk_put (cs := #[.int .i64 t164, .int .i64 0, .int .i64 0, .int .i64 0, .int .i64 0, .bool false, .bool false]) ?_ 1 _ rfl; (with_reducible repeat (first | refine blk_drewN ?_ _ | refine blk_drew ?_ | refine blk_alloc ?_ _)); refine blk_put (cs := #[.int .i64 0, .int .i64 0, .int .i64 0, .int .i64 0, .int .i64 0, .bool false, .bool false]) ?_ 0 _ rfl; (with_reducible repeat (first | refine blk_drewN ?_ _ | refine blk_drew ?_ | refine blk_alloc ?_ _)); exact BK171.out) hb); have n3_ := Aside0.mk (below_step (by repeat (first | (with_reducible first | exact HB.out | apply below_alloc | apply pw_below_drewN | apply below_drew1 | refine below_set ?_ GE157.out | refine below_set ?_ GE163.out | refine below_set ?_ GE171.out) | exact HB.out)) hb); clear BK157; clear BK163; clear BK171; clear HB; have BK157 := n0_; have BK163 := n1_; have BK171 := n2_; have HB := n3_; clear n0_ n1_ n2_ n3_; (try clear hb); (try clear hb2); (try clear hk); (try clear hi); have hcz22_0 : w21.cell? ⟨gb171, 0, none⟩ = some (.int .i64 t164) := (blk_cell BK171.out 0).trans rfl; have hcz22_1 : w21.cell? ⟨gb171, 1, none⟩ = some (.int .i64 t165) := (blk_cell BK171.out 1).trans rfl; have hcz22_2 : w21.cell? ⟨gb171, 2, none⟩ = some (.int .i64 t166) := (blk_cell BK171.out 2).trans rfl; have hcz22_3 : w21.cell? ⟨gb171, 3, none⟩ = some (.int .i64 t167) := (blk_cell BK171.out 3).trans rfl; have hcz22_4 : w21.cell? ⟨gb171, 4, none⟩ = some (.int .i64 t168) := (blk_cell BK171.out 4).trans rfl; have hcz22_5 : w21.cell? ⟨gb171, 5, none⟩ = some (.bool t169) := (blk_cell BK171.out 5).trans rfl; have hcz22_6 : w21.cell? ⟨gb171, 6, none⟩ = some (.bool t170) := (blk_cell BK171.out 6).trans rfl; have hfz22_0 := blk_frozen BK171.out 0; have hfz22_1 := blk_frozen BK171.out 1; have hfz22_2 := blk_frozen BK171.out 2; have hfz22_3 := blk_frozen BK171.out 3; have hfz22_4 := blk_frozen BK171.out 4; have hfz22_5 := blk_frozen BK171.out 5; have hfz22_6 := blk_frozen BK171.out 6; have hcz23_0 : w21.cell? ⟨gb157, 0, none⟩ = some (.int .i64 x158000_1) := (blk_cell BK157.out 0).trans rfl; have hcz23_1 : w21.cell? ⟨gb157, 1, none⟩ = some (.int .i64 x158001_1) := (blk_cell BK157.out 1).trans rfl; have hcz23_2 : w21.cell? ⟨gb157, 2, none⟩ = some (.int .i64 x158002_1) := (blk_cell BK157.out 2).trans rfl; have hcz23_3 : w21.cell? ⟨gb157, 3, none⟩ = some (.int .i64 x158003_1) := (blk_cell BK157.out 3).trans rfl; have hcz23_4 : w21.cell? ⟨gb157, 4, none⟩ = some (.int .i64 x158004_1) := (blk_cell BK157.out 4).trans rfl; have hcz23_5 : w21.cell? ⟨gb157, 5, none⟩ = some (.bool x158005_1) := (blk_cell BK157.out 5).trans rfl; have hcz23_6 : w21.cell? ⟨gb157, 6, none⟩ = some (.bool x158006_1) := (blk_cell BK157.out 6).trans rfl; have hfz23_0 := blk_frozen BK157.out 0; have hfz23_1 := blk_frozen BK157.out 1; have hfz23_2 := blk_frozen BK157.out 2; have hfz23_3 := blk_frozen BK157.out 3; have hfz23_4 := blk_frozen BK157.out 4; have hfz23_5 := blk_frozen BK157.out 5; have hfz23_6 := blk_frozen BK157.out 6))
              refine bodyPost_ret (results_ct rfl _ _ gb157 37 #[.int .i64 t164, .int .i64 t165, .int .i64 t166, .int .i64 t167, .int .i64 t168, .bool t169, .bool t170] (0, 0) _ rfl (by (with_reducible repeat (first | refine blk_drewN ?_ _ | refine blk_drew ?_ | refine blk_alloc ?_ _)); refine blk_put (cs := #[.int .i64 t164, .int .i64 t165, .int .i64 t166, .int .i64 t167, .int .i64 t168, .bool t169, .bool x158006_1]) ?_ 6 _ rfl; (with_reducible repeat (first | refine blk_drewN ?_ _ | refine blk_drew ?_ | refine blk_alloc ?_ _)); refine blk_put (cs := #[.int .i64 t164, .int .i64 t165, .int .i64 t166, .int .i64 t167, .int .i64 t168, .bool x158005_1, .bool x158006_1]) ?_ 5 _ rfl; (with_reducible repeat (first | refine blk_drewN ?_ _ | refine blk_drew ?_ | refine blk_alloc ?_ _)); refine blk_put (cs := #[.int .i64 t164, .int .i64 t165, .int .i64 t166, .int .i64 t167, .int .i64 x158004_1, .bool x158005_1, .bool x158006_1]) ?_ 4 _ rfl; (with_reducible repeat (first | refine blk_drewN ?_ _ | refine blk_drew ?_ | refine blk_alloc ?_ _)); refine blk_put (cs := #[.int .i64 t164, .int .i64 t165, .int .i64 t166, .int .i64 x158003_1, .int .i64 x158004_1, .bool x158005_1, .bool x158006_1]) ?_ 3 _ rfl; (with_reducible repeat (first | refine blk_drewN ?_ _ | refine blk_drew ?_ | refine blk_alloc ?_ _)); refine blk_put (cs := #[.int .i64 t164, .int .i64 t165, .int .i64 x158002_1, .int .i64 x158003_1, .int .i64 x158004_1, .bool x158005_1, .bool x158006_1]) ?_ 2 _ rfl; (with_reducible repeat (first | refine blk_drewN ?_ _ | refine blk_drew ?_ | refine blk_alloc ?_ _)); refine blk_put (cs := #[.int .i64 t164, .int .i64 x158001_1, .int .i64 x158002_1, .int .i64 x158003_1, .int .i64 x158004_1, .bool x158005_1, .bool x158006_1]) ?_ 1 _ rfl; (with_reducible repeat (first | refine blk_drewN ?_ _ | refine blk_drew ?_ | refine blk_alloc ?_ _)); refine blk_put (cs := #[.int .i64 x158000_1, .int .i64 x158001_1, .int .i64 x158002_1, .int .i64 x158003_1, .int .i64 x158004_1, .bool x158005_1, .bool x158006_1]) ?_ 0 _ rfl; (with_reducible repeat (first | refine blk_drewN ?_ _ | refine blk_drew ?_ | refine blk_alloc ?_ _)); exact BK157.out) Try.underlying37 rfl (by kernel_rfl)) rfl ?_
              exact ⟨by first | rfl | (simp [errW_none, errW_some] <;> rfl) | (simp [*, errW_none, errW_some] <;> rfl), by repeat (first | (with_reducible first | exact HB.out | apply below_alloc | apply pw_below_drewN | apply below_drew1 | refine below_set ?_ GE157.out | refine below_set ?_ GE163.out | refine below_set ?_ GE171.out) | exact HB.out)⟩
            · rw [if_neg c10] at H
              have c10b0 : (t172 == a0) = false := beq_eq_false_iff_ne.mpr c10
              have c10b1 : (t172 != a0) = true := bne_iff_ne.mpr c10
              have H' := Aside0.mk H
              clear H
              go_wp2_with (first | ((with_reducible refine gate_callee (f := 39) rfl ?_); refine goesL_ (some 19) rfl rfl Try.func39 (by kernel_rfl) rfl #[.int .i64 (wrap64 (x13_1 + 1)), .int .i64 (wrap64 (Go.bits .and .u32 a0 127))] rfl (by (try simp only [List.map_toArray, List.map_cons, List.map_nil]); first | done | rfl | (simp only [List.length_drop, List.length_take]; rfl)) ?_; (with_reducible refine (inst_near.calls (wrap64 (x13_1 + 1)) (wrap64 (Go.bits .and .u32 a0 127)) true _ A4.out).mono ?_); rintro e w24 ⟨rfl, hb⟩; refine ⟨_, rfl, ?_⟩; have n0_ := Aside0.mk (blk_below (g := gb157) (o := .cells #[.int .i64 x158000_1, .int .i64 x158001_1, .int .i64 x158002_1, .int .i64 x158003_1, .int .i64 x158004_1, .bool x158005_1, .bool x158006_1] 37 (0, 0)) (by (with_reducible repeat (first | refine blk_drewN ?_ _ | refine blk_drew ?_ | refine blk_alloc ?_ _)); exact BK157.out) hb); have n1_ := Aside0.mk (below_step (by repeat (first | (with_reducible first | exact HB.out | apply below_alloc | apply pw_below_drewN | apply below_drew1 | refine below_set ?_ GE157.out) | exact HB.out)) hb); clear BK157; clear HB; have BK157 := n0_; have HB := n1_; clear n0_ n1_; (try clear hb); (try clear hb2); (try clear hk); (try clear hi)) | ((with_reducible refine gate_callee (f := 34) rfl ?_); refine goesL_ (some 23) rfl rfl Try.func34 (by kernel_rfl) rfl #[.int .i64 (wrap64 (x13_1 + 1))] rfl (by (try simp only [List.map_toArray, List.map_cons, List.map_nil]); first | done | rfl | (simp only [List.length_drop, List.length_take]; rfl)) ?_; (with_reducible refine (inst_of.calls (wrap64 (x13_1 + 1)) t159 t160 t161 t162 _ A6.out).mono ?_); rintro e w25 ⟨rfl, hb⟩; refine ⟨_, rfl, ?_⟩; have n0_ := Aside0.mk (blk_below (g := gb157) (o := .cells #[.int .i64 x158000_1, .int .i64 x158001_1, .int .i64 x158002_1, .int .i64 x158003_1, .int .i64 x158004_1, .bool x158005_1, .bool x158006_1] 37 (0, 0)) (by (with_reducible repeat (first | refine blk_drewN ?_ _ | refine blk_drew ?_ | refine blk_alloc ?_ _)); exact BK157.out) hb); have n1_ := Aside0.mk (below_step (by repeat (first | (with_reducible first | exact HB.out | apply below_alloc | apply pw_below_drewN | apply below_drew1 | refine below_set ?_ GE157.out) | exact HB.out)) hb); clear BK157; clear HB; have BK157 := n0_; have HB := n1_; clear n0_ n1_; (try clear hb); (try clear hb2); (try clear hk); (try clear hi)) | ((with_reducible refine gate_dst (N := 6) rfl ?_); refine box_event ?hg (N := 6) ?hd (cs := #[.int .i64 0, .int .i64 0, .int .i64 0, .int .i64 0]) (t := 74) ?hr ?_; (case hd => rfl); (case hg => rfl); (case hr => first | (go_simp; done) | (go_simp; rfl)); intro gb163 hg w26 hbox hb; have n0_ := Aside0.mk (blk_below (g := gb157) (o := .cells #[.int .i64 x158000_1, .int .i64 x158001_1, .int .i64 x158002_1, .int .i64 x158003_1, .int .i64 x158004_1, .bool x158005_1, .bool x158006_1] 37 (0, 0)) (by (with_reducible repeat (first | refine blk_drewN ?_ _ | refine blk_drew ?_ | refine blk_alloc ?_ _)); exact BK157.out) hb); have n1_ := Aside0.mk (below_step (by repeat (first | (with_reducible first | exact HB.out | apply below_alloc | apply pw_below_drewN | apply below_drew1 | refine below_set ?_ GE157.out) | exact HB.out)) hb); have n2_ := Aside0.mk (hbox); have n3_ := Aside0.mk ((by rw [hg]; exact (below_size (by repeat (first | (with_reducible first | exact HB.out | apply below_alloc | apply pw_below_drewN | apply below_drew1 | refine below_set ?_ GE157.out) | exact HB.out))) : w.heap.size ≤ gb163)); have n4_ := Aside0.mk ((by rw [hg]; exact (below_size (by repeat (first | (with_reducible first | exact HB.out | apply below_alloc | apply pw_below_drewN | apply below_drew1 | refine below_set ?_ GE157.out) | exact HB.out))) : w.heap.size ≤ gb163)); have n5_ := Aside0.mk ((by rw [hg]; exact Nat.ne_of_lt (blk_lt (g := gb157) (o := .cells #[.int .i64 x158000_1, .int .i64 x158001_1, .int .i64 x158002_1, .int .i64 x158003_1, .int .i64 x158004_1, .bool x158005_1, .bool x158006_1] 37 (0, 0)) (by (with_reducible repeat (first | refine blk_drewN ?_ _ | refine blk_drew ?_ | refine blk_alloc ?_ _)); exact BK157.out)) : gb157 ≠ gb163)); have n6_ := Aside0.mk ((by rw [hg]; exact Nat.ne_of_gt (blk_lt (g := gb157) (o := .cells #[.int .i64 x158000_1, .int .i64 x158001_1, .int .i64 x158002_1, .int .i64 x158003_1, .int .i64 x158004_1, .bool x158005_1, .bool x158006_1] 37 (0, 0)) (by (with_reducible repeat (first | refine blk_drewN ?_ _ | refine blk_drew ?_ | refine blk_alloc ?_ _)); exact BK157.out)) : gb163 ≠ gb157)); clear BK157; clear HB; have BK157 := n0_; have HB := n1_; have BK163 := n2_; have GW163 := n3_; have GE163 := n4_; have NB157_163 := n5_; have NB163_157 := n6_; clear n0_ n1_ n2_ n3_ n4_ n5_ n6_; clear hb hbox hg; have hnb27 := NB163_157.out; have hnc27 := NB157_163.out; have hcz28_0 : w26.cell? ⟨gb163, 0, none⟩ = some (.int .i64 0) := (blk_cell BK163.out 0).trans rfl; have hcz28_1 : w26.cell? ⟨gb163, 1, none⟩ = some (.int .i64 0) := (blk_cell BK163.out 1).trans rfl; have hcz28_2 : w26.cell? ⟨gb163, 2, none⟩ = some (.int .i64 0) := (blk_cell BK163.out 2).trans rfl; have hcz28_3 : w26.cell? ⟨gb163, 3, none⟩ = some (.int .i64 0) := (blk_cell BK163.out 3).trans rfl; have hfz28_0 := blk_frozen BK163.out 0; have hfz28_1 := blk_frozen BK163.out 1; have hfz28_2 := blk_frozen BK163.out 2; have hfz28_3 := blk_frozen BK163.out 3) | ((with_reducible refine gate_callee (f := 40) rfl ?_); refine goesL_ (some 29) rfl rfl Try.func40 (by kernel_rfl) rfl #[.int .i64 (wrap64 (x13_1 + 1)), .agg #[.int .i64 t159, .int .i64 t160, .int .i64 t161, .int .i64 t162], .int .u64 (IntKind.u64.wrap (a0))] rfl (by (try simp only [List.map_toArray, List.map_cons, List.map_nil]); first | done | rfl | (simp only [List.length_drop, List.length_take]; rfl)) ?_; (with_reducible refine (inst_as.calls (wrap64 (x13_1 + 1)) t159 t160 t161 t162 (IntKind.u64.wrap (a0)) t164 t165 t166 t167 t168 t169 t170 _ A7.out).mono ?_); rintro e w29 ⟨rfl, hb⟩; refine ⟨_, rfl, ?_⟩; have n0_ := Aside0.mk (blk_below (g := gb157) (o := .cells #[.int .i64 x158000_1, .int .i64 x158001_1, .int .i64 x158002_1, .int .i64 x158003_1, .int .i64 x158004_1, .bool x158005_1, .bool x158006_1] 37 (0, 0)) (by (with_reducible repeat (first | refine blk_drewN ?_ _ | refine blk_drew ?_ | refine blk_alloc ?_ _)); refine blk_far ?_ NB157_163.out _; (with_reducible repeat (first | refine blk_drewN ?_ _ | refine blk_drew ?_ | refine blk_alloc ?_ _)); refine blk_far ?_ NB157_163.out _; (with_reducible repeat (first | refine blk_drewN ?_ _ | refine blk_drew ?_ | refine blk_alloc ?_ _)); refine blk_far ?_ NB157_163.out _; (with_reducible repeat (first | refine blk_drewN ?_ _ | refine blk_drew ?_ | refine blk_alloc ?_ _)); refine blk_far ?_ NB157_163.out _; (with_reducible repeat (first | refine blk_drewN ?_ _ | refine blk_drew ?_ | refine blk_alloc ?_ _)); exact BK157.out) hb); have n1_ := Aside0.mk (blk_below (g := gb163) (o := .cells #[.int .i64 t159, .int .i64 t160, .int .i64 t161, .int .i64 t162] 74 (0, 0)) (by (with_reducible repeat (first | refine blk_drewN ?_ _ | refine blk_drew ?_ | refine blk_alloc ?_ _)); refine blk_put (cs := #[.int .i64 t159, .int .i64 t160, .int .i64 t161, .int .i64 0]) ?_ 3 _ rfl; (with_reducible repeat (first | refine blk_drewN ?_ _ | refine blk_drew ?_ | refine blk_alloc ?_ _)); refine blk_put (cs := #[.int .i64 t159, .int .i64 t160, .int .i64 0, .int .i64 0]) ?_ 2 _ rfl; (with_reducible repeat (first | refine blk_drewN ?_ _ | refine blk_drew ?_ | refine blk_alloc ?_ _)); refine blk_put (cs := #[.int .i64 t159, .int .i64 0, .int .i64 0, .int .i64 0]) ?_ 1 _ rfl; (with_reducible repeat (first | refine blk_drewN ?_ _ | refine blk_drew ?_ | refine blk_alloc ?_ _)); refine blk_put (cs := #[.int .i64 0, .int .i64 0, .int .i64 0, .int .i64 0]) ?_ 0 _ rfl; (with_reducible repeat (first | refine blk_drewN ?_ _ | refine blk_drew ?_ | refine blk_alloc ?_ _)); exact BK163.out) hb); have n2_ := Aside0.mk (below_step (by repeat (first | (with_reducible first | exact HB.out | apply below_alloc | apply pw_below_drewN | apply below_drew1 | refine below_set ?_ GE157.out | refine below_set ?_ GE163.out) | exact HB.out)) hb); clear BK157; clear BK163; clear HB; have BK157 := n0_; have BK163 := n1_; have HB := n2_; clear n0_ n1_ n2_; (try clear hb); (try clear hb2); (try clear hk); (try clear hi)) | ((with_reducible refine gate_dst (N := 7) rfl ?_); refine box_event ?hg (N := 7) ?hd (cs := #[.int .i64 0, .int .i64 0, .int .i64 0, .int .i64 0, .int .i64 0, .bool false, .bool false]) (t := 37) ?hr ?_; (case hd => rfl); (case hg => rfl); (case hr => first | (go_simp; done) | (go_simp; rfl)); intro gb171 hg w30 hbox hb; have n0_ := Aside0.mk (blk_below (g := gb157) (o := .cells #[.int .i64 x158000_1, .int .i64 x158001_1, .int .i64 x158002_1, .int .i64 x158003_1, .int .i64 x158004_1, .bool x158005_1, .bool x158006_1] 37 (0, 0)) (by (with_reducible repeat (first | refine blk_drewN ?_ _ | refine blk_drew ?_ | refine blk_alloc ?_ _)); exact BK157.out) hb); have n1_ := Aside0.mk (blk_below (g := gb163) (o := .cells #[.int .i64 t159, .int .i64 t160, .int .i64 t161, .int .i64 t162] 74 (0, 0)) (by (with_reducible repeat (first | refine blk_drewN ?_ _ | refine blk_drew ?_ | refine blk_alloc ?_ _)); exact BK163.out) hb); have n2_ := Aside0.mk (below_step (by repeat (first | (with_reducible first | exact HB.out | apply below_alloc | apply pw_below_drewN | apply below_drew1 | refine below_set ?_ GE157.out | refine below_set ?_ GE163.out) | exact HB.out)) hb); have n3_ := Aside0.mk (hbox); have n4_ := Aside0.mk ((by rw [hg]; exact (below_size (by repeat (first | (with_reducible first | exact HB.out | apply below_alloc | apply pw_below_drewN | apply below_drew1 | refine below_set ?_ GE157.out | refine below_set ?_ GE163.out) | exact HB.out))) : w.heap.size ≤ gb171)); have n5_ := Aside0.mk ((by rw [hg]; exact (below_size (by repeat (first | (with_reducible first | exact HB.out | apply below_alloc | apply pw_below_drewN | apply below_drew1 | refine below_set ?_ GE157.out | refine below_set ?_ GE163.out) | exact HB.out))) : w.heap.size ≤ gb171)); have n6_ := Aside0.mk ((by rw [hg]; exact Nat.ne_of_lt (blk_lt (g := gb157) (o := .cells #[.int .i64 x158000_1, .int .i64 x158001_1, .int .i64 x158002_1, .int .i64 x158003_1, .int .i64 x158004_1, .bool x158005_1, .bool x158006_1] 37 (0, 0)) (by (with_reducible repeat (first | refine blk_drewN ?_ _ | refine blk_drew ?_ | refine blk_alloc ?_ _)); exact BK157.out)) : gb157 ≠ gb171)); have n7_ := Aside0.mk ((by rw [hg]; exact Nat.ne_of_gt (blk_lt (g := gb157) (o := .cells #[.int .i64 x158000_1, .int .i64 x158001_1, .int .i64 x158002_1, .int .i64 x158003_1, .int .i64 x158004_1, .bool x158005_1, .bool x158006_1] 37 (0, 0)) (by (with_reducible repeat (first | refine blk_drewN ?_ _ | refine blk_drew ?_ | refine blk_alloc ?_ _)); exact BK157.out)) : gb171 ≠ gb157)); have n8_ := Aside0.mk ((by rw [hg]; exact Nat.ne_of_lt (blk_lt (g := gb163) (o := .cells #[.int .i64 t159, .int .i64 t160, .int .i64 t161, .int .i64 t162] 74 (0, 0)) (by (with_reducible repeat (first | refine blk_drewN ?_ _ | refine blk_drew ?_ | refine blk_alloc ?_ _)); exact BK163.out)) : gb163 ≠ gb171)); have n9_ := Aside0.mk ((by rw [hg]; exact Nat.ne_of_gt (blk_lt (g := gb163) (o := .cells #[.int .i64 t159, .int .i64 t160, .int .i64 t161, .int .i64 t162] 74 (0, 0)) (by (with_reducible repeat (first | refine blk_drewN ?_ _ | refine blk_drew ?_ | refine blk_alloc ?_ _)); exact BK163.out)) : gb171 ≠ gb163)); clear BK157; clear BK163; clear HB; have BK157 := n0_; have BK163 := n1_; have HB := n2_; have BK171 := n3_; have GW171 := n4_; have GE171 := n5_; have NB157_171 := n6_; have NB171_157 := n7_; have NB163_171 := n8_; have NB171_163 := n9_; clear n0_ n1_ n2_ n3_ n4_ n5_ n6_ n7_ n8_ n9_; clear hb hbox hg; have hnb31 := NB171_157.out; have hnc31 := NB157_171.out; have hnb32 := NB171_163.out; have hnc32 := NB163_171.out; have hcz33_0 : w30.cell? ⟨gb171, 0, none⟩ = some (.int .i64 0) := (blk_cell BK171.out 0).trans rfl; have hcz33_1 : w30.cell? ⟨gb171, 1, none⟩ = some (.int .i64 0) := (blk_cell BK171.out 1).trans rfl; have hcz33_2 : w30.cell? ⟨gb171, 2, none⟩ = some (.int .i64 0) := (blk_cell BK171.out 2).trans rfl; have hcz33_3 : w30.cell? ⟨gb171, 3, none⟩ = some (.int .i64 0) := (blk_cell BK171.out 3).trans rfl; have hcz33_4 : w30.cell? ⟨gb171, 4, none⟩ = some (.int .i64 0) := (blk_cell BK171.out 4).trans rfl; have hcz33_5 : w30.cell? ⟨gb171, 5, none⟩ = some (.bool false) := (blk_cell BK171.out 5).trans rfl; have hcz33_6 : w30.cell? ⟨gb171, 6, none⟩ = some (.bool false) := (blk_cell BK171.out 6).trans rfl; have hfz33_0 := blk_frozen BK171.out 0; have hfz33_1 := blk_frozen BK171.out 1; have hfz33_2 := blk_frozen BK171.out 2; have hfz33_3 := blk_frozen BK171.out 3; have hfz33_4 := blk_frozen BK171.out 4; have hfz33_5 := blk_frozen BK171.out 5; have hfz33_6 := blk_frozen BK171.out 6) | ((with_reducible refine gate_callee (f := 20) rfl ?_); refine goesL_ (some 32) rfl rfl Try.func20 (by kernel_rfl) rfl #[.agg #[.int .i64 t164, .int .i64 t165, .int .i64 t166, .int .i64 t167, .int .i64 t168, .bool t169, .bool t170]] rfl (by (try simp only [List.map_toArray, List.map_cons, List.map_nil]); first | done | rfl | (simp only [List.length_drop, List.length_take]; rfl)) ?_; (with_reducible refine (inst_Encode.calls t164 t165 t166 t167 t168 t169 t170 t172 t173 _ A8.out).mono ?_); rintro e w34 ⟨rfl, hb⟩; refine ⟨_, rfl, ?_⟩; have n0_ := Aside0.mk (blk_below (g := gb157) (o := .cells #[.int .i64 x158000_1, .int .i64 x158001_1, .int .i64 x158002_1, .int .i64 x158003_1, .int .i64 x158004_1, .bool x158005_1, .bool x158006_1] 37 (0, 0)) (by (with_reducible repeat (first | refine blk_drewN ?_ _ | refine blk_drew ?_ | refine blk_alloc ?_ _)); refine blk_far ?_ NB157_171.out _; (with_reducible repeat (first | refine blk_drewN ?_ _ | refine blk_drew ?_ | refine blk_alloc ?_ _)); refine blk_far ?_ NB157_171.out _; (with_reducible repeat (first | refine blk_drewN ?_ _ | refine blk_drew ?_ | refine blk_alloc ?_ _)); refine blk_far ?_ NB157_171.out _; (with_reducible repeat (first | refine blk_drewN ?_ _ | refine blk_drew ?_ | refine blk_alloc ?_ _)); refine blk_far ?_ NB157_171.out _; (with_reducible repeat (first | refine blk_drewN ?_ _ | refine blk_drew ?_ | refine blk_alloc ?_ _)); refine blk_far ?_ NB157_171.out _; (with_reducible repeat (first | refine blk_drewN ?_ _ | refine blk_drew ?_ | refine blk_alloc ?_ _)); refine blk_far ?_ NB157_171.out _; (with_reducible repeat (first | refine blk_drewN ?_ _ | refine blk_drew ?_ | refine blk_alloc ?_ _)); refine blk_far ?_ NB157_171.out _; (with_reducible repeat (first | refine blk_drewN ?_ _ | refine blk_drew ?_ | refine blk_alloc ?_ _)); exact BK157.out) hb); have n1_ := Aside0.mk (blk_below (g := gb163) (o := .cells #[.int .i64 t159, .int .i64 t160, .int .i64 t161, .int .i64 t162] 74 (0, 0)) (by (with_reducible repeat (first | refine blk_drewN ?_ _ | refine blk_drew ?_ | refine blk_alloc ?_ _)); refine blk_far ?_ NB163_171.out _; (with_reducible repeat (first | refine blk_drewN ?_ _ | refine blk_drew ?_ | refine blk_alloc ?_ _)); refine blk_far ?_ NB163_171.out _; (with_reducible repeat (first | refine blk_drewN ?_ _ | refine blk_drew ?_ | refine blk_alloc ?_ _)); refine blk_far ?_ NB163_171.out _; (with_reducible repeat (first | refine blk_drewN ?_ _ | refine blk_drew ?_ | refine blk_alloc ?_ _)); refine blk_far ?_ NB163_171.out _; (with_reducible repeat (first | refine blk_drewN ?_ _ | refine blk_drew ?_ | refine blk_alloc ?_ _)); refine blk_far ?_ NB163_171.out _; (with_reducible repeat (first | refine blk_drewN ?_ _ | refine blk_drew ?_ | refine blk_alloc ?_ _)); refine blk_far ?_ NB163_171.out _; (with_reducible repeat (first | refine blk_drewN ?_ _ | refine blk_drew ?_ | refine blk_alloc ?_ _)); refine blk_far ?_ NB163_171.out _; (with_reducible repeat (first | refine blk_drewN ?_ _ | refine blk_drew ?_ | refine blk_alloc ?_ _)); exact BK163.out) hb); have n2_ := Aside0.mk (blk_below (g := gb171) (o := .cells #[.int .i64 t164, .int .i64 t165, .int .i64 t166, .int .i64 t167, .int .i64 t168, .bool t169, .bool t170] 37 (0, 0)) (by (with_reducible repeat (first | refine blk_drewN ?_ _ | refine blk_drew ?_ | refine blk_alloc ?_ _)); refine blk_put (cs := #[.int .i64 t164, .int .i64 t165, .int .i64 t166, .int .i64 t167, .int .i64 t168, .bool t169, .bool false]) ?_ 6 _ rfl; (with_reducible repeat (first | refine blk_drewN ?_ _ | refine blk_drew ?_ | refine blk_alloc ?_ _)); refine blk_put (cs := #[.int .i64 t164, .int .i64 t165, .int .i64 t166, .int .i64 t167, .int .i64 t168, .bool false, .bool false]) ?_ 5 _ rfl; (with_reducible repeat (first | refine blk_drewN ?_ _ | refine blk_drew ?_ | refine blk_alloc ?_ _)); refine blk_put (cs := #[.int .i64 t164, .int .i64 t165, .int .i64 t166, .int .i64 t167, .int .i64 0, .bool false, .bool false]) ?_ 4 _ rfl; (with_reducible repeat (first | refine blk_drewN ?_ _ | refine blk_drew ?_ | refine blk_alloc ?_ _)); refine blk_put (cs := #[.int .i64 t164, .int .i64 t165, .int .i64 t166, .int .i64 0, .int .i64 0, .bool false, .bool false]) ?_ 3 _ rfl; (with_reducible repeat (first | refine blk_drewN ?_ _ | refine blk_drew ?_ | refine blk_alloc ?_ _)); refine blk_put (cs := #[.int .i64 t164, .int .i64 t165, .int .i64 0, .int .i64 0, .int .i64 0, .bool false, .bool false]) ?_ 2 _ rfl; (with_reducible repeat (first | refine blk_drewN ?_ _ | refine blk_drew ?_ | refine blk_alloc ?_ _)); refine blk_put (cs := #[.int .i64 t164, .int .i64 0, .int .i64 0, .int .i64 0, .int .i64 0, .bool false, .bool false]) ?_ 1 _ rfl; (with_reducible repeat (first | refine blk_drewN ?_ _ | refine blk_drew ?_ | refine blk_alloc ?_ _)); refine blk_put (cs := #[.int .i64 0, .int .i64 0, .int .i64 0, .int .i64 0, .int .i64 0, .bool false, .bool false]) ?_ 0 _ rfl; (with_reducible repeat (first | refine blk_drewN ?_ _ | refine blk_drew ?_ | refine blk_alloc ?_ _)); exact BK171.out) hb); have n3_ := Aside0.mk (below_step (by repeat (first | (with_reducible first | exact HB.out | apply below_alloc | apply pw_below_drewN | apply below_drew1 | refine below_set ?_ GE157.out | refine below_set ?_ GE163.out | refine below_set ?_ GE171.out) | exact HB.out)) hb); clear BK157; clear BK163; clear BK171; clear HB; have BK157 := n0_; have BK163 := n1_; have BK171 := n2_; have HB := n3_; clear n0_ n1_ n2_ n3_; (try clear hb); (try clear hb2); (try clear hk); (try clear hi)))
              go_roundg k1
              case measure => have := HK1.out; omega
              case rel => exact ⟨(wrap64 (x13_1 + 1)), (x158000_1), (x158001_1), (x158002_1), (x158003_1), (x158004_1), (x158005_1), (x158006_1), (by first | rfl | (simp; done) | (simp [*]; done)), H', ⟨by have := HK1.out; omega⟩, ⟨by (with_reducible repeat (first | refine blk_drewN ?_ _ | refine blk_drew ?_ | refine blk_alloc ?_ _)); exact BK157.out⟩, ⟨by repeat (first | (with_reducible first | exact HB.out | apply below_alloc | apply pw_below_drewN | apply below_drew1 | refine below_set ?_ GE157.out | refine below_set ?_ GE163.out | refine below_set ?_ GE171.out) | exact HB.out)⟩⟩
          · rw [if_neg c9] at H
            have c9b0 : (t173 == 0) = false := beq_eq_false_iff_ne.mpr c9
            have c9b1 : (t173 != 0) = true := bne_iff_ne.mpr c9
            have H' := Aside0.mk H
            clear H
            go_wp2_with (first | ((with_reducible refine gate_callee (f := 39) rfl ?_); refine goesL_ (some 19) rfl rfl Try.func39 (by kernel_rfl) rfl #[.int .i64 (wrap64 (x13_1 + 1)), .int .i64 (wrap64 (Go.bits .and .u32 a0 127))] rfl (by (try simp only [List.map_toArray, List.map_cons, List.map_nil]); first | done | rfl | (simp only [List.length_drop, List.length_take]; rfl)) ?_; (with_reducible refine (inst_near.calls (wrap64 (x13_1 + 1)) (wrap64 (Go.bits .and .u32 a0 127)) true _ A4.out).mono ?_); rintro e w35 ⟨rfl, hb⟩; refine ⟨_, rfl, ?_⟩; have n0_ := Aside0.mk (blk_below (g := gb157) (o := .cells #[.int .i64 x158000_1, .int .i64 x158001_1, .int .i64 x158002_1, .int .i64 x158003_1, .int .i64 x158004_1, .bool x158005_1, .bool x158006_1] 37 (0, 0)) (by (with_reducible repeat (first | refine blk_drewN ?_ _ | refine blk_drew ?_ | refine blk_alloc ?_ _)); exact BK157.out) hb); have n1_ := Aside0.mk (below_step (by repeat (first | (with_reducible first | exact HB.out | apply below_alloc | apply pw_below_drewN | apply below_drew1 | refine below_set ?_ GE157.out) | exact HB.out)) hb); clear BK157; clear HB; have BK157 := n0_; have HB := n1_; clear n0_ n1_; (try clear hb); (try clear hb2); (try clear hk); (try clear hi)) | ((with_reducible refine gate_callee (f := 34) rfl ?_); refine goesL_ (some 23) rfl rfl Try.func34 (by kernel_rfl) rfl #[.int .i64 (wrap64 (x13_1 + 1))] rfl (by (try simp only [List.map_toArray, List.map_cons, List.map_nil]); first | done | rfl | (simp only [List.length_drop, List.length_take]; rfl)) ?_; (with_reducible refine (inst_of.calls (wrap64 (x13_1 + 1)) t159 t160 t161 t162 _ A6.out).mono ?_); rintro e w36 ⟨rfl, hb⟩; refine ⟨_, rfl, ?_⟩; have n0_ := Aside0.mk (blk_below (g := gb157) (o := .cells #[.int .i64 x158000_1, .int .i64 x158001_1, .int .i64 x158002_1, .int .i64 x158003_1, .int .i64 x158004_1, .bool x158005_1, .bool x158006_1] 37 (0, 0)) (by (with_reducible repeat (first | refine blk_drewN ?_ _ | refine blk_drew ?_ | refine blk_alloc ?_ _)); exact BK157.out) hb); have n1_ := Aside0.mk (below_step (by repeat (first | (with_reducible first | exact HB.out | apply below_alloc | apply pw_below_drewN | apply below_drew1 | refine below_set ?_ GE157.out) | exact HB.out)) hb); clear BK157; clear HB; have BK157 := n0_; have HB := n1_; clear n0_ n1_; (try clear hb); (try clear hb2); (try clear hk); (try clear hi)) | ((with_reducible refine gate_dst (N := 6) rfl ?_); refine box_event ?hg (N := 6) ?hd (cs := #[.int .i64 0, .int .i64 0, .int .i64 0, .int .i64 0]) (t := 74) ?hr ?_; (case hd => rfl); (case hg => rfl); (case hr => first | (go_simp; done) | (go_simp; rfl)); intro gb163 hg w37 hbox hb; have n0_ := Aside0.mk (blk_below (g := gb157) (o := .cells #[.int .i64 x158000_1, .int .i64 x158001_1, .int .i64 x158002_1, .int .i64 x158003_1, .int .i64 x158004_1, .bool x158005_1, .bool x158006_1] 37 (0, 0)) (by (with_reducible repeat (first | refine blk_drewN ?_ _ | refine blk_drew ?_ | refine blk_alloc ?_ _)); exact BK157.out) hb); have n1_ := Aside0.mk (below_step (by repeat (first | (with_reducible first | exact HB.out | apply below_alloc | apply pw_below_drewN | apply below_drew1 | refine below_set ?_ GE157.out) | exact HB.out)) hb); have n2_ := Aside0.mk (hbox); have n3_ := Aside0.mk ((by rw [hg]; exact (below_size (by repeat (first | (with_reducible first | exact HB.out | apply below_alloc | apply pw_below_drewN | apply below_drew1 | refine below_set ?_ GE157.out) | exact HB.out))) : w.heap.size ≤ gb163)); have n4_ := Aside0.mk ((by rw [hg]; exact (below_size (by repeat (first | (with_reducible first | exact HB.out | apply below_alloc | apply pw_below_drewN | apply below_drew1 | refine below_set ?_ GE157.out) | exact HB.out))) : w.heap.size ≤ gb163)); have n5_ := Aside0.mk ((by rw [hg]; exact Nat.ne_of_lt (blk_lt (g := gb157) (o := .cells #[.int .i64 x158000_1, .int .i64 x158001_1, .int .i64 x158002_1, .int .i64 x158003_1, .int .i64 x158004_1, .bool x158005_1, .bool x158006_1] 37 (0, 0)) (by (with_reducible repeat (first | refine blk_drewN ?_ _ | refine blk_drew ?_ | refine blk_alloc ?_ _)); exact BK157.out)) : gb157 ≠ gb163)); have n6_ := Aside0.mk ((by rw [hg]; exact Nat.ne_of_gt (blk_lt (g := gb157) (o := .cells #[.int .i64 x158000_1, .int .i64 x158001_1, .int .i64 x158002_1, .int .i64 x158003_1, .int .i64 x158004_1, .bool x158005_1, .bool x158006_1] 37 (0, 0)) (by (with_reducible repeat (first | refine blk_drewN ?_ _ | refine blk_drew ?_ | refine blk_alloc ?_ _)); exact BK157.out)) : gb163 ≠ gb157)); clear BK157; clear HB; have BK157 := n0_; have HB := n1_; have BK163 := n2_; have GW163 := n3_; have GE163 := n4_; have NB157_163 := n5_; have NB163_157 := n6_; clear n0_ n1_ n2_ n3_ n4_ n5_ n6_; clear hb hbox hg; have hnb38 := NB163_157.out; have hnc38 := NB157_163.out; have hcz39_0 : w37.cell? ⟨gb163, 0, none⟩ = some (.int .i64 0) := (blk_cell BK163.out 0).trans rfl; have hcz39_1 : w37.cell? ⟨gb163, 1, none⟩ = some (.int .i64 0) := (blk_cell BK163.out 1).trans rfl; have hcz39_2 : w37.cell? ⟨gb163, 2, none⟩ = some (.int .i64 0) := (blk_cell BK163.out 2).trans rfl; have hcz39_3 : w37.cell? ⟨gb163, 3, none⟩ = some (.int .i64 0) := (blk_cell BK163.out 3).trans rfl; have hfz39_0 := blk_frozen BK163.out 0; have hfz39_1 := blk_frozen BK163.out 1; have hfz39_2 := blk_frozen BK163.out 2; have hfz39_3 := blk_frozen BK163.out 3) | ((with_reducible refine gate_callee (f := 40) rfl ?_); refine goesL_ (some 29) rfl rfl Try.func40 (by kernel_rfl) rfl #[.int .i64 (wrap64 (x13_1 + 1)), .agg #[.int .i64 t159, .int .i64 t160, .int .i64 t161, .int .i64 t162], .int .u64 (IntKind.u64.wrap (a0))] rfl (by (try simp only [List.map_toArray, List.map_cons, List.map_nil]); first | done | rfl | (simp only [List.length_drop, List.length_take]; rfl)) ?_; (with_reducible refine (inst_as.calls (wrap64 (x13_1 + 1)) t159 t160 t161 t162 (IntKind.u64.wrap (a0)) t164 t165 t166 t167 t168 t169 t170 _ A7.out).mono ?_); rintro e w40 ⟨rfl, hb⟩; refine ⟨_, rfl, ?_⟩; have n0_ := Aside0.mk (blk_below (g := gb157) (o := .cells #[.int .i64 x158000_1, .int .i64 x158001_1, .int .i64 x158002_1, .int .i64 x158003_1, .int .i64 x158004_1, .bool x158005_1, .bool x158006_1] 37 (0, 0)) (by (with_reducible repeat (first | refine blk_drewN ?_ _ | refine blk_drew ?_ | refine blk_alloc ?_ _)); refine blk_far ?_ NB157_163.out _; (with_reducible repeat (first | refine blk_drewN ?_ _ | refine blk_drew ?_ | refine blk_alloc ?_ _)); refine blk_far ?_ NB157_163.out _; (with_reducible repeat (first | refine blk_drewN ?_ _ | refine blk_drew ?_ | refine blk_alloc ?_ _)); refine blk_far ?_ NB157_163.out _; (with_reducible repeat (first | refine blk_drewN ?_ _ | refine blk_drew ?_ | refine blk_alloc ?_ _)); refine blk_far ?_ NB157_163.out _; (with_reducible repeat (first | refine blk_drewN ?_ _ | refine blk_drew ?_ | refine blk_alloc ?_ _)); exact BK157.out) hb); have n1_ := Aside0.mk (blk_below (g := gb163) (o := .cells #[.int .i64 t159, .int .i64 t160, .int .i64 t161, .int .i64 t162] 74 (0, 0)) (by (with_reducible repeat (first | refine blk_drewN ?_ _ | refine blk_drew ?_ | refine blk_alloc ?_ _)); refine blk_put (cs := #[.int .i64 t159, .int .i64 t160, .int .i64 t161, .int .i64 0]) ?_ 3 _ rfl; (with_reducible repeat (first | refine blk_drewN ?_ _ | refine blk_drew ?_ | refine blk_alloc ?_ _)); refine blk_put (cs := #[.int .i64 t159, .int .i64 t160, .int .i64 0, .int .i64 0]) ?_ 2 _ rfl; (with_reducible repeat (first | refine blk_drewN ?_ _ | refine blk_drew ?_ | refine blk_alloc ?_ _)); refine blk_put (cs := #[.int .i64 t159, .int .i64 0, .int .i64 0, .int .i64 0]) ?_ 1 _ rfl; (with_reducible repeat (first | refine blk_drewN ?_ _ | refine blk_drew ?_ | refine blk_alloc ?_ _)); refine blk_put (cs := #[.int .i64 0, .int .i64 0, .int .i64 0, .int .i64 0]) ?_ 0 _ rfl; (with_reducible repeat (first | refine blk_drewN ?_ _ | refine blk_drew ?_ | refine blk_alloc ?_ _)); exact BK163.out) hb); have n2_ := Aside0.mk (below_step (by repeat (first | (with_reducible first | exact HB.out | apply below_alloc | apply pw_below_drewN | apply below_drew1 | refine below_set ?_ GE157.out | refine below_set ?_ GE163.out) | exact HB.out)) hb); clear BK157; clear BK163; clear HB; have BK157 := n0_; have BK163 := n1_; have HB := n2_; clear n0_ n1_ n2_; (try clear hb); (try clear hb2); (try clear hk); (try clear hi)) | ((with_reducible refine gate_dst (N := 7) rfl ?_); refine box_event ?hg (N := 7) ?hd (cs := #[.int .i64 0, .int .i64 0, .int .i64 0, .int .i64 0, .int .i64 0, .bool false, .bool false]) (t := 37) ?hr ?_; (case hd => rfl); (case hg => rfl); (case hr => first | (go_simp; done) | (go_simp; rfl)); intro gb171 hg w41 hbox hb; have n0_ := Aside0.mk (blk_below (g := gb157) (o := .cells #[.int .i64 x158000_1, .int .i64 x158001_1, .int .i64 x158002_1, .int .i64 x158003_1, .int .i64 x158004_1, .bool x158005_1, .bool x158006_1] 37 (0, 0)) (by (with_reducible repeat (first | refine blk_drewN ?_ _ | refine blk_drew ?_ | refine blk_alloc ?_ _)); exact BK157.out) hb); have n1_ := Aside0.mk (blk_below (g := gb163) (o := .cells #[.int .i64 t159, .int .i64 t160, .int .i64 t161, .int .i64 t162] 74 (0, 0)) (by (with_reducible repeat (first | refine blk_drewN ?_ _ | refine blk_drew ?_ | refine blk_alloc ?_ _)); exact BK163.out) hb); have n2_ := Aside0.mk (below_step (by repeat (first | (with_reducible first | exact HB.out | apply below_alloc | apply pw_below_drewN | apply below_drew1 | refine below_set ?_ GE157.out | refine below_set ?_ GE163.out) | exact HB.out)) hb); have n3_ := Aside0.mk (hbox); have n4_ := Aside0.mk ((by rw [hg]; exact (below_size (by repeat (first | (with_reducible first | exact HB.out | apply below_alloc | apply pw_below_drewN | apply below_drew1 | refine below_set ?_ GE157.out | refine below_set ?_ GE163.out) | exact HB.out))) : w.heap.size ≤ gb171)); have n5_ := Aside0.mk ((by rw [hg]; exact (below_size (by repeat (first | (with_reducible first | exact HB.out | apply below_alloc | apply pw_below_drewN | apply below_drew1 | refine below_set ?_ GE157.out | refine below_set ?_ GE163.out) | exact HB.out))) : w.heap.size ≤ gb171)); have n6_ := Aside0.mk ((by rw [hg]; exact Nat.ne_of_lt (blk_lt (g := gb157) (o := .cells #[.int .i64 x158000_1, .int .i64 x158001_1, .int .i64 x158002_1, .int .i64 x158003_1, .int .i64 x158004_1, .bool x158005_1, .bool x158006_1] 37 (0, 0)) (by (with_reducible repeat (first | refine blk_drewN ?_ _ | refine blk_drew ?_ | refine blk_alloc ?_ _)); exact BK157.out)) : gb157 ≠ gb171)); have n7_ := Aside0.mk ((by rw [hg]; exact Nat.ne_of_gt (blk_lt (g := gb157) (o := .cells #[.int .i64 x158000_1, .int .i64 x158001_1, .int .i64 x158002_1, .int .i64 x158003_1, .int .i64 x158004_1, .bool x158005_1, .bool x158006_1] 37 (0, 0)) (by (with_reducible repeat (first | refine blk_drewN ?_ _ | refine blk_drew ?_ | refine blk_alloc ?_ _)); exact BK157.out)) : gb171 ≠ gb157)); have n8_ := Aside0.mk ((by rw [hg]; exact Nat.ne_of_lt (blk_lt (g := gb163) (o := .cells #[.int .i64 t159, .int .i64 t160, .int .i64 t161, .int .i64 t162] 74 (0, 0)) (by (with_reducible repeat (first | refine blk_drewN ?_ _ | refine blk_drew ?_ | refine blk_alloc ?_ _)); exact BK163.out)) : gb163 ≠ gb171)); have n9_ := Aside0.mk ((by rw [hg]; exact Nat.ne_of_gt (blk_lt (g := gb163) (o := .cells #[.int .i64 t159, .int .i64 t160, .int .i64 t161, .int .i64 t162] 74 (0, 0)) (by (with_reducible repeat (first | refine blk_drewN ?_ _ | refine blk_drew ?_ | refine blk_alloc ?_ _)); exact BK163.out)) : gb171 ≠ gb163)); clear BK157; clear BK163; clear HB; have BK157 := n0_; have BK163 := n1_; have HB := n2_; have BK171 := n3_; have GW171 := n4_; have GE171 := n5_; have NB157_171 := n6_; have NB171_157 := n7_; have NB163_171 := n8_; have NB171_163 := n9_; clear n0_ n1_ n2_ n3_ n4_ n5_ n6_ n7_ n8_ n9_; clear hb hbox hg; have hnb42 := NB171_157.out; have hnc42 := NB157_171.out; have hnb43 := NB171_163.out; have hnc43 := NB163_171.out; have hcz44_0 : w41.cell? ⟨gb171, 0, none⟩ = some (.int .i64 0) := (blk_cell BK171.out 0).trans rfl; have hcz44_1 : w41.cell? ⟨gb171, 1, none⟩ = some (.int .i64 0) := (blk_cell BK171.out 1).trans rfl; have hcz44_2 : w41.cell? ⟨gb171, 2, none⟩ = some (.int .i64 0) := (blk_cell BK171.out 2).trans rfl; have hcz44_3 : w41.cell? ⟨gb171, 3, none⟩ = some (.int .i64 0) := (blk_cell BK171.out 3).trans rfl; have hcz44_4 : w41.cell? ⟨gb171, 4, none⟩ = some (.int .i64 0) := (blk_cell BK171.out 4).trans rfl; have hcz44_5 : w41.cell? ⟨gb171, 5, none⟩ = some (.bool false) := (blk_cell BK171.out 5).trans rfl; have hcz44_6 : w41.cell? ⟨gb171, 6, none⟩ = some (.bool false) := (blk_cell BK171.out 6).trans rfl; have hfz44_0 := blk_frozen BK171.out 0; have hfz44_1 := blk_frozen BK171.out 1; have hfz44_2 := blk_frozen BK171.out 2; have hfz44_3 := blk_frozen BK171.out 3; have hfz44_4 := blk_frozen BK171.out 4; have hfz44_5 := blk_frozen BK171.out 5; have hfz44_6 := blk_frozen BK171.out 6) | ((with_reducible refine gate_callee (f := 20) rfl ?_); refine goesL_ (some 32) rfl rfl Try.func20 (by kernel_rfl) rfl #[.agg #[.int .i64 t164, .int .i64 t165, .int .i64 t166, .int .i64 t167, .int .i64 t168, .bool t169, .bool t170]] rfl (by (try simp only [List.map_toArray, List.map_cons, List.map_nil]); first | done | rfl | (simp only [List.length_drop, List.length_take]; rfl)) ?_; (with_reducible refine (inst_Encode.calls t164 t165 t166 t167 t168 t169 t170 t172 t173 _ A8.out).mono ?_); rintro e w45 ⟨rfl, hb⟩; refine ⟨_, rfl, ?_⟩; have n0_ := Aside0.mk (blk_below (g := gb157) (o := .cells #[.int .i64 x158000_1, .int .i64 x158001_1, .int .i64 x158002_1, .int .i64 x158003_1, .int .i64 x158004_1, .bool x158005_1, .bool x158006_1] 37 (0, 0)) (by (with_reducible repeat (first | refine blk_drewN ?_ _ | refine blk_drew ?_ | refine blk_alloc ?_ _)); refine blk_far ?_ NB157_171.out _; (with_reducible repeat (first | refine blk_drewN ?_ _ | refine blk_drew ?_ | refine blk_alloc ?_ _)); refine blk_far ?_ NB157_171.out _; (with_reducible repeat (first | refine blk_drewN ?_ _ | refine blk_drew ?_ | refine blk_alloc ?_ _)); refine blk_far ?_ NB157_171.out _; (with_reducible repeat (first | refine blk_drewN ?_ _ | refine blk_drew ?_ | refine blk_alloc ?_ _)); refine blk_far ?_ NB157_171.out _; (with_reducible repeat (first | refine blk_drewN ?_ _ | refine blk_drew ?_ | refine blk_alloc ?_ _)); refine blk_far ?_ NB157_171.out _; (with_reducible repeat (first | refine blk_drewN ?_ _ | refine blk_drew ?_ | refine blk_alloc ?_ _)); refine blk_far ?_ NB157_171.out _; (with_reducible repeat (first | refine blk_drewN ?_ _ | refine blk_drew ?_ | refine blk_alloc ?_ _)); refine blk_far ?_ NB157_171.out _; (with_reducible repeat (first | refine blk_drewN ?_ _ | refine blk_drew ?_ | refine blk_alloc ?_ _)); exact BK157.out) hb); have n1_ := Aside0.mk (blk_below (g := gb163) (o := .cells #[.int .i64 t159, .int .i64 t160, .int .i64 t161, .int .i64 t162] 74 (0, 0)) (by (with_reducible repeat (first | refine blk_drewN ?_ _ | refine blk_drew ?_ | refine blk_alloc ?_ _)); refine blk_far ?_ NB163_171.out _; (with_reducible repeat (first | refine blk_drewN ?_ _ | refine blk_drew ?_ | refine blk_alloc ?_ _)); refine blk_far ?_ NB163_171.out _; (with_reducible repeat (first | refine blk_drewN ?_ _ | refine blk_drew ?_ | refine blk_alloc ?_ _)); refine blk_far ?_ NB163_171.out _; (with_reducible repeat (first | refine blk_drewN ?_ _ | refine blk_drew ?_ | refine blk_alloc ?_ _)); refine blk_far ?_ NB163_171.out _; (with_reducible repeat (first | refine blk_drewN ?_ _ | refine blk_drew ?_ | refine blk_alloc ?_ _)); refine blk_far ?_ NB163_171.out _; (with_reducible repeat (first | refine blk_drewN ?_ _ | refine blk_drew ?_ | refine blk_alloc ?_ _)); refine blk_far ?_ NB163_171.out _; (with_reducible repeat (first | refine blk_drewN ?_ _ | refine blk_drew ?_ | refine blk_alloc ?_ _)); refine blk_far ?_ NB163_171.out _; (with_reducible repeat (first | refine blk_drewN ?_ _ | refine blk_drew ?_ | refine blk_alloc ?_ _)); exact BK163.out) hb); have n2_ := Aside0.mk (blk_below (g := gb171) (o := .cells #[.int .i64 t164, .int .i64 t165, .int .i64 t166, .int .i64 t167, .int .i64 t168, .bool t169, .bool t170] 37 (0, 0)) (by (with_reducible repeat (first | refine blk_drewN ?_ _ | refine blk_drew ?_ | refine blk_alloc ?_ _)); refine blk_put (cs := #[.int .i64 t164, .int .i64 t165, .int .i64 t166, .int .i64 t167, .int .i64 t168, .bool t169, .bool false]) ?_ 6 _ rfl; (with_reducible repeat (first | refine blk_drewN ?_ _ | refine blk_drew ?_ | refine blk_alloc ?_ _)); refine blk_put (cs := #[.int .i64 t164, .int .i64 t165, .int .i64 t166, .int .i64 t167, .int .i64 t168, .bool false, .bool false]) ?_ 5 _ rfl; (with_reducible repeat (first | refine blk_drewN ?_ _ | refine blk_drew ?_ | refine blk_alloc ?_ _)); refine blk_put (cs := #[.int .i64 t164, .int .i64 t165, .int .i64 t166, .int .i64 t167, .int .i64 0, .bool false, .bool false]) ?_ 4 _ rfl; (with_reducible repeat (first | refine blk_drewN ?_ _ | refine blk_drew ?_ | refine blk_alloc ?_ _)); refine blk_put (cs := #[.int .i64 t164, .int .i64 t165, .int .i64 t166, .int .i64 0, .int .i64 0, .bool false, .bool false]) ?_ 3 _ rfl; (with_reducible repeat (first | refine blk_drewN ?_ _ | refine blk_drew ?_ | refine blk_alloc ?_ _)); refine blk_put (cs := #[.int .i64 t164, .int .i64 t165, .int .i64 0, .int .i64 0, .int .i64 0, .bool false, .bool false]) ?_ 2 _ rfl; (with_reducible repeat (first | refine blk_drewN ?_ _ | refine blk_drew ?_ | refine blk_alloc ?_ _)); refine blk_put (cs := #[.int .i64 t164, .int .i64 0, .int .i64 0, .int .i64 0, .int .i64 0, .bool false, .bool false]) ?_ 1 _ rfl; (with_reducible repeat (first | refine blk_drewN ?_ _ | refine blk_drew ?_ | refine blk_alloc ?_ _)); refine blk_put (cs := #[.int .i64 0, .int .i64 0, .int .i64 0, .int .i64 0, .int .i64 0, .bool false, .bool false]) ?_ 0 _ rfl; (with_reducible repeat (first | refine blk_drewN ?_ _ | refine blk_drew ?_ | refine blk_alloc ?_ _)); exact BK171.out) hb); have n3_ := Aside0.mk (below_step (by repeat (first | (with_reducible first | exact HB.out | apply below_alloc | apply pw_below_drewN | apply below_drew1 | refine below_set ?_ GE157.out | refine below_set ?_ GE163.out | refine below_set ?_ GE171.out) | exact HB.out)) hb); clear BK157; clear BK163; clear BK171; clear HB; have BK157 := n0_; have BK163 := n1_; have BK171 := n2_; have HB := n3_; clear n0_ n1_ n2_ n3_; (try clear hb); (try clear hb2); (try clear hk); (try clear hi)))
            go_roundg k1
            case measure => have := HK1.out; omega
            case rel => exact ⟨(wrap64 (x13_1 + 1)), (x158000_1), (x158001_1), (x158002_1), (x158003_1), (x158004_1), (x158005_1), (x158006_1), (by first | rfl | (simp; done) | (simp [*]; done)), H', ⟨by have := HK1.out; omega⟩, ⟨by (with_reducible repeat (first | refine blk_drewN ?_ _ | refine blk_drew ?_ | refine blk_alloc ?_ _)); exact BK157.out⟩, ⟨by repeat (first | (with_reducible first | exact HB.out | apply below_alloc | apply pw_below_drewN | apply below_drew1 | refine below_set ?_ GE157.out | refine below_set ?_ GE163.out | refine below_set ?_ GE171.out) | exact HB.out)⟩⟩
        · replace c5 := Bool.eq_false_iff.mpr c5
          subst c5
          have H1 : (inst_Decode0.l0 k1 a0 (wrap64 (Go.bits .and .u32 a0 127)) (wrap64 (x13_1 + 1))) = some (r1, r2, r3, r4, r5, r6, r7, r8) := by rw [if_neg (show ¬ (false = true) by decide)] at H; exact H
          clear H
          have H := H1
          clear H1
          have H' := Aside0.mk H
          clear H
          go_wp2_with (first | ((with_reducible refine gate_callee (f := 39) rfl ?_); refine goesL_ (some 19) rfl rfl Try.func39 (by kernel_rfl) rfl #[.int .i64 (wrap64 (x13_1 + 1)), .int .i64 (wrap64 (Go.bits .and .u32 a0 127))] rfl (by (try simp only [List.map_toArray, List.map_cons, List.map_nil]); first | done | rfl | (simp only [List.length_drop, List.length_take]; rfl)) ?_; (with_reducible refine (inst_near.calls (wrap64 (x13_1 + 1)) (wrap64 (Go.bits .and .u32 a0 127)) false _ A4.out).mono ?_); rintro e w46 ⟨rfl, hb⟩; refine ⟨_, rfl, ?_⟩; have n0_ := Aside0.mk (blk_below (g := gb157) (o := .cells #[.int .i64 x158000_1, .int .i64 x158001_1, .int .i64 x158002_1, .int .i64 x158003_1, .int .i64 x158004_1, .bool x158005_1, .bool x158006_1] 37 (0, 0)) (by (with_reducible repeat (first | refine blk_drewN ?_ _ | refine blk_drew ?_ | refine blk_alloc ?_ _)); exact BK157.out) hb); have n1_ := Aside0.mk (below_step (by repeat (first | (with_reducible first | exact HB.out | apply below_alloc | apply pw_below_drewN | apply below_drew1 | refine below_set ?_ GE157.out) | exact HB.out)) hb); clear BK157; clear HB; have BK157 := n0_; have HB := n1_; clear n0_ n1_; (try clear hb); (try clear hb2); (try clear hk); (try clear hi)))
          go_roundg k1
          case measure => have := HK1.out; omega
          case rel => exact ⟨(wrap64 (x13_1 + 1)), (x158000_1), (x158001_1), (x158002_1), (x158003_1), (x158004_1), (x158005_1), (x158006_1), (by first | rfl | (simp; done) | (simp [*]; done)), H', ⟨by have := HK1.out; omega⟩, ⟨by (with_reducible repeat (first | refine blk_drewN ?_ _ | refine blk_drew ?_ | refine blk_alloc ?_ _)); exact BK157.out⟩, ⟨by repeat (first | (with_reducible first | exact HB.out | apply below_alloc | apply pw_below_drewN | apply below_drew1 | refine below_set ?_ GE157.out) | exact HB.out)⟩⟩
      · rw [if_neg c3] at H
        have c3b0 : decide (x13_1 < 87) = false := decide_eq_false c3
        clear c3
        simp only [Option.some.injEq, Prod.mk.injEq] at H
        obtain ⟨rfl, rfl, rfl, rfl, rfl, rfl, rfl, rfl⟩ := H
        have hcz47_0 : wr.cell? ⟨gb157, 0, none⟩ = some (.int .i64 x158000_1) := (blk_cell BK157.out 0).trans rfl
        have hcz47_1 : wr.cell? ⟨gb157, 1, none⟩ = some (.int .i64 x158001_1) := (blk_cell BK157.out 1).trans rfl
        have hcz47_2 : wr.cell? ⟨gb157, 2, none⟩ = some (.int .i64 x158002_1) := (blk_cell BK157.out 2).trans rfl
        have hcz47_3 : wr.cell? ⟨gb157, 3, none⟩ = some (.int .i64 x158003_1) := (blk_cell BK157.out 3).trans rfl
        have hcz47_4 : wr.cell? ⟨gb157, 4, none⟩ = some (.int .i64 x158004_1) := (blk_cell BK157.out 4).trans rfl
        have hcz47_5 : wr.cell? ⟨gb157, 5, none⟩ = some (.bool x158005_1) := (blk_cell BK157.out 5).trans rfl
        have hcz47_6 : wr.cell? ⟨gb157, 6, none⟩ = some (.bool x158006_1) := (blk_cell BK157.out 6).trans rfl
        have hfz47_0 := blk_frozen BK157.out 0
        have hfz47_1 := blk_frozen BK157.out 1
        have hfz47_2 := blk_frozen BK157.out 2
        have hfz47_3 := blk_frozen BK157.out 3
        have hfz47_4 := blk_frozen BK157.out 4
        have hfz47_5 := blk_frozen BK157.out 5
        have hfz47_6 := blk_frozen BK157.out 6
        go_wp2
        refine bodyPost_ret (results_ct rfl _ _ gb157 37 #[.int .i64 0, .int .i64 0, .int .i64 0, .int .i64 0, .int .i64 0, .bool false, .bool false] (0, 0) _ rfl (by (with_reducible repeat (first | refine blk_drewN ?_ _ | refine blk_drew ?_ | refine blk_alloc ?_ _)); refine blk_put (cs := #[.int .i64 0, .int .i64 0, .int .i64 0, .int .i64 0, .int .i64 0, .bool false, .bool x158006_1]) ?_ 6 _ rfl; (with_reducible repeat (first | refine blk_drewN ?_ _ | refine blk_drew ?_ | refine blk_alloc ?_ _)); refine blk_put (cs := #[.int .i64 0, .int .i64 0, .int .i64 0, .int .i64 0, .int .i64 0, .bool x158005_1, .bool x158006_1]) ?_ 5 _ rfl; (with_reducible repeat (first | refine blk_drewN ?_ _ | refine blk_drew ?_ | refine blk_alloc ?_ _)); refine blk_put (cs := #[.int .i64 0, .int .i64 0, .int .i64 0, .int .i64 0, .int .i64 x158004_1, .bool x158005_1, .bool x158006_1]) ?_ 4 _ rfl; (with_reducible repeat (first | refine blk_drewN ?_ _ | refine blk_drew ?_ | refine blk_alloc ?_ _)); refine blk_put (cs := #[.int .i64 0, .int .i64 0, .int .i64 0, .int .i64 x158003_1, .int .i64 x158004_1, .bool x158005_1, .bool x158006_1]) ?_ 3 _ rfl; (with_reducible repeat (first | refine blk_drewN ?_ _ | refine blk_drew ?_ | refine blk_alloc ?_ _)); refine blk_put (cs := #[.int .i64 0, .int .i64 0, .int .i64 x158002_1, .int .i64 x158003_1, .int .i64 x158004_1, .bool x158005_1, .bool x158006_1]) ?_ 2 _ rfl; (with_reducible repeat (first | refine blk_drewN ?_ _ | refine blk_drew ?_ | refine blk_alloc ?_ _)); refine blk_put (cs := #[.int .i64 0, .int .i64 x158001_1, .int .i64 x158002_1, .int .i64 x158003_1, .int .i64 x158004_1, .bool x158005_1, .bool x158006_1]) ?_ 1 _ rfl; (with_reducible repeat (first | refine blk_drewN ?_ _ | refine blk_drew ?_ | refine blk_alloc ?_ _)); refine blk_put (cs := #[.int .i64 x158000_1, .int .i64 x158001_1, .int .i64 x158002_1, .int .i64 x158003_1, .int .i64 x158004_1, .bool x158005_1, .bool x158006_1]) ?_ 0 _ rfl; (with_reducible repeat (first | refine blk_drewN ?_ _ | refine blk_drew ?_ | refine blk_alloc ?_ _)); exact BK157.out) Try.underlying37 rfl (by kernel_rfl)) rfl ?_
        exact ⟨by first | rfl | (simp [errW_none, errW_some] <;> rfl) | (simp [*, errW_none, errW_some] <;> rfl), by repeat (first | (with_reducible first | exact HB.out | apply below_alloc | apply pw_below_drewN | apply below_drew1 | refine below_set ?_ GE157.out) | exact HB.out)⟩
theorem and_u32 (x : Int) (h : 0 ≤ x ∧ x < 4294967296) : Go.bits .and .u32 x 127 = x % 128 := by
  obtain ⟨n, rfl⟩ := Int.eq_ofNat_of_zero_le h.1
  have h2 : n < 2 ^ 32 := by omega
  have e := (bits_nat .u32 32 (by decide) (fun n h0 h1 => by rw [IntKind.wrap_u32]; omega) n 127 h2 (by decide)).1
  rw [show ((127 : Nat) : Int) = 127 from rfl] at e
  rw [e, show (127 : Nat) = 2 ^ 7 - 1 from rfl, Nat.and_two_pow_sub_one_eq_mod]
  omega
theorem inst_Decode0.run (w : Int) (hw : 0 ≤ w ∧ w < 4294967296) : ∀ (n : Nat) (i : Int) (k : Nat), i + n = 87 → 0 ≤ i → n < k → inst_Decode0.l0 k w (w % 128) i = some (decTup w (decFrom w n (i + 1)))
  | 0, op, k, h, h1, hk => by
    obtain ⟨k, rfl⟩ : ∃ m, k = m + 1 := ⟨k - 1, by omega⟩
    simp only [inst_Decode0.l0, decFrom]
    rw [if_neg (by omega)]; rfl
  | n + 1, i, k, h, h1, hk => by
    obtain ⟨k, rfl⟩ : ∃ m, k = m + 1 := ⟨k - 1, by omega⟩
    have ih := inst_Decode0.run w hw n (i + 1) k (by omega) (by omega) (by omega)
    have ew : wrap64 (i + 1) = i + 1 := by unfold wrap64; omega
    have uw : IntKind.u64.wrap w = w := by rw [u64w]; omega
    have hU : U64 w := by unfold U64; omega
    simp only [inst_Decode0.l0, decFrom, ew, uw]
    rw [if_pos (by omega)]
    generalize hop : i + 1 = op at *
    simp only [inst_near.f, Option.bind_some, inst_of.f, inst_as.f, if_pos hU, inst_Encode.f, if_pos (decImm_I64 _ _)]
    cases hn : nearOf op (w % 128)
    · have hh : hit op w = false := by
        cases e : hit op w
        · rfl
        · rw [hit_near e] at hn; simp at hn
      rw [if_neg (by simp), ih, hh]; rfl
    · rw [if_pos rfl]
      change (if goodOf op (decRd op w) (decRs1 op w) (decRs2 op w) (decImm (formOf op) w) (decAq op w) (decRl op w) = true then _ else _ : Option (Int × Int)).bind _ = _
      cases hg : goodOf op (decRd op w) (decRs1 op w) (decRs2 op w) (decImm (formOf op) w) (decAq op w) (decRl op w)
      · have hh : hit op w = false := by unfold hit; rw [hg]; rfl
        simp only [hh, Bool.false_eq_true, if_false, Option.bind_some, ih]
        rfl
      · simp only [if_true, Option.bind_some]
        by_cases e : encOf op (decRd op w) (decRs1 op w) (decRs2 op w) (decImm (formOf op) w) (decAq op w) (decRl op w) = w
        · have hh : hit op w = true := by unfold hit; rw [hg, e]; simp
          rw [if_pos hh]
          refine Eq.trans (if_pos e) ?_
          unfold decTup; rw [if_neg (show ¬ op = 0 by omega)]; rfl
        · have hh : hit op w = false := by unfold hit; rw [hg, beq_eq_false_iff_ne.2 e]; rfl
          refine Eq.trans (if_neg e) ?_
          rw [ih, hh]; rfl
def inst_Decode.f (a0 : Int) : Option (Int × Int × Int × Int × Int × Bool × Bool × Int) := if 0 ≤ a0 ∧ a0 < 4294967296 then some (decTup a0 (decOp a0)) else none
theorem inst_Decode.spec (a0 r1 r2 r3 r4 r5 : Int) (r6 r7 : Bool) (r8 : Int) (h : inst_Decode.f a0 = some (r1, r2, r3, r4, r5, r6, r7, r8)) : ∃ k, inst_Decode0.f k a0 = some (r1, r2, r3, r4, r5, r6, r7, r8) := by
  unfold inst_Decode.f at h
  split at h
  · rename_i hc
    refine ⟨88, ?_⟩
    rw [← h]
    unfold inst_Decode0.f
    rw [and_u32 a0 hc, show wrap64 (a0 % 128) = a0 % 128 by unfold wrap64; omega]
    exact inst_Decode0.run a0 hc 87 0 88 (by omega) (by omega) (by omega)
  · simp at h

theorem inst_Decode.calls (a0 : Int) (r1 : Int) (r2 : Int) (r3 : Int) (r4 : Int) (r5 : Int) (r6 : Bool) (r7 : Bool) (r8 : Int) (w : World) (h : inst_Decode.f a0 = some (r1, r2, r3, r4, r5, r6, r7, r8)) :
    Calls Try.prog 23 #[.int .u32 a0] w fun e w' => e = .returned (.tuple #[.agg #[.int .i64 r1, .int .i64 r2, .int .i64 r3, .int .i64 r4, .int .i64 r5, .bool r6, .bool r7], .int .i64 r8]) ∧ Below w.heap.size w w' := by
  obtain ⟨k, hk⟩ := inst_Decode.spec a0 r1 r2 r3 r4 r5 r6 r7 r8 h
  exact inst_Decode0.calls k a0 r1 r2 r3 r4 r5 r6 r7 r8 w hk

-- NOT PRINTED: function 24 (hart_Step_1)

/-! ### inst_Stores0: function 14 -/
def inst_Stores0.f (a0 : Int) : Option (Bool) := if a0 ≥ 18 then (if a0 ≤ 21 then (some true) else ((inst_Atomic.f a0).bind fun t174 => (if t174 = true then (if a0 = 66 then (some false) else (some (a0 != 77))) else (some false)))) else ((inst_Atomic.f a0).bind fun t175 => (if t175 = true then (if a0 = 66 then (some false) else (some (a0 != 77))) else (some false)))
set_option maxHeartbeats 8000000 in
set_option maxRecDepth 100000 in
theorem inst_Stores0.calls (a0 : Int) (r : Bool) (w : World) (h : inst_Stores0.f a0 = some r) :
    Calls Try.prog 14 #[.int .i64 a0] w fun e w' => e = .returned (.bool r) ∧ Drawn0 w w' := by
  have H : (if a0 ≥ 18 then (if a0 ≤ 21 then (some true) else ((inst_Atomic.f a0).bind fun t174 => (if t174 = true then (if a0 = 66 then (some false) else (some (a0 != 77))) else (some false)))) else ((inst_Atomic.f a0).bind fun t175 => (if t175 = true then (if a0 = 66 then (some false) else (some (a0 != 77))) else (some false)))) = some r := h
  clear h
  by_cases c2 : a0 ≥ 18
  · rw [if_pos c2] at H
    have c2b0 : decide (18 ≤ a0) = true := decide_eq_true c2
    clear c2
    by_cases c3 : a0 ≤ 21
    · rw [if_pos c3] at H
      have c3b0 : decide (a0 ≤ 21) = true := decide_eq_true c3
      clear c3
      obtain rfl := Option.some.inj H
      go_enter Try.func14, Try.ntmps14
      go_wp2
      go_ret
      exact ⟨by first | rfl | (simp; done) | (simp [*]; done), by repeat (first | exact Drawn0.refl _ | apply Drawn0.step)⟩
    · rw [if_neg c3] at H
      have c3b0 : decide (a0 ≤ 21) = false := decide_eq_false c3
      clear c3
      replace H := Option.bind_eq_some_iff.mp H
      obtain ⟨t174, A40, H⟩ := H
      replace H : (if t174 = true then (if a0 = 66 then (some false) else (some (a0 != 77))) else (some false)) = some r := H
      have A4 := Aside0.mk A40
      clear A40
      by_cases c5 : t174 = true
      · subst c5
        have H1 : (if a0 = 66 then (some false) else (some (a0 != 77))) = some r := by rw [if_pos rfl] at H; exact H
        clear H
        have H := H1
        clear H1
        by_cases c6 : a0 = 66
        · rw [if_pos c6] at H
          have c6b0 : (a0 == 66) = true := beq_iff_eq.mpr c6
          have c6b1 : (a0 != 66) = false := bne_eq_false_iff_eq.mpr c6
          clear c6
          obtain rfl := Option.some.inj H
          go_enter Try.func14, Try.ntmps14
          go_wp2_with (first | (go_at_call 33; (with_reducible refine (inst_Atomic.calls a0 true _ A4.out).mono ?_); rintro e w' ⟨rfl, ⟨nd, rfl⟩⟩))
          go_ret
          exact ⟨by first | rfl | (simp; done) | (simp [*]; done), by repeat (first | exact Drawn0.refl _ | apply Drawn0.step)⟩
        · rw [if_neg c6] at H
          have c6b0 : (a0 == 66) = false := beq_eq_false_iff_ne.mpr c6
          have c6b1 : (a0 != 66) = true := bne_iff_ne.mpr c6
          obtain rfl := Option.some.inj H
          go_enter Try.func14, Try.ntmps14
          go_wp2_with (first | (go_at_call 33; (with_reducible refine (inst_Atomic.calls a0 true _ A4.out).mono ?_); rintro e w' ⟨rfl, ⟨nd, rfl⟩⟩))
          go_ret
          exact ⟨by first | rfl | (simp; done) | (simp [*]; done), by repeat (first | exact Drawn0.refl _ | apply Drawn0.step)⟩
      · replace c5 := Bool.eq_false_iff.mpr c5
        subst c5
        have H1 : (some false) = some r := by rw [if_neg (show ¬ (false = true) by decide)] at H; exact H
        clear H
        have H := H1
        clear H1
        obtain rfl := Option.some.inj H
        go_enter Try.func14, Try.ntmps14
        go_wp2_with (first | (go_at_call 33; (with_reducible refine (inst_Atomic.calls a0 false _ A4.out).mono ?_); rintro e w' ⟨rfl, ⟨nd, rfl⟩⟩))
        go_ret
        exact ⟨by first | rfl | (simp; done) | (simp [*]; done), by repeat (first | exact Drawn0.refl _ | apply Drawn0.step)⟩
  · rw [if_neg c2] at H
    have c2b0 : decide (18 ≤ a0) = false := decide_eq_false c2
    clear c2
    replace H := Option.bind_eq_some_iff.mp H
    obtain ⟨t175, A70, H⟩ := H
    replace H : (if t175 = true then (if a0 = 66 then (some false) else (some (a0 != 77))) else (some false)) = some r := H
    have A7 := Aside0.mk A70
    clear A70
    by_cases c8 : t175 = true
    · subst c8
      have H1 : (if a0 = 66 then (some false) else (some (a0 != 77))) = some r := by rw [if_pos rfl] at H; exact H
      clear H
      have H := H1
      clear H1
      by_cases c9 : a0 = 66
      · rw [if_pos c9] at H
        have c9b0 : (a0 == 66) = true := beq_iff_eq.mpr c9
        have c9b1 : (a0 != 66) = false := bne_eq_false_iff_eq.mpr c9
        clear c9
        obtain rfl := Option.some.inj H
        go_enter Try.func14, Try.ntmps14
        go_wp2_with (first | (go_at_call 33; (with_reducible refine (inst_Atomic.calls a0 true _ A7.out).mono ?_); rintro e w' ⟨rfl, ⟨nd, rfl⟩⟩))
        go_ret
        exact ⟨by first | rfl | (simp; done) | (simp [*]; done), by repeat (first | exact Drawn0.refl _ | apply Drawn0.step)⟩
      · rw [if_neg c9] at H
        have c9b0 : (a0 == 66) = false := beq_eq_false_iff_ne.mpr c9
        have c9b1 : (a0 != 66) = true := bne_iff_ne.mpr c9
        obtain rfl := Option.some.inj H
        go_enter Try.func14, Try.ntmps14
        go_wp2_with (first | (go_at_call 33; (with_reducible refine (inst_Atomic.calls a0 true _ A7.out).mono ?_); rintro e w' ⟨rfl, ⟨nd, rfl⟩⟩))
        go_ret
        exact ⟨by first | rfl | (simp; done) | (simp [*]; done), by repeat (first | exact Drawn0.refl _ | apply Drawn0.step)⟩
    · replace c8 := Bool.eq_false_iff.mpr c8
      subst c8
      have H1 : (some false) = some r := by rw [if_neg (show ¬ (false = true) by decide)] at H; exact H
      clear H
      have H := H1
      clear H1
      obtain rfl := Option.some.inj H
      go_enter Try.func14, Try.ntmps14
      go_wp2_with (first | (go_at_call 33; (with_reducible refine (inst_Atomic.calls a0 false _ A7.out).mono ?_); rintro e w' ⟨rfl, ⟨nd, rfl⟩⟩))
      go_ret
      exact ⟨by first | rfl | (simp; done) | (simp [*]; done), by repeat (first | exact Drawn0.refl _ | apply Drawn0.step)⟩
def inst_Stores.f (a0 : Int) : Option (Bool) := some (storesB a0)
theorem inst_Stores.spec (a0 : Int) (r : Bool) (h : inst_Stores.f a0 = some r) : inst_Stores0.f a0 = some r := by
  rw [← h]; unfold inst_Stores.f storesB
  by_cases h1 : 18 ≤ a0 <;> by_cases h2 : a0 ≤ 21 <;> by_cases h3 : 66 ≤ a0 <;> by_cases h4 : a0 ≤ 87 <;> by_cases h5 : a0 = 66 <;> by_cases h6 : a0 = 77 <;> first | omega | (simp [inst_Stores0.f, inst_Atomic.f, atomicB, *]; done) | (subst_vars; decide +kernel)

theorem inst_Stores.calls (a0 : Int) (r : Bool) (w : World) (h : inst_Stores.f a0 = some r) :
    Calls Try.prog 14 #[.int .i64 a0] w fun e w' => e = .returned (.bool r) ∧ Drawn0 w w' := by
  have hk := inst_Stores.spec a0 r h
  exact inst_Stores0.calls a0 r w hk

end Go.Proofs.Ytcjfafhbohkhlaa.PAll
