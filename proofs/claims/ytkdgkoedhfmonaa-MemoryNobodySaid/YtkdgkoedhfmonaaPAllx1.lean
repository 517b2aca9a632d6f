/- DERIVED. The contracts of the Go functions that one law reaches: each call returns what the plain function beside it says, under that theorem's own premises. Written by a program (hp.py) over the kit's printed words. -/
import Derived.Test.YtkdgkoedhfmonaaPAllx0
namespace Go.Proofs.Ytkdgkoedhfmonaa.PAll
open Go.RowKit Go.Proofs.YtkdgkoedhfmonaaW.PrintWords Go.Proofs.YtkdgkoedhfmonaaW.PrintLast Go.Proofs.YtkdgkoedhfmonaaW.PrintMore Go.Proofs.Ytkdgkoedhfmonaa.M
attribute [local go_sem] max2_int min2_int max_two min_two max_three min_three max_four min_four   -- for this text's walks alone
set_option linter.unusedVariables false
set_option linter.unusedSimpArgs false

-- NOT PRINTED: function 6 (memory_New)

/-! ### memory_Memory_none: function 16 -/
/-- A memory that no call made. -/
def Nobody (w : World) (p : Option Addr) : Prop := p = none ∨ ∃ g, p = some ⟨g, 0, none⟩ ∧ Blk w g #[.slice none 0 0, .bool false] 37
theorem u8_size : (Try.prog.info? 5).map (·.size) = some 1 := by kernel_rfl



/-! ### memory_Memory_part: function 14 -/
set_option maxHeartbeats 1000000 in
theorem part_no (w : World) (p : Option Addr) (h : Nobody w p) (at_ n : Int) : Calls Try.prog 14 #[.pointer p, .int .u64 at_, .int .i64 n] w fun e w' => e = .returned (.tuple #[.slice none 0 0, .int .i64 1]) ∧ w = w' := by
  rcases h with rfl | ⟨g, rfl, B⟩
  · go_enter Try.func14, Try.ntmps14
    go_wp2
    go_ret2
    exact ⟨rfl, rfl⟩
  · have c := B.cell
    clear B
    go_enter Try.func14, Try.ntmps14
    go_wp2
    go_ret2
    exact ⟨rfl, rfl⟩



-- NOT PRINTED: function 15 (memory_Memory_number)

/-! ### memory_Memory_Store: function 10 -/
set_option maxHeartbeats 1000000 in
theorem Store_no (w : World) (p : Option Addr) (h : Nobody w p) (at_ n v : Int) : Calls Try.prog 10 #[.pointer p, .int .u64 at_, .int .i64 n, .int .u64 v] w fun e w' => e = .returned (.int .i64 1) ∧ w = w' := by
  rcases h with rfl | ⟨g, rfl, B⟩
  · go_enter Try.func10, Try.ntmps10
    go_wp2
    go_rounds 1
    go_ret
    exact ⟨rfl, rfl⟩
  · have c := B.cell
    clear B
    go_enter Try.func10, Try.ntmps10
    go_wp2
    go_rounds 1
    go_ret
    exact ⟨rfl, rfl⟩



/-! ### memory_Memory_Load: function 11 -/
set_option maxHeartbeats 1000000 in
theorem Load_no (w : World) (p : Option Addr) (h : Nobody w p) (at_ n : Int) : Calls Try.prog 11 #[.pointer p, .int .u64 at_, .int .i64 n] w fun e w' => e = .returned (.tuple #[.int .u64 0, .int .i64 1]) ∧ w = w' := by
  rcases h with rfl | ⟨g, rfl, B⟩
  · go_enter Try.func11, Try.ntmps11
    go_wp2
    go_rounds 1
    go_ret2
    exact ⟨rfl, rfl⟩
  · have c := B.cell
    clear B
    go_enter Try.func11, Try.ntmps11
    go_wp2
    go_rounds 1
    go_ret2
    exact ⟨rfl, rfl⟩



/-! ### postbaglaw05_lives: function 7 -/
set_option maxHeartbeats 4000000 in
theorem postbaglaw05_lives.c (w : World) : Calls Try.prog 7 #[] w fun e w' => e = .returned (.bool true) ∧ Below w.heap.size w w' := by
  have hmk : ∀ W, (Instr.makeSlice 22 (.int .i64 16) (.int .i64 16)).run Try.prog W = .ok (.slice (some ⟨W.heap.size, 0, none⟩) 16 16) (W.alloc (.cells #[Value.int IntKind.u8 0, Value.int IntKind.u8 0, Value.int IntKind.u8 0, Value.int IntKind.u8 0, Value.int IntKind.u8 0, Value.int IntKind.u8 0, Value.int IntKind.u8 0, Value.int IntKind.u8 0, Value.int IntKind.u8 0, Value.int IntKind.u8 0, Value.int IntKind.u8 0, Value.int IntKind.u8 0, Value.int IntKind.u8 0, Value.int IntKind.u8 0, Value.int IntKind.u8 0, Value.int IntKind.u8 0] 5)) := fun _ => by kernel_rfl
  go_enter Try.func7, Try.ntmps7
  go_wp2
  go_rounds 5
  go_rounds 2
  go_ret
  exact ⟨by first | rfl | decide, by go_grown⟩



/-! ### memory_Memory_Put: function 8 -/
set_option maxHeartbeats 1000000 in
theorem Put_no (w : World) (p : Option Addr) (h : Nobody w p) (at_ : Int) (A : Option Addr) (n c : Nat) (hn : n ≤ 9223372036854775807) : Calls Try.prog 8 #[.pointer p, .int .u64 at_, .slice A n c] w fun e w' => e = .returned (.int .i64 1) ∧ w = w' := by
  have H := Lib.hid h
  clear h
  have hcp := fun (W : World) => run_copy_none (P := Try.prog) W 22 22 3 5 none A 0 0 n c Try.underlying22 u8_size (by simp)
  go_enter Try.func8, Try.ntmps8
  go_wp2_with fail
  refine (part_no _ _ H.out _ _).mono ?_
  rintro e w1 ⟨rfl, rfl⟩
  go_wp2_with fail
  go_ret
  exact ⟨rfl, rfl⟩



/-! ### memory_Memory_Bytes: function 9 -/
set_option maxHeartbeats 1000000 in
theorem Bytes_no (w : World) (p : Option Addr) (h : Nobody w p) (at_ n : Int) : Calls Try.prog 9 #[.pointer p, .int .u64 at_, .int .i64 n] w fun e w' => e = .returned (.tuple #[.slice (some ⟨w.heap.size, 0, none⟩) 0 0, .int .i64 1]) ∧ Below w.heap.size w w' := by
  rcases h with rfl | ⟨g, rfl, B⟩
  · go_enter Try.func9, Try.ntmps9
    go_wp2
    go_ret2
    exact ⟨rfl, by go_grown⟩
  · have cc := B.cell
    clear B
    go_enter Try.func9, Try.ntmps9
    go_wp2
    go_ret2
    exact ⟨rfl, by go_grown⟩



/-! ### memory_Memory_Len: function 12 -/
set_option maxHeartbeats 1000000 in
theorem Len_no (w : World) (p : Option Addr) (h : Nobody w p) : Calls Try.prog 12 #[.pointer p] w fun e w' => e = .returned (.int .i64 0) ∧ w = w' := by
  rcases h with rfl | ⟨g, rfl, B⟩
  · go_enter Try.func12, Try.ntmps12
    go_wp2
    go_ret
    exact ⟨rfl, rfl⟩
  · have c := B.cell
    clear B
    go_enter Try.func12, Try.ntmps12
    go_wp2
    go_ret
    exact ⟨rfl, rfl⟩



/-! ### memory_Memory_Clone: function 13 -/
set_option maxHeartbeats 1000000 in
theorem Clone_no (w : World) (p : Option Addr) (h : Nobody w p) : Calls Try.prog 13 #[.pointer p] w fun e w' => e = .returned (.pointer none) ∧ w = w' := by
  rcases h with rfl | ⟨g, rfl, B⟩
  · go_enter Try.func13, Try.ntmps13
    go_wp2
    go_ret
    exact ⟨rfl, rfl⟩
  · have c := B.cell
    clear B
    go_enter Try.func13, Try.ntmps13
    go_wp2
    go_ret
    exact ⟨rfl, rfl⟩



/-! ### postbaglaw05_MemoryNobody: function 4 -/
set_option maxHeartbeats 4000000 in
theorem postbaglaw05_MemoryNobody.all (a0_0 a0_1 a0_2 a0_3 : Int) (A0_4 : Option Addr) (n0_4 c0_4 : Nat) (w : World) (hn : n0_4 ≤ 9223372036854775807) :
    Calls Try.prog 4 #[.agg #[.int .i64 a0_0, .int .i64 a0_1, .int .u64 a0_2, .int .u64 a0_3, .slice A0_4 n0_4 c0_4]] w fun e w' => e = .returned (.bool true) ∧ Below w.heap.size w w' := by
  go_enter Try.func4, Try.ntmps4
  go_wp2_with fail
  generalize hX : World.alloc (World.alloc (World.alloc w _) _) _ = X
  have KA := new3a hX
  have KZ := new3b hX
  have KS := new3c hX
  have HX := Lib.hid hX
  clear hX
  have HA := Lib.hid KA
  have HZ := Lib.hid KZ
  have HS := Lib.hid KS
  clear KA KZ KS
  have ca := HA.out.cell
  have cz := HZ.out.cell
  have cs := HS.out.cell
  refine wp_loop_rounds 3 ?_
  rw [rounds_succ]
  go_wp2_with fail
  refine (Load_no _ _ (Or.inl rfl) _ _).mono ?_
  rintro e w1 ⟨rfl, rfl⟩
  go_wp2_with fail
  refine (Bytes_no _ _ (Or.inl rfl) _ _).mono ?_
  rintro e Y1 ⟨rfl, hb⟩
  have KA := HA.out.below hb
  have KZ := HZ.out.below hb
  have KS := HS.out.below hb
  have HB1 := Lib.hid hb
  clear hb ca cz cs HA HZ HS
  have HA := Lib.hid KA
  have HZ := Lib.hid KZ
  have HS := Lib.hid KS
  clear KA KZ KS
  have ca := HA.out.cell
  have cz := HZ.out.cell
  have cs := HS.out.cell
  go_wp2_with fail
  refine (Store_no _ _ (Or.inl rfl) _ _ _).mono ?_
  rintro e w1 ⟨rfl, rfl⟩
  go_wp2_with fail
  refine (Put_no _ _ (Or.inl rfl) _ _ _ _ hn).mono ?_
  rintro e w1 ⟨rfl, rfl⟩
  go_wp2_with fail
  refine (Len_no _ _ (Or.inl rfl)).mono ?_
  rintro e w1 ⟨rfl, rfl⟩
  go_wp2_with fail
  refine (Clone_no _ _ (Or.inl rfl)).mono ?_
  rintro e w1 ⟨rfl, rfl⟩
  go_wp2_with fail
  rw [rounds_succ]
  go_wp2_with fail
  refine (Load_no _ _ (Or.inr ⟨_, rfl, HZ.out⟩) _ _).mono ?_
  rintro e w1 ⟨rfl, rfl⟩
  go_wp2_with fail
  refine (Bytes_no _ _ (Or.inr ⟨_, rfl, HZ.out⟩) _ _).mono ?_
  rintro e Y2 ⟨rfl, hb⟩
  have KA := HA.out.below hb
  have KZ := HZ.out.below hb
  have KS := HS.out.below hb
  have HB2 := Lib.hid hb
  clear hb ca cz cs HA HZ HS
  have HA := Lib.hid KA
  have HZ := Lib.hid KZ
  have HS := Lib.hid KS
  clear KA KZ KS
  have ca := HA.out.cell
  have cz := HZ.out.cell
  have cs := HS.out.cell
  go_wp2_with fail
  refine (Store_no _ _ (Or.inr ⟨_, rfl, HZ.out⟩) _ _ _).mono ?_
  rintro e w1 ⟨rfl, rfl⟩
  go_wp2_with fail
  refine (Put_no _ _ (Or.inr ⟨_, rfl, HZ.out⟩) _ _ _ _ hn).mono ?_
  rintro e w1 ⟨rfl, rfl⟩
  go_wp2_with fail
  refine (Len_no _ _ (Or.inr ⟨_, rfl, HZ.out⟩)).mono ?_
  rintro e w1 ⟨rfl, rfl⟩
  go_wp2_with fail
  refine (Clone_no _ _ (Or.inr ⟨_, rfl, HZ.out⟩)).mono ?_
  rintro e w1 ⟨rfl, rfl⟩
  go_wp2_with fail
  rw [rounds_succ]
  go_wp2_with fail
  refine (postbaglaw05_lives.c _).mono ?_
  rintro e w1 ⟨rfl, hb⟩
  have HB3 := Lib.hid hb
  clear hb ca cz cs HA HZ HS
  go_wp2_with fail
  go_ret
  have b0 : Below w.heap.size w X := new3d HX.out
  have b1 := b0.trans (HB1.out.mono b0.size)
  have b2 := b1.trans (HB2.out.mono b1.size)
  exact ⟨rfl, b2.trans (HB3.out.mono b2.size)⟩


end Go.Proofs.Ytkdgkoedhfmonaa.PAll
