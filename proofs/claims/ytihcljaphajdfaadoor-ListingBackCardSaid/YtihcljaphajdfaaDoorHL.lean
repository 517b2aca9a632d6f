/- DERIVED. DERIVED. Unlike instructions that may be have unlike lines. -/
import Derived.Test.YtihcljaphajdfaaDoorProg
import Derived.Test.YtihcljaphajdfaaDoorMBits
import Derived.Test.YtihcljaphajdfaaDoorMWalk
import Derived.Test.YtihcljaphajdfaaDoorMTab
import Derived.Test.YtihcljaphajdfaaDoorMInst
import Derived.Test.YtihcljaphajdfaaDoorMDec
import Derived.Test.YtihcljaphajdfaaDoorMDec2
import Derived.Test.YtihcljaphajdfaaDoorMQTail
import Derived.Test.YtihcljaphajdfaaDoorMArg
import Derived.Test.YtihcljaphajdfaaDoorMRow
import Derived.Test.YtihcljaphajdfaaDoorMOpen
import Derived.Test.YtihcljaphajdfaaDoorMPart
import Derived.Test.YtihcljaphajdfaaDoorMStore
import Derived.Test.YtihcljaphajdfaaDoorMReg
import Derived.Test.YtihcljaphajdfaaDoorHK
import Derived.Test.YtihcljaphajdfaaDoorPAllx3
import Derived.Test.YtihcljaphajdfaaDoorPAllx4
import Derived.Test.YtihcljaphajdfaaDoorPAllx6
import Derived.Test.YtihcljaphajdfaaDoorPAllx9
import Derived.Test.YtihcljaphajdfaaDoorPAllx11
import Derived.Below
import Derived.Deep.Draws
import Derived.Deep.AppendLies
import Derived.Maps.AppendAt
import Derived.OwnWalk
import Derived.Laws.BytesArg
import Derived.Laws.MakeOwn
import Derived.Laws.OwnMore
import Derived.Deep.OwnRows
import Derived.Tactics
import Derived.Lib.ConvBytes
import Derived.Laws.Slices
import Derived.WalkKit
import Derived.KernelRfl
import Derived.RowKit3
import Derived.Deep.LoopGhost
import Derived.Deep.QuietTactic
import Derived.BigQuiet
import Derived.WideLaws
import Derived.Deep.DeepCutAuto
import Derived.Deep.CutBlock
import Derived.Deep.RegionHeld3
import Derived.Laws.Rows
import Derived.Lib.AppendStr
import Derived.ArgAppend
import Derived.Laws.IdiomCopy
import Derived.OrdersHeld
import Derived.Laws.BitsLemmas
import Derived.Laws.Bits64
import Derived.RowKit
import Derived.Outline
import Derived.Handy
import Derived.Lib.Hide
import Derived.Deep.Light
import Derived.Laws.CopyOwn
import Derived.Lib.ItoaLen
import Derived.Deep.CutRange
import Derived.StillTail
import Derived.Shelf.RegionOpen
import Derived.Lib.QuietBelow
import Derived.Lib.AppendIntMem
import Derived.Laws.AppendOwnNone
import Derived.Shelf.Strings.Prefix
import Derived.Shelf.Strings.Split
import Derived.Shelf.Strings.Cut
import Derived.Shelf.Strings.Builder1
import Derived.Shelf.Strconv.AtoiAll
import Derived.Shelf.Strconv.Itoa3
import Derived.Ground.NamesProg
import Derived.Lib.AtoiTie
import Derived.Lib.AtoiErrMem
import Derived.Shelf.Vars
namespace Go.Proofs.YtihcljaphajdfaaDoor.Hand
open Go Go.RowKit Go.Proofs.YtihcljaphajdfaaDoor.M Go.Proofs.YtihcljaphajdfaaDoor.PAll Go.Proofs.YtihcljaphajdfaaDoorW.PrintWords
set_option linter.unusedVariables false
set_option linter.unusedSimpArgs false
theorem dec_mem (u : Nat) : ∀ c ∈ Lib.decDigits u, 48 ≤ c.toNat ∧ c.toNat ≤ 57 := by
  induction u using Nat.strongRecOn with
  | ind u ih =>
    intro c hc
    unfold Lib.decDigits at hc
    split at hc
    · rename_i h
      rw [List.mem_singleton] at hc
      subst hc
      rw [UInt8.toNat_ofNat']
      omega
    · rename_i h
      rw [List.mem_append] at hc
      rcases hc with hc | hc
      · exact ih _ (by omega) c hc
      · rw [List.mem_singleton] at hc
        subst hc
        rw [UInt8.toNat_ofNat']
        omega
theorem dec_inj (u : Nat) : ∀ v, Lib.decDigits u = Lib.decDigits v → u = v := by
  induction u using Nat.strongRecOn with
  | ind u ih =>
    intro v h
    have ne : ∀ n, Lib.decDigits n ≠ [] := by
      intro n; unfold Lib.decDigits; split <;> simp
    unfold Lib.decDigits at h
    split at h <;> split at h
    · rw [List.cons.injEq] at h
      have h2 := congrArg UInt8.toNat h.1
      rw [UInt8.toNat_ofNat', UInt8.toNat_ofNat'] at h2
      omega
    · have h2 := congrArg List.length h
      have h3 := List.length_pos_iff.2 (ne (v / 10))
      rw [List.length_append, List.length_singleton, List.length_singleton] at h2; omega
    · have h2 := congrArg List.length h
      have h3 := List.length_pos_iff.2 (ne (u / 10))
      rw [List.length_append, List.length_singleton, List.length_singleton] at h2; omega
    · have h2 := List.append_inj' h rfl
      have h3 := ih _ (by omega) _ h2.1
      have h4 := congrArg UInt8.toNat (List.cons.inj h2.2).1
      rw [UInt8.toNat_ofNat', UInt8.toNat_ofNat'] at h4
      omega
theorem itoa_inj {a b : Int} (h : Lib.itoa a = Lib.itoa b) : a = b := by
  have head : ∀ u v, (45 : UInt8) :: Lib.decDigits u ≠ Lib.decDigits v := by
    intro u v e
    have := dec_mem v 45 (by rw [← e]; exact List.mem_cons_self)
    exact absurd this.1 (by decide)
  unfold Lib.itoa at h
  split at h <;> split at h
  · have := dec_inj _ _ (List.cons.inj h).2; omega
  · exact absurd h (head _ _)
  · exact absurd h.symm (head _ _)
  · have := dec_inj _ _ h; omega
theorem itoa_plain (a : Int) : ∀ c ∈ Lib.itoa a, c ≠ 32 ∧ c ≠ 10 := by
  intro c hc
  unfold Lib.itoa at hc
  split at hc
  · rw [List.mem_cons] at hc
    rcases hc with rfl | hc
    · decide
    · have := dec_mem _ c hc
      constructor <;> (rintro rfl; exact absurd this.1 (by decide))
  · have := dec_mem _ c hc
    constructor <;> (rintro rfl; exact absurd this.1 (by decide))
/-- The word ahead of the first blank. -/
theorem word_split {a b c d : List UInt8} (ha : ∀ x ∈ a, x ≠ 32) (hb : ∀ x ∈ b, x ≠ 32) (hc : c = [] ∨ ∃ t, c = 32 :: t) (hd : d = [] ∨ ∃ t, d = 32 :: t) (h : a ++ c = b ++ d) : a = b ∧ c = d := by
  induction a generalizing b with
  | nil =>
    cases b with
    | nil => exact ⟨rfl, h⟩
    | cons x b =>
      rw [List.nil_append] at h
      rcases hc with rfl | ⟨t, rfl⟩
      · cases h
      · rw [List.cons_append, List.cons.injEq] at h
        exact absurd h.1.symm (hb x List.mem_cons_self)
  | cons y a ih =>
    cases b with
    | nil =>
      rw [List.nil_append] at h
      rcases hd with rfl | ⟨t, rfl⟩
      · cases h
      · rw [List.cons_append, List.cons.injEq] at h
        exact absurd h.1 (ha y List.mem_cons_self)
    | cons x b =>
      rw [List.cons_append, List.cons_append, List.cons.injEq] at h
      obtain ⟨h1, h2⟩ := ih (fun z hz => ha z (List.mem_cons_of_mem _ hz)) (fun z hz => hb z (List.mem_cons_of_mem _ hz)) h.2
      exact ⟨by rw [h.1, h1], h2⟩
def headL (op : Int) (aq rl : Bool) : List UInt8 := nameL op ++ sufL aq rl
def heads : List (List UInt8) := (List.range 87).flatMap fun (n : Nat) => [headL ((n : Int) + 1) false false, headL ((n : Int) + 1) false true, headL ((n : Int) + 1) true false, headL ((n : Int) + 1) true true]
theorem heads_len : heads.length = 348 := by decide +kernel
theorem heads_nodup : heads.Nodup := by decide +kernel
theorem heads_plain : ∀ l ∈ heads, l ≠ [] ∧ ∀ x ∈ l, x ≠ 32 ∧ x ≠ 10 := by decide +kernel
def headN (op : Int) (aq rl : Bool) : Nat := 4 * (op - 1).toNat + (if aq then 2 else 0) + (if rl then 1 else 0)
theorem heads_at (op : Int) (aq rl : Bool) (h1 : 1 ≤ op) (h2 : op ≤ 87) : heads[headN op aq rl]? = some (headL op aq rl) := by
  have : ∀ n : Nat, n < 87 → ∀ aq rl : Bool, heads[headN ((n : Int) + 1) aq rl]? = some (headL ((n : Int) + 1) aq rl) := by decide +kernel
  have h := this (op - 1).toNat (by omega) aq rl
  rwa [show (((op - 1).toNat : Nat) : Int) + 1 = op by omega] at h
theorem head_inj {op op' : Int} {aq rl aq' rl' : Bool} (h1 : 1 ≤ op) (h2 : op ≤ 87) (h3 : 1 ≤ op') (h4 : op' ≤ 87) (h : headL op aq rl = headL op' aq' rl') : op = op' ∧ aq = aq' ∧ rl = rl' := by
  have e1 := heads_at op aq rl h1 h2
  have e2 := heads_at op' aq' rl' h3 h4
  rw [← h] at e2
  have hlt : headN op aq rl < heads.length := (List.getElem?_eq_some_iff.1 e1).1
  have hN := (List.getElem?_inj hlt heads_nodup).1 (e1.trans e2.symm)
  unfold headN at hN
  cases aq <;> cases rl <;> cases aq' <;> cases rl' <;> simp at hN ⊢ <;> omega
theorem head_plain (op : Int) (aq rl : Bool) (h1 : 1 ≤ op) (h2 : op ≤ 87) : headL op aq rl ≠ [] ∧ ∀ x ∈ headL op aq rl, x ≠ 32 ∧ x ≠ 10 :=
  heads_plain _ (List.mem_of_getElem? (heads_at op aq rl h1 h2))
theorem fld_form (b : Bool) (h : List UInt8) (n : Int) (r : List UInt8) (hr : r = [] ∨ ∃ t, r = 32 :: t) : fldL b (32 :: h) n ++ r = [] ∨ ∃ t, fldL b (32 :: h) n ++ r = 32 :: t := by
  cases b
  · exact hr
  · exact .inr ⟨h ++ Lib.itoa n ++ r, by unfold fldL; simp⟩
theorem fld_split {b : Bool} {h : List UInt8} (hh : ∀ x ∈ h, x ≠ 32) {m n : Int} {r r' : List UInt8} (hr : r = [] ∨ ∃ t, r = 32 :: t) (hr' : r' = [] ∨ ∃ t, r' = 32 :: t) (e : fldL b (32 :: h) m ++ r = fldL b (32 :: h) n ++ r') : (b = true → m = n) ∧ r = r' := by
  cases b
  · exact ⟨fun h => (by cases h), e⟩
  · unfold fldL at e
    rw [if_pos rfl, if_pos rfl] at e
    simp only [List.cons_append, List.cons.injEq, true_and] at e
    have pl : ∀ k : Int, ∀ x ∈ h ++ Lib.itoa k, x ≠ 32 := by
      intro k x hx
      rw [List.mem_append] at hx
      rcases hx with hx | hx
      · exact hh x hx
      · exact (itoa_plain k x hx).1
    obtain ⟨h1, h2⟩ := word_split (pl m) (pl n) hr hr' e
    exact ⟨fun _ => itoa_inj (List.append_cancel_left h1), h2⟩
theorem textL_good (i : Ins) (h : i.good = true) : textL i = headL i.op i.aq i.rl ++ (fldL (hasRd (formOf i.op)) [32, 120] i.rd ++ (fldL (hasRs1 (formOf i.op)) [32, 120] i.rs1 ++ (fldL (hasRs2 (formOf i.op)) [32, 120] i.rs2 ++ (fldL (hasImm (formOf i.op)) [32] i.imm ++ [])))) := by
  unfold textL headL
  rw [if_pos h]
  simp only [List.append_assoc, List.append_nil]
theorem reg_no {x : Int} (h : regOf x false = true) : x = 0 := by simpa [regOf] using h
theorem imm_no {f x : Int} (hf : hasImm f = false) (h : immOf f x = true) : x = 0 := by
  have hn := of_decide_eq_false hf
  unfold immOf at h
  rw [if_neg (fun e => hn (by omega)), if_neg (fun e => hn (by omega)), if_neg (fun e => hn (by omega)), if_neg (fun e => hn (by omega)), if_neg (fun e => hn (by omega)), if_neg (fun e => hn (by omega)), if_neg (fun e => hn (by omega))] at h
  simpa using h
theorem good_no {i : Ins} (h : i.good = true) : (hasRd (formOf i.op) = false → i.rd = 0) ∧ (hasRs1 (formOf i.op) = false → i.rs1 = 0) ∧ (hasRs2 (formOf i.op) = false → i.rs2 = 0) ∧ (hasImm (formOf i.op) = false → i.imm = 0) := by
  unfold Ins.good goodOf at h
  simp only [Bool.and_eq_true] at h
  obtain ⟨_, h1, h2, h3, h4, _⟩ := h
  refine ⟨fun e => ?_, fun e => ?_, fun e => ?_, fun e => imm_no e h4⟩
  · rw [e] at h1; exact reg_no h1
  · rw [e] at h2; exact reg_no h2
  · rw [e] at h3; exact reg_no h3
/-- Unlike instructions that may be have unlike lines. -/
theorem textL_inj {i j : Ins} (hi : i.good = true) (hj : j.good = true) (h : textL i = textL j) : i = j := by
  obtain ⟨a1, a2⟩ := good_range i hi
  obtain ⟨b1, b2⟩ := good_range j hj
  have ni := good_no hi
  have nj := good_no hj
  rw [textL_good i hi, textL_good j hj] at h
  have t4 : ∀ (b : Bool) (n : Int), fldL b [32] n ++ [] = [] ∨ ∃ t, fldL b [32] n ++ [] = 32 :: t := fun b n => fld_form b [] n [] (.inl rfl)
  have t3 := fun (b b' : Bool) (m n : Int) => fld_form b [120] m _ (t4 b' n)
  have t2 := fun (a b b' : Bool) (l m n : Int) => fld_form a [120] l _ (t3 b b' m n)
  have t1 := fun (c a b b' : Bool) (k l m n : Int) => fld_form c [120] k _ (t2 a b b' l m n)
  obtain ⟨e0, h⟩ := word_split (fun x hx => ((head_plain i.op i.aq i.rl a1 a2).2 x hx).1) (fun x hx => ((head_plain j.op j.aq j.rl b1 b2).2 x hx).1) (t1 _ _ _ _ _ _ _ _) (t1 _ _ _ _ _ _ _ _) h
  obtain ⟨o1, o2, o3⟩ := head_inj a1 a2 b1 b2 e0
  rw [← o1] at h nj
  have px : ∀ x ∈ ([120] : List UInt8), x ≠ 32 := by decide
  obtain ⟨f1, h⟩ := fld_split px (t2 _ _ _ _ _ _) (t2 _ _ _ _ _ _) h
  obtain ⟨f2, h⟩ := fld_split px (t3 _ _ _ _) (t3 _ _ _ _) h
  obtain ⟨f3, h⟩ := fld_split px (t4 _ _) (t4 _ _) h
  obtain ⟨f4, _⟩ := fld_split (h := []) (fun x hx => by cases hx) (.inl rfl) (.inl rfl) h
  have w : ∀ (b : Bool) (x y : Int), (b = true → x = y) → (b = false → x = 0) → (b = false → y = 0) → x = y := by
    intro b x y h1 h2 h3
    cases b
    · rw [h2 rfl, h3 rfl]
    · exact h1 rfl
  obtain ⟨op, rd, rs1, rs2, imm, aq, rl⟩ := i
  obtain ⟨op', rd', rs1', rs2', imm', aq', rl'⟩ := j
  dsimp only at *
  rw [o1, o2, o3, w _ _ _ f1 ni.1 nj.1, w _ _ _ f2 ni.2.1 nj.2.1, w _ _ _ f3 ni.2.2.1 nj.2.2.1, w _ _ _ f4 ni.2.2.2 nj.2.2.2]
theorem textL_ne {i : Ins} (h : i.good = true) : textL i ≠ [] := by
  obtain ⟨a1, a2⟩ := good_range i h
  rw [textL_good i h]
  intro e
  exact (head_plain i.op i.aq i.rl a1 a2).1 (List.append_eq_nil_iff.1 e).1
theorem textL_line {i : Ins} (h : i.good = true) : ∀ x ∈ textL i, x ≠ 10 := by
  obtain ⟨a1, a2⟩ := good_range i h
  have ff : ∀ (b : Bool) (h : List UInt8) (n : Int), (∀ x ∈ h, x ≠ 10) → ∀ x ∈ fldL b h n, x ≠ 10 := by
    intro b h n hh x hx
    cases b
    · cases hx
    · unfold fldL at hx
      rw [if_pos rfl, List.mem_append] at hx
      rcases hx with hx | hx
      · exact hh x hx
      · exact (itoa_plain n x hx).2
  rw [textL_good i h]
  intro x hx
  simp only [List.mem_append, List.not_mem_nil, or_false] at hx
  rcases hx with hx | hx | hx | hx | hx
  · exact ((head_plain i.op i.aq i.rl a1 a2).2 x hx).2
  · exact ff _ _ _ (by decide) x hx
  · exact ff _ _ _ (by decide) x hx
  · exact ff _ _ _ (by decide) x hx
  · exact ff _ _ _ (by decide) x hx
theorem textL_len (i : Ins) (hi : i.Ok) : (textL i).length < 1000 := by
  have l : ∀ n, I64 n → (Lib.itoa n).length ≤ 21 := fun n h => Lib.itoa_length_le n h.1 h.2
  have h1 := name_len i.op
  have h2 := suf_len i.aq i.rl
  have h3 := fld_len (hasRd (formOf i.op)) [32, 120] i.rd
  have h4 := fld_len (hasRs1 (formOf i.op)) [32, 120] i.rs1
  have h5 := fld_len (hasRs2 (formOf i.op)) [32, 120] i.rs2
  have h6 := fld_len (hasImm (formOf i.op)) [32] i.imm
  have l1 := l _ hi.rd
  have l2 := l _ hi.rs1
  have l3 := l _ hi.rs2
  have l4 := l _ hi.imm
  simp only [List.length_cons, List.length_nil] at h3 h4 h5 h6
  unfold textL
  split
  · simp only [List.length_append]; omega
  · exact Nat.zero_lt_succ _
end Go.Proofs.YtihcljaphajdfaaDoor.Hand
