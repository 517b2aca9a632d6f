/- DERIVED. DERIVED. Unlike instructions that may be have unlike lines. -/
import Derived.Test.YtihcljaphajdfaaGreatDoorProg
import Derived.Test.YtihcljaphajdfaaGreatDoorMBits
import Derived.Test.YtihcljaphajdfaaGreatDoorMWalk
import Derived.Test.YtihcljaphajdfaaGreatDoorMTab
import Derived.Test.YtihcljaphajdfaaGreatDoorMInst
import Derived.Test.YtihcljaphajdfaaGreatDoorMDec
import Derived.Test.YtihcljaphajdfaaGreatDoorMDec2
import Derived.Test.YtihcljaphajdfaaGreatDoorMQTail
import Derived.Test.YtihcljaphajdfaaGreatDoorMArg
import Derived.Test.YtihcljaphajdfaaGreatDoorMRow
import Derived.Test.YtihcljaphajdfaaGreatDoorMOpen
import Derived.Test.YtihcljaphajdfaaGreatDoorMPart
import Derived.Test.YtihcljaphajdfaaGreatDoorMStore
import Derived.Test.YtihcljaphajdfaaGreatDoorMReg
import Derived.Test.YtihcljaphajdfaaGreatDoorHJ
import Derived.Test.YtihcljaphajdfaaGreatDoorPAllx2
import Derived.Test.YtihcljaphajdfaaGreatDoorPAllx4
import Derived.Test.YtihcljaphajdfaaGreatDoorPAllx8
import Derived.Test.YtihcljaphajdfaaGreatDoorPAllx9
import Derived.Test.YtihcljaphajdfaaGreatDoorPAllx10
import Derived.Below
import Derived.Deep.Draws
import Derived.Deep.AppendLies
import Derived.Maps.AppendAt
import Derived.OwnWalk
import Derived.Laws.BytesArg
import Derived.Laws.MakeOwn
import Derived.Laws.OwnMore
import Derived.Deep.OwnRows
import Derived.Tactics
import Derived.Lib.ConvBytes
import Derived.Laws.Slices
import Derived.WalkKit
import Derived.KernelRfl
import Derived.RowKit3
import Derived.Deep.LoopGhost
import Derived.Deep.QuietTactic
import Derived.BigQuiet
import Derived.WideLaws
import Derived.Deep.DeepCutAuto
import Derived.Deep.CutBlock
import Derived.Deep.RegionHeld3
import Derived.Laws.Rows
import Derived.Lib.AppendStr
import Derived.ArgAppend
import Derived.Laws.IdiomCopy
import Derived.OrdersHeld
import Derived.Laws.BitsLemmas
import Derived.Laws.Bits64
import Derived.RowKit
import Derived.Outline
import Derived.Handy
import Derived.Lib.Hide
import Derived.Deep.Light
import Derived.Laws.CopyOwn
import Derived.Lib.ItoaLen
import Derived.Deep.CutRange
import Derived.StillTail
import Derived.Shelf.RegionOpen
import Derived.Lib.QuietBelow
import Derived.Lib.AppendIntMem
import Derived.Laws.AppendOwnNone
import Derived.Shelf.Strings.Prefix
import Derived.Shelf.Strings.Split
import Derived.Shelf.Strings.Cut
import Derived.Shelf.Strings.Builder1
import Derived.Shelf.Strconv.AtoiAll
import Derived.Shelf.Strconv.Itoa3
import Derived.Ground.NamesProg
import Derived.Lib.AtoiTie
import Derived.Lib.AtoiErrMem
import Derived.Shelf.Vars
namespace Go.Proofs.YtihcljaphajdfaaGreatDoor.Hand
open Go Go.RowKit Go.Proofs.YtihcljaphajdfaaGreatDoor.M Go.Proofs.YtihcljaphajdfaaGreatDoor.PAll Go.Proofs.YtihcljaphajdfaaGreatDoorW.PrintWords
set_option linter.unusedVariables false
set_option linter.unusedSimpArgs false
theorem dec_mem (u : Nat) : ∀ c ∈ Lib.decDigits u, 48 ≤ c.toNat ∧ c.toNat ≤ 57 := by
  induction u using Nat.strongRecOn with
  | ind u ih =>
    intro c hc
    unfold Lib.decDigits at hc
    split at hc
    · rename_i h
      rw [List.mem_singleton] at hc
      subst hc
      rw [UInt8.toNat_ofNat']
      omega
    · rename_i h
      rw [List.mem_append] at hc
      rcases hc with hc | hc
      · exact ih _ (by omega) c hc
      · rw [List.mem_singleton] at hc
        subst hc
        rw [UInt8.toNat_ofNat']
        omega
theorem dec_inj (u : Nat) : ∀ v, Lib.decDigits u = Lib.decDigits v → u = v := by
  induction u using Nat.strongRecOn with
  | ind u ih =>
    intro v h
    have ne : ∀ n, Lib.decDigits n ≠ [] := by
      intro n; unfold Lib.decDigits; split <;> simp
    unfold Lib.decDigits at h
    split at h <;> split at h
    · rw [List.cons.injEq] at h
      have h2 := congrArg UInt8.toNat h.1
      rw [UInt8.toNat_ofNat', UInt8.toNat_ofNat'] at h2
      omega
    · have h2 := congrArg List.length h
      have h3 := List.length_pos_iff.2 (ne (v / 10))
      rw [List.length_append, List.length_singleton, List.length_singleton] at h2; omega
    · have h2 := congrArg List.length h
      have h3 := List.length_pos_iff.2 (ne (u / 10))
      rw [List.length_append, List.length_singleton, List.length_singleton] at h2; omega
    · have h2 := List.append_inj' h rfl
      have h3 := ih _ (by omega) _ h2.1
      have h4 := congrArg UInt8.toNat (List.cons.inj h2.2).1
      rw [UInt8.toNat_ofNat', UInt8.toNat_ofNat'] at h4
      omega
theorem itoa_inj {a b : Int} (h : Lib.itoa a = Lib.itoa b) : a = b := by
  have head : ∀ u v, (45 : UInt8) :: Lib.decDigits u ≠ Lib.decDigits v := by
    intro u v e
    have := dec_mem v 45 (by rw [← e]; exact List.mem_cons_self)
    exact absurd this.1 (by decide)
  unfold Lib.itoa at h
  split at h <;> split at h
  · have := dec_inj _ _ (List.cons.inj h).2; omega
  · exact absurd h (head _ _)
  · exact absurd h.symm (head _ _)
  · have := dec_inj _ _ h; omega
theorem itoa_plain (a : Int) : ∀ c ∈ Lib.itoa a, c ≠ 32 ∧ c ≠ 10 := by
  intro c hc
  unfold Lib.itoa at hc
  split at hc
  · rw [List.mem_cons] at hc
    rcases hc with rfl | hc
    · decide
    · have := dec_mem _ c hc
      constructor <;> (rintro rfl; exact absurd this.1 (by decide))
  · have := dec_mem _ c hc
    constructor <;> (rintro rfl; exact absurd this.1 (by decide))
/-- The word ahead of the first blank. -/
theorem word_split {a b c d : List UInt8} (ha : ∀ x ∈ a, x ≠ 32) (hb : ∀ x ∈ b, x ≠ 32) (hc : c = [] ∨ ∃ t, c = 32 :: t) (hd : d = [] ∨ ∃ t, d = 32 :: t) (h : a ++ c = b ++ d) : a = b ∧ c = d := by
  induction a generalizing b with
  | nil =>
    cases b with
    | nil => exact ⟨rfl, h⟩
    | cons x b =>
      rw [List.nil_append] at h
      rcases hc with rfl | ⟨t, rfl⟩
      · cases h
      · rw [List.cons_append, List.cons.injEq] at h
        exact absurd h.1.symm (hb x List.mem_cons_self)
  | cons y a ih =>
    cases b with
    | nil =>
      rw [List.nil_append] at h
      rcases hd with rfl | ⟨t, rfl⟩
      · cases h
      · rw [List.cons_append, List.cons.injEq] at h
        exact absurd h.1 (ha y List.mem_cons_self)
    | cons x b =>
      rw [List.cons_append, List.cons_append, List.cons.injEq] at h
      obtain ⟨h1, h2⟩ := ih (fun z hz => ha z (List.mem_cons_of_mem _ hz)) (fun z hz => hb z (List.mem_cons_of_mem _ hz)) h.2
      exact ⟨by rw [h.1, h1], h2⟩
def headL (op : Int) (aq rl : Bool) : List UInt8 := nameL op ++ sufL aq rl
def heads : List (List UInt8) := (List.range 87).flatMap fun (n : Nat) => [headL ((n : Int) + 1) false false, headL ((n : Int) + 1) false true, headL ((n : Int) + 1) true false, headL ((n : Int) + 1) true true]
theorem heads_len : heads.length = 348 := by decide +kernel
theorem heads_nodup : heads.Nodup := by decide +kernel
theorem heads_plain : ∀ l ∈ heads, l ≠ [] ∧ ∀ x ∈ l, x ≠ 32 ∧ x ≠ 10 := by decide +kernel
def headN (op : Int) (aq rl : Bool) : Nat := 4 * (op - 1).toNat + (if aq then 2 else 0) + (if rl then 1 else 0)
theorem heads_at (op : Int) (aq rl : Bool) (h1 : 1 ≤ op) (h2 : op ≤ 87) : heads[headN op aq rl]? = some (headL op aq rl) := by
  have : ∀ n : Nat, n < 87 → ∀ aq rl : Bool, heads[headN ((n : Int) + 1) aq rl]? = some (headL ((n : Int) + 1) aq rl) := by decide +kernel
  have h := this (op - 1).toNat (by omega) aq rl
  rwa [show (((op - 1).toNat : Nat) : Int) + 1 = op by omega] at h
theorem head_inj {op op' : Int} {aq rl aq' rl' : Bool} (h1 : 1 ≤ op) (h2 : op ≤ 87) (h3 : 1 ≤ op') (h4 : op' ≤ 87) (h : headL op aq rl = headL op' aq' rl') : op = op' ∧ aq = aq' ∧ rl = rl' := by
  have e1 := heads_at op aq rl h1 h2
  have e2 := heads_at op' aq' rl' h3 h4
  rw [← h] at e2
  have hlt : headN op aq rl < heads.length := (List.getElem?_eq_some_iff.1 e1).1
  have hN := (List.getElem?_inj hlt heads_nodup).1 (e1.trans e2.symm)
  unfold headN at hN
  cases aq <;> cases rl <;> cases aq' <;> cases rl' <;> simp at hN ⊢ <;> omega
theorem head_plain (op : Int) (aq rl : Bool) (h1 : 1 ≤ op) (h2 : op ≤ 87) : headL op aq rl ≠ [] ∧ ∀ x ∈ headL op aq rl, x ≠ 32 ∧ x ≠ 10 :=
  heads_plain _ (List.mem_of_getElem? (heads_at op aq rl h1 h2))
theorem fld_form (b : Bool) (h : List UInt8) (n : Int) (r : List UInt8) (hr : r = [] ∨ ∃ t, r = 32 :: t) : fldL b (32 :: h) n ++ r = [] ∨ ∃ t, fldL b (32 :: h) n ++ r = 32 :: t := by
  cases b
  · exact hr
  · exact .inr ⟨h ++ Lib.itoa n ++ r, by unfold fldL; simp⟩
theorem fld_split {b : Bool} {h : List UInt8} (hh : ∀ x ∈ h, x ≠ 32) {m n : Int} {r r' : List UInt8} (hr : r = [] ∨ ∃ t, r = 32 :: t) (hr' : r' = [] ∨ ∃ t, r' = 32 :: t) (e : fldL b (32 :: h) m ++ r = fldL b (32 :: h) n ++ r') : (b = true → m = n) ∧ r = r' := by
  cases b
  · exact ⟨fun h => (by cases h), e⟩
  · unfold fldL at e
    rw [if_pos rfl, if_pos rfl] at e
    simp only [List.cons_append, List.cons.injEq, true_and] at e
    have pl : ∀ k : Int, ∀ x ∈ h ++ Lib.itoa k, x ≠ 32 := by
      intro k x hx
      rw [List.mem_append] at hx
      rcases hx with hx | hx
      · exact hh x hx
      · exact (itoa_plain k x hx).1
    obtain ⟨h1, h2⟩ := word_split (pl m) (pl n) hr hr' e
    exact ⟨fun _ => itoa_inj (List.append_cancel_left h1), h2⟩
theorem textL_good (i : Ins) (h : i.good = true) : textL i = headL i.op i.aq i.rl ++ (fldL (hasRd (formOf i.op)) [32, 120] i.rd ++ (fldL (hasRs1 (formOf i.op)) [32, 120] i.rs1 ++ (fldL (hasRs2 (formOf i.op)) [32, 120] i.rs2 ++ (fldL (hasImm (formOf i.op)) [32] i.imm ++ [])))) := by
  unfold textL headL
  rw [if_pos h]
  simp only [List.append_assoc, List.append_nil]
theorem reg_no {x : Int} (h : regOf x false = true) : x = 0 := by simpa [regOf] using h
theorem imm_no {f x : Int} (hf : hasImm f = false) (h : immOf f x = true) : x = 0 := by
  have hn := of_decide_eq_false hf
  unfold immOf at h
  rw [if_neg (fun e => hn (by omega)), if_neg (fun e => hn (by omega)), if_neg (fun e => hn (by omega)), if_neg (fun e => hn (by omega)), if_neg (fun e => hn (by omega)), if_neg (fun e => hn (by omega)), if_neg (fun e => hn (by omega))] at h
  simpa using h
theorem good_no {i : Ins} (h : i.good = true) : (hasRd (formOf i.op) = false → i.rd = 0) ∧ (hasRs1 (formOf i.op) = false → i.rs1 = 0) ∧ (hasRs2 (formOf i.op) = false → i.rs2 = 0) ∧ (hasImm (formOf i.op) = false → i.imm = 0) := by
  unfold Ins.good goodOf at h
  simp only [Bool.and_eq_true] at h
  obtain ⟨_, h1, h2, h3, h4, _⟩ := h
  refine ⟨fun e => ?_, fun e => ?_, fun e => ?_, fun e => imm_no e h4⟩
  · rw [e] at h1; exact reg_no h1
  · rw [e] at h2; exact reg_no h2
  · rw [e] at h3; exact reg_no h3
/-- Unlike instructions that may be have unlike lines. -/
theorem textL_inj {i j : Ins} (hi : i.good = true) (hj : j.good = true) (h : textL i = textL j) : i = j := by
  obtain ⟨a1, a2⟩ := good_range i hi
  obtain ⟨b1, b2⟩ := good_range j hj
  have ni := good_no hi
  have nj := good_no hj
  rw [textL_good i hi, textL_good j hj] at h
  have t4 : ∀ (b : Bool) (n : Int), fldL b [32] n ++ [] = [] ∨ ∃ t, fldL b [32] n ++ [] = 32 :: t := fun b n => fld_form b [] n [] (.inl rfl)
  have t3 := fun (b b' : Bool) (m n : Int) => fld_form b [120] m _ (t4 b' n)
  have t2 := fun (a b b' : Bool) (l m n : Int) => fld_form a [120] l _ (t3 b b' m n)
  have t1 := fun (c a b b' : Bool) (k l m n : Int) => fld_form c [120] k _ (t2 a b b' l m n)
  obtain ⟨e0, h⟩ := word_split (fun x hx => ((head_plain i.op i.aq i.rl a1 a2).2 x hx).1) (fun x hx => ((head_plain j.op j.aq j.rl b1 b2).2 x hx).1) (t1 _ _ _ _ _ _ _ _) (t1 _ _ _ _ _ _ _ _) h
  obtain ⟨o1, o2, o3⟩ := head_inj a1 a2 b1 b2 e0
  rw [← o1] at h nj
  have px : ∀ x ∈ ([120] : List UInt8), x ≠ 32 := by decide
  obtain ⟨f1, h⟩ := fld_split px (t2 _ _ _ _ _ _) (t2 _ _ _ _ _ _) h
  obtain ⟨f2, h⟩ := fld_split px (t3 _ _ _ _) (t3 _ _ _ _) h
  obtain ⟨f3, h⟩ := fld_split px (t4 _ _) (t4 _ _) h
  obtain ⟨f4, _⟩ := fld_split (h := []) (fun x hx => by cases hx) (.inl rfl) (.inl rfl) h
  have w : ∀ (b : Bool) (x y : Int), (b = true → x = y) → (b = false → x = 0) → (b = false → y = 0) → x = y := by
    intro b x y h1 h2 h3
    cases b
    · rw [h2 rfl, h3 rfl]
    · exact h1 rfl
  obtain ⟨op, rd, rs1, rs2, imm, aq, rl⟩ := i
  obtain ⟨op', rd', rs1', rs2', imm', aq', rl'⟩ := j
  dsimp only at *
  rw [o1, o2, o3, w _ _ _ f1 ni.1 nj.1, w _ _ _ f2 ni.2.1 nj.2.1, w _ _ _ f3 ni.2.2.1 nj.2.2.1, w _ _ _ f4 ni.2.2.2 nj.2.2.2]
theorem textL_ne {i : Ins} (h : i.good = true) : textL i ≠ [] := by
  obtain ⟨a1, a2⟩ := good_range i h
  rw [textL_good i h]
  intro e
  exact (head_plain i.op i.aq i.rl a1 a2).1 (List.append_eq_nil_iff.1 e).1
theorem textL_line {i : Ins} (h : i.good = true) : ∀ x ∈ textL i, x ≠ 10 := by
  obtain ⟨a1, a2⟩ := good_range i h
  have ff : ∀ (b : Bool) (h : List UInt8) (n : Int), (∀ x ∈ h, x ≠ 10) → ∀ x ∈ fldL b h n, x ≠ 10 := by
    intro b h n hh x hx
    cases b
    · cases hx
    · unfold fldL at hx
      rw [if_pos rfl, List.mem_append] at hx
      rcases hx with hx | hx
      · exact hh x hx
      · exact (itoa_plain n x hx).2
  rw [textL_good i h]
  intro x hx
  simp only [List.mem_append, List.not_mem_nil, or_false] at hx
  rcases hx with hx | hx | hx | hx | hx
  · exact ((head_plain i.op i.aq i.rl a1 a2).2 x hx).2
  · exact ff _ _ _ (by decide) x hx
  · exact ff _ _ _ (by decide) x hx
  · exact ff _ _ _ (by decide) x hx
  · exact ff _ _ _ (by decide) x hx
theorem textL_len (i : Ins) (hi : i.Ok) : (textL i).length < 1000 := by
  have l : ∀ n, I64 n → (Lib.itoa n).length ≤ 21 := fun n h => Lib.itoa_length_le n h.1 h.2
  have h1 := name_len i.op
  have h2 := suf_len i.aq i.rl
  have h3 := fld_len (hasRd (formOf i.op)) [32, 120] i.rd
  have h4 := fld_len (hasRs1 (formOf i.op)) [32, 120] i.rs1
  have h5 := fld_len (hasRs2 (formOf i.op)) [32, 120] i.rs2
  have h6 := fld_len (hasImm (formOf i.op)) [32] i.imm
  have l1 := l _ hi.rd
  have l2 := l _ hi.rs1
  have l3 := l _ hi.rs2
  have l4 := l _ hi.imm
  simp only [List.length_cons, List.length_nil] at h3 h4 h5 h6
  unfold textL
  split
  · simp only [List.length_append]; omega
  · exact Nat.zero_lt_succ _
section
/- DERIVED. A line's words; the line of an instruction that may be is read back. -/
/-- The parts between single blanks. -/
def spl : List UInt8 → List (List UInt8)
  | [] => [[]]
  | c :: r => if c = 32 then [] :: spl r else match spl r with
    | [] => [[c]]
    | h :: t => (c :: h) :: t
theorem spl_ne (l : List UInt8) : spl l ≠ [] := by
  cases l with
  | nil => simp [spl]
  | cons c r =>
    unfold spl
    split
    · simp
    · split <;> simp
theorem spl_blank (r : List UInt8) : spl (32 :: r) = [] :: spl r := by simp [spl]
theorem spl_other {c : UInt8} (h : c ≠ 32) {r a : List UInt8} {t : List (List UInt8)} (e : spl r = a :: t) : spl (c :: r) = (c :: a) :: t := by
  rw [spl, if_neg h, e]
theorem spl_plain : ∀ (a : List UInt8), (∀ x ∈ a, x ≠ 32) → spl a = [a]
  | [], _ => rfl
  | c :: r, h => spl_other (h c List.mem_cons_self) (spl_plain r fun x hx => h x (List.mem_cons_of_mem _ hx))
theorem spl_cons (r : List UInt8) : ∀ (a : List UInt8), (∀ x ∈ a, x ≠ 32) → spl (a ++ 32 :: r) = a :: spl r
  | [], _ => spl_blank r
  | c :: a, h => spl_other (h c List.mem_cons_self) (spl_cons r a fun x hx => h x (List.mem_cons_of_mem _ hx))
theorem occ_one (s : List UInt8) (i : Nat) : Lib.occAt s [32] i = true ↔ s[i]? = some 32 := by
  unfold Lib.occAt
  rw [← List.head?_drop]
  cases s.drop i with
  | nil => simp
  | cons c r => simp [List.isPrefixOf]; exact eq_comm
theorem plain_no {s : List UInt8} (h : Lib.index s [32] = -1) : ∀ x ∈ s, x ≠ 32 := by
  intro x hx e
  subst e
  obtain ⟨j, hj, e⟩ := List.getElem_of_mem hx
  rcases Lib.index_spec s [32] with ⟨_, h2⟩ | ⟨i, h1, _⟩
  · have h3 := h2 j (by omega)
    rw [(occ_one s j).2 (by rw [List.getElem?_eq_getElem hj, e])] at h3
    cases h3
  · omega
theorem first_blank {s : List UInt8} {i : Nat} (h : Lib.index s [32] = i) : s = s.take i ++ 32 :: s.drop (i + 1) ∧ ∀ x ∈ s.take i, x ≠ 32 := by
  rcases Lib.index_spec s [32] with ⟨h1, _⟩ | ⟨k, h1, h2, h3, h4⟩
  · omega
  · obtain rfl : k = i := by omega
    have h5 := (occ_one s k).1 h3
    obtain ⟨hk, h6⟩ := List.getElem?_eq_some_iff.1 h5
    refine ⟨?_, ?_⟩
    · conv => lhs; rw [← List.take_append_drop k s]
      rw [List.drop_eq_getElem_cons hk, h6]
    · intro x hx e
      subst e
      obtain ⟨j, hj, e⟩ := List.getElem_of_mem hx
      rw [List.length_take] at hj
      have h7 := h4 j (by omega)
      rw [List.getElem_take] at e
      rw [(occ_one s j).2 (by rw [List.getElem?_eq_getElem (by omega), e])] at h7
      cases h7
theorem splitK_spl : ∀ (k : Nat) (s : List UInt8), Lib.count s [32] = k → Lib.splitK [32] 0 k s = spl s := by
  intro k
  induction k with
  | zero =>
    intro s h
    rcases Lib.index_spec s [32] with ⟨h1, _⟩ | ⟨i, h1, _⟩
    · exact (spl_plain s (plain_no h1)).symm
    · rw [Lib.count_hit (by decide) h1] at h; omega
  | succ k ih =>
    intro s h
    rcases Lib.index_spec s [32] with ⟨h1, _⟩ | ⟨i, h1, _⟩
    · rw [Lib.count_miss h1] at h; omega
    · rw [Lib.count_hit (by decide) h1] at h
      obtain ⟨e, hp⟩ := first_blank h1
      unfold Lib.splitK
      rw [if_neg (by rw [h1]; simp), h1]
      conv => rhs; rw [e]
      rw [spl_cons _ _ hp]
      have e2 : ((i : Int)).toNat = i := by omega
      rw [e2]
      have e3 := ih (s.drop (i + [(32 : UInt8)].length)) (by omega)
      rw [e3]
      rfl
/-- A line's words. -/
theorem wordsL_spl (s : ByteArray) : (wordsL s).map (·.data.toList) = spl s.data.toList := by
  unfold wordsL
  rw [Lib.splitB_data]
  exact splitK_spl _ _ rfl
theorem dec_parse (u : Nat) : ∀ (r : List UInt8), u < 1000000000000000000 → Lib.parseUint10 0 (Lib.decDigits u ++ r) = Lib.parseUint10 u r := by
  induction u using Nat.strongRecOn with
  | ind u ih =>
    intro r hu
    unfold Lib.decDigits
    split
    · rename_i h
      rw [List.singleton_append]
      conv => lhs; unfold Lib.parseUint10
      have e : (UInt8.ofNat (48 + u)).toNat = 48 + u := by rw [UInt8.toNat_ofNat']; omega
      rw [e, if_pos (by omega), if_neg (by omega), if_neg (by omega)]
      congr 1; omega
    · rename_i h
      rw [List.append_assoc, ih (u / 10) (by omega) _ (by omega), List.singleton_append]
      conv => lhs; unfold Lib.parseUint10
      have e : (UInt8.ofNat (48 + u % 10)).toNat = 48 + u % 10 := by rw [UInt8.toNat_ofNat']; omega
      rw [e, if_pos (by omega), if_neg (by omega), if_neg (by omega)]
      congr 1; omega
theorem dec_ne (n : Nat) : Lib.decDigits n ≠ [] := by unfold Lib.decDigits; split <;> simp
theorem dec_mag (u : Nat) (hu : u < 1000000000000000000) : Lib.parseMag (Lib.decDigits u) = .ok u := by
  unfold Lib.parseMag
  rw [if_neg (dec_ne u)]
  have h := dec_parse u [] hu
  rw [List.append_nil] at h
  rw [h]; rfl
theorem atoi_itoa (n : Int) (h1 : -1000000000000000 ≤ n) (h2 : n ≤ 1000000000000000) : Lib.atoiAll (Lib.itoa n) = .ok n := by
  unfold Lib.itoa
  split
  · rename_i h
    rw [Lib.atoiAll_minus, dec_mag _ (by omega)]
    unfold Lib.signed
    dsimp only
    rw [if_neg (by omega)]
    congr 1; omega
  · rename_i h
    obtain ⟨c, r, e⟩ : ∃ c r, Lib.decDigits n.toNat = c :: r := List.exists_cons_of_ne_nil (dec_ne _)
    have hc := dec_mem n.toNat c (by rw [e]; exact List.mem_cons_self)
    rw [e, Lib.atoiAll_plain c r (by omega) (by omega), ← e, dec_mag _ (by omega)]
    unfold Lib.signless
    dsimp only
    rw [if_neg (by omega)]
    congr 1; omega
theorem atoiN_itoa (n : Int) (h1 : -1000000000000000 ≤ n) (h2 : n ≤ 1000000000000000) : atoiN (Lib.itoa n) = n := by
  unfold atoiN
  rw [atoi_itoa n h1 h2]
/-- What a word of a line stands for. -/
def wordZ (l : List UInt8) : Int := atoiN (Lib.trimPrefix l [120])
theorem wordZ_reg (n : Int) (h1 : -1000000000000000 ≤ n) (h2 : n ≤ 1000000000000000) : wordZ (120 :: Lib.itoa n) = n := by
  unfold wordZ Lib.trimPrefix Lib.hasPrefix
  rw [if_pos (by simp [List.isPrefixOf])]
  exact atoiN_itoa n h1 h2
theorem itoa_head (n : Int) : ∃ c r, Lib.itoa n = c :: r ∧ c ≠ 120 := by
  unfold Lib.itoa
  split
  · exact ⟨_, _, rfl, by decide⟩
  · obtain ⟨c, r, e⟩ : ∃ c r, Lib.decDigits n.toNat = c :: r := List.exists_cons_of_ne_nil (dec_ne _)
    have hc := dec_mem n.toNat c (by rw [e]; exact List.mem_cons_self)
    exact ⟨c, r, e, by rintro rfl; revert hc; decide⟩
theorem wordZ_imm (n : Int) (h1 : -1000000000000000 ≤ n) (h2 : n ≤ 1000000000000000) : wordZ (Lib.itoa n) = n := by
  obtain ⟨c, r, e, hc⟩ := itoa_head n
  have h : wordZ (Lib.itoa n) = atoiN (Lib.itoa n) := by
    unfold wordZ Lib.trimPrefix Lib.hasPrefix
    rw [if_neg (by rw [e]; simp [List.isPrefixOf, Ne.symm hc])]
  rw [h, atoiN_itoa n h1 h2]
/-- The words behind a line's first. -/
def fieldsL (i : Ins) : List (List UInt8) := (if hasRd (formOf i.op) then [120 :: Lib.itoa i.rd] else []) ++ ((if hasRs1 (formOf i.op) then [120 :: Lib.itoa i.rs1] else []) ++ ((if hasRs2 (formOf i.op) then [120 :: Lib.itoa i.rs2] else []) ++ (if hasImm (formOf i.op) then [Lib.itoa i.imm] else [])))
theorem spl_fields (a : List UInt8) (ha : ∀ x ∈ a, x ≠ 32) : ∀ (fs : List (List UInt8)), (∀ f ∈ fs, ∀ x ∈ f, x ≠ 32) → spl (a ++ fs.flatMap (fun f => 32 :: f)) = a :: fs := by
  intro fs
  induction fs generalizing a with
  | nil => intro _; rw [List.flatMap_nil, List.append_nil]; exact spl_plain a ha
  | cons f fs ih =>
    intro h
    rw [List.flatMap_cons, List.cons_append, spl_cons _ _ ha, ih f (h f List.mem_cons_self) fun g hg => h g (List.mem_cons_of_mem _ hg)]
theorem textL_fields (i : Ins) (h : i.good = true) : textL i = headL i.op i.aq i.rl ++ (fieldsL i).flatMap (fun f => 32 :: f) := by
  rw [textL_good i h]
  unfold fieldsL fldL
  cases hasRd (formOf i.op) <;> cases hasRs1 (formOf i.op) <;> cases hasRs2 (formOf i.op) <;> cases hasImm (formOf i.op) <;> simp
theorem fields_plain (i : Ins) : ∀ f ∈ fieldsL i, ∀ x ∈ f, x ≠ 32 := by
  have hz : ∀ (b : Bool) (n : Int), ∀ f ∈ (if b = true then [120 :: Lib.itoa n] else []), ∀ x ∈ f, x ≠ 32 := by
    intro b n f hf x hx
    cases b
    · cases hf
    · rw [if_pos rfl, List.mem_singleton] at hf
      subst hf
      rw [List.mem_cons] at hx
      rcases hx with rfl | hx
      · decide
      · exact (itoa_plain n x hx).1
  intro f hf
  unfold fieldsL at hf
  rw [List.mem_append, List.mem_append, List.mem_append] at hf
  rcases hf with hf | hf | hf | hf
  · exact hz _ _ f hf
  · exact hz _ _ f hf
  · exact hz _ _ f hf
  · intro x hx
    split at hf
    · rw [List.mem_singleton] at hf; subst hf; exact (itoa_plain _ x hx).1
    · cases hf
theorem spl_textL (i : Ins) (h : i.good = true) : spl (textL i) = headL i.op i.aq i.rl :: fieldsL i := by
  obtain ⟨a1, a2⟩ := good_range i h
  rw [textL_fields i h]
  exact spl_fields _ (fun x hx => ((head_plain i.op i.aq i.rl a1 a2).2 x hx).1) _ (fields_plain i)
theorem good_small {i : Ins} (h : i.good = true) : (0 ≤ i.rd ∧ i.rd ≤ 31) ∧ (0 ≤ i.rs1 ∧ i.rs1 ≤ 31) ∧ (0 ≤ i.rs2 ∧ i.rs2 ≤ 31) ∧ (-2147483648 ≤ i.imm ∧ i.imm ≤ 2147483648) := by
  unfold Ins.good goodOf at h
  simp only [Bool.and_eq_true] at h
  obtain ⟨_, h1, h2, h3, h4, _⟩ := h
  have hr : ∀ (b : Bool) (x : Int), regOf x b = true → 0 ≤ x ∧ x ≤ 31 := by
    intro b x hx
    cases b
    · have := reg_no hx; omega
    · unfold regOf at hx
      rw [if_pos rfl, decide_eq_true_eq] at hx; exact hx
  refine ⟨hr _ _ h1, hr _ _ h2, hr _ _ h3, ?_⟩
  unfold immOf at h4
  repeat' split at h4
  all_goals (simp only [Bool.and_eq_true, decide_eq_true_eq, beq_iff_eq, fitsOf, show ((32 : Int) - 1).toNat = 31 from rfl, show ((21 : Int) - 1).toNat = 20 from rfl, show ((13 : Int) - 1).toNat = 12 from rfl, show ((12 : Int) - 1).toNat = 11 from rfl] at h4; omega)
theorem good_Ok {i : Ins} (h : i.good = true) : i.Ok := by
  obtain ⟨h1, h2, h3, h4⟩ := good_small h
  have h5 := good_range i h
  constructor <;> (unfold I64; omega)
def nextZ (L : List (List UInt8)) (o : Nat) : Int := wordZ (L.getD o [])
theorem nextN_eq (ws : List ByteArray) (o : Nat) : nextN ws o = nextZ (ws.map (·.data.toList)) o := by
  unfold nextN nextZ wordN wordZ
  split
  · rename_i h
    rw [List.getD_eq_getElem?_getD, List.getElem?_map, List.getElem?_eq_getElem h]; rfl
  · rename_i h
    rw [List.getD_eq_getElem?_getD, List.getElem?_map, List.getElem?_eq_none (by omega)]; rfl
theorem nextO_eq (ws : List ByteArray) (o : Nat) : nextO ws o = if o < (ws.map (·.data.toList)).length then o + 1 else o := by
  unfold nextO; rw [List.length_map]
/-- The line of an instruction that may be has the instruction as its candidate. -/
theorem cand_good {i : Ins} (h : i.good = true) {ws : List ByteArray} (hw : ws.map (·.data.toList) = headL i.op i.aq i.rl :: fieldsL i) : cand i.op i.aq i.rl ws = i := by
  obtain ⟨h1, h2, h3, h4⟩ := good_small h
  obtain ⟨n1, n2, n3, n4⟩ := good_no h
  have z1 := wordZ_reg i.rd (by omega) (by omega)
  have z2 := wordZ_reg i.rs1 (by omega) (by omega)
  have z3 := wordZ_reg i.rs2 (by omega) (by omega)
  have z4 := wordZ_imm i.imm (by omega) (by omega)
  unfold fieldsL at hw
  unfold cand candN candN candN candN candN
  simp only [nextN_eq, nextO_eq, hw, hasB]
  clear hw h h1 h2 h3 h4
  obtain ⟨op, rd, rs1, rs2, imm, aq, rl⟩ := i
  dsimp only at *
  cases e1 : hasRd (formOf op) <;> cases e2 : hasRs1 (formOf op) <;> cases e3 : hasRs2 (formOf op) <;> cases e4 : hasImm (formOf op) <;> simp only [e1, e2, e3, e4, forall_const, Bool.false_eq_true, false_implies, Bool.true_eq_false] at n1 n2 n3 n4 <;> simp [Ins.put, nextZ, *]
theorem findSome_only {α β : Type} {f : α → Option β} {l : List α} {v : β} (h1 : ∀ a ∈ l, ∀ u, f a = some u → u = v) {a : α} (ha : a ∈ l) (hv : f a = some v) : l.findSome? f = some v := by
  cases e : l.findSome? f with
  | none => rw [List.findSome?_eq_none_iff] at e; rw [e a ha] at hv; cases hv
  | some u =>
    obtain ⟨b, hb, hu⟩ := List.exists_of_findSome?_eq_some e
    rw [h1 b hb u hu]
theorem hit_spec {s : ByteArray} {i j : Ins} (h : hit s i = some j) : j = i ∧ textL i = s.data.toList ∧ i.good = true := by
  unfold hit at h
  split at h
  · rename_i hc
    refine ⟨(Option.some.inj h).symm, ?_, ?_⟩
    · rw [← hc.2]
    · by_cases hg : i.good = true
      · exact hg
      · refine absurd ?_ hc.1
        rw [← hc.2]
        unfold textL
        rw [if_neg hg]
  · cases h
theorem hit_good {s : ByteArray} {i : Ins} (h : i.good = true) (hs : s.data.toList = textL i) : hit s i = some i := by
  have hb : (⟨(textL i).toArray⟩ : ByteArray) = s := by rw [← hs]
  have hn : s ≠ ⟨#[]⟩ := by
    rintro rfl
    exact textL_ne h hs.symm
  unfold hit
  rw [if_pos ⟨hn, hb⟩]
theorem parseR_spec {s : ByteArray} {j : Ins} (h : parseR s = some j) : textL j = s.data.toList ∧ j.good = true := by
  unfold parseR parseFrom at h
  obtain ⟨k, _, hk⟩ := List.exists_of_findSome?_eq_some h
  unfold tryK at hk
  split at hk
  · unfold tryOp at hk
    obtain ⟨c, _, hc⟩ := List.exists_of_findSome?_eq_some hk
    obtain ⟨rfl, h2⟩ := hit_spec hc
    exact h2
  · cases hk
theorem parseR_good {s : ByteArray} {i : Ins} (h : i.good = true) (hs : s.data.toList = textL i) : parseR s = some i := by
  obtain ⟨a1, a2⟩ := good_range i h
  have hw : (wordsL s).map (·.data.toList) = headL i.op i.aq i.rl :: fieldsL i := by rw [wordsL_spl, hs, spl_textL i h]
  have hT : tryOp s (wordsL s) i.op 0 = some i := by
    unfold tryOp
    refine findSome_only ?_ (a := (i.aq, i.rl)) ?_ ?_
    · intro c _ u hu
      obtain ⟨rfl, h2, h3⟩ := hit_spec hu
      exact textL_inj h3 h (h2.trans hs)
    · cases i.aq <;> cases i.rl <;> decide
    · show hit s (cand i.op i.aq i.rl (wordsL s)) = some i
      rw [cand_good h hw]
      exact hit_good h hs
  unfold parseR parseFrom
  refine findSome_only ?_ (a := (i.op - 1).toNat) ?_ ?_
  · intro k _ u hu
    unfold tryK at hu
    split at hu
    · unfold tryOp at hu
      obtain ⟨c, _, hc⟩ := List.exists_of_findSome?_eq_some hu
      obtain ⟨rfl, h2, h3⟩ := hit_spec hc
      exact textL_inj h3 h (h2.trans hs)
    · cases hu
  · rw [List.mem_range']
    exact ⟨(i.op - 1).toNat, by omega, by omega⟩
  · unfold tryK
    rw [show (((i.op - 1).toNat : Nat) : Int) + 1 = i.op by omega, if_pos]
    · exact hT
    · obtain ⟨x, t, e⟩ : ∃ x t, wordsL s = x :: t := by
        cases hh : wordsL s with
        | nil => rw [hh] at hw; cases hw
        | cons x t => exact ⟨x, t, rfl⟩
      rw [e]
      rw [e, List.map_cons, List.cons.injEq] at hw
      rw [List.headD_cons, hw.1]
      unfold Lib.hasPrefix headL
      rw [List.isPrefixOf_iff_prefix]
      exact List.prefix_append _ _
end
end Go.Proofs.YtihcljaphajdfaaGreatDoor.Hand
