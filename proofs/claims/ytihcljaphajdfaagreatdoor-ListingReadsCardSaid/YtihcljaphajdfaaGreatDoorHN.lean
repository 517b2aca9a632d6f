/- DERIVED. DERIVED. The reference's words and numbers, as plain lists. -/
import Derived.Test.YtihcljaphajdfaaGreatDoorProg
import Derived.Test.YtihcljaphajdfaaGreatDoorMBits
import Derived.Test.YtihcljaphajdfaaGreatDoorMWalk
import Derived.Test.YtihcljaphajdfaaGreatDoorMTab
import Derived.Test.YtihcljaphajdfaaGreatDoorMInst
import Derived.Test.YtihcljaphajdfaaGreatDoorMDec
import Derived.Test.YtihcljaphajdfaaGreatDoorMDec2
import Derived.Test.YtihcljaphajdfaaGreatDoorMQTail
import Derived.Test.YtihcljaphajdfaaGreatDoorMArg
import Derived.Test.YtihcljaphajdfaaGreatDoorMRow
import Derived.Test.YtihcljaphajdfaaGreatDoorMOpen
import Derived.Test.YtihcljaphajdfaaGreatDoorMPart
import Derived.Test.YtihcljaphajdfaaGreatDoorMStore
import Derived.Test.YtihcljaphajdfaaGreatDoorMReg
import Derived.Test.YtihcljaphajdfaaGreatDoorHY
import Derived.Test.YtihcljaphajdfaaGreatDoorPAllx2
import Derived.Test.YtihcljaphajdfaaGreatDoorPAllx4
import Derived.Test.YtihcljaphajdfaaGreatDoorPAllx8
import Derived.Test.YtihcljaphajdfaaGreatDoorPAllx9
import Derived.Test.YtihcljaphajdfaaGreatDoorPAllx10
import Derived.Below
import Derived.Deep.Draws
import Derived.Deep.AppendLies
import Derived.Maps.AppendAt
import Derived.OwnWalk
import Derived.Laws.BytesArg
import Derived.Laws.MakeOwn
import Derived.Laws.OwnMore
import Derived.Deep.OwnRows
import Derived.Tactics
import Derived.Lib.ConvBytes
import Derived.Laws.Slices
import Derived.WalkKit
import Derived.KernelRfl
import Derived.RowKit3
import Derived.Deep.LoopGhost
import Derived.Deep.QuietTactic
import Derived.BigQuiet
import Derived.WideLaws
import Derived.Deep.DeepCutAuto
import Derived.Deep.CutBlock
import Derived.Deep.RegionHeld3
import Derived.Laws.Rows
import Derived.Lib.AppendStr
import Derived.ArgAppend
import Derived.Laws.IdiomCopy
import Derived.OrdersHeld
import Derived.Laws.BitsLemmas
import Derived.Laws.Bits64
import Derived.RowKit
import Derived.Outline
import Derived.Handy
import Derived.Lib.Hide
import Derived.Deep.Light
import Derived.Laws.CopyOwn
import Derived.Lib.ItoaLen
import Derived.Deep.CutRange
import Derived.StillTail
import Derived.Shelf.RegionOpen
import Derived.Lib.QuietBelow
import Derived.Lib.AppendIntMem
import Derived.Laws.AppendOwnNone
import Derived.Shelf.Strings.Prefix
import Derived.Shelf.Strings.Split
import Derived.Shelf.Strings.Cut
import Derived.Shelf.Strings.Builder1
import Derived.Shelf.Strconv.AtoiAll
import Derived.Shelf.Strconv.Itoa3
import Derived.Ground.NamesProg
import Derived.Lib.AtoiTie
import Derived.Lib.AtoiErrMem
import Derived.Shelf.Vars
namespace Go.Proofs.YtihcljaphajdfaaGreatDoor.Hand
open Go Go.RowKit Go.Proofs.YtihcljaphajdfaaGreatDoor.M Go.Proofs.YtihcljaphajdfaaGreatDoor.PAll Go.Proofs.YtihcljaphajdfaaGreatDoorW.PrintWords
set_option linter.unusedVariables false
set_option linter.unusedSimpArgs false
theorem bt_list (s : ByteArray) (i : Nat) (h : i < s.data.toList.length) : bt s (i : Int) = ((s.data.toList[i]).toNat : Int) := by
  have h2 : i < s.size := by rw [Lib.size_eq]; exact h
  unfold bt
  rw [dif_pos (show ((i : Int)).toNat < s.size by omega)]
  simp only [Int.toNat_natCast]
  rfl
/-- The words that the reference finds. -/
theorem words_l0 (s : ByteArray) (hs : s.size ≤ 1000000) : ∀ (m k i fr : Nat) (acc : List ByteArray), i + m = s.size → fr ≤ i → (∀ x ∈ (s.data.toList.drop fr).take (i - fr), x ≠ 32) → acc.length ≤ i → m + 2 ≤ k →
    ∃ ws, postbagref03_words.l0 k s acc (fr : Int) (i : Int) = some (acc ++ ws) ∧ ws.map (·.data.toList) = spl (s.data.toList.drop fr) ∧ ∀ x ∈ ws, x.size ≤ s.size := by
  have hl := Lib.size_eq s
  intro m
  induction m with
  | zero =>
    intro k i fr acc h1 h2 h3 h4 h5
    obtain ⟨k, rfl⟩ : ∃ k', k = k' + 2 := ⟨k - 2, by omega⟩
    obtain rfl : i = s.size := by omega
    have ew : wrap64 ((s.size : Int) + 1) = (s.size : Int) + 1 := by unfold wrap64; omega
    have hd : (s.data.toList.drop fr).take (s.size - fr) = s.data.toList.drop fr := by rw [List.take_of_length_le]; rw [List.length_drop]; omega
    rw [hd] at h3
    refine ⟨[s.extract fr s.size], ?_, ?_, ?_⟩
    · unfold postbagref03_words.l0
      rw [if_pos (Int.le_refl _), if_pos rfl, if_pos (by omega), if_pos (by omega), if_pos (by omega), ew]
      unfold postbagref03_words.l0
      rw [if_neg (by omega)]
      rfl
    · rw [spl_plain _ h3]
      simp only [List.map_cons, List.map_nil]
      rw [Lib.extract_to_end]
    · intro x hx
      rw [List.mem_singleton] at hx
      subst hx
      rw [ByteArray.size_extract]; omega
  | succ m ih =>
    intro k i fr acc h1 h2 h3 h4 h5
    obtain ⟨k, rfl⟩ : ∃ k', k = k' + 1 := ⟨k - 1, by omega⟩
    have ew : wrap64 ((i : Int) + 1) = ((i + 1 : Nat) : Int) := by unfold wrap64; omega
    have hi : i < s.data.toList.length := by omega
    have hb := bt_list s i hi
    have hsplit : s.data.toList.drop fr = (s.data.toList.drop fr).take (i - fr) ++ s.data.toList[i] :: s.data.toList.drop (i + 1) := by
      conv => lhs; rw [← List.take_append_drop (i - fr) (s.data.toList.drop fr)]
      rw [List.drop_drop, show fr + (i - fr) = i by omega, List.drop_eq_getElem_cons hi]
    have hsz : i + 1 + m = s.size := by omega
    by_cases hc : s.data.toList[i] = 32
    · obtain ⟨ws, g1, g2, g3⟩ := ih k (i + 1) (i + 1) (acc ++ [s.extract fr i]) hsz (Nat.le_refl _) (by rw [Nat.sub_self, List.take_zero]; intro x hx; cases hx) (by rw [List.length_append, List.length_singleton]; omega) (by omega)
      refine ⟨s.extract fr i :: ws, ?_, ?_, ?_⟩
      · conv => lhs; unfold postbagref03_words.l0
        rw [if_pos (by omega), if_neg (by omega), if_pos (by omega), if_pos (by omega), hb, hc, if_pos (by decide), if_pos (by omega), if_pos (by omega), if_pos (by omega), ew]
        simp only [Int.toNat_natCast]
        rw [g1, List.append_assoc]; rfl
      · rw [hsplit, hc, spl_cons _ _ h3, List.map_cons, g2]
        congr 1
        rw [Lib.extract_data]
      · intro x hx
        rw [List.mem_cons] at hx
        rcases hx with rfl | hx
        · rw [ByteArray.size_extract]; omega
        · exact g3 x hx
    · obtain ⟨ws, g1, g2, g3⟩ := ih k (i + 1) fr acc hsz (by omega) (by
        intro x hx
        rw [show i + 1 - fr = (i - fr) + 1 by omega, List.take_add_one, List.mem_append] at hx
        rcases hx with hx | hx
        · exact h3 x hx
        · rw [List.getElem?_drop, show fr + (i - fr) = i by omega, List.getElem?_eq_getElem hi] at hx
          simp at hx
          rw [hx]; exact hc) (by omega) (by omega)
      refine ⟨ws, ?_, g2, g3⟩
      have hbn : ¬ bt s (i : Int) = 32 := by
        rw [hb]
        intro e
        apply hc
        apply UInt8.toNat_inj.1
        exact Int.ofNat_inj.1 e
      conv => lhs; unfold postbagref03_words.l0
      rw [if_pos (by omega), if_neg (by omega), if_pos (by omega), if_pos (by omega), if_neg hbn, ew, g1]
theorem words_f (s : ByteArray) (hs : s.size ≤ 1000) : ∃ ws, postbagref03_words.f 1002 s = some ws ∧ ws.map (·.data.toList) = spl s.data.toList ∧ ∀ x ∈ ws, x.size ≤ s.size := by
  obtain ⟨ws, h1, h2, h3⟩ := words_l0 s (by omega) s.size 1002 0 0 [] (by omega) (Nat.le_refl _) (by rw [Nat.sub_self, List.take_zero]; intro x hx; cases hx) (by simp) (by omega)
  exact ⟨ws, by unfold postbagref03_words.f; rw [List.nil_append] at h1; exact h1, by rw [List.drop_zero] at h2; exact h2, h3⟩
theorem num_f (k : Nat) (h1 : 21 ≤ k) (h2 : k ≤ 100) (n : Int) (hn : I64 n) : postbagref03_Number.f k n = some ⟨(Lib.itoa n).toArray⟩ := by
  have hu : n.natAbs < 18446744073709551616 := by unfold I64 at hn; omega
  have hd : postbagref03_digits.f k n = some ⟨(Lib.decDigits n.natAbs).toArray⟩ := by
    unfold postbagref03_digits.f
    have := dig_all k n [] hn (by have := Lib.nDigits_le20 n.natAbs hu; omega) (by simp) h2
    rw [List.append_nil] at this
    exact this
  unfold postbagref03_Number.f Lib.itoa
  by_cases h0 : n < 0
  · rw [if_pos h0, if_pos h0, hd, Option.bind_some]
    have hl := Lib.nDigits_le20 n.natAbs hu
    have h2 : (⟨(Lib.decDigits n.natAbs).toArray⟩ : ByteArray).size = (Lib.decDigits n.natAbs).length := by show (Lib.decDigits n.natAbs).toArray.size = _; simp
    rw [if_pos (by rw [h2, Lib.decDigits_length]; omega)]
    have := str_cat [45] (Lib.decDigits n.natAbs)
    rw [show (⟨#[45]⟩ : ByteArray) = ⟨[45].toArray⟩ from rfl, this]; rfl
  · rw [if_neg h0, if_neg h0, hd, Option.bind_some, show n.toNat = n.natAbs by omega]
/-- What digits spell, if they are digits. -/
def valL : List UInt8 → Int → Option Int
  | [], n => some n
  | c :: r, n => if (c.toNat : Int) < 48 then none else if (c.toNat : Int) > 57 then none else valL r (wrap64 (wrap64 (10 * n) + (((c.toNat : Int) - 48) % 256)))
theorem wrap_I64 (n : Int) : I64 (wrap64 n) := by unfold I64 wrap64; omega
theorem valL_range : ∀ (l : List UInt8) (n m : Int), I64 n → valL l n = some m → I64 m
  | [], n, m, h, e => by cases e; exact h
  | c :: r, n, m, h, e => by
    unfold valL at e
    split at e
    · cases e
    · split at e
      · cases e
      · exact valL_range r _ m (wrap_I64 _) e
def signOff (l : List UInt8) : Bool := l.head? == some 45
def valN (l : List UInt8) : Int :=
  if (if signOff l then 1 else 0) = l.length ∨ l.length > 11 then 0
  else match valL (if signOff l then l.drop 1 else l) 0 with
    | none => 0
    | some m => if signOff l then wrap64 (-m) else m
theorem valN_range (l : List UInt8) : I64 (valN l) := by
  have z : I64 0 := by unfold I64; omega
  unfold valN
  generalize (if signOff l then l.drop 1 else l) = q
  by_cases h1 : (if signOff l = true then 1 else 0) = l.length ∨ l.length > 11
  · rw [if_pos h1]; exact z
  · rw [if_neg h1]
    cases e : valL q 0 with
    | none => exact z
    | some m =>
      dsimp only
      by_cases h2 : signOff l = true
      · rw [if_pos h2]; exact wrap_I64 _
      · rw [if_neg h2]; exact valL_range q 0 m z e
theorem value_l0 (s : ByteArray) (hs : s.size ≤ 11) : ∀ (m k i : Nat) (n fr : Int), i + m = s.size → I64 n → m + 22 ≤ k → k ≤ 100 →
    ∃ b, postbagref03_value.l0 k s n fr (i : Int) = some ((match valL (s.data.toList.drop i) n with | none => 0 | some v => if fr = 1 then wrap64 (-v) else v), b) := by
  have hl := Lib.size_eq s
  intro m
  induction m with
  | zero =>
    intro k i n fr h1 h2 h3 h4
    obtain ⟨k, rfl⟩ : ∃ k', k = k' + 1 := ⟨k - 1, by omega⟩
    rw [List.drop_of_length_le (by omega)]
    unfold postbagref03_value.l0 valL
    rw [if_neg (by omega)]
    dsimp only
    by_cases hf : fr = 1
    · rw [if_pos hf, if_pos hf, num_f k (by omega) (by omega) _ (wrap_I64 _)]
      exact ⟨_, rfl⟩
    · rw [if_neg hf, if_neg hf, num_f k (by omega) (by omega) _ h2]
      exact ⟨_, rfl⟩
  | succ m ih =>
    intro k i n fr h1 h2 h3 h4
    obtain ⟨k, rfl⟩ : ∃ k', k = k' + 1 := ⟨k - 1, by omega⟩
    have hi : i < s.data.toList.length := by omega
    have hb := bt_list s i hi
    have ew : wrap64 ((i : Int) + 1) = ((i + 1 : Nat) : Int) := by unfold wrap64; omega
    rw [List.drop_eq_getElem_cons hi]
    unfold postbagref03_value.l0 valL
    rw [if_pos (by omega), if_pos (by omega), hb, ew]
    split
    · exact ⟨_, rfl⟩
    · split
      · exact ⟨_, rfl⟩
      · exact ih k (i + 1) _ fr (by omega) (wrap_I64 _) (by omega) (by omega)
theorem value_j0 (k : Nat) (s : ByteArray) (n fr : Int) (b : Bool) : postbagref03_value.j0 (k + 1) s n fr b = if b = true then postbagref03_value.j1 k s n 1 else postbagref03_value.j1 k s n fr := by rw [postbagref03_value.j0]
theorem value_j1 (k : Nat) (s : ByteArray) (n fr : Int) : postbagref03_value.j1 (k + 1) s n fr = if (s.size : Int) = fr then postbagref03_value.j2 k s n fr true else postbagref03_value.j2 k s n fr (decide ((s.size : Int) > 11)) := by rw [postbagref03_value.j1]
theorem value_j2 (k : Nat) (s : ByteArray) (n fr : Int) (b : Bool) : postbagref03_value.j2 (k + 1) s n fr b = if b = true then some (0, false) else postbagref03_value.l0 k s n fr fr := by rw [postbagref03_value.j2]
theorem value_f (s : ByteArray) (k : Nat) (h1 : 40 ≤ k) (h2 : k ≤ 100) : ∃ b, postbagref03_value.f k s = some (valN s.data.toList, b) := by
  have hl := Lib.size_eq s
  obtain ⟨k, rfl⟩ : ∃ k', k = k' + 3 := ⟨k - 3, by omega⟩
  have key : ∀ (fr : Nat), fr = (if signOff s.data.toList then 1 else 0) → fr ≤ s.size → ∃ b, postbagref03_value.j1 (k + 2) s 0 (fr : Int) = some (valN s.data.toList, b) := by
    intro fr hfr hle
    rw [value_j1 (k + 1)]
    unfold valN
    rw [← hfr]
    by_cases hz : (s.size : Int) = (fr : Int)
    · rw [if_pos hz, if_pos (.inl (by omega))]
      rw [value_j2 k, if_pos rfl]; exact ⟨_, rfl⟩
    · rw [if_neg hz]
      rw [value_j2 k]
      by_cases hg : (s.size : Int) > 11
      · rw [if_pos (by rw [decide_eq_true hg]), if_pos (.inr (by omega))]; exact ⟨_, rfl⟩
      · rw [if_neg (by rw [decide_eq_false hg]; decide), if_neg (by omega)]
        obtain ⟨b, hb⟩ := value_l0 s (by omega) (s.size - fr) k fr 0 (fr : Int) (by omega) (by unfold I64; omega) (by omega) (by omega)
        refine ⟨b, hb.trans ?_⟩
        congr 2
        by_cases hsg : signOff s.data.toList = true
        · rw [if_pos hsg] at hfr
          subst hfr
          rw [if_pos hsg]
          cases valL (s.data.toList.drop 1) 0 with
          | none => rfl
          | some v => dsimp only; rw [if_pos hsg]; rfl
        · rw [if_neg hsg] at hfr
          subst hfr
          rw [if_neg hsg, List.drop_zero]
          cases valL s.data.toList 0 with
          | none => rfl
          | some v => dsimp only; rw [if_neg hsg]; rfl
  unfold postbagref03_value.f
  by_cases h0 : (s.size : Int) > 0
  · rw [if_pos h0, if_pos h0]
    rw [value_j0 (k + 2)]
    have hb := bt_list s 0 (by omega)
    have hh : s.data.toList.head? = some s.data.toList[0] := by rw [List.head?_eq_getElem?, List.getElem?_eq_getElem]
    by_cases hc : s.data.toList[0] = 45
    · have hsg : signOff s.data.toList = true := by unfold signOff; rw [hh, hc]; rfl
      rw [show ((0 : Nat) : Int) = 0 from rfl, hc] at hb
      rw [hb, if_pos (by decide)]
      exact key 1 (by rw [if_pos hsg]) (by omega)
    · have hsg : ¬ signOff s.data.toList = true := by unfold signOff; rw [hh]; simpa using hc
      rw [show ((0 : Nat) : Int) = 0 from rfl] at hb
      rw [hb, if_neg (by
        intro e
        apply hc
        apply UInt8.toNat_inj.1
        have := eq_of_beq e
        exact Int.ofNat_inj.1 this)]
      exact key 0 (by rw [if_neg hsg]) (by omega)
  · rw [if_neg h0]
    rw [value_j0 (k + 2)]
    rw [if_neg (by decide)]
    have hsg : ¬ signOff s.data.toList = true := by
      have : s.data.toList = [] := List.eq_nil_of_length_eq_zero (by omega)
      rw [this]; decide
    exact key 0 (by rw [if_neg hsg]) (by omega)
theorem valL_dec (u : Nat) : ∀ (r : List UInt8), u < 1000000000000000 → valL (Lib.decDigits u ++ r) 0 = valL r (u : Int) := by
  induction u using Nat.strongRecOn with
  | ind u ih =>
    intro r hu
    unfold Lib.decDigits
    split
    · rename_i h
      rw [List.singleton_append]
      conv => lhs; unfold valL
      have e : (UInt8.ofNat (48 + u)).toNat = 48 + u := by rw [UInt8.toNat_ofNat']; omega
      rw [e, if_neg (by omega), if_neg (by omega)]
      congr 1; unfold wrap64; omega
    · rename_i h
      rw [List.append_assoc, ih (u / 10) (by omega) _ (by omega), List.singleton_append]
      conv => lhs; unfold valL
      have e : (UInt8.ofNat (48 + u % 10)).toNat = 48 + u % 10 := by rw [UInt8.toNat_ofNat']; omega
      rw [e, if_neg (by omega), if_neg (by omega)]
      congr 1; unfold wrap64; omega
theorem valL_all (u : Nat) (hu : u < 1000000000000000) : valL (Lib.decDigits u) 0 = some (u : Int) := by
  have := valL_dec u [] hu
  rw [List.append_nil] at this
  rw [this]; rfl
theorem nd_le (u : Nat) (h : u < 10000000000) : Lib.nDigits u ≤ 10 := by
  unfold Lib.nDigits; split; · omega
  unfold Lib.nDigits; split; · omega
  unfold Lib.nDigits; split; · omega
  unfold Lib.nDigits; split; · omega
  unfold Lib.nDigits; split; · omega
  unfold Lib.nDigits; split; · omega
  unfold Lib.nDigits; split; · omega
  unfold Lib.nDigits; split; · omega
  unfold Lib.nDigits; split; · omega
  unfold Lib.nDigits; split; · omega
  omega
theorem valN_itoa (n : Int) (h1 : -2147483648 ≤ n) (h2 : n ≤ 2147483648) : valN (Lib.itoa n) = n := by
  unfold Lib.itoa
  split
  · rename_i h
    have hsg : signOff (45 :: Lib.decDigits n.natAbs) = true := rfl
    have hl := Lib.decDigits_length n.natAbs
    have hp := Lib.nDigits_pos n.natAbs
    have hd := nd_le n.natAbs (by omega)
    unfold valN
    rw [if_pos hsg, if_pos hsg, if_neg (by rw [List.length_cons]; omega), List.drop_one, List.tail_cons, valL_all _ (by omega)]
    dsimp only
    rw [if_pos hsg]
    unfold wrap64; omega
  · rename_i h
    obtain ⟨c, r, e⟩ : ∃ c r, Lib.decDigits n.toNat = c :: r := List.exists_cons_of_ne_nil (dec_ne _)
    have hc := dec_mem n.toNat c (by rw [e]; exact List.mem_cons_self)
    have hsg : ¬ signOff (Lib.decDigits n.toNat) = true := by
      rw [e]
      unfold signOff
      simp only [List.head?_cons, Option.some_beq_some, beq_iff_eq]
      rintro rfl
      exact absurd hc.1 (by decide)
    have hl := Lib.decDigits_length n.toNat
    have hp := Lib.nDigits_pos n.toNat
    have hd := nd_le n.toNat (by omega)
    unfold valN
    rw [if_neg hsg, if_neg hsg, if_neg (by omega), valL_all _ (by omega)]
    dsimp only
    rw [if_neg hsg]
    omega
section
/- DERIVED. The reference's candidate for an operation. -/
theorem form_in (op : Int) (h1 : 1 ≤ op) (h2 : op ≤ 87) : 1 ≤ formOf op ∧ formOf op ≤ 12 := by
  have : ∀ n : Nat, n < 87 → 1 ≤ formOf ((n : Int) + 1) ∧ formOf ((n : Int) + 1) ≤ 12 := by decide +kernel
  have h := this (op - 1).toNat (by omega)
  rwa [show (((op - 1).toNat : Nat) : Int) + 1 = op by omega] at h
theorem form_twelve {f : Int} (h : 1 ≤ f ∧ f ≤ 12) : f = 1 ∨ f = 2 ∨ f = 3 ∨ f = 4 ∨ f = 5 ∨ f = 6 ∨ f = 7 ∨ f = 8 ∨ f = 9 ∨ f = 10 ∨ f = 11 ∨ f = 12 := by omega
/-- What the reference makes of a word: a register's first sign is left out. -/
def tailB (w : ByteArray) (at_ : Int) : ByteArray := if at_ < 4 ∧ 0 < w.size then w.extract 1 w.size else w
theorem tail_list (w : ByteArray) (at_ : Int) : (tailB w at_).data.toList = if at_ < 4 then w.data.toList.drop 1 else w.data.toList := by
  have hl := Lib.size_eq w
  unfold tailB
  by_cases h : at_ < 4
  · rw [if_pos h]
    by_cases h2 : 0 < w.size
    · rw [if_pos ⟨h, h2⟩, Lib.extract_to_end]
    · rw [if_neg (fun e => h2 e.2)]
      have : w.data.toList = [] := List.eq_nil_of_length_eq_zero (by omega)
      rw [this]; rfl
  · rw [if_neg (fun e => h e.1), if_neg h]
/-- The first parts, filled from the words as the reference does. -/
def rcandN (op : Int) (ws : List ByteArray) : Nat → Ins × Nat
  | 0 => (⟨op, 0, 0, 0, 0, false, false⟩, 1)
  | n + 1 => let (i, o) := rcandN op ws n; if h : hasB op n = true ∧ o < ws.length then (i.put n (valN (tailB ws[o] ((n : Int) + 1)).data.toList), o + 1) else (i, o)
def rcand (op : Int) (ws : List ByteArray) : Ins := (rcandN op ws 4).1
theorem rcandN_yes (op : Int) (ws : List ByteArray) (n : Nat) (h : hasB op n = true ∧ (rcandN op ws n).2 < ws.length) : rcandN op ws (n + 1) = ((rcandN op ws n).1.put n (valN (tailB (ws[(rcandN op ws n).2]'h.2) ((n : Int) + 1)).data.toList), (rcandN op ws n).2 + 1) := by
  show (if h : hasB op n = true ∧ (rcandN op ws n).2 < ws.length then _ else _) = _
  rw [dif_pos h]
theorem rcandN_no (op : Int) (ws : List ByteArray) (n : Nat) (h : ¬ (hasB op n = true ∧ (rcandN op ws n).2 < ws.length)) : rcandN op ws (n + 1) = rcandN op ws n := by
  show (if h : hasB op n = true ∧ (rcandN op ws n).2 < ws.length then _ else _) = _
  rw [dif_neg h]
theorem rcandN_le (op : Int) (ws : List ByteArray) : ∀ n, 1 ≤ (rcandN op ws n).2 ∧ (rcandN op ws n).2 ≤ n + 1
  | 0 => ⟨Nat.le_refl _, Nat.le_refl _⟩
  | n + 1 => by
    have := rcandN_le op ws n
    by_cases h : hasB op n = true ∧ (rcandN op ws n).2 < ws.length
    · rw [rcandN_yes op ws n h]; dsimp only; omega
    · rw [rcandN_no op ws n h]; omega
theorem value_any (s : ByteArray) (w : World) : Calls Tryz.prog 49 #[.string s] w fun e w' => (∃ b, e = .returned (.tuple #[.int .i64 (valN s.data.toList), .bool b])) ∧ Below w.heap.size w w' := by
  obtain ⟨b, hb⟩ := value_f s 60 (by decide) (by decide)
  exact (postbagref03_value.calls 60 s _ _ w hb).mono fun e w' ⟨h, d⟩ => ⟨⟨b, h⟩, d⟩
/-- Words in a row that is read. -/
def WordsAt (w : World) (A : Option Addr) (ws : List ByteArray) : Prop := Kd.C Kd.string w A ws.length ws
theorem WordsAt.below {w w' : World} {A : Option Addr} {ws : List ByteArray} (h : WordsAt w A ws) (d : Below w.heap.size w w') : WordsAt w' A ws := Kd.C_below h d
theorem WordsAt.cell {w : World} {A : Option Addr} {ws : List ByteArray} (h : WordsAt w A ws) (j : Nat) (hj : j < ws.length) : ∃ ad : Addr, A = some ad ∧ w.cell? (ad.add j) = some (.string ws[j]) := by
  obtain ⟨ad, c, e, hl, hk, hc⟩ := Kd.C_get h ByteArray.empty (j : Int) (by omega) (by omega)
  refine ⟨ad, e, ?_⟩
  have h2 := hc 0 (.string ws[j]) (by
    rw [show c = [.string (ws.getD (j : Int).toNat ByteArray.empty)] from hk, List.getD_eq_getElem?_getD, Int.toNat_natCast, List.getElem?_eq_getElem hj]; rfl)
  simpa [show (Kd.string).sz = 1 from rfl] using h2
end
end Go.Proofs.YtihcljaphajdfaaGreatDoor.Hand
