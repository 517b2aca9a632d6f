/- DERIVED. DERIVED. LexParts: words of two sources with a line feed between them; the walk of the law. -/
import Derived.Test.YtbakfpoejoajeaaDoorProg
import Derived.Test.YtbakfpoejoajeaaDoorMBits
import Derived.Test.YtbakfpoejoajeaaDoorMWalk
import Derived.Test.YtbakfpoejoajeaaDoorMArg
import Derived.Test.YtbakfpoejoajeaaDoorMRow
import Derived.Test.YtbakfpoejoajeaaDoorMOpen
import Derived.Test.YtbakfpoejoajeaaDoorMPart
import Derived.Test.YtbakfpoejoajeaaDoorHLexWhole
import Derived.Below
import Derived.Deep.Draws
import Derived.Deep.AppendLies
import Derived.Maps.AppendAt
import Derived.OwnWalk
import Derived.Laws.BytesArg
import Derived.Laws.MakeOwn
import Derived.Laws.OwnMore
import Derived.Deep.OwnRows
import Derived.Tactics
import Derived.Lib.ConvBytes
import Derived.Laws.Slices
import Derived.WalkKit
import Derived.KernelRfl
import Derived.RowKit3
import Derived.Deep.LoopGhost
import Derived.Deep.QuietTactic
import Derived.BigQuiet
import Derived.WideLaws
import Derived.Deep.DeepCutAuto
import Derived.Deep.CutBlock
import Derived.Deep.RegionHeld3
import Derived.Laws.Rows
import Derived.Lib.AppendStr
import Derived.ArgAppend
import Derived.Laws.IdiomCopy
import Derived.OrdersHeld
import Derived.Laws.BitsLemmas
import Derived.Laws.Bits64
import Derived.RowKit
import Derived.Outline
import Derived.Handy
import Derived.Lib.Hide
import Derived.Deep.Light
import Derived.Laws.CopyOwn
import Derived.Lib.QuietBelow
import Derived.Shelf.Strings.Prefix
import Derived.Shelf.Small.Strs
import Derived.Shelf.Strconv.AtoiAll
import Derived.Ground.NamesProg
import Derived.Lib.AtoiErrMem
import Derived.Laws.AppendOwnNone
namespace Go.Proofs.YtbakfpoejoajeaaDoor.Hand
open Go Go.RowKit Go.Proofs.YtbakfpoejoajeaaDoor.M
set_option linter.unusedVariables false
set_option linter.unusedSimpArgs false
attribute [local go_sem] Oper.semAt_some
/-! Words of two sources, a line feed between them. -/
theorem skip_app (r : List UInt8) : ∀ (l : List UInt8) (c : Bool), skipF c (l ++ 10 :: r) = if skipF c l = l.length then l.length + 1 + skipF false r else skipF c l
  | [], true => by
    show skipF true (10 :: r) = if (0 : Nat) = 0 then 0 + 1 + skipF false r else 0
    rw [if_pos rfl, Nat.zero_add]
    conv => lhs; unfold skipF
    rw [if_pos rfl]
  | [], false => by
    show skipF false (10 :: r) = if (0 : Nat) = 0 then 0 + 1 + skipF false r else 0
    rw [if_pos rfl, Nat.zero_add]
    conv => lhs; unfold skipF
    rw [if_pos (by decide)]
  | x :: l, true => by
    have h1 := skip_app r l true
    have h2 := skip_app r l false
    rw [List.cons_append, List.length_cons]
    by_cases hx : x = 10
    · have e : ∀ m : List UInt8, skipF true (x :: m) = 1 + skipF false m := fun m => by
        conv => lhs; unfold skipF
        rw [if_pos hx]
      rw [e, e, h2]
      by_cases h : skipF false l = l.length
      · rw [if_pos h, if_pos (by omega)]; omega
      · rw [if_neg h, if_neg (by omega)]
    · have e : ∀ m : List UInt8, skipF true (x :: m) = 1 + skipF true m := fun m => by
        conv => lhs; unfold skipF
        rw [if_neg hx]
      rw [e, e, h1]
      by_cases h : skipF true l = l.length
      · rw [if_pos h, if_pos (by omega)]; omega
      · rw [if_neg h, if_neg (by omega)]
  | x :: l, false => by
    have h1 := skip_app r l true
    have h2 := skip_app r l false
    rw [List.cons_append, List.length_cons]
    by_cases hs : spaceU x = true
    · have e : ∀ m : List UInt8, skipF false (x :: m) = 1 + skipF false m := fun m => by
        conv => lhs; unfold skipF
        rw [if_pos hs]
      rw [e, e, h2]
      by_cases h : skipF false l = l.length
      · rw [if_pos h, if_pos (by omega)]; omega
      · rw [if_neg h, if_neg (by omega)]
    · by_cases hx : x = 35
      · have e : ∀ m : List UInt8, skipF false (x :: m) = 1 + skipF true m := fun m => by
          conv => lhs; unfold skipF
          rw [if_neg hs, if_pos hx]
        rw [e, e, h1]
        by_cases h : skipF true l = l.length
        · rw [if_pos h, if_pos (by omega)]; omega
        · rw [if_neg h, if_neg (by omega)]
      · have e : ∀ m : List UInt8, skipF false (x :: m) = 0 := fun m => by
          unfold skipF
          rw [if_neg hs, if_neg hx]
        rw [e, e, if_neg (by omega)]
theorem takeN_app (P : UInt8 → Bool) (hP : P 10 = false) (r : List UInt8) : ∀ l : List UInt8, takeN P (l ++ 10 :: r) = takeN P l
  | [] => by
    unfold takeN
    rw [List.nil_append, List.takeWhile_cons, if_neg (by rw [hP]; simp)]; rfl
  | x :: l => by
    have ih := takeN_app P hP r l
    unfold takeN at *
    rw [List.cons_append, List.takeWhile_cons, List.takeWhile_cons]
    split
    · rw [List.length_cons, List.length_cons, ih]
    · rfl
/-- Both sources. -/
def catB (a b : ByteArray) : ByteArray := (a ++ ⟨#[10]⟩) ++ b
theorem catB_list (a b : ByteArray) : (catB a b).toList = a.toList ++ 10 :: b.toList := by
  unfold catB
  rw [ByteArray.toList_eq, ByteArray.data_append, ByteArray.data_append, Array.toList_append, Array.toList_append, ByteArray.toList_eq, ByteArray.toList_eq, List.append_assoc]
  rfl
theorem catB_size (a b : ByteArray) : (catB a b).size = a.size + 1 + b.size := by
  unfold catB
  rw [ByteArray.size_append, ByteArray.size_append]; rfl
theorem catB_front (a b : ByteArray) (q : Nat) (h : q ≤ a.size) : (catB a b).toList.drop q = a.toList.drop q ++ 10 :: b.toList := by
  rw [catB_list, List.drop_append_of_le_length (by rw [str_len]; exact h)]
theorem catB_back (a b : ByteArray) (q : Nat) : (catB a b).toList.drop (a.size + 1 + q) = b.toList.drop q := by
  rw [catB_list, List.drop_append, str_len, List.drop_of_length_le (by rw [str_len]; omega), List.nil_append, show a.size + 1 + q - a.size = q + 1 by omega, List.drop_succ_cons]
theorem ext_list (x y : ByteArray) (h : x.toList = y.toList) : x = y := by
  apply ByteArray.ext
  apply Array.toList_inj.1
  rwa [ByteArray.toList_eq, ByteArray.toList_eq] at h
theorem ext_front (a b : ByteArray) (i j : Nat) (hij : i ≤ j) (h : j ≤ a.size) : (catB a b).extract i j = a.extract i j := by
  apply ext_list
  rw [extract_list _ i j (by rw [catB_size]; omega), extract_list _ i j h, catB_front a b i (by omega), List.take_append_of_le_length (by rw [List.length_drop, str_len]; omega)]
theorem ext_back (a b : ByteArray) (i j : Nat) (h : j ≤ b.size) : (catB a b).extract (a.size + 1 + i) (a.size + 1 + j) = b.extract i j := by
  apply ext_list
  rw [extract_list _ _ _ (by rw [catB_size]; omega), extract_list _ i j h, catB_back, show a.size + 1 + j - (a.size + 1 + i) = j - i by omega]
theorem getElem_list (x : ByteArray) (i : Nat) (h : i < x.size) : some x[i] = x.toList[i]? := by
  rw [List.getElem?_eq_getElem (by rw [str_len]; exact h), str_get x i h]
theorem get_front (a b : ByteArray) (i : Nat) (h : i < a.size) (h2 : i < (catB a b).size) : (catB a b)[i] = a[i] := by
  have h3 := getElem_list (catB a b) i h2
  rw [catB_list, List.getElem?_append_left (by rw [str_len]; exact h), ← getElem_list a i h] at h3
  injection h3
theorem get_back (a b : ByteArray) (i : Nat) (h : i < b.size) (h2 : a.size + 1 + i < (catB a b).size) : (catB a b)[a.size + 1 + i] = b[i] := by
  have h3 := getElem_list (catB a b) _ h2
  rw [catB_list, List.getElem?_append_right (by rw [str_len]; omega), str_len, show a.size + 1 + i - a.size = i + 1 by omega, List.getElem?_cons_succ, ← getElem_list b i h] at h3
  injection h3
theorem pre_list (x : ByteArray) (i : Nat) : (x.extract i x.size).data.toList = x.toList.drop i := by
  rw [← ByteArray.toList_eq, extract_list x i x.size (Nat.le_refl _), List.take_of_length_le (by rw [List.length_drop, str_len]; exact Nat.le_refl _)]
theorem pre_app (l r : List UInt8) (h : l ≠ []) : Lib.hasPrefix (l ++ 10 :: r) [61, 61] = Lib.hasPrefix l [61, 61] := by
  match l, h with
  | [x], _ =>
    show List.isPrefixOf [61, 61] (x :: 10 :: r) = List.isPrefixOf [61, 61] [x]
    simp [List.isPrefixOf]
  | x :: y :: l, _ =>
    show List.isPrefixOf [61, 61] (x :: y :: (l ++ 10 :: r)) = List.isPrefixOf [61, 61] (x :: y :: l)
    simp [List.isPrefixOf]
theorem word_front (a b : ByteArray) (i : Nat) (hi : i < a.size) (c : UInt8) : wordOf (catB a b) i c = wordOf a i c := by
  have h1 := catB_front a b i (by omega)
  have h2 := catB_front a b (i + 1) (by omega)
  have t1 := takeN_app partU rfl b.toList (a.toList.drop i)
  have t2 := takeN_app digitU rfl b.toList (a.toList.drop i)
  have t3 := takeN_app partU rfl b.toList (a.toList.drop (i + 1))
  have l1 := takeN_le partU (a.toList.drop i)
  have l2 := takeN_le digitU (a.toList.drop i)
  have l3 := takeN_le partU (a.toList.drop (i + 1))
  rw [List.length_drop, str_len] at l1 l2 l3
  have e1 := ext_front a b i (i + takeN partU (a.toList.drop i)) (by omega) (by omega)
  have e2 := ext_front a b i (i + takeN digitU (a.toList.drop i)) (by omega) (by omega)
  have e3 := ext_front a b (i + 1) (i + 1 + takeN partU (a.toList.drop (i + 1))) (by omega) (by omega)
  have e4 := ext_front a b i (i + 1) (by omega) (by omega)
  have hp : Lib.hasPrefix ((catB a b).extract i (catB a b).size).data.toList [61, 61] = Lib.hasPrefix (a.extract i a.size).data.toList [61, 61] := by
    rw [pre_list, pre_list, h1, pre_app]
    intro e
    have := congrArg List.length e
    rw [List.length_drop, str_len] at this
    simp at this
    omega
  unfold wordOf
  rw [h1, h2, t1, t2, t3, hp]
  dsimp only
  rw [e1, e2, e3, e4]
def shiftT (o : Nat) (t : Tok) : Tok := { t with at_ := t.at_ + o }
def shiftW (o : Nat) (x : Tok × Nat) : Tok × Nat := (shiftT o x.1, o + x.2)
theorem word_back (a b : ByteArray) (i : Nat) (hi : i < b.size) (c : UInt8) : wordOf (catB a b) (a.size + 1 + i) c = (wordOf b i c).map (shiftW (a.size + 1)) := by
  have h1 := catB_back a b i
  have h2 := catB_back a b (i + 1)
  rw [show a.size + 1 + (i + 1) = a.size + 1 + i + 1 by omega] at h2
  have l1 := takeN_le partU (b.toList.drop i)
  have l2 := takeN_le digitU (b.toList.drop i)
  have l3 := takeN_le partU (b.toList.drop (i + 1))
  rw [List.length_drop, str_len] at l1 l2 l3
  have e1 := ext_back a b i (i + takeN partU (b.toList.drop i)) (by omega)
  have e2 := ext_back a b i (i + takeN digitU (b.toList.drop i)) (by omega)
  have e3 := ext_back a b (i + 1) (i + 1 + takeN partU (b.toList.drop (i + 1))) (by omega)
  have e4 := ext_back a b i (i + 1) (by omega)
  have hp : Lib.hasPrefix ((catB a b).extract (a.size + 1 + i) (catB a b).size).data.toList [61, 61] = Lib.hasPrefix (b.extract i b.size).data.toList [61, 61] := by
    rw [pre_list, pre_list, h1]
  unfold wordOf
  rw [h1, h2, hp]
  dsimp only
  rw [show a.size + 1 + i + takeN partU (b.toList.drop i) = a.size + 1 + (i + takeN partU (b.toList.drop i)) by omega, e1,
    show a.size + 1 + i + takeN digitU (b.toList.drop i) = a.size + 1 + (i + takeN digitU (b.toList.drop i)) by omega, e2,
    show a.size + 1 + i + 1 + takeN partU (b.toList.drop (i + 1)) = a.size + 1 + (i + 1 + takeN partU (b.toList.drop (i + 1))) by omega,
    show a.size + 1 + i + 1 = a.size + 1 + (i + 1) by omega, e3, e4]
  have hc : ((a.size + 1 + i : Nat) : Int) = (i : Int) + (a.size + 1 : Nat) := by omega
  rw [hc]
  split
  · split <;> rfl
  · split
    · split
      · split <;> rfl
      · rfl
    · split
      · split <;> rfl
      · split
        · rfl
        · split <;> rfl
theorem lexF_fuel (b : ByteArray) : ∀ (f g i : Nat), b.size < f + i → b.size < g + i → lexF b f i = lexF b g i
  | 0, g, i, h, _ => by
    rw [lexF_end b 0 i (by omega), lexF_end b g i (by omega)]
  | f + 1, g, i, h, h2 => by
    by_cases hi : i < b.size
    · obtain ⟨g', rfl, _, hst⟩ := lexF_step b g i hi h2
      rw [hst]
      obtain ⟨f', e, _, hst2⟩ := lexF_step b (f + 1) i hi h
      have e : f = f' := by omega
      subst e
      rw [hst2]
      cases hw : wordOf b i b[i] with
      | none => rfl
      | some x =>
        obtain ⟨t, q⟩ := x
        have hq := wordOf_lt b i hi t q hw
        dsimp only
        rw [lexF_fuel b f g' _ (by omega) (by omega)]
    · rw [lexF_end b _ i hi, lexF_end b _ i hi]
/-- The words from a place on. -/
def lexA (b : ByteArray) (i : Nat) : Except Nat (List Tok) := lexF b (b.size + 1) i
theorem lexA_end (b : ByteArray) (i : Nat) (h : ¬ i < b.size) : lexA b i = .ok [] := lexF_end b _ i h
theorem lexA_step (b : ByteArray) (i : Nat) (h : i < b.size) : lexA b i = match wordOf b i b[i] with
    | none => .error i
    | some (t, q) => (lexA b (q + skipF false (b.toList.drop q))).map (t :: ·) := by
  unfold lexA
  obtain ⟨f', e, _, hst⟩ := lexF_step b (b.size + 1) i h (by omega)
  rw [hst]
  cases hw : wordOf b i b[i] with
  | none => rfl
  | some x =>
    obtain ⟨t, q⟩ := x
    have hq := wordOf_lt b i h t q hw
    dsimp only
    rw [lexF_fuel b f' (b.size + 1) _ (by omega) (by omega)]
theorem tokensA (b : ByteArray) : tokensOf b = (lexA b (skipF false b.toList)).map (· ++ [endTok b]) := by
  unfold tokensOf lexA
  rw [List.drop_zero]; rfl
def shiftE (o : Nat) : Except Nat (List Tok) → Except Nat (List Tok)
  | .error k => .error (o + k)
  | .ok l => .ok (l.map (shiftT o))
theorem lex_back (a b : ByteArray) : ∀ (n i : Nat), b.size - i ≤ n → lexA (catB a b) (a.size + 1 + i) = shiftE (a.size + 1) (lexA b i)
  | n, i, hn => by
    have hs := catB_size a b
    by_cases hi : i < b.size
    · have hi2 : a.size + 1 + i < (catB a b).size := by omega
      rw [lexA_step _ _ hi2, lexA_step b i hi, get_back a b i hi hi2, word_back a b i hi]
      cases hw : wordOf b i b[i] with
      | none => rfl
      | some x =>
        obtain ⟨t, q⟩ := x
        have hq := wordOf_lt b i hi t q hw
        rw [Option.map_some]
        show (lexA (catB a b) (a.size + 1 + q + skipF false ((catB a b).toList.drop (a.size + 1 + q)))).map (shiftT (a.size + 1) t :: ·) = _
        rw [catB_back, Nat.add_assoc (a.size + 1)]
        cases n with
        | zero => omega
        | succ n =>
          rw [lex_back a b n _ (by omega)]
          dsimp only
          cases lexA b (q + skipF false (b.toList.drop q)) <;> rfl
    · rw [lexA_end _ _ (by omega), lexA_end b i hi]; rfl
theorem wordOf_le (b : ByteArray) (i : Nat) (hi : i < b.size) (t : Tok) (q : Nat) (h : wordOf b i b[i] = some (t, q)) : q ≤ b.size := by
  have hl := str_len b
  unfold wordOf at h
  split at h
  · have hm := takeN_le partU (b.toList.drop i)
    rw [List.length_drop] at hm
    dsimp only at h
    split at h
    · injection h with h
      injection h with _ h
      omega
    · cases h
  · split at h
    · have hm := takeN_le digitU (b.toList.drop i)
      rw [List.length_drop] at hm
      dsimp only at h
      split at h
      · split at h
        · injection h with h
          injection h with _ h
          omega
        · cases h
      · cases h
    · split at h
      · have hm := takeN_le partU (b.toList.drop (i + 1))
        rw [List.length_drop] at hm
        dsimp only at h
        split at h
        · injection h with h
          injection h with _ h
          omega
        · cases h
      · split at h
        · rename_i hp
          have h2s := pre_two b i hi hp
          injection h with h
          injection h with _ h
          omega
        · split at h
          · injection h with h
            injection h with _ h
            omega
          · cases h
/-- Where the first source's end lies in both. -/
def overF (a b : ByteArray) (i : Nat) : Nat := if i < a.size then i else a.size + 1 + skipF false b.toList
theorem skip_front (a b : ByteArray) (q : Nat) (hq : q ≤ a.size) : q + skipF false ((catB a b).toList.drop q) = overF a b (q + skipF false (a.toList.drop q)) := by
  have hle := skipF_le (a.toList.drop q) false
  rw [catB_front a b q hq, skip_app]
  rw [List.length_drop, str_len] at hle ⊢
  unfold overF
  by_cases h : skipF false (a.toList.drop q) = a.size - q
  · rw [if_pos h, if_neg (by omega)]; omega
  · rw [if_neg h, if_pos (by omega)]
def joinE (x y : Except Nat (List Tok)) : Except Nat (List Tok) := match x with
  | .error k => .error k
  | .ok l => y.map (l ++ ·)
theorem lex_front (a b : ByteArray) : ∀ (n i : Nat), a.size - i ≤ n → lexA (catB a b) (overF a b i) = joinE (lexA a i) (lexA (catB a b) (a.size + 1 + skipF false b.toList))
  | n, i, hn => by
    have hs := catB_size a b
    by_cases hi : i < a.size
    · have hi2 : i < (catB a b).size := by omega
      have ho : overF a b i = i := by unfold overF; rw [if_pos hi]
      rw [ho, lexA_step _ _ hi2, lexA_step a i hi, get_front a b i hi hi2, word_front a b i hi]
      cases hw : wordOf a i a[i] with
      | none => rfl
      | some x =>
        obtain ⟨t, q⟩ := x
        have hq := wordOf_lt a i hi t q hw
        have hq2 := wordOf_le a i hi t q hw
        dsimp only
        rw [skip_front a b q hq2]
        cases n with
        | zero => omega
        | succ n =>
          rw [lex_front a b n _ (by omega)]
          cases lexA a (q + skipF false (a.toList.drop q)) with
          | error k => rfl
          | ok l =>
            show Except.map _ (Except.map _ _) = Except.map _ _
            rw [map_map_e]; rfl
    · have ho : overF a b i = a.size + 1 + skipF false b.toList := by unfold overF; rw [if_neg hi]
      rw [ho, lexA_end a i hi]
      show _ = Except.map _ _
      generalize lexA (catB a b) (a.size + 1 + skipF false b.toList) = r
      cases r <;> rfl
/-- The words of both. -/
theorem toks_cat (a b : ByteArray) : tokensOf (catB a b) = match tokensOf a with
    | .error k => .error k
    | .ok l => joinE (.ok l.dropLast) (shiftE (a.size + 1) (tokensOf b)) := by
  rw [tokensA (catB a b), tokensA a, tokensA b]
  have h0 := skip_front a b 0 (Nat.zero_le _)
  rw [List.drop_zero, List.drop_zero, Nat.zero_add, Nat.zero_add] at h0
  rw [h0, lex_front a b a.size _ (by omega), lex_back a b b.size _ (by omega)]
  have hend : shiftT (a.size + 1) (endTok b) = endTok (catB a b) := by
    unfold shiftT endTok
    rw [catB_size]
    simp only [Tok.mk.injEq, true_and, and_true]
    omega
  cases lexA a (skipF false a.toList) with
  | error k => rfl
  | ok l =>
    cases lexA b (skipF false b.toList) with
    | error k => rfl
    | ok m =>
      show Except.ok ((l ++ m.map (shiftT (a.size + 1))) ++ [endTok (catB a b)]) = Except.ok ((l ++ [endTok a]).dropLast ++ (m ++ [endTok b]).map (shiftT (a.size + 1)))
      rw [List.dropLast_concat, List.map_append, ← hend, List.append_assoc]; rfl
theorem toks_ne (b : ByteArray) (L : List Tok) (h : tokensOf b = .ok L) : L ≠ [] := by
  rw [tokensA] at h
  cases hl : lexA b (skipF false b.toList) with
  | error e => rw [hl] at h; cases h
  | ok l =>
    rw [hl] at h
    injection h with h
    subst h
    simp
theorem lexF_len (b : ByteArray) : ∀ (f i : Nat) (l : List Tok), lexF b f i = .ok l → l.length ≤ b.size - i
  | 0, i, l, h => by
    injection h with h
    subst h
    exact Nat.zero_le _
  | f + 1, i, l, h => by
    unfold lexF at h
    split at h
    · rename_i hi
      split at h
      · cases h
      · rename_i t q hw
        have hq := wordOf_lt b i hi t q hw
        cases hl : lexF b f (q + skipF false (b.toList.drop q)) with
        | error e => rw [hl] at h; cases h
        | ok l' =>
          rw [hl] at h
          injection h with h
          subst h
          have ih := lexF_len b f _ l' hl
          rw [List.length_cons]
          omega
    · injection h with h
      subst h
      exact Nat.zero_le _
theorem toks_len (b : ByteArray) (L : List Tok) (h : tokensOf b = .ok L) : L.length ≤ b.size + 1 := by
  rw [tokensA] at h
  cases hl : lexA b (skipF false b.toList) with
  | error e => rw [hl] at h; cases h
  | ok l =>
    rw [hl] at h
    injection h with h
    subst h
    have := lexF_len b _ _ l hl
    rw [List.length_append, List.length_singleton]
    omega
theorem chain_at (b : ByteArray) : ∀ (L : List Tok) (q : Nat), Chain b q L → ∀ t ∈ L, 0 ≤ t.at_ ∧ t.at_ ≤ b.size
  | [], _, _, t, h => by simp at h
  | x :: L, q, h, t, ht => by
    obtain ⟨p, hp, _, hpb, _, _, _, _, _, hn⟩ := h
    rw [List.mem_cons] at ht
    rcases ht with rfl | ht
    · rw [hp]; omega
    · exact chain_at b L _ hn t ht
theorem toks_at (b : ByteArray) (L : List Tok) (h : tokensOf b = .ok L) : ∀ t ∈ L, 0 ≤ t.at_ ∧ t.at_ ≤ b.size := chain_at b L 0 (chain_all b L h).1
theorem below_set {B g : Nat} {w V : World} (h : Below B w V) (hg : B ≤ g) (j : Nat) (u : Value) : Below B w (V.setCell ⟨g, j, none⟩ u) :=
  ⟨h.os, h.tape, h.output, by simpa [World.setCell] using h.size, fun k hk => (Below.heap_setCell V ⟨g, j, none⟩ u k (by show k ≠ g; omega)).trans (h.block k hk)⟩
/-- What Tokens gives, in parts. -/
def TokRes (base : Nat) (W : World) (r : Except Nat (List Tok)) (v : Value) (k e : Int) : Prop := match r with
  | .error i => v = .slice none 0 0 ∧ k = i ∧ e = 110
  | .ok l => k = 0 ∧ e = 0 ∧ ∃ g cap, v = .slice (some ⟨g, 0, none⟩) l.length cap ∧ l.length ≤ cap ∧ cap ≤ maxLen ∧ base ≤ g ∧ TokRow W g l
theorem TokRes.below {base : Nat} {W V : World} {r : Except Nat (List Tok)} {v : Value} {k e : Int} (h : TokRes base W r v k e) (d : Below W.heap.size W V) : TokRes base V r v k e := by
  cases r with
  | error i => exact h
  | ok l =>
    obtain ⟨h1, h2, g, cap, h3, h4, h5, h6, h7⟩ := h
    exact ⟨h1, h2, g, cap, h3, h4, h5, h6, h7.below d⟩
theorem Tokens_res {A : Option Addr} {n c : Nat} {b : ByteArray} (w : World) (h : ArgB w A n c b) (hs : b.size ≤ 65536) (hV : ErrVars w) : Calls Tryd.prog 9 #[.slice A n c] w fun e w' => ∃ (v : Value) (k x : Int), e = .returned (.tuple #[v, .int .i64 k, .int .i64 x]) ∧ Below w.heap.size w w' ∧ TokRes w.heap.size w' (tokensOf b) v k x := by
  refine (Tokens_arg w h hV).mono ?_
  unfold ArgPost TokRes
  simp only [if_pos hs]
  cases ht : tokensOf b with
  | error k =>
    rintro e w' ⟨d, rfl⟩
    exact ⟨_, _, _, rfl, d, rfl, rfl, rfl⟩
  | ok l =>
    rintro e w' ⟨d, v, rfl, hO⟩
    obtain ⟨g, cap, h1, h2, h3, h4, h5⟩ := hO.row (toks_ne b l ht)
    exact ⟨_, _, _, rfl, d, rfl, rfl, g, cap, h1, h2, h3, by omega, h5⟩
def u8s (l : List Int) : List Value := l.map (Value.int .u8)
theorem u8_infos : ∃ (i : TypeInfo) (z : Value), Tryd.prog.info? 5 = some i ∧ i.zero = some z ∧ i.size = 1 ∧ z.cells.size = 1 ∧ i.bytes = 1 := ⟨_, _, rfl, rfl, rfl, rfl, rfl⟩
/-- Bytes of the call's own, and an argument's behind them. -/
theorem append_arg {ops : Array Oper} {rest : List Oper} {o : Oper} {a : Act} {w : World} {Q : Exit → Act → World → Prop} (hgd : o.guard = none) (s x : Operand)
    (ho : o.op = .call { callee := .builtin .append, args := #[s, x], argTypes := #[22, 22] }) (base : Nat) (v : Value) (l : List Int) (m : Nat) (hm : l.length = m) (hs : a.eval s = v) (hown : w.ownsRow base 5 1 v m (u8s l))
    {A : Option Addr} {n c : Nat} {b : ByteArray} (hx : a.eval x = .slice A n c) (hA : ArgB w A n c b) (hA0 : A = none → c = 0) (hn : m + n ≤ 100000) (hbase : base ≤ w.heap.size)
    (h : ∀ v' w', w'.ownsRow base 5 1 v' (m + n) (u8s (l ++ numsB b)) → w.grownBy w' v.ownBlock → wpList Tryd.prog ops Q rest (a.put o.dst v') w') : wpList Tryd.prog ops Q (o :: rest) a w := by
  obtain ⟨i, z, hi, h1, h2, h3, h4⟩ := u8_infos
  have hnb := hA.hn
  have hle := hA.le
  have hl := numsB_len b
  rcases A with _ | ad
  · have hc0 := hA0 rfl
    subst hc0
    obtain rfl : n = 0 := by omega
    have e : numsB b = [] := List.eq_nil_of_length_eq_zero (by omega)
    refine wpList_append_own_none hgd s x 22 ho base 5 i 1 Tryd.underlying22 hi v m (u8s l) hs hown hx (h v w ?_ (World.grownBy.refl _ _))
    rw [e, List.append_nil]; exact hown
  · refine wpList_append_own w hgd s x 22 ho base 5 i z 1 1 Tryd.underlying22 hi h1 h2 h4 h3 (by decide) v m (u8s l) hs hown ad n c (u8s (numsB b)) hx (by unfold u8s; rw [List.length_map]; omega) (fun j u hu => ?_) (fun u hu => ?_) (by unfold maxLen; omega) (by omega) hbase (fun v' w' k1 k2 _ => h v' w' ?_ k2)
    · unfold u8s at hu
      rw [List.getElem?_map] at hu
      cases hq : (numsB b)[j]? with
      | none => rw [hq] at hu; cases hu
      | some y =>
        rw [hq] at hu
        injection hu with hu
        subst hu
        obtain ⟨ad', e1, _, e2⟩ := hA.s (fun e => by rw [e] at hq; simp at hq)
        injection e1 with e1
        subst e1
        exact e2 j y hq
    · unfold u8s at hu
      rw [List.mem_map] at hu
      obtain ⟨y, _, rfl⟩ := hu
      rfl
    · unfold u8s at k1 ⊢
      rw [List.map_append]; exact k1
theorem own_arg {w : World} {base : Nat} {v : Value} {n : Nat} {x : ByteArray} (h : w.ownsRow base 5 1 v n (u8s (numsB x))) (hn : x.size = n) (h0 : 0 < n) : ∃ g cap, v = .slice (some ⟨g, 0, none⟩) n cap ∧ ArgB w (some ⟨g, 0, none⟩) n cap x := by
  rcases h.2 with ⟨_, h1⟩ | ⟨g, cap, cur, rfl, hb, h1, hc, hm, _⟩
  · omega
  · refine ⟨g, cap, rfl, hn, hc, fun _ => ⟨_, rfl, (Array.getElem?_eq_some_iff.1 h1).1, fun j y hy => ?_⟩⟩
    exact World.ownsRow.cells h (g := g) rfl j _ (by unfold u8s; rw [List.getElem?_map, hy]; rfl)
theorem numsB_cat (a b : ByteArray) : numsB (catB a b) = (numsB a ++ [10]) ++ numsB b := by
  unfold numsB
  rw [catB_list, List.map_append, List.map_cons, List.append_assoc]; rfl
theorem row_nil {w : World} {A : Option Addr} {n c : Nat} {z : List Int} (h : IsRow .u8 w A n c z) : A = none → c = 0 := by
  rcases h with ⟨_, _, h, _⟩ | ⟨x, rfl, _⟩
  · exact fun _ => h
  · intro e; cases e
set_option maxRecDepth 100000 in
set_option maxHeartbeats 4000000 in
theorem LexParts.all (A : Option Addr) (n c : Nat) (z : List Int) (A' : Option Addr) (n' c' : Nat) (z' : List Int) (w : World) (hL : LaidOk w) (w0 : IsRow .u8 w A n c z) (y0 : n * 1 ≤ 140737488351232) (w1 : IsRow .u8 w A' n' c' z') (y1 : n' * 1 ≤ 140737488351232) :
    Calls Tryd.prog 6 #[.slice A n c, .slice A' n' c'] w fun e w' => e = .returned (.bool true) ∧ Below w.heap.size w w' := by
  have HL0 := Lib.hid (lives_any w hL)
  by_cases h0 : (2000 : Int) < n
  · clear w0 w1
    go_enter Tryd.func6, Tryd.ntmps6
    go_wp2_with (go_at_call 8; refine HL0.out.mono ?_; clear HL0; rintro e W ⟨rfl, hb⟩; have HB := Lib.hid hb; clear hb)
    go_ret
    exact ⟨rfl, HB.out⟩
  by_cases h1 : (2000 : Int) < n'
  · clear w0 w1
    go_enter Tryd.func6, Tryd.ntmps6
    go_wp2_with (go_at_call 8; refine HL0.out.mono ?_; clear HL0; rintro e W ⟨rfl, hb⟩; have HB := Lib.hid hb; clear hb)
    go_ret
    exact ⟨rfl, HB.out⟩
  obtain ⟨a, hA⟩ := ArgB.of_row w0
  obtain ⟨b, hA'⟩ := ArgB.of_row w1
  have HA := Lib.hid hA
  have HA' := Lib.hid hA'
  have hz := Lib.hid (row_nil w0)
  have hz' := Lib.hid (row_nil w1)
  have hn := hA.hn
  have hn' := hA'.hn
  have HV := Lib.hid hL
  have HL := Lib.hid fun (W : World) (d : Below w.heap.size w W) => lives_any W (ErrVars.below HV.out d)
  have hX := catB_size a b
  have HT := Lib.hid (toks_cat a b)
  have T1 := Lib.hid (Tokens_res w hA (by omega) hL)
  have T2 := Lib.hid fun (W : World) (d : Below w.heap.size w W) => Tokens_res W (hA'.below d) (by omega) (HV.out.below d)
  have hXs : (catB a b).size ≤ 65536 := by omega
  clear w0 w1 y0 y1 hA hA' hL HL0
  subst hn
  subst hn'
  go_enter Tryd.func6, Tryd.ntmps6
  go_upto_region 4 with (go_at_call 9; refine T1.out.mono ?_; clear T1; rintro e W1 ⟨v1, k1, x1, rfl, d1, r1⟩; have B1 := Lib.hid d1; have R1 := Lib.hid r1; clear d1 r1)
  go_upto_region 5 with (go_at_call 9; refine (T2.out _ B1.out).mono ?_; clear T2; rintro e W2 ⟨v2, k2, x2, rfl, d2, r2⟩; have B2 := Lib.hid (B1.out.trans (d2.mono B1.out.size)); have R2 := Lib.hid r2; have R3 := Lib.hid (R1.out.below d2); clear d2 r2 B1 R1)
  have hown0 := World.ownsRow_lit (base := W2.heap.size) (e := 5) (size := 1) W2 #[] 0 (Nat.le_refl _) (by unfold maxLen; omega) rfl
  have D0 := (Below.refl W2.heap.size W2).alloc (Nat.le_refl _) (.cells #[] 5)
  have hna : (numsB a).length = a.size := numsB_len a
  go_upto_region 6 with (first
    | (at_builtin; refine append_arg rfl (.tmp 39) (.tmp 40) rfl W2.heap.size _ [] 0 rfl rfl hown0 rfl ((HA.out.below B2.out).below D0) hz.out (by omega) (by simp) ?_; intro v' W3 o3 g3; have D3 := D0.grown g3 (by simp) (fun k e => (World.ownsRow.lt hown0 k e).1); clear hown0 D0 g3; rw [Nat.zero_add, List.nil_append] at o3)
    | (at_builtin; (generalize hY : World.alloc W3 _ = W4; obtain ⟨B4, d4, _⟩ := arg_box (cs := #[.int .u8 10]) hY; clear hY); refine wpList_append_own _ rfl (.tmp 41) (.tmp 42) 22 rfl W2.heap.size 5 _ _ 1 1 Tryd.underlying22 rfl rfl rfl rfl rfl (by decide) _ _ _ rfl (World.ownsRow.kept (row := none) o3 ⟨d4.os, d4.tape, d4.output, d4.size, fun k hk _ => d4.block k hk⟩ (by cases hb : Value.ownBlock _ with | none => exact .inl rfl | some k => exact .inr (by simp))) ⟨W3.heap.size, 0, none⟩ 1 1 [.int .u8 10] rfl rfl (fun j u hu => by rw [add_zero, Nat.zero_add, B4.cell, ← hu]; simp) (fun u hu => by simp at hu; subst hu; rfl) (by unfold maxLen; omega) (by omega) (Nat.le_trans D3.size d4.size) ?_; intro v' W5 o5 g5 _; have D5 := (D3.trans (d4.mono D3.size)).grown g5 (Nat.le_trans D3.size d4.size) (fun k e => (World.ownsRow.lt o3 k e).1); clear o3 g5 B4 d4 D3)
    | (at_builtin; refine append_arg rfl (.tmp 43) (.tmp 44) rfl W2.heap.size _ (numsB a ++ [10]) (a.size + 1) (by rw [List.length_append, hna]; rfl) rfl (by unfold u8s at o5 ⊢; rw [List.map_append]; exact o5) rfl ((HA'.out.below B2.out).below D5) hz'.out (by omega) D5.size ?_; intro v' W6 o6 g6; have D6 := D5.grown g6 D5.size (fun k e => (World.ownsRow.lt o5 k e).1); clear o5 D5 g6; rw [← numsB_cat] at o6; obtain ⟨g0, cap0, rfl, hC⟩ := own_arg o6 hX (by omega); have HC := Lib.hid hC; clear o6 hC; have B6 := Lib.hid (B2.out.trans (D6.mono B2.out.size)); have R2' := Lib.hid (R2.out.below D6); have R3' := Lib.hid (R3.out.below D6); clear D6 R2 R3 B2)
    | (go_at_call 9; refine (Tokens_res _ HC.out hXs (HV.out.below B6.out)).mono ?_; rintro e W7 ⟨v3, k3, x3, rfl, d7, r7⟩; have B7 := Lib.hid (B6.out.trans (d7.mono B6.out.size)); have Q3 := Lib.hid r7; have Q1 := Lib.hid (R3'.out.below d7); have Q2 := Lib.hid (R2'.out.below d7); clear d7 r7 B6 R2' R3' HC))
  rw [HT.out] at Q3
  clear HT hz hz' HA HA' hna hX hXs
  generalize A' = A' at *
  cases ta : tokensOf a with
  | error k =>
    rw [ta] at Q1 Q3
    obtain ⟨rfl, rfl, rfl⟩ := Q1.out
    obtain ⟨rfl, rfl, rfl⟩ := Q3.out
    clear Q1 Q2 Q3
    go_wp2_with (go_at_call 8; refine (HL.out _ B7.out).mono ?_; clear HL; rintro e W8 ⟨rfl, hb⟩; have HB3 := Lib.hid (B7.out.trans (hb.mono B7.out.size)); clear hb)
    go_ret
    exact ⟨rfl, HB3.out⟩
  | ok l =>
    rw [ta] at Q1 Q3
    cases tb : tokensOf b with
    | error k =>
      rw [tb] at Q2 Q3
      obtain ⟨rfl, rfl, g, cap, rfl, hcap, hmax, _, hrow⟩ := Q1.out
      obtain ⟨rfl, rfl, rfl⟩ := Q2.out
      have Q4 : v3 = .slice none 0 0 ∧ k3 = ((a.size + 1 + k : Nat) : Int) ∧ x3 = 110 := Q3.out
      obtain ⟨rfl, rfl, rfl⟩ := Q4
      have hk : (k : Int) + a.size + 1 = ((a.size + 1 + k : Nat) : Int) := by omega
      have hkk := toks_err b k tb
      clear Q1 Q2 Q3 hrow
      go_wp2_with (go_at_call 8; refine (HL.out _ B7.out).mono ?_; clear HL; rintro e W8 ⟨rfl, hb⟩; have HB3 := Lib.hid (B7.out.trans (hb.mono B7.out.size)); clear hb)
      go_ret
      exact ⟨rfl, HB3.out⟩
    | ok m =>
      rw [tb] at Q2 Q3
      have hlne := toks_ne a l ta
      obtain ⟨rfl, rfl, g1, cap1, rfl, hcap1, hmax1, _, hrow1⟩ := Q1.out
      obtain ⟨rfl, rfl, g2, cap2, rfl, hcap2, hmax2, _, hrow2⟩ := Q2.out
      have Q4 : k3 = 0 ∧ x3 = 0 ∧ ∃ g cap, v3 = .slice (some ⟨g, 0, none⟩) (l.dropLast ++ m.map (shiftT (a.size + 1))).length cap ∧ (l.dropLast ++ m.map (shiftT (a.size + 1))).length ≤ cap ∧ cap ≤ maxLen ∧ W6.heap.size ≤ g ∧ TokRow W7 g (l.dropLast ++ m.map (shiftT (a.size + 1))) := Q3.out
      obtain ⟨rfl, rfl, g3, cap3, rfl, hcap3, hmax3, _, hrow3⟩ := Q4
      have R1 := Lib.hid hrow1
      have R2 := Lib.hid hrow2
      have R3 := Lib.hid hrow3
      unfold maxLen at hmax1 hmax2 hmax3
      have hl0 : 0 < l.length := List.length_pos_iff.2 hlne
      have hlen : (l.dropLast ++ m.map (shiftT (a.size + 1))).length = l.length - 1 + m.length := by rw [List.length_append, List.length_map, List.length_dropLast]
      generalize hZ : l.dropLast ++ m.map (shiftT (a.size + 1)) = Z at *
      clear Q1 Q2 Q3 hrow1 hrow2 hrow3
      have hat := Lib.hid (toks_at b m tb)
      have hl2 := toks_len a l ta
      have hm2 := toks_len b m tb
      have hq1 : ((Z.length : Int) != (l.length : Int) + m.length - 1) = false := by simp only [bne_eq_false_iff_eq]; omega
      replace hlen := Lib.hid hlen
      go_upto_region 12 with fail
      clear hq1
      have hfr : ∀ k : Nat, k < l.length - 1 → ∃ t, l[k]? = some t ∧ Z[k]? = some t := fun k hk => by
        refine ⟨l[k], List.getElem?_eq_getElem (by omega), ?_⟩
        rw [← hZ, List.getElem?_append_left (by rw [List.length_dropLast]; exact hk), List.getElem?_dropLast, if_pos hk, List.getElem?_eq_getElem (by omega)]
      have hbk : ∀ j : Nat, j < m.length → ∃ t, m[j]? = some t ∧ Z[l.length - 1 + j]? = some (shiftT (a.size + 1) t) := fun j hj => by
        refine ⟨m[j], List.getElem?_eq_getElem hj, ?_⟩
        rw [← hZ, List.getElem?_append_right (by rw [List.length_dropLast]; omega), List.length_dropLast, Nat.add_sub_cancel_left, List.getElem?_map, List.getElem?_eq_getElem hj]; rfl
      replace hfr := Lib.hid hfr
      replace hbk := Lib.hid hbk
      clear hZ ta tb hmax1 hmax2 hmax3
      go_wp2_with fail
      go_loopw [88] (fun i wr => ∃ k : Nat, i = .int .i64 k ∧ k ≤ Z.length ∧ Hid (Below w.heap.size w wr) ∧ Hid (TokRow wr g1 l) ∧ Hid (TokRow wr g2 m) ∧ Hid (TokRow wr g3 Z)) (fun i _ => Z.length - (intOf i).toNat)
      case atStart => exact ⟨0, rfl, Nat.zero_le _, B7, R1, R2, R3⟩
      case round =>
        obtain ⟨k, rfl, hk, HB, R1, R2, R3⟩ := hrel
        by_cases hlt : k < Z.length
        · by_cases hf : k < l.length - 1
          · obtain ⟨⟨tk, tp, tx, tn⟩, hl1, hz1⟩ := hfr.out k hf
            have hc3 := Lib.hid (R3.out.at_ k _ hz1)
            have hc1 := Lib.hid (R1.out.at_ k _ hl1)
            rw [Tok.eta_cells] at hc1 hc3
            clear hl1 hz1
            go_upto_region 15 with (refine wpList_load_at rfl 34 _ rfl ⟨g3, k * 4, none⟩ rfl #[.int .i64 tk, .int .i64 tp, .string tx, .int .i64 tn] _ hc3.out Tryd.underlying34 rfl tok_info ?_)
            generalize hX : World.alloc wr _ = X
            obtain ⟨BX, dX, sX⟩ := arg_box (cs := #[.int .i64 tk, .int .i64 tp, .string tx, .int .i64 tn]) hX
            clear hX hc3
            go_upto_region 16 with fail
            generalize hY : World.alloc X _ = Y
            obtain ⟨BY, dY, _⟩ := arg_box (cs := #[.int .i64 0, .int .i64 0, .string ⟨#[]⟩, .int .i64 0]) hY
            clear hY
            have DY := dX.trans (dY.mono dX.size)
            have GX := Lib.hid (BX.below dY)
            have GY := Lib.hid BY
            have H1 := Lib.hid ((hc1.out.below R1.out.lt DY))
            have hgt := Lib.hid (show wr.heap.size < X.heap.size by omega)
            have hlx : ((k : Int) < (l.length : Int) - 1) := by omega
            clear BX BY dX dY hc1
            replace DY := Lib.hid DY
            go_upto_region 20 with (first
              | (refine wpList_load_at rfl 34 _ rfl ⟨g1, k * 4, none⟩ rfl #[.int .i64 tk, .int .i64 tp, .string tx, .int .i64 tn] _ H1.out Tryd.underlying34 rfl tok_info ?_)
              | (refine wpList_store_row rfl 34 (.tmp 16) (.tmp 102) rfl X.heap.size (#[.int .i64 tk, .int .i64 tp, .string tx, .int .i64 tn]) rfl rfl 34 _ GY.out tok_info rfl (Tok.one ⟨tk, tp, tx, tn⟩) ?_; (generalize hV : World.setRow Y _ _ = V; have KY := Lib.hid (hV ▸ GY.out.row #[.int .i64 tk, .int .i64 tp, .string tx, .int .i64 tn]); have KX := Lib.hid (hV ▸ GX.out.rowFar (Nat.ne_of_lt hgt.out) #[.int .i64 tk, .int .i64 tp, .string tx, .int .i64 tn]); have DV := Lib.hid (hV ▸ below_row DY.out (Nat.le_of_lt hgt.out) #[.int .i64 tk, .int .i64 tp, .string tx, .int .i64 tn]); clear hV GX GY H1 DY)))
            go_wp2_with (first
              | (refine wpList_load_row rfl 34 (.tmp 15) rfl wr.heap.size rfl 34 _ _ _ KX.out Tryd.underlying34 rfl tok_info ?_)
              | (refine wpList_load_row rfl 34 (.tmp 16) rfl X.heap.size rfl 34 _ _ _ KY.out Tryd.underlying34 rfl tok_info ?_))
            refine ⟨⟨k + 1, by simp, by omega, Lib.hid (HB.out.trans (DV.out.mono HB.out.size)), Lib.hid (R1.out.below DV.out), Lib.hid (R2.out.below DV.out), Lib.hid (R3.out.below DV.out)⟩, ?_⟩
            simp [intOf]; omega
          · obtain ⟨j, hj⟩ : ∃ j : Nat, k = l.length - 1 + j := ⟨k - (l.length - 1), by omega⟩
            have hjm : j < m.length := by have := hlen.out; omega
            obtain ⟨⟨tk, tp, tx, tn⟩, hl1, hz1⟩ := hbk.out j hjm
            rw [← hj] at hz1
            have htp : 0 ≤ tp ∧ tp ≤ b.size := hat.out _ (List.mem_of_getElem? hl1)
            have hji : (k : Int) - l.length + 1 = j := by omega
            replace hj := Lib.hid hj
            have hc3 := Lib.hid (R3.out.at_ k _ hz1)
            have hc1 := Lib.hid (R2.out.at_ j _ hl1)
            have ets : shiftT (a.size + 1) ⟨tk, tp, tx, tn⟩ = ⟨tk, tp + (a.size + 1), tx, tn⟩ := by unfold shiftT; simp
            rw [ets, Tok.eta_cells] at hc3
            rw [Tok.eta_cells] at hc1
            clear hl1 hz1 ets
            go_upto_region 15 with (refine wpList_load_at rfl 34 _ rfl ⟨g3, k * 4, none⟩ rfl #[.int .i64 tk, .int .i64 (tp + (a.size + 1)), .string tx, .int .i64 tn] _ hc3.out Tryd.underlying34 rfl tok_info ?_)
            generalize hX : World.alloc wr _ = X
            obtain ⟨BX, dX, sX⟩ := arg_box (cs := #[.int .i64 tk, .int .i64 (tp + (a.size + 1)), .string tx, .int .i64 tn]) hX
            clear hX hc3
            go_upto_region 16 with fail
            generalize hY : World.alloc X _ = Y
            obtain ⟨BY, dY, _⟩ := arg_box (cs := #[.int .i64 0, .int .i64 0, .string ⟨#[]⟩, .int .i64 0]) hY
            clear hY
            have DY := dX.trans (dY.mono dX.size)
            have GX := Lib.hid (BX.below dY)
            have GY := Lib.hid BY
            have H1 := Lib.hid ((hc1.out.below R2.out.lt DY))
            have hgt := Lib.hid (show wr.heap.size < X.heap.size by omega)
            have hlx : ¬ ((k : Int) < (l.length : Int) - 1) := by omega
            clear BX BY dX dY hc1
            replace DY := Lib.hid DY
            go_upto_region 19 with (first
              | (refine wpList_load_at rfl 34 _ rfl ⟨g2, j * 4, none⟩ rfl #[.int .i64 tk, .int .i64 tp, .string tx, .int .i64 tn] _ H1.out Tryd.underlying34 rfl tok_info ?_)
              | (refine wpList_store_row rfl 34 (.tmp 16) (.tmp 110) rfl X.heap.size (#[.int .i64 tk, .int .i64 tp, .string tx, .int .i64 tn]) rfl rfl 34 _ GY.out tok_info rfl (Tok.one ⟨tk, tp, tx, tn⟩) ?_; (generalize hV : World.setRow Y _ _ = V; have KY := Lib.hid (hV ▸ GY.out.row #[.int .i64 tk, .int .i64 tp, .string tx, .int .i64 tn]); have KX := Lib.hid (hV ▸ GX.out.rowFar (Nat.ne_of_lt hgt.out) #[.int .i64 tk, .int .i64 tp, .string tx, .int .i64 tn]); have DV := Lib.hid (hV ▸ below_row DY.out (Nat.le_of_lt hgt.out) #[.int .i64 tk, .int .i64 tp, .string tx, .int .i64 tn]); clear hV GX GY H1 DY)))
            have c1 : V.cell? ⟨X.heap.size, 1, none⟩ = some (.int .i64 tp) := KY.out.cell 1
            have hfz := KY.out.frozen 1
            go_upto_region 20 with fail
            generalize hV : World.setCell V _ _ = V2
            have JY := Lib.hid (show Blk V2 X.heap.size #[.int .i64 tk, .int .i64 (tp + (a.size + 1)), .string tx, .int .i64 tn] 34 from hV ▸ KY.out.set 1 (.int .i64 (tp + (a.size + 1))))
            have JX := Lib.hid (show Blk V2 wr.heap.size #[.int .i64 tk, .int .i64 (tp + (a.size + 1)), .string tx, .int .i64 tn] 34 from hV ▸ KX.out.far (p := ⟨X.heap.size, 1, none⟩) (Nat.ne_of_lt hgt.out) (.int .i64 (tp + (a.size + 1))))
            have DV2 := Lib.hid (show Below wr.heap.size wr V2 from hV ▸ below_set DV.out (Nat.le_of_lt hgt.out) 1 (.int .i64 (tp + (a.size + 1))))
            clear hV c1 hfz KX KY DV
            go_wp2_with (first
              | (refine wpList_load_row rfl 34 (.tmp 15) rfl wr.heap.size rfl 34 _ _ _ JX.out Tryd.underlying34 rfl tok_info ?_)
              | (refine wpList_load_row rfl 34 (.tmp 16) rfl X.heap.size rfl 34 _ _ _ JY.out Tryd.underlying34 rfl tok_info ?_))
            refine ⟨⟨k + 1, by simp, by omega, Lib.hid (HB.out.trans (DV2.out.mono HB.out.size)), Lib.hid (R1.out.below DV2.out), Lib.hid (R2.out.below DV2.out), Lib.hid (R3.out.below DV2.out)⟩, ?_⟩
            simp [intOf]; omega
        · go_wp2_with (go_at_call 8; refine (HL.out _ HB.out).mono ?_; clear HL; rintro e W8 ⟨rfl, hb⟩; have HB3 := Lib.hid (HB.out.trans (hb.mono HB.out.size)); clear hb)
          go_ret
          exact ⟨rfl, HB3.out⟩
end Go.Proofs.YtbakfpoejoajeaaDoor.Hand
