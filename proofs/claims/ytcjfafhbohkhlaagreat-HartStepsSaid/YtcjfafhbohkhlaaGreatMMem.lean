/- DERIVED. Bytes that are loaded and stored: plain lists of numbers; no program. -/
import Derived.Laws.BytesArg
import Derived.Laws.CopyOwn
import Derived.Deep.WholeRow
import Derived.Test.YtcjfafhbohkhlaaGreatMBits
import Derived.Test.YtcjfafhbohkhlaaGreatMWalk
import Derived.Test.YtcjfafhbohkhlaaGreatMArg
namespace Go.Proofs.YtcjfafhbohkhlaaGreat.M
open Go Go.RowKit
set_option linter.unusedVariables false
/-- So many lowest bytes of a number, the lowest first. -/
def lowBytes (v : Int) : Nat → List Int
  | 0 => []
  | n + 1 => v % 256 :: lowBytes (v / 256) n
/-- The number whose bytes these are. -/
def leOf : List Int → Int
  | [] => 0
  | x :: l => x + 256 * leOf l
theorem lowBytes_length (v : Int) (n : Nat) : (lowBytes v n).length = n := by
  induction n generalizing v with
  | zero => rfl
  | succ n ih => simp [lowBytes, ih]
theorem ediv_pow (v : Int) (a b : Nat) : v / 2 ^ a / 2 ^ b = v / 2 ^ (a + b) := by
  rw [Int.pow_add, Int.ediv_ediv_of_nonneg (Int.le_of_lt (ipos a))]
theorem lowBytes_get (v : Int) (n i : Nat) (h : i < n) : (lowBytes v n)[i]? = some (v / 2 ^ (8 * i) % 256) := by
  induction n generalizing v i with
  | zero => omega
  | succ n ih =>
    cases i with
    | zero => simp [lowBytes]
    | succ i =>
      rw [lowBytes, List.getElem?_cons_succ, ih _ _ (by omega), show (256 : Int) = 2 ^ 8 from rfl, ediv_pow, show 8 + 8 * i = 8 * (i + 1) by omega]
theorem lowBytes_succ (v : Int) (n : Nat) : lowBytes v (n + 1) = lowBytes v n ++ [v / 2 ^ (8 * n) % 256] := by
  apply List.ext_getElem?
  intro i
  by_cases h : i < n
  · rw [lowBytes_get v (n + 1) i (by omega), List.getElem?_append_left (by rw [lowBytes_length]; exact h), lowBytes_get v n i h]
  · by_cases e : i = n
    · subst e; rw [lowBytes_get v (i + 1) i (by omega)]; simp [lowBytes_length]
    · rw [List.getElem?_eq_none (by rw [lowBytes_length]; omega), List.getElem?_eq_none (by simp [lowBytes_length]; omega)]
theorem lowBytes_range (v : Int) (n : Nat) : ∀ x ∈ lowBytes v n, 0 ≤ x ∧ x < 256 := by
  induction n generalizing v with
  | zero => simp [lowBytes]
  | succ n ih =>
    intro x hx
    rw [lowBytes, List.mem_cons] at hx
    rcases hx with rfl | hx
    · omega
    · exact ih _ _ hx
theorem leOf_snoc (l : List Int) (x : Int) : leOf (l ++ [x]) = leOf l + x * 2 ^ (8 * l.length) := by
  induction l with
  | nil => simp [leOf]
  | cons y l ih =>
    simp only [List.cons_append, leOf, ih, List.length_cons, show 8 * (l.length + 1) = 8 * l.length + 8 by omega, Int.pow_add, show (2 : Int) ^ 8 = 256 from rfl]
    rw [Int.mul_add, ← Int.add_assoc, Int.mul_comm (2 ^ (8 * l.length)) 256, Int.mul_left_comm x 256]
theorem leOf_range (l : List Int) (h : ∀ x ∈ l, 0 ≤ x ∧ x < 256) : 0 ≤ leOf l ∧ leOf l < 2 ^ (8 * l.length) := by
  induction l with
  | nil => simp [leOf]
  | cons x l ih =>
    have h1 := h x (by simp)
    have h2 := ih fun y hy => h y (by simp [hy])
    simp only [leOf, List.length_cons, show 8 * (l.length + 1) = 8 * l.length + 8 by omega, Int.pow_add, show (2 : Int) ^ 8 = 256 from rfl]
    omega
theorem leOf_lowBytes (v : Int) (n : Nat) : leOf (lowBytes v n) = v % 2 ^ (8 * n) := by
  induction n with
  | zero => simp [lowBytes, leOf]
  | succ n ih =>
    rw [lowBytes_succ, leOf_snoc, ih, lowBytes_length, show 8 * (n + 1) = 8 * n + 8 by omega]
    have e : v % 2 ^ (8 * n + 8) = v % 2 ^ (8 * n) + v / 2 ^ (8 * n) % 256 * 2 ^ (8 * n) := by
      have p := ipos (8 * n)
      rw [Int.pow_add, show (2 : Int) ^ 8 = 256 from rfl]
      have h1 := Int.mul_ediv_add_emod v (2 ^ (8 * n))
      generalize hq : v / 2 ^ (8 * n) = q at *
      generalize (2 : Int) ^ (8 * n) = P at *
      have h2 := Int.mul_ediv_add_emod q 256
      have r0 := Int.emod_nonneg v (show P ≠ 0 by omega)
      have r1 := Int.emod_lt_of_pos v p
      generalize v % P = r at *
      have hv : v = P * 256 * (q / 256) + (r + q % 256 * P) := by
        have : P * q = P * 256 * (q / 256) + q % 256 * P := by
          conv => lhs; rw [← h2]
          rw [Int.mul_add, ← Int.mul_assoc, Int.mul_comm (q % 256) P]
        omega
      have t0 := Int.emod_nonneg q (show (256 : Int) ≠ 0 by omega)
      have t1 := Int.emod_lt_of_pos q (show (0 : Int) < 256 by omega)
      have u0 := Int.mul_nonneg t0 (Int.le_of_lt p)
      have u1 : q % 256 * P ≤ 255 * P := Int.mul_le_mul_of_nonneg_right (by omega) (Int.le_of_lt p)
      rw [hv, Int.add_comm, Int.add_mul_emod_self_left]
      exact Int.emod_eq_of_lt (by omega) (by omega)
    rw [e]
/-- Why so many bytes can't be there. -/
def partE (L : Nat) (at_ n : Int) : Int := if n < 0 then 2 else if (L : Int) < at_ ∨ (L : Int) - at_ < n then 50 else 0
def sizeB (n : Int) : Bool := decide (n = 1 ∨ n = 2 ∨ n = 4 ∨ n = 8)
/-- Why a number can't be there. -/
def numE (L : Nat) (at_ n : Int) : Int := if sizeB n = false then 2 else if at_ % n = 0 then partE L at_ n else 51
/-- So many bytes from a place on. -/
def segOf (bs : List Int) (at_ n : Int) : List Int := (bs.drop at_.toNat).take n.toNat
def loadOf (bs : List Int) (at_ n : Int) : Int := if numE bs.length at_ n = 0 then leOf (segOf bs at_ n) else 0
def storeOf (bs : List Int) (at_ n v : Int) : List Int := if numE bs.length at_ n = 0 then splice bs at_.toNat (lowBytes v n.toNat) else bs
def putOf (bs : List Int) (at_ : Int) (l : List Int) : List Int := if partE bs.length at_ l.length = 0 then splice bs at_.toNat l else bs
def readOf (bs : List Int) (at_ n : Int) : List Int := if partE bs.length at_ n = 0 then segOf bs at_ n else []
def Bytes (bs : List Int) : Prop := ∀ x ∈ bs, 0 ≤ x ∧ x < 256
theorem partE_ok {L : Nat} {at_ n : Int} : partE L at_ n = 0 ↔ 0 ≤ n ∧ at_ ≤ L ∧ n ≤ L - at_ := by unfold partE; split <;> (try split) <;> omega
theorem numE_ok {L : Nat} {at_ n : Int} : numE L at_ n = 0 ↔ (n = 1 ∨ n = 2 ∨ n = 4 ∨ n = 8) ∧ at_ % n = 0 ∧ at_ ≤ L ∧ n ≤ L - at_ := by
  unfold numE sizeB
  by_cases h : n = 1 ∨ n = 2 ∨ n = 4 ∨ n = 8
  · rw [decide_eq_true h]
    simp only [Bool.true_eq_false, if_false]
    by_cases h2 : at_ % n = 0
    · rw [if_pos h2, partE_ok]; omega
    · rw [if_neg h2]; simp [h2]
  · rw [decide_eq_false h]; simp [h]
theorem segOf_length {bs : List Int} {at_ n : Int} (h0 : 0 ≤ at_) (h : partE bs.length at_ n = 0) : (segOf bs at_ n).length = n.toNat := by
  rw [partE_ok] at h; simp [segOf]; omega
theorem splice_get {α : Type} (L : List α) (o : Nat) (cs : List α) (h : o + cs.length ≤ L.length) (i : Nat) : (splice L o cs)[i]? = if o ≤ i ∧ i < o + cs.length then cs[i - o]? else L[i]? := by
  unfold splice
  by_cases h1 : i < o
  · rw [if_neg (by omega), List.getElem?_append_left (by simp; omega), List.getElem?_take_of_lt h1]
  · rw [List.getElem?_append_right (by simp; omega), List.length_take, show min o L.length = o by omega]
    by_cases h2 : i < o + cs.length
    · rw [if_pos ⟨by omega, h2⟩, List.getElem?_append_left (by omega)]
    · rw [if_neg (by omega), List.getElem?_append_right (by omega), List.getElem?_drop]; congr 1; omega
theorem splice_map {α β : Type} (f : α → β) (L : List α) (o : Nat) (cs : List α) : (splice L o cs).map f = splice (L.map f) o (cs.map f) := by
  simp [splice, List.map_take, List.map_drop]
theorem mem_splice {α : Type} {L : List α} {o : Nat} {cs : List α} {x : α} (h : x ∈ splice L o cs) : x ∈ L ∨ x ∈ cs := by
  unfold splice at h
  rw [List.mem_append, List.mem_append] at h
  rcases h with h | h | h
  · exact .inl (List.mem_of_mem_take h)
  · exact .inr h
  · exact .inl (List.mem_of_mem_drop h)
theorem storeOf_length (bs : List Int) (at_ n v : Int) (h0 : 0 ≤ at_) : (storeOf bs at_ n v).length = bs.length := by
  unfold storeOf
  split
  · rename_i h; rw [numE_ok] at h; rw [length_splice _ _ _ (by rw [lowBytes_length]; omega)]
  · rfl
theorem putOf_length (bs l : List Int) (at_ : Int) (h0 : 0 ≤ at_) : (putOf bs at_ l).length = bs.length := by
  unfold putOf
  split
  · rename_i h; rw [partE_ok] at h; rw [length_splice _ _ _ (by omega)]
  · rfl
theorem storeOf_bytes {bs : List Int} {at_ n v : Int} (h : Bytes bs) : Bytes (storeOf bs at_ n v) := by
  unfold storeOf
  split
  · intro x hx; exact (mem_splice hx).elim (h x) (lowBytes_range _ _ x)
  · exact h
theorem putOf_bytes {bs l : List Int} {at_ : Int} (h : Bytes bs) (hl : Bytes l) : Bytes (putOf bs at_ l) := by
  unfold putOf
  split
  · intro x hx; exact (mem_splice hx).elim (h x) (hl x)
  · exact h
theorem segOf_bytes {bs : List Int} {at_ n : Int} (h : Bytes bs) : Bytes (segOf bs at_ n) := fun x hx => h x (List.mem_of_mem_drop (List.mem_of_mem_take hx))
theorem readOf_bytes {bs : List Int} {at_ n : Int} (h : Bytes bs) : Bytes (readOf bs at_ n) := by 
  unfold readOf; split
  · exact segOf_bytes h
  · intro x hx; cases hx
theorem splice_snoc {α : Type} (L : List α) (o : Nat) (cs : List α) (x : α) (h : o + cs.length < L.length) : (splice L o cs).set (o + cs.length) x = splice L o (cs ++ [x]) := by
  apply List.ext_getElem?
  intro i
  rw [List.getElem?_set, length_splice _ _ _ (by omega), splice_get _ _ _ (by omega), splice_get _ _ _ (by simp; omega)]
  simp only [List.length_append, List.length_singleton]
  by_cases e : o + cs.length = i
  · subst e; rw [if_pos rfl, if_pos (by omega), if_pos ⟨by omega, by omega⟩, List.getElem?_append_right (by omega)]; simp
  · rw [if_neg e]
    by_cases h1 : o ≤ i ∧ i < o + cs.length
    · rw [if_pos h1, if_pos (by omega), List.getElem?_append_left (by omega)]
    · rw [if_neg h1, if_neg (by omega)]
theorem take_concat_getD (l : List Int) (j : Nat) (h : j < l.length) : l.take j ++ [l.getD j 0] = l.take (j + 1) := by
  rw [List.take_succ_eq_append_getElem h, List.getD_eq_getElem?_getD, List.getElem?_eq_getElem h]; rfl
theorem splice_nil {α : Type} (L : List α) (o : Nat) : splice L o [] = L := by simp [splice]
/-- Its first elements read so. -/
def Src (w : World) (A : Option Addr) (l : List Int) : Prop := l ≠ [] → ∃ ad, A = some ad ∧ ad.block < w.heap.size ∧ ∀ j x, l[j]? = some x → w.cell? (ad.add j) = some (.int .u8 x)
theorem IsRow.src {w : World} {a : Option Addr} {len cap : Nat} {zs : List Int} (h : IsRow .u8 w a len cap zs) (m : Nat) (hm : m ≤ len) : Src w a (zs.take m) ∧ (zs.take m).length = m ∧ Bytes (zs.take m) := by
  rcases h with ⟨rfl, rfl, rfl, rfl⟩ | ⟨x, rfl, h1, h2, h3, h4, h5⟩
  · obtain rfl : m = 0 := by omega
    exact ⟨fun h => absurd rfl h, rfl, fun y hy => by cases hy⟩
  · refine ⟨fun hne => ⟨x, rfl, ?_, fun j y hy => ?_⟩, by simp; omega, fun y hy => ?_⟩
    · have hl : 0 < zs.length := by rw [← List.length_pos_iff] at hne; simp at hne; omega
      have := lt_of_cell (h4 0 hl)
      rwa [block_add] at this
    · have hj := (List.getElem?_eq_some_iff.1 hy).1
      rw [List.length_take] at hj
      rw [List.getElem?_take_of_lt (show j < m by omega)] at hy
      rw [h4 j (by omega), List.getD_eq_getElem?_getD, hy]; rfl
    · have := h5 y (List.mem_of_mem_take hy)
      simp [Lit.wf, IntKind.min, IntKind.max, IntKind.signed, IntKind.bits] at this
      omega
theorem Src.below {w w' : World} {A : Option Addr} {l : List Int} (h : Src w A l) (hb : Below w.heap.size w w') : Src w' A l := fun hne => by
  obtain ⟨ad, e, h1, h2⟩ := h hne
  exact ⟨ad, e, Nat.lt_of_lt_of_le h1 hb.size, fun j x hx => (hb.cell (p := ad.add j) (by rw [block_add]; exact h1)).trans (h2 j x hx)⟩
theorem run_convert_src {P : Program} (w : World) (src e dst : TypeId) (hs : P.underlying src = some (.slice e)) (he : P.underlying e = some (.int .u8)) (hd : P.underlying dst = some .string) (A : Option Addr) (l : List Int) (n c : Nat) (hn : l.length = n) (h : Src w A l) :
    (convert src dst (.slice A n c)).run P w = .ok (.string (strOfNums l)) w := by
  subst hn
  rcases A with _ | ad
  · have : l = [] := by
      rcases l with _ | ⟨x, l⟩
      · rfl
      · obtain ⟨ad, h, _⟩ := h (by simp)
        cases h
    subst this
    exact run_convert_bytes_nil w src e hs he _ _ dst hd
  · have hl : (loadCells ad l.length).run P w = .ok (l.map (Value.int .u8)).toArray w := by
      have := run_loadCells_list (P := P) w ad (l.map (Value.int .u8)) (fun j v hj => by
        have hjl := (List.getElem?_eq_some_iff.1 hj).1
        rw [List.length_map] at hjl
        obtain ⟨ad', h1, _, h2⟩ := h (by intro e; subst e; simp at hjl)
        injection h1 with h1
        subst h1
        rw [List.getElem?_map, List.getElem?_eq_getElem hjl, Option.map_some] at hj
        injection hj with hj
        subst hj
        exact h2 j _ (List.getElem?_eq_getElem hjl))
      simpa using this
    rw [run_convert_bytes_string w src dst e _ l.length c hs he hd, run_bytesToString w _ l.length c l hl, foldl_push_bytes]
    simp [strOfNums, ByteArray.empty, ByteArray.emptyWithCapacity]
    rfl
theorem strOfNums_inj {l m : List Int} (hl : Bytes l) (hm : Bytes m) (h : strOfNums l = strOfNums m) : l = m := by
  have h2 : (strOfNums l).data.toList = (strOfNums m).data.toList := by rw [h]
  rw [strOfNums_data, strOfNums_data] at h2
  clear h
  induction l generalizing m with
  | nil => cases m with
    | nil => rfl
    | cons y m => simp at h2
  | cons x l ih =>
    cases m with
    | nil => simp at h2
    | cons y m =>
      simp only [List.map_cons, List.cons.injEq] at h2
      have hx := hl x (by simp)
      have hy := hm y (by simp)
      have e : x.toNat = y.toNat := by
        have := congrArg UInt8.toNat h2.1
        simp only [UInt8.toNat_ofNat'] at this
        omega
      rw [ih (fun z hz => hl z (by simp [hz])) (fun z hz => hm z (by simp [hz])) h2.2, show x = y by omega]
theorem readOf_putOf (bs l : List Int) (p : Nat) (h : partE bs.length p l.length = 0) : readOf (putOf bs p l) p l.length = l := by
  have h1 := partE_ok.1 h
  have hl := putOf_length bs l p (by omega)
  unfold readOf
  rw [hl, if_pos h]
  unfold segOf putOf
  rw [if_pos h]
  apply List.ext_getElem?
  intro i
  simp only [Int.toNat_natCast]
  by_cases hi : i < l.length
  · rw [List.getElem?_take_of_lt hi, List.getElem?_drop, splice_get _ _ _ (by omega), if_pos ⟨by omega, by omega⟩]; congr 1; omega
  · rw [List.getElem?_eq_none (by simp; omega), List.getElem?_eq_none (by omega)]
/-- or of a number below 2 to the k and one above. -/
theorem or_byte (v x : Int) (k : Nat) (hk : k + 8 ≤ 64) (hv : 0 ≤ v ∧ v < 2 ^ k) (hx : 0 ≤ x ∧ x < 256) : Go.bits .or .u64 v (IntKind.u64.wrap (x * 2 ^ k)) = v + x * 2 ^ k := by
  obtain ⟨a, rfl⟩ : ∃ a : Nat, v = a := ⟨v.toNat, by omega⟩
  obtain ⟨b, rfl⟩ : ∃ b : Nat, x = b := ⟨x.toNat, by omega⟩
  have ha : a < 2 ^ k := by have := hv.2; rw [ipow] at this; omega
  have hb : b < 256 := by omega
  have hle : b * 2 ^ k < 2 ^ 64 := by
    have h1 : b * 2 ^ k < 256 * 2 ^ k := Nat.mul_lt_mul_of_pos_right hb (Nat.two_pow_pos k)
    have h2 : 256 * 2 ^ k ≤ 2 ^ 64 := by rw [show 256 = 2 ^ 8 from rfl, ← Nat.pow_add]; exact Nat.pow_le_pow_right (by decide) (by omega)
    omega
  have e : (b : Int) * 2 ^ k = ((b * 2 ^ k : Nat) : Int) := by rw [ipow]; simp
  rw [e, wrap_nat _ hle, or_nat a _ (Nat.lt_of_lt_of_le ha (Nat.pow_le_pow_right (by decide) (by omega))) hle, Nat.or_comm, Nat.mul_comm, ← Nat.two_pow_add_eq_or_of_lt ha]
  omega
end Go.Proofs.YtcjfafhbohkhlaaGreat.M
