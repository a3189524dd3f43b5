/-
  Plain functions on texts: numbers in decimal, items "SIZE COUNT", and the counts that a text describes. No program in sight.
-/
import Derived.Test.YtkcbgbpgiihdeaaDoorPlain
import Derived.Lib.SplitLaws
import Derived.Lib.SlicesS
namespace Go.Proofs.YtkcbgbpgiihdeaaDoor
open Go.Lib

/-! ### bytes -/
theorem at_data (s : ByteArray) (k : Nat) (h : k < s.size) : s.data.toList[k]? = some (s[k]'h) := by
  rw [Array.getElem?_toList]
  exact Array.getElem?_eq_getElem h
theorem empty_of (s : ByteArray) (h : s.size = 0) : s.toList = [] ∧ s.toList.isEmpty = true := by
  have : s.toList = [] := by
    rw [toList_data]
    exact List.eq_nil_of_length_eq_zero (by rw [← size_eq]; exact h)
  exact ⟨this, by rw [this]; rfl⟩
theorem full_of (s : ByteArray) (h : 0 < s.size) : (¬ s.toList = []) ∧ s.toList.isEmpty = false := by
  have : ¬ s.toList = [] := fun e => by
    rw [toList_data] at e
    have h2 := size_eq s
    rw [e, List.length_nil] at h2
    omega
  exact ⟨this, by simpa using this⟩
theorem eq_of_data {a b : ByteArray} (h : a.data.toList = b.data.toList) : a = b := by rw [← mk_data a, ← mk_data b, h]

/-! ### numbers -/
def isDig (b : UInt8) : Bool := decide (48 ≤ b.toNat) && decide (b.toNat ≤ 57)
def num (l : List UInt8) : Int := l.foldl (fun n b => 10 * n + ((b.toNat : Int) - 48)) 0
/-- A number of 1 to 18 digits, without leading zeros. -/
def numOk (l : List UInt8) : Bool := (decide (1 ≤ l.length) && decide (l.length ≤ 18)) && ((decide (l.length ≤ 1) || l[0]? != some 48) && l.all isDig)
theorem isDig_true {b : UInt8} : isDig b = true ↔ 48 ≤ b.toNat ∧ b.toNat ≤ 57 := by simp [isDig]
theorem isDig_false {b : UInt8} : isDig b = false ↔ b.toNat < 48 ∨ 57 < b.toNat := by simp [isDig]; omega
theorem num_succ {l : List UInt8} {k : Nat} {b : UInt8} (h : l[k]? = some b) : num (l.take (k + 1)) = 10 * num (l.take k) + ((b.toNat : Int) - 48) := by
  rw [List.take_add_one, h]
  simp [num, List.foldl_append]
theorem num_bound : ∀ (k : Nat) (l : List UInt8), (l.take k).all isDig = true → k ≤ l.length → 0 ≤ num (l.take k) ∧ num (l.take k) < 10 ^ k
  | 0, l, _, _ => by simp [num]
  | k + 1, l, h, hk => by
    have hlt : k < l.length := by omega
    have hb : l[k]? = some l[k] := List.getElem?_eq_getElem hlt
    rw [List.take_add_one, hb] at h
    simp only [Option.toList_some, List.all_append, Bool.and_eq_true, List.all_cons, List.all_nil, Bool.and_true] at h
    obtain ⟨h1, h2⟩ := num_bound k l h.1 (by omega)
    have hd := isDig_true.1 h.2
    rw [num_succ hb, Int.pow_succ]
    omega
theorem num_small (k : Nat) (l : List UInt8) (h : (l.take k).all isDig = true) (hk : k ≤ l.length) (h17 : k ≤ 17) : 0 ≤ num (l.take k) ∧ num (l.take k) < 100000000000000000 := by
  obtain ⟨h1, h2⟩ := num_bound k l h hk
  refine ⟨h1, Int.lt_of_lt_of_le h2 ?_⟩
  have : (10 : Int) ^ k ≤ 10 ^ 17 := by
    have h3 : (10 : Nat) ^ k ≤ 10 ^ 17 := Nat.pow_le_pow_right (by omega) h17
    exact_mod_cast h3
  exact this
theorem digs_succ {l : List UInt8} {k : Nat} {b : UInt8} (h : (l.take k).all isDig = true) (hb : l[k]? = some b) (hd : isDig b = true) : (l.take (k + 1)).all isDig = true := by
  rw [List.take_add_one, hb, List.all_append, h]
  simp [hd]
theorem digs_not {l : List UInt8} {k : Nat} {b : UInt8} (hb : l[k]? = some b) (hd : isDig b = false) : l.all isDig = false := by
  cases ha : l.all isDig
  · rfl
  · rw [List.all_eq_true] at ha
    have := ha b (List.mem_of_getElem? hb)
    rw [hd] at this
    cases this

/-! ### a text cut at its first space -/
theorem occ_one (l : List UInt8) (c : UInt8) (i : Nat) : occAt l [c] i = true ↔ l[i]? = some c := by
  unfold occAt
  cases h : l.drop i with
  | nil =>
    have : l[i]? = none := List.getElem?_eq_none (by simpa using h)
    simp [this]
  | cons a t =>
    have : l[i]? = some a := by
      have := congrArg (·[0]?) h
      simpa using this
    rw [this]
    simp [List.isPrefixOf]
    exact eq_comm
theorem cut_hit {l : List UInt8} {c : UInt8} {i : Nat} (h : l[i]? = some c) (hn : ∀ j, j < i → l[j]? ≠ some c) : cut l [c] = (l.take i, l.drop (i + 1), true) := by
  have hlt : i < l.length := (List.getElem?_eq_some_iff.1 h).1
  have hi : index l [c] = i := index_first (by omega) ((occ_one l c i).2 h) fun j hj => by
    cases ho : occAt l [c] j
    · rfl
    · exact absurd ((occ_one l c j).1 ho) (hn j hj)
  unfold cut
  rw [if_pos (by omega), hi]
  simp
theorem cut_miss {l : List UInt8} {c : UInt8} (hn : ∀ j : Nat, l[j]? ≠ some c) : cut l [c] = (l, [], false) := by
  have hi : index l [c] = -1 := index_none fun j _ => by
    cases ho : occAt l [c] j
    · rfl
    · exact absurd ((occ_one l c j).1 ho) (hn j)
  unfold cut
  rw [if_neg (by omega)]

/-! ### items -/
def itemOk (l : List UInt8) : Bool := (cut l [32]).2.2 && (decide (1 ≤ (cut l [32]).1.length) && numOk (cut l [32]).2.1)
def itemS (l : List UInt8) : ByteArray := ⟨(cut l [32]).1.toArray⟩
def itemN (l : List UInt8) : Int := num (cut l [32]).2.1

/-! ### a text divided at each comma that a space follows -/
theorem occ_two (l : List UInt8) (i : Nat) : occAt l [44, 32] i = true ↔ l[i]? = some 44 ∧ l[i + 1]? = some 32 := by
  unfold occAt
  have e0 : l[i]? = (l.drop i)[0]? := by simp
  have e1 : l[i + 1]? = (l.drop i)[1]? := by simp
  rw [e0, e1]
  cases l.drop i with
  | nil => simp
  | cons a t =>
    cases t with
    | nil => simp [List.isPrefixOf]
    | cons b t =>
      simp [List.isPrefixOf]
      constructor
      · rintro ⟨rfl, rfl⟩; exact ⟨rfl, rfl⟩
      · rintro ⟨rfl, rfl⟩; exact ⟨rfl, rfl⟩
theorem split_hit {u sep : List UInt8} {i : Nat} (hs : sep ≠ []) (h : index u sep = i) : split u sep = u.take i :: split (u.drop (i + sep.length)) sep := by
  unfold split
  rw [count_hit hs h, Nat.add_comm, splitK, if_neg (by rw [h]; simp), h]
  simp
theorem split_miss {u sep : List UInt8} (h : index u sep = -1) : split u sep = [u] := by
  unfold split
  rw [count_miss h]
  rfl
/-- The pieces of a text, as strings. -/
def pieces (s : ByteArray) : List ByteArray := splitB ⟨#[44, 32]⟩ 0 (countB s ⟨#[44, 32]⟩) s
theorem pieces_data (s : ByteArray) : (pieces s).map (·.data.toList) = split s.data.toList [44, 32] := by
  unfold pieces
  rw [splitB_data]
  rfl

/-! ### the counts that a text describes -/
abbrev St := List Int × Int
def step (sizes : List ByteArray) (st : St) (t : ByteArray) : Except Int St :=
  if itemOk t.data.toList then
    if idxOfS sizes (itemS t.data.toList) < 0 then .error 6
    else if itemN t.data.toList = 0 ∨ 1000 < itemN t.data.toList then .error 3
    else if st.1.getD (idxOfS sizes (itemS t.data.toList)).toNat 0 ≠ 0 then .error 7
    else if idxOfS sizes (itemS t.data.toList) < st.2 then .error 21
    else .ok (st.1.set (idxOfS sizes (itemS t.data.toList)).toNat (itemN t.data.toList), idxOfS sizes (itemS t.data.toList))
  else .error 2
def run (sizes : List ByteArray) : List ByteArray → St → Except Int St
  | [], st => .ok st
  | t :: ts, st => match step sizes st t with
    | .ok st' => run sizes ts st'
    | .error e => .error e
def start (sizes : List ByteArray) : St := (List.replicate sizes.length 0, -1)
def parseE (s : ByteArray) (sizes : List ByteArray) : Int :=
  if 400 < s.size ∨ 12 < sizes.length then 5
  else if s.data.toList = [110, 111, 110, 101] then 0
  else match run sizes (pieces s) (start sizes) with
    | .ok _ => 0
    | .error e => e
def parseL (s : ByteArray) (sizes : List ByteArray) : List Int :=
  if 400 < s.size ∨ 12 < sizes.length then []
  else if s.data.toList = [110, 111, 110, 101] then List.replicate sizes.length 0
  else match run sizes (pieces s) (start sizes) with
    | .ok st => st.1
    | .error _ => []
theorem run_at {sizes ts : List ByteArray} {st : St} {k : Nat} {t : ByteArray} (h : ts[k]? = some t) :
    run sizes (ts.drop k) st = match step sizes st t with | .ok st' => run sizes (ts.drop (k + 1)) st' | .error e => .error e := by
  obtain ⟨hk, rfl⟩ := List.getElem?_eq_some_iff.1 h
  rw [List.drop_eq_getElem_cons hk, run]
end Go.Proofs.YtkcbgbpgiihdeaaDoor
