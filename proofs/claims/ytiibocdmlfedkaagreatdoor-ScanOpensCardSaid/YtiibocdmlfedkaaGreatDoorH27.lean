/- Parts of the proof. -/
import Derived.Lib.ParseIntBTie
import Derived.Test.YtiibocdmlfedkaaGreatDoorH07
namespace Go.Proofs.YtiibocdmlfedkaaGreatDoor
section
open Go.Lib hiding intOf
theorem index_cons_eq (c : UInt8) (t : List UInt8) : index (c :: t) [c] = 0 := by
 unfold index
 rw [if_pos (by simp [List.isPrefixOf])]
theorem index_cons_ne {b c : UInt8} (t : List UInt8) (h : b ≠ c) : index (b :: t) [c] = if index t [c] = -1 then -1 else index t [c] + 1 := by
 rw [index]
 have : List.isPrefixOf [c] (b :: t) = false := by simp [List.isPrefixOf]; exact fun e => h e.symm
 rw [this]
 simp
theorem split_nil (c : UInt8) : split [] [c] = [[]] := by
 unfold split
 have : count [] [c] = 0 := by rw [Go.Lib.count_one]; rfl
 rw [this]
 rfl
theorem split_cons_eq (c : UInt8) (t : List UInt8) : split (c :: t) [c] = [] :: split t [c] := by
 unfold split
 rw [count_cons_eq, Nat.add_comm, splitK, index_cons_eq]
 simp
theorem split_ne_nil (c : UInt8) (t : List UInt8) : split t [c] ≠ [] := by
 unfold split
 cases count t [c] with
 | zero => simp [splitK]
 | succ k =>
  unfold splitK
  split <;> simp
theorem split_cons_ne {b c : UInt8} {t : List UInt8} {x : List UInt8} {r : List (List UInt8)} (h : b ≠ c) (ht : split t [c] = x :: r) : split (b :: t) [c] = (b :: x) :: r := by
 have hg := index_ge t [c]
 have key : ∀ k, splitK [c] 0 k (b :: t) = match splitK [c] 0 k t with | [] => [] | x :: r => (b :: x) :: r := by
  intro k
  cases k with
  | zero => rfl
  | succ k =>
   rw [splitK, splitK, index_cons_ne t h]
   by_cases hi : index t [c] = -1
   ·rw [if_pos hi, hi]
    simp
   ·rw [if_neg hi]
    have e1 : ((index t [c] + 1) == -1) = false := by rw [beq_eq_false_iff_ne]; omega
    have e0 : (index t [c] == -1) = false := by rw [beq_eq_false_iff_ne]; exact hi
    have e : (index t [c] + 1).toNat = (index t [c]).toNat + 1 := by omega
    rw [e1, e0, e]
    simp
 have e3 : split (b :: t) [c] = splitK [c] 0 (count t [c]) (b :: t) := by unfold split; rw [count_cons_ne b c t h]
 have e4 : splitK [c] 0 (count t [c]) t = x :: r := ht
 rw [e3, key, e4]
theorem minus_yes (l : List UInt8) : hasPrefix (45 :: l) [45] = true ∧ trimPrefix (45 :: l) [45] = l := by
 have h1 : hasPrefix (45 :: l) [45] = true := by simp [hasPrefix, List.isPrefixOf]
 exact ⟨h1, by rw [trimPrefix, if_pos h1]; rfl⟩
theorem minus_of {l : List UInt8} (h : hasPrefix l [45] = true) : l = 45 :: trimPrefix l [45] := by
 cases l with
 | nil => simp [hasPrefix, List.isPrefixOf] at h
 | cons b t =>
  simp [hasPrefix, List.isPrefixOf] at h
  subst h
  rw [(minus_yes t).2]
def numOk (l : List UInt8) : Bool := digOk (trimPrefix l [45]) && !(hasPrefix l [45] && decide (valD (trimPrefix l [45]) = 0))
def numV (l : List UInt8) : Int := if hasPrefix l [45] = true then -(valD (trimPrefix l [45]) : Int) else valD (trimPrefix l [45])
def inI64 (z : Int) : Bool := decide (-9223372036854775808 ≤ z) && decide (z ≤ 9223372036854775807)
def wordS : List UInt8 := [115, 99, 97, 110]
def textS (x : PScan) : List UInt8 := wordS ++ (32 :: (itoa x.ticket ++ (32 :: (itoa x.op ++ (32 :: (itoa x.worker ++ (32 :: itoa x.at_)))))))
def parseS (l : List UInt8) : Except Int PScan :=
 match split l [32] with
 | [v, a, b, c, d] => if v ≠ wordS then .error 2 else if [a, b, c, d].all numOk = false then .error 2 else if ([a, b, c, d].all fun u => inI64 (numV u)) = false then .error 3 else .ok ⟨numV a, numV b, numV c, numV d⟩
 | _ => .error 2
def scanIn (x : PScan) : Prop := inI64 x.ticket = true ∧ inI64 x.op = true ∧ inI64 x.worker = true ∧ inI64 x.at_ = true
theorem split_cat {c : UInt8} : ∀ {l : List UInt8} {u : List UInt8} {r : List (List UInt8)}, split l [c] = u :: r → l = u ++ r.flatMap fun v => c :: v
 | [], u, r, h => by
  rw [split_nil] at h
  simp only [List.cons.injEq] at h
  obtain ⟨rfl, rfl⟩ := h
  rfl
 | b :: l, u, r, h => by
  by_cases hb : b = c
  ·subst hb
   rw [split_cons_eq] at h
   simp only [List.cons.injEq] at h
   obtain ⟨rfl, h⟩ := h
   cases hs : split l [b] with
   | nil => exact absurd hs (split_ne_nil b l)
   | cons v t =>
    rw [hs] at h
    subst h
    have := split_cat hs
    simp only [List.flatMap_cons, List.nil_append, List.cons_append]
    rw [← this]
  ·cases hs : split l [c] with
   | nil => exact absurd hs (split_ne_nil c l)
   | cons v t =>
    rw [split_cons_ne hb hs] at h
    simp only [List.cons.injEq] at h
    obtain ⟨rfl, rfl⟩ := h
    rw [List.cons_append, ← split_cat hs]
theorem valFrom : ∀ (l : List UInt8) (acc : Nat), l.foldl (fun n b => n * 10 + (b.toNat - 48)) acc = acc * 10 ^ l.length + valD l
 | [], acc => by simp [valD]
 | b :: l, acc => by
  have hv : valD (b :: l) = (b.toNat - 48) * 10 ^ l.length + valD l := by
   unfold valD
   rw [List.foldl_cons, valFrom l]
   simp only [Nat.zero_mul, Nat.zero_add]
   rfl
  rw [List.foldl_cons, valFrom l, hv, List.length_cons, Nat.pow_succ, Nat.add_mul, Nat.mul_assoc, Nat.mul_comm 10, Nat.add_assoc]
theorem uintM : ∀ (l : List UInt8) (acc : Nat), l.all isDig = true → acc < 18446744073709551616 → parseUintM 18446744073709551615 acc l = if acc * 10 ^ l.length + valD l < 18446744073709551616 then .ok (acc * 10 ^ l.length + valD l) else .range
 | [], acc, _, ha => by
  simp only [List.length_nil, Nat.pow_zero, Nat.mul_one, valD, List.foldl_nil, Nat.add_zero]
  rw [if_pos ha]
  rfl
 | b :: l, acc, h, ha => by
  rw [List.all_cons, Bool.and_eq_true] at h
  obtain ⟨hb, hl⟩ := h
  have hd := isDig_true.1 hb
  have hv : acc * 10 ^ (b :: l).length + valD (b :: l) = (acc * 10 + (b.toNat - 48)) * 10 ^ l.length + valD l := by
   have h1 := valFrom (b :: l) acc
   rw [← h1, List.foldl_cons, valFrom]
  have hge : acc * 10 + (b.toNat - 48) ≤ (acc * 10 + (b.toNat - 48)) * 10 ^ l.length + valD l := by
   have : 1 ≤ 10 ^ l.length := Nat.one_le_pow _ _ (by omega)
   have := Nat.mul_le_mul_left (acc * 10 + (b.toNat - 48)) this
   omega
  rw [hv, parseUintM, if_pos hd]
  by_cases h1 : 1844674407370955162 ≤ acc
  ·rw [if_pos h1, if_neg (by omega)]
  ·rw [if_neg h1]
   by_cases h2 : 18446744073709551615 < acc * 10 + (b.toNat - 48)
   ·rw [if_pos h2, if_neg (by omega)]
   ·rw [if_neg h2, uintM l _ hl (by omega)]
theorem uint_dig {l : List UInt8} (h : digOk l = true) : parseUintB 64 l = if valD l < 18446744073709551616 then .ok (valD l) else .range := by
 obtain ⟨h1, _, h3⟩ := digOk_iff.1 h
 have hne : l ≠ [] := fun e => by rw [e] at h1; simp at h1
 have := uintM l 0 h3 (by omega)
 rw [Nat.zero_mul, Nat.zero_add] at this
 rw [parseUintB, if_neg hne]
 exact this
theorem num_parse {l : List UInt8} (h : numOk l = true) : parseIntB 64 l = if inI64 (numV l) = true then .ok (numV l) else .range := by
 unfold numOk at h
 rw [Bool.and_eq_true] at h
 obtain ⟨hd, hz⟩ := h
 have hu := uint_dig hd
 cases hp : hasPrefix l [45]
 ·have ht : trimPrefix l [45] = l := by rw [trimPrefix, hp]; rfl
  rw [ht] at hd hu
  have hV : numV l = (valD l : Int) := by rw [numV, hp, if_neg (by simp), ht]
  obtain ⟨h1, _, h3⟩ := digOk_iff.1 hd
  cases l with
  | nil => simp at h1
  | cons c r =>
   rw [List.all_cons, Bool.and_eq_true] at h3
   have hc := isDig_true.1 h3.1
   rw [parseIntB_plain 64 c r (by omega) (by omega), hu, hV]
   unfold inI64
   by_cases a1 : valD (c :: r) < 18446744073709551616
   ·rw [if_pos a1]
    by_cases a2 : 9223372036854775808 ≤ valD (c :: r)
    ·rw [signlessC, if_pos (by exact a2), if_neg (by simp; omega)]
    ·rw [signlessC, if_neg (by exact a2), if_pos (by simp; omega)]
   ·rw [if_neg a1, signlessC, if_neg (by simp; omega)]
 ·have hl := minus_of hp
  have hV : numV l = -(valD (trimPrefix l [45]) : Int) := by rw [numV, hp, if_pos rfl]
  rw [hV]
  generalize trimPrefix l [45] = r at *
  subst hl
  rw [parseIntB_minus, hu]
  unfold inI64
  by_cases a1 : valD r < 18446744073709551616
  ·rw [if_pos a1]
   by_cases a2 : 9223372036854775808 < valD r
   ·rw [signedC, if_pos (by exact a2), if_neg (by simp; omega)]
   ·rw [signedC, if_neg (by exact a2), if_pos (by simp; omega)]
  ·rw [if_neg a1, signedC, if_neg (by simp; omega)]
end
end Go.Proofs.YtiibocdmlfedkaaGreatDoor
