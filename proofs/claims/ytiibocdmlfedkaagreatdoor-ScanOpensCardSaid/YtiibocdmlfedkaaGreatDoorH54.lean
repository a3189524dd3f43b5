/- Parts of the proof. -/
import Derived.Test.YtiibocdmlfedkaaGreatDoorH12
namespace Go.Proofs.YtiibocdmlfedkaaGreatDoor
section
theorem on_iff {a b p : Pt} : onP a b p = true ↔ crossP a b p = 0 ∧ min a.1 b.1 ≤ p.1 ∧ p.1 ≤ max a.1 b.1 ∧ min a.2 b.2 ≤ p.2 ∧ p.2 ≤ max a.2 b.2 := by
 simp [onP]
theorem fold_iff {a b c : Pt} : foldedP a b c = true ↔ crossP a b c = 0 ∧ 0 < (a.1 - b.1) * (c.1 - b.1) + (a.2 - b.2) * (c.2 - b.2) := by
 simp [foldedP]
theorem prod_between {a b c : Int} (h1 : min a b ≤ c) (h2 : c ≤ max a b) : 0 ≤ (a - b) * (c - b) ∧ ((a - b) * (c - b) = 0 → c = b) := by
 rcases Int.lt_trichotomy a b with h | h | h
 ·refine ⟨Int.mul_nonneg_of_nonpos_of_nonpos (by omega) (by omega), fun e => ?_⟩
  rcases Int.mul_eq_zero.1 e with e | e <;> omega
 ·subst h
  exact ⟨by simp, fun _ => by omega⟩
 ·refine ⟨Int.mul_nonneg (by omega) (by omega), fun e => ?_⟩
  rcases Int.mul_eq_zero.1 e with e | e <;> omega
theorem on_fold {a b c : Pt} (h : onP a b c = true) (hn : b ≠ c) : foldedP a b c = true := by
 obtain ⟨h0, h1, h2, h3, h4⟩ := on_iff.1 h
 obtain ⟨p1, q1⟩ := prod_between h1 h2
 obtain ⟨p2, q2⟩ := prod_between h3 h4
 refine fold_iff.2 ⟨h0, ?_⟩
 refine Int.not_le.1 fun e => hn ?_
 have e1 := q1 (by omega)
 have e2 := q2 (by omega)
 exact Prod.ext e1.symm e2.symm
theorem cross_cycle (a b c : Pt) : crossP b c a = crossP a b c := by
 unfold crossP
 simp only [Int.sub_mul, Int.mul_sub]
 have e1 := Int.mul_comm c.1 a.2
 have e2 := Int.mul_comm c.1 b.2
 have e3 := Int.mul_comm b.1 a.2
 have e4 := Int.mul_comm b.1 b.2
 have e5 := Int.mul_comm c.2 a.1
 have e6 := Int.mul_comm c.2 b.1
 have e7 := Int.mul_comm b.2 a.1
 have e8 := Int.mul_comm a.1 a.2
 omega
theorem fold_swap (a b c : Pt) : foldedP c b a = foldedP a b c := by
 have h1 : crossP c b a = -crossP a b c := by
  rw [← cross_cycle a b c]
  unfold crossP
  simp only [Int.sub_mul, Int.mul_sub]
  have e1 := Int.mul_comm b.1 a.2
  have e2 := Int.mul_comm b.1 c.2
  have e3 := Int.mul_comm c.1 a.2
  have e4 := Int.mul_comm c.1 c.2
  have e5 := Int.mul_comm b.2 a.1
  have e6 := Int.mul_comm b.2 c.1
  have e7 := Int.mul_comm c.2 a.1
  have e8 := Int.mul_comm b.1 b.2
  omega
 unfold foldedP
 rw [h1, Int.mul_comm (c.1 - b.1), Int.mul_comm (c.2 - b.2)]
 congr 1
 rw [Bool.eq_iff_iff, decide_eq_true_eq, decide_eq_true_eq]
 omega
theorem on_fold2 {a b c : Pt} (h : onP b c a = true) (hn : a ≠ b) : foldedP a b c = true := by
 rw [← fold_swap]
 refine on_fold (a := c) (b := b) (c := a) ?_ (Ne.symm hn)
 obtain ⟨h0, h1, h2, h3, h4⟩ := on_iff.1 h
 refine on_iff.2 ⟨?_, by omega, by omega, by omega, by omega⟩
 have h5 : crossP c b a = -crossP b c a := by
  unfold crossP
  simp only [Int.sub_mul, Int.mul_sub]
  have e1 := Int.mul_comm b.1 a.2
  have e2 := Int.mul_comm b.1 c.2
  have e3 := Int.mul_comm c.1 a.2
  have e4 := Int.mul_comm b.2 a.1
  have e5 := Int.mul_comm b.2 c.1
  have e6 := Int.mul_comm c.2 a.1
  have e7 := Int.mul_comm c.1 c.2
  have e8 := Int.mul_comm b.1 b.2
  omega
 rw [h5, h0]
 rfl
theorem line_in {p q r s : Int} (hp : 0 < p) (hr : 0 < r) (h : p * s = q * r) (hle : r ≤ p) : (0 ≤ q → 0 ≤ s ∧ s ≤ q) ∧ (q ≤ 0 → q ≤ s ∧ s ≤ 0) := by
 constructor
 ·intro hq
  constructor
  ·refine Int.not_lt.1 fun hs => ?_
   have h1 : p * s < 0 := Int.mul_neg_of_pos_of_neg hp hs
   have h2 : 0 ≤ q * r := Int.mul_nonneg hq (by omega)
   omega
  ·refine Int.not_lt.1 fun hs => ?_
   have h1 : p * q < p * s := Int.mul_lt_mul_of_pos_left hs hp
   have h2 : q * r ≤ q * p := Int.mul_le_mul_of_nonneg_left hle hq
   have h3 := Int.mul_comm p q
   omega
 ·intro hq
  constructor
  ·refine Int.not_lt.1 fun hs => ?_
   have h1 : p * s < p * q := Int.mul_lt_mul_of_pos_left hs hp
   have h2 : q * p ≤ q * r := Int.mul_le_mul_of_nonpos_left hq hle
   have h3 := Int.mul_comm p q
   omega
  ·refine Int.not_lt.1 fun hs => ?_
   have h1 : 0 < p * s := Int.mul_pos hp hs
   have h2 : q * r ≤ 0 := Int.mul_nonpos_of_nonpos_of_nonneg hq (by omega)
   omega
theorem line_in2 {p q r s : Int} (hpr : 0 < p * r) (h : p * s = q * r) (hle : r.natAbs ≤ p.natAbs) : (min p 0 ≤ r ∧ r ≤ max p 0) ∧ (min q 0 ≤ s ∧ s ≤ max q 0) := by
 have hsg : (0 < p ∧ 0 < r) ∨ (p < 0 ∧ r < 0) := by
  rcases Int.lt_trichotomy p 0 with hp | hp | hp
  ·right
   refine ⟨hp, Int.not_le.1 fun hr => ?_⟩
   have := Int.mul_nonpos_of_nonpos_of_nonneg (Int.le_of_lt hp) hr
   omega
  ·subst hp
   simp at hpr
  ·left
   refine ⟨hp, Int.not_le.1 fun hr => ?_⟩
   have := Int.mul_nonpos_of_nonneg_of_nonpos (Int.le_of_lt hp) hr
   omega
 rcases hsg with ⟨hp, hr⟩ | ⟨hp, hr⟩
 ·obtain ⟨k1, k2⟩ := line_in hp hr h (by omega)
  refine ⟨by omega, ?_⟩
  rcases Int.le_total 0 q with hq | hq
  ·have := k1 hq; omega
  ·have := k2 hq; omega
 ·obtain ⟨k1, k2⟩ := line_in (p := -p) (q := q) (r := -r) (s := s) (by omega) (by omega) (by rw [Int.neg_mul, Int.mul_neg, h]) (by omega)
  refine ⟨by omega, ?_⟩
  rcases Int.le_total 0 q with hq | hq
  ·have := k1 hq; omega
  ·have := k2 hq; omega
theorem fold_on {a b c : Pt} (h : foldedP a b c = true) : onP a b c = true ∨ onP b c a = true := by
 obtain ⟨h0, hd⟩ := fold_iff.1 h
 have hc : (a.1 - b.1) * (c.2 - b.2) = (a.2 - b.2) * (c.1 - b.1) := by
  have h1 := h0
  unfold crossP at h1
  simp only [Int.sub_mul, Int.mul_sub] at h1 ⊢
  have e1 := Int.mul_comm a.1 a.2
  have e2 := Int.mul_comm b.1 b.2
  have e3 := Int.mul_comm b.1 a.2
  have e4 := Int.mul_comm b.2 a.1
  omega
 have g0 := cross_cycle a b c
 rw [h0] at g0
 obtain ⟨p, hp⟩ : ∃ p, a.1 - b.1 = p := ⟨_, rfl⟩
 obtain ⟨q, hq⟩ : ∃ q, a.2 - b.2 = q := ⟨_, rfl⟩
 obtain ⟨r, hr⟩ : ∃ r, c.1 - b.1 = r := ⟨_, rfl⟩
 obtain ⟨s, hs⟩ : ∃ s, c.2 - b.2 = s := ⟨_, rfl⟩
 rw [hp, hq, hr, hs] at hc hd
 have fin1 : (min p 0 ≤ r ∧ r ≤ max p 0) ∧ (min q 0 ≤ s ∧ s ≤ max q 0) → onP a b c = true := fun k => on_iff.2 ⟨h0, by omega, by omega, by omega, by omega⟩
 have fin2 : (min r 0 ≤ p ∧ p ≤ max r 0) ∧ (min s 0 ≤ q ∧ q ≤ max s 0) → onP b c a = true := fun k => on_iff.2 ⟨g0, by omega, by omega, by omega, by omega⟩
 have e1 := Int.mul_comm r p
 have e2 := Int.mul_comm s q
 have e3 := Int.mul_comm r q
 have e4 := Int.mul_comm s p
 by_cases hpr : 0 < p * r
 ·rcases Nat.le_total r.natAbs p.natAbs with hl | hl
  ·exact .inl (fin1 (line_in2 hpr hc hl))
  ·exact .inr (fin2 (line_in2 (p := r) (q := s) (r := p) (s := q) (by omega) (by omega) hl))
 ·have hqs : 0 < q * s := by omega
  rcases Nat.le_total s.natAbs q.natAbs with hl | hl
  ·have k := line_in2 (p := q) (q := p) (r := s) (s := r) hqs hc.symm hl
   exact .inl (fin1 ⟨k.2, k.1⟩)
  ·have k := line_in2 (p := s) (q := r) (r := q) (s := p) (by omega) (by omega) hl
   exact .inr (fin2 ⟨k.2, k.1⟩)
theorem on_self (a b : Pt) : onP a b a = true := by
 refine on_iff.2 ⟨?_, by omega, by omega, by omega, by omega⟩
 unfold crossP
 simp
section
variable {p : List Pt}
theorem vtx_md (j : Nat) : vtx p (j % p.length) = vtx p j := by rw [vtx, vtx, Nat.mod_mod]
theorem two_same {i j : Nat} (hij : i < j) (hj : j < p.length) (h : vtx p i = vtx p j) : simpleP p = false := by
 refine simple_twice (vtx_lt hj) ?_
 rw [← h]
 refine List.mem_of_getElem? (i := i) ?_
 rw [List.getElem?_take, if_pos hij]
 exact vtx_lt (by omega)
theorem next_ne {i : Nat} (hi : i < p.length) (h3 : 2 ≤ p.length) : (i + 1) % p.length ≠ i := by
 by_cases h : i + 1 < p.length
 ·rw [Nat.mod_eq_of_lt h]; omega
 ·rw [show i + 1 = p.length by omega, Nat.mod_self]; omega
theorem ref_same {i : Nat} (hi : i < p.length) (h3 : 3 ≤ p.length) (h : vtx p i = vtx p (i + 1)) : simpleP p = false := by
 rw [← vtx_md (i + 1)] at h
 have hn := next_ne hi (by omega)
 have hm : (i + 1) % p.length < p.length := Nat.mod_lt _ (by omega)
 rcases Nat.lt_or_gt_of_ne hn with h' | h'
 ·exact two_same h' hi h.symm
 ·exact two_same h' hm h
theorem ref_back {i : Nat} (hi : i < p.length) (h3 : 3 ≤ p.length) (h : onP (vtx p i) (vtx p (i + 1)) (vtx p (i + 2)) = true) : simpleP p = false := by
 by_cases e : vtx p (i + 1) = vtx p (i + 2)
 ·refine ref_same (i := (i + 1) % p.length) (Nat.mod_lt _ (by omega)) h3 ?_
  rw [vtx_md, e, ← vtx_md ((i + 1) % p.length + 1), Nat.mod_add_mod, vtx_md]
 ·exact simple_fold hi (on_fold h e)
theorem ref_forth {i : Nat} (hi : i < p.length) (h3 : 3 ≤ p.length) (h : onP (vtx p (i + 1)) (vtx p (i + 2)) (vtx p i) = true) : simpleP p = false := by
 by_cases e : vtx p i = vtx p (i + 1)
 ·exact ref_same hi h3 e
 ·exact simple_fold hi (on_fold2 h e)
theorem ref_yes (h1 : ∀ i, i < p.length → vtx p i ≠ vtx p (i + 1) ∧ onP (vtx p i) (vtx p (i + 1)) (vtx p (i + 2)) = false ∧ onP (vtx p (i + 1)) (vtx p (i + 2)) (vtx p i) = false)
  (h2 : ∀ i k, i < p.length → k < p.length → i + 2 ≤ k → (k + 1) % p.length ≠ i → meetP (vtx p i) (vtx p (i + 1)) (vtx p k) (vtx p (k + 1)) = false) : simpleP p = true := by
 refine simple_yes (fun j a hj hm => ?_) (fun i hi => ?_) h2
 ·obtain ⟨i, hi⟩ := List.getElem?_of_mem hm
  rw [List.getElem?_take] at hi
  split at hi
  ·rename_i hij
   have hjl := (List.getElem?_eq_some_iff.1 hj).1
   have e : vtx p i = vtx p j := by
    rw [vtx_lt (by omega)] at hi hj
    exact (Option.some.inj hi).trans (Option.some.inj hj).symm
   by_cases a1 : j = i + 1
   ·subst a1
    exact (h1 i (by omega)).1 e
   ·by_cases a2 : (j + 1) % p.length = i
    ·refine (h1 j hjl).1 ?_
     rw [← vtx_md (j + 1), a2, e]
    ·have := h2 i j (by omega) hjl (by omega) a2
     unfold meetP at this
     rw [← e, on_self] at this
     cases this
  ·cases hi
 ·cases hf : foldedP (vtx p i) (vtx p (i + 1)) (vtx p (i + 2))
  ·rfl
  ·obtain ⟨_, k1, k2⟩ := h1 i hi
   rcases fold_on hf with h | h
   ·rw [h] at k1; cases k1
   ·rw [h] at k2; cases k2
end
theorem root_only {n a b : Nat} (ha : a * a ≤ n) (ha2 : n < (a + 1) * (a + 1)) (hb : b * b ≤ n) (hb2 : n < (b + 1) * (b + 1)) : a = b := by
 rcases Nat.lt_trichotomy a b with h | h | h
 ·have := Nat.mul_self_le_mul_self (show a + 1 ≤ b by omega)
  omega
 ·exact h
 ·have := Nat.mul_self_le_mul_self (show b + 1 ≤ a by omega)
  omega
theorem newton_above {n x : Nat} (hx : 1 ≤ x) : n < ((x + n / x) / 2 + 1) * ((x + n / x) / 2 + 1) := by
 have h1 : n < x * (n / x + 1) := Nat.lt_mul_div_succ n hx
 obtain ⟨q, hq⟩ : ∃ q, n / x = q := ⟨_, rfl⟩
 rw [hq] at h1 ⊢
 obtain ⟨y, hy⟩ : ∃ y, (x + q) / 2 + 1 = y := ⟨_, rfl⟩
 rw [hy]
 have h2 : x + (q + 1) ≤ 2 * y := by omega
 have h3 : (x + (q + 1)) * (x + (q + 1)) ≤ (2 * y) * (2 * y) := Nat.mul_self_le_mul_self h2
 have h4 : 4 * (x * (q + 1)) ≤ (x + (q + 1)) * (x + (q + 1)) := by
  obtain ⟨r, hr⟩ : ∃ r, q + 1 = r := ⟨_, rfl⟩
  rw [hr]
  rcases Nat.le_total x r with h | h
  ·obtain ⟨d, rfl⟩ : ∃ d, r = x + d := ⟨r - x, by omega⟩
   simp only [Nat.mul_add, Nat.add_mul]
   have := Nat.mul_comm x d
   have h0 := Nat.zero_le (d * d)
   omega
  ·obtain ⟨d, rfl⟩ : ∃ d, x = r + d := ⟨x - r, by omega⟩
   simp only [Nat.mul_add, Nat.add_mul]
   have := Nat.mul_comm r d
   have h0 := Nat.zero_le (d * d)
   omega
 have h5 : (2 * y) * (2 * y) = 4 * (y * y) := by
  rw [Nat.mul_mul_mul_comm]
 omega
theorem rootI_root {n : Nat} (hn : 2 ≤ n) (x : Nat) : 1 ≤ x → n < (x + 1) * (x + 1) → rootI n x * rootI n x ≤ n ∧ n < (rootI n x + 1) * (rootI n x + 1) := by
 induction x using Nat.strongRecOn with
 | _ x ih =>
  intro hx h
  rw [rootI]
  split
  ·rename_i hlt
   exact ih _ hlt (newton_pos hn hx) (newton_above hx)
  ·rename_i hge
   refine ⟨?_, h⟩
   have h1 : x ≤ n / x := by omega
   have h2 : x * (n / x) ≤ n := Nat.mul_div_le n x
   have h3 : x * x ≤ x * (n / x) := Nat.mul_le_mul_left x h1
   omega
theorem bitsN_lt : ∀ n : Nat, n < 2 ^ bitsN n
 | 0 => by rw [bitsN]; decide
 | n + 1 => by
  rw [bitsN, Nat.pow_succ]
  have := bitsN_lt ((n + 1) / 2)
  omega
decreasing_by omega
theorem rootP_root (n : Nat) : rootP n * rootP n ≤ n ∧ n < (rootP n + 1) * (rootP n + 1) := by
 unfold rootP
 split
 ·rename_i h
  have : n = 0 ∨ n = 1 := by omega
  rcases this with rfl | rfl <;> decide
 ·rename_i h
  refine rootI_root (by omega) _ Nat.one_le_two_pow ?_
  have h1 := bitsN_lt n
  obtain ⟨r, hr⟩ : ∃ r, (bitsN n + 1) / 2 = r := ⟨_, rfl⟩
  rw [hr]
  have h2 : 2 ^ bitsN n ≤ 2 ^ (r + r) := Nat.pow_le_pow_right (by omega) (by omega)
  rw [Nat.pow_add] at h2
  have h3 := Nat.mul_self_le_mul_self (show 2 ^ r ≤ 2 ^ r + 1 by omega)
  omega
theorem rootP_of {n a : Nat} (h1 : a * a ≤ n) (h2 : n < (a + 1) * (a + 1)) : rootP n = a := root_only (rootP_root n).1 (rootP_root n).2 h1 h2
def roundP (l : List POp) (out : List Nat) : List Nat := match nextP l out with | some i => out ++ [i] | none => out
def roundsP (l : List POp) : Nat → List Nat → List Nat
 | 0, out => out
 | k + 1, out => roundsP l k (roundP l out)
theorem rounds_stay {l : List POp} {out : List Nat} (h : nextP l out = none) : ∀ k, roundsP l k out = out
 | 0 => rfl
 | k + 1 => by rw [roundsP, roundP, h]; exact rounds_stay h k
theorem rounds_order (l : List POp) : ∀ (k : Nat) (out : List Nat), roundsP l k out = orderF l k out
 | 0, _ => rfl
 | k + 1, out => by
  rw [roundsP, orderF, roundP]
  cases h : nextP l out with
  | none => exact rounds_stay h k
  | some i => exact rounds_order l k _
theorem rounds_all (l : List POp) : roundsP l l.length [] = orderP l := rounds_order l _ _
theorem rounds_succ (l : List POp) : ∀ (k : Nat) (out : List Nat), roundsP l (k + 1) out = roundP l (roundsP l k out)
 | 0, _ => rfl
 | k + 1, out => by rw [roundsP, rounds_succ l k, roundsP]
end
section
def sizedP (s : PStyle) : Bool := !(decide (nameOk s.name.data.toList = false ∨ s.sizes.length = 0)) && ((s.sizes.all fun z : ByteArray => sizeOk z.data.toList) && (s.multiples.contains 0 && decide (s.multiples.length = s.sizes.length)))
def longP (s : PStyle) : Bool := decide (12 < s.sizes.length) || (decide (12 < s.pieces.length) || (decide (24 < s.seams.length) || (decide (16 < s.ops.length) || decide (12 < s.uses.length))))
section
variable {s : PStyle}
theorem sized_name (h : nameOk s.name.data.toList = false ∨ s.sizes.length = 0) : sizedP s = false := by
 unfold sizedP
 rw [decide_eq_true h]
 rfl
theorem sized_size {j : Nat} {z : ByteArray} (hj : s.sizes[j]? = some z) (hz : sizeOk z.data.toList = false) : sizedP s = false := by
 unfold sizedP
 have : (s.sizes.all fun z : ByteArray => sizeOk z.data.toList) = false := by
  cases h : (s.sizes.all fun z : ByteArray => sizeOk z.data.toList)
  ·rfl
  ·have := List.all_eq_true.1 h z (List.mem_of_getElem? hj)
   rw [hz] at this
   cases this
 rw [this]
 simp
theorem sized_last (h : ¬ (nameOk s.name.data.toList = false ∨ s.sizes.length = 0)) (h1 : ∀ (j : Nat) (z : ByteArray), s.sizes[j]? = some z → sizeOk z.data.toList = true) : sizedP s = (s.multiples.contains 0 && decide (s.multiples.length = s.sizes.length)) := by
 unfold sizedP
 rw [decide_eq_false h, sizes_all h1]
 rfl
theorem whole_unsized (h : sizedP s = false) : wholeE s = 1 := by
 by_cases h1 : nameOk s.name.data.toList = false ∨ s.sizes.length = 0
 ·exact whole_name h1
 ·cases h2 : (s.sizes.all fun z : ByteArray => sizeOk z.data.toList)
  ·rw [wholeE, if_neg h1, if_pos h2]
  ·refine whole_mult h1 h2 ?_
   unfold sizedP at h
   rw [decide_eq_false h1, h2] at h
   by_cases h3 : s.multiples.length = s.sizes.length
   ·refine .inr fun hm => ?_
    rw [decide_eq_true h3, show s.multiples.contains 0 = true by simpa using hm] at h
    cases h
   ·exact .inl h3
structure Sized (s : PStyle) : Prop where
 a : ¬ (nameOk s.name.data.toList = false ∨ s.sizes.length = 0)
 b : (s.sizes.all fun z : ByteArray => sizeOk z.data.toList) = true
 c : ¬ (s.multiples.length ≠ s.sizes.length ∨ 0 ∉ s.multiples)
theorem sized_yes (h : sizedP s = true) : Sized s := by
 unfold sizedP at h
 simp only [Bool.and_eq_true, Bool.not_eq_true', decide_eq_false_iff_not, decide_eq_true_eq] at h
 obtain ⟨h1, h2, h3, h4⟩ := h
 refine ⟨h1, h2, fun h => ?_⟩
 rcases h with h | h
 ·exact h h4
 ·exact h (by simpa using h3)
theorem whole_onceless (h : Sized s) (h3 : onceB s.sizes = false) : wholeE s = 7 := whole_twice h.a h.b h.c h3
theorem whole_longer (h : Sized s) (h3 : onceB s.sizes = true) (h4 : longP s = true) : wholeE s = 5 := by
 by_cases h5 : 12 < s.sizes.length ∨ 12 < s.pieces.length ∨ 12 < s.uses.length
 ·exact whole_long h.a h.b h.c h3 h5
 ·refine whole_more h.a h.b h.c h3 h5 ?_
  unfold longP at h4
  simp only [Bool.or_eq_true, decide_eq_true_eq] at h4
  omega
theorem whole_far (h : Sized s) (h3 : onceB s.sizes = true) (h4 : longP s = false) {j : Nat} {x : Int} (hj : s.multiples[j]? = some x) (hx : x < -100 ∨ 100 < x) : wholeE s = 3 := by
 unfold longP at h4
 simp only [Bool.or_eq_false_iff, decide_eq_false_iff_not] at h4
 exact whole_at h.a h.b h.c h3 (by omega) (by omega) hj hx
theorem whole_fine (h : Sized s) (h3 : onceB s.sizes = true) (h4 : longP s = false) (hx : ∀ (j : Nat) (x : Int), s.multiples[j]? = some x → -100 ≤ x ∧ x ≤ 100) : wholeE s = 0 := by
 unfold longP at h4
 simp only [Bool.or_eq_false_iff, decide_eq_false_iff_not] at h4
 exact whole_ok h.a h.b h.c h3 (by omega) (by omega) hx
def joinedE (s : PStyle) : Int := if firstE (s.uses.map (useE s)) ≠ 0 then firstE (s.uses.map (useE s)) else firstE (s.seams.map (seamE s))
theorem style_joined (h : wholeE s = 0) (h1 : piecesE s = 0) : styleE s = joinedE s := by
 rw [styleE, if_neg (by simp [h]), if_neg (by simp [h1])]
 rfl
theorem joined_use {i : Nat} {u : PUse} (hi : s.uses[i]? = some u) (hz : ∀ (j : Nat) (v : PUse), j < i → s.uses[j]? = some v → useE s v = 0) (he : useE s u = 3) : joinedE s = 3 := by
 have h := firstM_at (f := useE s) hi hz (by rw [he]; decide)
 rw [joinedE, h, he]
 rfl
theorem joined_seam (h2 : ∀ (j : Nat) (v : PUse), s.uses[j]? = some v → useE s v = 0) {i : Nat} {m : PSeam} (hi : s.seams[i]? = some m) (hz : ∀ (j : Nat) (v : PSeam), j < i → s.seams[j]? = some v → seamE s v = 0) {e : Int} (he : seamE s m = e) (h0 : e ≠ 0) : joinedE s = e := by
 rw [joinedE, firstM_none h2, if_neg (by simp), firstM_at hi hz (by rw [he]; exact h0), he]
theorem joined_ok (h2 : ∀ (j : Nat) (v : PUse), s.uses[j]? = some v → useE s v = 0) (h3 : ∀ (j : Nat) (v : PSeam), s.seams[j]? = some v → seamE s v = 0) : joinedE s = 0 := by
 rw [joinedE, firstM_none h2, if_neg (by simp), firstM_none h3]
theorem once_pair {l : List ByteArray} {i k : Nat} {x : ByteArray} (hk : k < i) (hi : l[i]? = some x) (h : l[k]? = some x) : onceB l = false := by
 cases hq : onceB l
 ·rfl
 ·refine absurd ?_ (onceB_iff.1 hq i x hi)
  refine List.mem_of_getElem? (i := k) ?_
  rw [List.getElem?_take, if_pos hk]
  exact h
theorem once_yes {l : List ByteArray} (h : ∀ (i k : Nat) (x : ByteArray), k < i → l[i]? = some x → l[k]? ≠ some x) : onceB l = true := by
 refine onceB_iff.2 fun i x hi hm => ?_
 obtain ⟨k, hk⟩ := List.getElem?_of_mem hm
 rw [List.getElem?_take] at hk
 split at hk
 ·exact h i k x (by assumption) hi hk
 ·cases hk
end
section
variable {l : List POp} {u : Option Nat}
def singleE (l : List POp) (u : Option Nat) : Int := if 16 < l.length then 5 else firstE ((List.range l.length).map (opE l u))
theorem single_long (h : 16 < l.length) : singleE l u = 5 := by rw [singleE, if_pos h]
theorem single_at (h : ¬ 16 < l.length) {i : Nat} (hi : i < l.length) (hz : ∀ j, j < i → opE l u j = 0) {e : Int} (he : opE l u i = e) (h0 : e ≠ 0) : singleE l u = e := by
 rw [singleE, if_neg h, firstR_at hi hz (by rw [he]; exact h0), he]
theorem single_ok (h : ¬ 16 < l.length) (hz : ∀ j, j < l.length → opE l u j = 0) : singleE l u = 0 := by
 rw [singleE, if_neg h, firstR_none hz]
theorem list_single {e : Int} (h : singleE l u = e) (h0 : e ≠ 0) : listE l u = e := by
 unfold singleE at h
 rw [listE]
 split at h
 ·rename_i h1
  rw [if_pos h1, h]
 ·rename_i h1
  rw [if_neg h1, if_pos (by rw [h]; exact h0), h]
theorem single_zero (h : singleE l u = 0) : ¬ 16 < l.length ∧ ∀ j, j < l.length → opE l u j = 0 := by
 unfold singleE at h
 split at h
 ·cases h
 ·rename_i h1
  refine ⟨h1, fun j hj => ?_⟩
  by_cases h2 : opE l u j = 0
  ·exact h2
  ·exfalso
   obtain ⟨i, hi, hz, hne⟩ : ∃ i, i < l.length ∧ (∀ k, k < i → opE l u k = 0) ∧ opE l u i ≠ 0 := by
    induction j using Nat.strongRecOn with
    | _ j ih =>
     by_cases hex : ∃ k, k < j ∧ opE l u k ≠ 0
     ·obtain ⟨k, hk, hk2⟩ := hex
      exact ih k hk (by omega) hk2
     ·exact ⟨j, hj, fun k hk => Classical.byContradiction fun h => hex ⟨k, hk, h⟩, h2⟩
   rw [firstR_at hi hz hne] at h
   exact hne h
theorem list_order (h : singleE l u = 0) : listE l u = if (orderP l).length < l.length then 9 else 0 := by
 obtain ⟨h1, h2⟩ := single_zero h
 by_cases h3 : (orderP l).length < l.length
 ·rw [list_cycle h1 h2 h3, if_pos h3]
 ·rw [list_ok h1 h2 h3, if_neg h3]
end
end
end Go.Proofs.YtiibocdmlfedkaaGreatDoor
