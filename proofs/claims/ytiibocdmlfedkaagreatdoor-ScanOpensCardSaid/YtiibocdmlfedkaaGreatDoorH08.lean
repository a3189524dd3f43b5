/- Parts of the proof. -/
import Derived.Lib.BitFns
import Derived.Test.YtiibocdmlfedkaaGreatDoorH07
namespace Go.Proofs.YtiibocdmlfedkaaGreatDoor
section
theorem bitsN_aux : ∀ (k n : Nat), n < 2 ^ k → Lib.bitLenAux k n = bitsN n
 | 0, n, h => by
  obtain rfl : n = 0 := by omega
  rw [Lib.bitLenAux, bitsN]
 | k + 1, n, h => by
  rw [Lib.bitLenAux]
  split
  ·rename_i e
   rw [e, bitsN]
  ·rename_i e
   obtain ⟨m, rfl⟩ : ∃ m, n = m + 1 := ⟨n - 1, by omega⟩
   rw [bitsN, bitsN_aux k _ (by rw [Nat.pow_succ] at h; omega), Nat.add_comm]
theorem bitsN_len {n : Nat} (h : n < 18446744073709551616) : Lib.bitLen n = bitsN n := bitsN_aux 64 n h
theorem bitsN_le : ∀ (k n : Nat), n < 2 ^ k → bitsN n ≤ k
 | k, 0, _ => by rw [bitsN]; omega
 | 0, n + 1, h => by omega
 | k + 1, n + 1, h => by
  rw [bitsN]
  have := bitsN_le k ((n + 1) / 2) (by rw [Nat.pow_succ] at h; omega)
  omega
termination_by _ n => n
decreasing_by omega
theorem bitsN_pos {n : Nat} (h : 1 ≤ n) : 1 ≤ bitsN n := by
 obtain ⟨m, rfl⟩ : ∃ m, n = m + 1 := ⟨n - 1, by omega⟩
 rw [bitsN]
 omega
theorem rootI_le (n x : Nat) : rootI n x ≤ x := by
 induction x using Nat.strongRecOn with
 | _ x ih =>
  rw [rootI]
  split
  ·rename_i h
   have := ih _ h
   omega
  ·exact Nat.le_refl _
theorem rootI_step {n x : Nat} (h : (x + n / x) / 2 < x) : rootI n x = rootI n ((x + n / x) / 2) := by rw [rootI, if_pos h]
theorem rootI_end {n x : Nat} (h : ¬ (x + n / x) / 2 < x) : rootI n x = x := by rw [rootI, if_neg h]
theorem root_first (n : Nat) (h : n < 9223372036854775808) : (bitsN n + 1) / 2 ≤ 32 := by
 have := bitsN_le 63 n h
 omega
theorem rootP_le {n : Nat} (h : n < 9223372036854775808) : rootP n ≤ 4294967296 := by
 unfold rootP
 split
 ·omega
 ·refine Nat.le_trans (rootI_le _ _) ?_
  exact Nat.le_trans (Nat.pow_le_pow_right (by omega) (root_first n h)) (by decide)
theorem newton_pos {n x : Nat} (hn : 2 ≤ n) (hx : 1 ≤ x) : 1 ≤ (x + n / x) / 2 := by
 by_cases h : x = 1
 ·subst h
  rw [Nat.div_one]
  omega
 ·have : 2 ≤ x := by omega
  generalize n / x = q
  omega
theorem seg_in {p q : Pt} (hp : inG p) (hq : inG q) :
  0 ≤ (q.1 - p.1) * (q.1 - p.1) ∧ (q.1 - p.1) * (q.1 - p.1) ≤ 4398046511104 ∧ 0 ≤ (q.2 - p.2) * (q.2 - p.2) ∧ (q.2 - p.2) * (q.2 - p.2) ≤ 4398046511104 := by
 obtain ⟨p1, p2, p3, p4⟩ := hp
 obtain ⟨q1, q2, q3, q4⟩ := hq
 have h1 := mul_in (x := q.1 - p.1) (y := q.1 - p.1) (a := 2097152) (b := 2097152) ⟨by omega, by omega⟩ ⟨by omega, by omega⟩
 have h2 := mul_in (x := q.2 - p.2) (y := q.2 - p.2) (a := 2097152) (b := 2097152) ⟨by omega, by omega⟩ ⟨by omega, by omega⟩
 have s1 : 0 ≤ (q.1 - p.1) * (q.1 - p.1) := by
  have := Int.natAbs_mul_self (a := q.1 - p.1)
  omega
 have s2 : 0 ≤ (q.2 - p.2) * (q.2 - p.2) := by
  have := Int.natAbs_mul_self (a := q.2 - p.2)
  omega
 refine ⟨s1, ?_, s2, ?_⟩
 ·have := h1.2; simpa using this
 ·have := h2.2; simpa using this
theorem segP_le {p q : Pt} (hp : inG p) (hq : inG q) : segP p q ≤ 4294967296 := by
 obtain ⟨h1, h2, h3, h4⟩ := seg_in hp hq
 unfold segP
 exact rootP_le (by omega)
theorem lenTo_le {l : List Pt} (h : ∀ p ∈ l, inG p) : ∀ i, i < l.length → lenTo l i ≤ i * 4294967296
 | 0, _ => by rw [lenTo]; omega
 | i + 1, hi => by
  have ih := lenTo_le h i (by omega)
  have g1 : l.getD i (0, 0) ∈ l := by
   rw [List.getD_eq_getElem?_getD, List.getElem?_eq_getElem (by omega)]
   exact List.getElem_mem _
  have g2 : l.getD (i + 1) (0, 0) ∈ l := by
   rw [List.getD_eq_getElem?_getD, List.getElem?_eq_getElem hi]
   exact List.getElem_mem _
  have := segP_le (h _ g1) (h _ g2)
  rw [lenTo, lenAt]
  omega
theorem lenAt_of {l : List Pt} {i : Nat} {p q : Pt} (hp : l[i]? = some p) (hq : l[i + 1]? = some q) : lenAt l i = segP p q := by
 rw [lenAt, List.getD_eq_getElem?_getD, List.getD_eq_getElem?_getD, hp, hq]
 rfl
theorem lengthP_le {l : List Pt} (h : polylineE l = 0) : lengthP l ≤ 171798691840 := by
 obtain ⟨h1, h2, h3, _⟩ := poly_zero h
 have := lenTo_le h3 (l.length - 1) (by omega)
 unfold lengthP
 omega
end
section
section
variable {p : PPiece}
theorem graded_len (h : p.corners.length ≠ p.edges.length) : gradedE p = 1 := by rw [gradedE, if_pos h]
theorem graded_shift (h : p.corners.length = p.edges.length) {j : Nat} {s : Pt} (hj : p.corners[j]? = some s) (hs : shiftOut s = true) : gradedE p = 3 := by
 rw [gradedE, if_neg (by simpa using h), if_pos (List.any_eq_true.2 ⟨s, List.mem_of_getElem? hj, hs⟩)]
theorem graded_line (h : p.corners.length = p.edges.length) (hs : ∀ (j : Nat) (s : Pt), p.corners[j]? = some s → shiftOut s = false) : gradedE p = outlineE p.edges := by
 rw [gradedE, if_neg (by simpa using h), if_neg]
 rw [List.any_eq_true]
 rintro ⟨s, hm, ht⟩
 obtain ⟨j, hj⟩ := List.getElem?_of_mem hm
 rw [hs j s hj] at ht
 cases ht
theorem graded_zero (h : gradedE p = 0) : p.corners.length = p.edges.length ∧ outlineE p.edges = 0 ∧ p.edges.length ≤ 16 ∧ 2 ≤ p.edges.length ∧ ∀ (j : Nat) (e : PEdge), p.edges[j]? = some e → polylineE e.line = 0 := by
 unfold gradedE at h
 split at h
 ·cases h
 ·split at h
  ·cases h
  ·rename_i h1 _
   obtain ⟨a, b, c⟩ := line_zero h
   exact ⟨by simpa using h1, h, a, b, c⟩
theorem placed_graded {e : Int} (h : gradedE p = e) (h0 : e ≠ 0) : placedE p = e := by rw [placedE, if_pos (by rw [h]; exact h0), h]
theorem placed_long (h : gradedE p = 0) (h1 : 16 < p.notches.length) : placedE p = 5 := by rw [placedE, if_neg (by simp [h]), if_pos h1]
theorem placed_at (h : gradedE p = 0) (h1 : ¬ 16 < p.notches.length) {j : Nat} {n : Int × Int} (hj : p.notches[j]? = some n) (hz : ∀ (i : Nat) (m : Int × Int), i < j → p.notches[i]? = some m → notchE p m = 0) {e : Int} (he : notchE p n = e) (h0 : e ≠ 0) : placedE p = e := by
 rw [placedE, if_neg (by simp [h]), if_neg h1, firstM_at hj hz (by rw [he]; exact h0), he]
theorem placed_ok (h : gradedE p = 0) (h1 : ¬ 16 < p.notches.length) (hz : ∀ (i : Nat) (m : Int × Int), p.notches[i]? = some m → notchE p m = 0) : placedE p = 0 := by
 rw [placedE, if_neg (by simp [h]), if_neg h1]
 exact firstM_none hz
theorem notch_out {n : Int × Int} (h : n.1 < 0 ∨ (p.edges.length : Int) ≤ n.1) : notchE p n = 3 := by rw [notchE, if_pos h]
theorem notch_in {n : Int × Int} {k : Nat} {e : PEdge} (hk : n.1 = (k : Int)) (he : p.edges[k]? = some e) :
  notchE p n = if lengthP e.line < 1 ∨ 1099511627776 < lengthP e.line ∨ n.2 < 0 ∨ (lengthP e.line : Int) < n.2 then 3 else 0 := by
 have hlt := (List.getElem?_eq_some_iff.1 he).1
 have hg : p.edges.getD n.1.toNat ⟨ByteArray.empty, []⟩ = e := by
  rw [hk, Int.toNat_natCast, List.getD_eq_getElem?_getD, he]
  rfl
 rw [notchE, if_neg (by omega), hg]
theorem widths_len (h : p.widths.length ≠ p.edges.length) : widthsE p = 1 := by rw [widthsE, if_pos h]
theorem widths_at (h : p.widths.length = p.edges.length) {j : Nat} {x : Int} (hj : p.widths[j]? = some x) (hx : x < 0 ∨ 500 < x) : widthsE p = 3 := by
 rw [widthsE, if_neg (by simpa using h), if_pos (List.any_eq_true.2 ⟨x, List.mem_of_getElem? hj, by simpa using hx⟩)]
theorem widths_ok (h : p.widths.length = p.edges.length) (hx : ∀ (j : Nat) (x : Int), p.widths[j]? = some x → 0 ≤ x ∧ x ≤ 500) : widthsE p = 0 := by
 rw [widthsE, if_neg (by simpa using h), if_neg]
 rw [List.any_eq_true]
 rintro ⟨x, hm, ht⟩
 obtain ⟨j, hj⟩ := List.getElem?_of_mem hm
 have := hx j x hj
 simp at ht
 omega
variable {es : List PPiece}
theorem piece_name (h : nameOk p.name.data.toList = false) : pieceE es p = 1 := by rw [pieceE, if_pos h]
theorem piece_grain (h : nameOk p.name.data.toList = true) (h1 : p.grain ≠ 1 ∧ p.grain ≠ 2 ∧ p.grain ≠ 4) : pieceE es p = 1 := by rw [pieceE, if_neg (by simp [h]), if_pos h1]
theorem piece_twice (h : nameOk p.name.data.toList = true) (h1 : ¬ (p.grain ≠ 1 ∧ p.grain ≠ 2 ∧ p.grain ≠ 4)) (h2 : hasName p.name (es.map (·.name)) = true) : pieceE es p = 7 := by
 rw [pieceE, if_neg (by simp [h]), if_neg h1, if_pos h2]
theorem piece_graded (h : nameOk p.name.data.toList = true) (h1 : ¬ (p.grain ≠ 1 ∧ p.grain ≠ 2 ∧ p.grain ≠ 4)) (h2 : hasName p.name (es.map (·.name)) = false) {e : Int} (h3 : gradedE p = e) (h0 : e ≠ 0) : pieceE es p = e := by
 rw [pieceE, if_neg (by simp [h]), if_neg h1, if_neg (by simp [h2]), if_pos (by rw [h3]; exact h0), h3]
theorem piece_placed (h : nameOk p.name.data.toList = true) (h1 : ¬ (p.grain ≠ 1 ∧ p.grain ≠ 2 ∧ p.grain ≠ 4)) (h2 : hasName p.name (es.map (·.name)) = false) (h3 : gradedE p = 0) {e : Int} (h4 : placedE p = e) (h0 : e ≠ 0) : pieceE es p = e := by
 rw [pieceE, if_neg (by simp [h]), if_neg h1, if_neg (by simp [h2]), if_neg (by simp [h3]), if_pos (by rw [h4]; exact h0), h4]
theorem piece_widths (h : nameOk p.name.data.toList = true) (h1 : ¬ (p.grain ≠ 1 ∧ p.grain ≠ 2 ∧ p.grain ≠ 4)) (h2 : hasName p.name (es.map (·.name)) = false) (h3 : gradedE p = 0) (h4 : placedE p = 0) : pieceE es p = widthsE p := by
 rw [pieceE, if_neg (by simp [h]), if_neg h1, if_neg (by simp [h2]), if_neg (by simp [h3]), if_neg (by simp [h4])]
end
section
variable {s : PStyle}
theorem whole_name (h : nameOk s.name.data.toList = false ∨ s.sizes.length = 0) : wholeE s = 1 := by rw [wholeE, if_pos h]
theorem whole_size (h : ¬ (nameOk s.name.data.toList = false ∨ s.sizes.length = 0)) {j : Nat} {z : ByteArray} (hj : s.sizes[j]? = some z) (hz : sizeOk z.data.toList = false) : wholeE s = 1 := by
 rw [wholeE, if_neg h, if_pos]
 rw [List.all_eq_false]
 exact ⟨z, List.mem_of_getElem? hj, by simp [hz]⟩
theorem sizes_all (h : ∀ (j : Nat) (z : ByteArray), s.sizes[j]? = some z → sizeOk z.data.toList = true) : (s.sizes.all fun z : ByteArray => sizeOk z.data.toList) = true := by
 rw [List.all_eq_true]
 intro z hz
 obtain ⟨j, hj⟩ := List.getElem?_of_mem hz
 exact h j z hj
theorem whole_mult (h : ¬ (nameOk s.name.data.toList = false ∨ s.sizes.length = 0)) (h1 : (s.sizes.all fun z : ByteArray => sizeOk z.data.toList) = true) (h2 : s.multiples.length ≠ s.sizes.length ∨ 0 ∉ s.multiples) : wholeE s = 1 := by
 rw [wholeE, if_neg h, if_neg (by simp [h1]), if_pos h2]
theorem whole_twice (h : ¬ (nameOk s.name.data.toList = false ∨ s.sizes.length = 0)) (h1 : (s.sizes.all fun z : ByteArray => sizeOk z.data.toList) = true) (h2 : ¬ (s.multiples.length ≠ s.sizes.length ∨ 0 ∉ s.multiples)) (h3 : onceB s.sizes = false) : wholeE s = 7 := by
 rw [wholeE, if_neg h, if_neg (by simp [h1]), if_neg h2, if_pos h3]
theorem whole_long (h : ¬ (nameOk s.name.data.toList = false ∨ s.sizes.length = 0)) (h1 : (s.sizes.all fun z : ByteArray => sizeOk z.data.toList) = true) (h2 : ¬ (s.multiples.length ≠ s.sizes.length ∨ 0 ∉ s.multiples)) (h3 : onceB s.sizes = true) (h4 : 12 < s.sizes.length ∨ 12 < s.pieces.length ∨ 12 < s.uses.length) : wholeE s = 5 := by
 rw [wholeE, if_neg h, if_neg (by simp [h1]), if_neg h2, if_neg (by simp [h3]), if_pos h4]
theorem whole_more (h : ¬ (nameOk s.name.data.toList = false ∨ s.sizes.length = 0)) (h1 : (s.sizes.all fun z : ByteArray => sizeOk z.data.toList) = true) (h2 : ¬ (s.multiples.length ≠ s.sizes.length ∨ 0 ∉ s.multiples)) (h3 : onceB s.sizes = true) (h4 : ¬ (12 < s.sizes.length ∨ 12 < s.pieces.length ∨ 12 < s.uses.length)) (h5 : 24 < s.seams.length ∨ 16 < s.ops.length) : wholeE s = 5 := by
 rw [wholeE, if_neg h, if_neg (by simp [h1]), if_neg h2, if_neg (by simp [h3]), if_neg h4, if_pos h5]
theorem whole_at (h : ¬ (nameOk s.name.data.toList = false ∨ s.sizes.length = 0)) (h1 : (s.sizes.all fun z : ByteArray => sizeOk z.data.toList) = true) (h2 : ¬ (s.multiples.length ≠ s.sizes.length ∨ 0 ∉ s.multiples)) (h3 : onceB s.sizes = true) (h4 : ¬ (12 < s.sizes.length ∨ 12 < s.pieces.length ∨ 12 < s.uses.length)) (h5 : ¬ (24 < s.seams.length ∨ 16 < s.ops.length)) {j : Nat} {m : Int} (hj : s.multiples[j]? = some m) (hm : m < -100 ∨ 100 < m) : wholeE s = 3 := by
 rw [wholeE, if_neg h, if_neg (by simp [h1]), if_neg h2, if_neg (by simp [h3]), if_neg h4, if_neg h5, if_pos (List.any_eq_true.2 ⟨m, List.mem_of_getElem? hj, by simpa using hm⟩)]
theorem whole_ok (h : ¬ (nameOk s.name.data.toList = false ∨ s.sizes.length = 0)) (h1 : (s.sizes.all fun z : ByteArray => sizeOk z.data.toList) = true) (h2 : ¬ (s.multiples.length ≠ s.sizes.length ∨ 0 ∉ s.multiples)) (h3 : onceB s.sizes = true) (h4 : ¬ (12 < s.sizes.length ∨ 12 < s.pieces.length ∨ 12 < s.uses.length)) (h5 : ¬ (24 < s.seams.length ∨ 16 < s.ops.length)) (hm : ∀ (j : Nat) (m : Int), s.multiples[j]? = some m → -100 ≤ m ∧ m ≤ 100) : wholeE s = 0 := by
 rw [wholeE, if_neg h, if_neg (by simp [h1]), if_neg h2, if_neg (by simp [h3]), if_neg h4, if_neg h5, if_neg]
 rw [List.any_eq_true]
 rintro ⟨m, hmem, ht⟩
 obtain ⟨j, hj⟩ := List.getElem?_of_mem hmem
 have := hm j m hj
 simp at ht
 omega
theorem style_whole {e : Int} (h : wholeE s = e) (h0 : e ≠ 0) : styleE s = e := by rw [styleE, if_pos (by rw [h]; exact h0), h]
def pieceAt (s : PStyle) (i : Nat) : Int := match s.pieces[i]? with | some p => pieceE (s.pieces.take i) p | none => 0
theorem piece_at {i : Nat} {p : PPiece} (h : s.pieces[i]? = some p) : pieceAt s i = pieceE (s.pieces.take i) p := by rw [pieceAt, h]
theorem pieces_eq : piecesE s = firstE ((List.range s.pieces.length).map (pieceAt s)) := rfl
theorem style_piece (h : wholeE s = 0) {i : Nat} (hi : i < s.pieces.length) (hz : ∀ j, j < i → pieceAt s j = 0) {e : Int} (he : pieceAt s i = e) (h0 : e ≠ 0) : styleE s = e := by
 have hf : piecesE s = e := by rw [pieces_eq, firstR_at hi hz (by rw [he]; exact h0), he]
 rw [styleE, if_neg (by simp [h]), if_pos (by rw [hf]; exact h0), hf]
theorem pieces_none (hz : ∀ j, j < s.pieces.length → pieceAt s j = 0) : piecesE s = 0 := by rw [pieces_eq, firstR_none hz]
theorem style_use (h : wholeE s = 0) (h1 : piecesE s = 0) {i : Nat} {u : PUse} (hi : s.uses[i]? = some u) (hz : ∀ (j : Nat) (v : PUse), j < i → s.uses[j]? = some v → useE s v = 0) (he : useE s u = 3) : styleE s = 3 := by
 have hf := firstM_at hi hz (by rw [he]; decide)
 rw [styleE, if_neg (by simp [h]), if_neg (by simp [h1]), if_pos (by rw [hf, he]; decide), hf, he]
theorem style_seam (h : wholeE s = 0) (h1 : piecesE s = 0) (h2 : ∀ (j : Nat) (v : PUse), s.uses[j]? = some v → useE s v = 0) {i : Nat} {m : PSeam} (hi : s.seams[i]? = some m) (hz : ∀ (j : Nat) (v : PSeam), j < i → s.seams[j]? = some v → seamE s v = 0) {e : Int} (he : seamE s m = e) (h0 : e ≠ 0) : styleE s = e := by
 have hf := firstM_at hi hz (by rw [he]; exact h0)
 rw [styleE, if_neg (by simp [h]), if_neg (by simp [h1]), if_neg (by rw [firstM_none h2]; simp), hf, he]
theorem style_ok (h : wholeE s = 0) (h1 : piecesE s = 0) (h2 : ∀ (j : Nat) (v : PUse), s.uses[j]? = some v → useE s v = 0) (h3 : ∀ (j : Nat) (v : PSeam), s.seams[j]? = some v → seamE s v = 0) : styleE s = 0 := by
 rw [styleE, if_neg (by simp [h]), if_neg (by simp [h1]), if_neg (by rw [firstM_none h2]; simp), firstM_none h3]
theorem isEdge_eq {piece edge : Int} {k : Nat} {p : PPiece} (hk : piece = (k : Int)) (hp : s.pieces[k]? = some p) : isEdgeP s piece edge = (decide (0 ≤ edge) && decide (edge < (p.edges.length : Int))) := by
 have hlt := (List.getElem?_eq_some_iff.1 hp).1
 subst hk
 rw [isEdgeP, Int.toNat_natCast, List.getD_eq_getElem?_getD, List.getElem?_map, hp]
 have h1 : decide ((0 : Int) ≤ (k : Int)) = true := by simp
 have h2 : decide ((k : Int) < (s.pieces.length : Int)) = true := by simp; omega
 rw [h1, h2]
 rfl
theorem isEdge_out {piece edge : Int} (h : piece < 0 ∨ (s.pieces.length : Int) ≤ piece) : isEdgeP s piece edge = false := by
 rw [isEdgeP]
 rcases h with h | h
 ·have : decide ((0 : Int) ≤ piece) = false := by simp; omega
  rw [this]; rfl
 ·have : decide (piece < (s.pieces.length : Int)) = false := by simp; omega
  rw [this]; simp
end
end
end Go.Proofs.YtiibocdmlfedkaaGreatDoor
