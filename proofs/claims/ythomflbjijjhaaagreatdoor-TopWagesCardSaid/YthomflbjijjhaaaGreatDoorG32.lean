/-
  Several texts in one: How records are opened: points, edges, pieces, uses, seams, operations, styles, bundles, workers, scans and floors as data, to what the walks ask. Nothing here is about a single law. How the arguments of TopWages are opened: a case, a tariff, a number of 16 bits. Nothing here is about a single law.
-/
import Derived.Test.YthomflbjijjhaaaGreatDoorG11
import Derived.Test.YthomflbjijjhaaaGreatDoorG12
import Derived.Test.YthomflbjijjhaaaGreatDoorG13
import Derived.Test.YthomflbjijjhaaaGreatDoorG14
import Derived.Test.YthomflbjijjhaaaGreatDoorG15
import Derived.Test.YthomflbjijjhaaaGreatDoorG17
import Derived.Test.YthomflbjijjhaaaGreatDoorG30

/- How records are opened: points, edges, pieces, uses, seams, operations, styles, bundles, workers, scans and floors as data, to what the walks ask. Nothing here is about a single law. -/
namespace Go.Proofs.YthomflbjijjhaaaGreatDoor
open Go.ChangeShapes Go.WideShapes Go.ChangeAt Go.RowKit

theorem cSInt : Tryz.prog.cellsOf 23 = 1 := by kernel_rfl
theorem cSStr : Tryz.prog.cellsOf 22 = 1 := by kernel_rfl
theorem cSSpot : Tryz.prog.cellsOf 80 = 1 := by kernel_rfl
theorem cSEdge : Tryz.prog.cellsOf 83 = 1 := by kernel_rfl
theorem cSNotch : Tryz.prog.cellsOf 84 = 1 := by kernel_rfl
theorem cSPiece : Tryz.prog.cellsOf 24 = 1 := by kernel_rfl
theorem cSUse : Tryz.prog.cellsOf 25 = 1 := by kernel_rfl
theorem cSSeam : Tryz.prog.cellsOf 26 = 1 := by kernel_rfl
theorem cSOperation : Tryz.prog.cellsOf 27 = 1 := by kernel_rfl
theorem cSBundle : Tryz.prog.cellsOf 30 = 1 := by kernel_rfl
theorem cSWorker : Tryz.prog.cellsOf 31 = 1 := by kernel_rfl
instance : Inhabited PEdge := ⟨⟨ByteArray.empty, []⟩⟩
instance : Inhabited PPiece := ⟨⟨ByteArray.empty, [], 0, [], [], [], false⟩⟩
instance : Inhabited PUse := ⟨⟨0, 0, false⟩⟩
instance : Inhabited PSeam := ⟨⟨0, 0, 0, 0, false, 0⟩⟩
instance : Inhabited POp := ⟨⟨ByteArray.empty, 0, 0, [], []⟩⟩
instance : Inhabited PBundle := ⟨⟨0, 0, 0, 0, 0, 0⟩⟩
instance : Inhabited PWorker := ⟨⟨ByteArray.empty, []⟩⟩
instance : Inhabited PScan := ⟨⟨0, 0, 0, 0⟩⟩

def AnyS {α : Type} (_ : α) : Prop := True
section
variable {H : Type} {enc : TypeId × Value → H} {W : World}
theorem i64_of {z : Int} (h : (Lit.int .i64 z).wf = true) : inI z := by
  simp [Lit.wf, IntKind.min, IntKind.max, IntKind.signed, IntKind.bits] at h
  exact ⟨by omega, by omega⟩
set_option maxRecDepth 100000 in
theorem open_spot {fuel : Nat} {cs : List Value} {x : DataW H × List MemPlace} (h : DataW.trod enc Tryz.prog W 0 (fun _ => true) true fuel 79 cs = some x) : ∃ p, spotG W p cs ∧ AnyS p := by
  obtain ⟨xs, n, _, rfl, hl, hlen, hf⟩ := DataW.trod_struct Tryz.underlying79 h
  rw [show Tryz.prog.cellsOf 79 = 2 by kernel_rfl] at hl
  match cs, xs, hl, hlen with
  | [a0, a1], [y0, y1], _, _ =>
    have h0 := hf 0 _ rfl
    have h1 := hf 1 _ rfl
    simp [cInt] at h0 h1
    obtain ⟨z0, e0, _, r0⟩ := DataW.trod_int Tryz.underlying3 h0
    obtain ⟨z1, e1, _, r1⟩ := DataW.trod_int Tryz.underlying3 h1
    simp at e0 e1
    subst e0
    subst e1
    exact ⟨(z0, z1), rfl, trivial⟩
set_option maxRecDepth 100000 in
theorem open_spots {fuel : Nat} {cs : List Value} {x : DataW H × List MemPlace} (h : DataW.trod enc Tryz.prog W 0 (fun _ => true) true fuel 80 cs = some x) :
    ∃ (A : Option Addr) (n c : Nat) (xs : List Pt), cs = [.slice A n c] ∧ Recs 2 spotG W A n xs ∧ n ≤ c ∧ n ≤ 9223372036854775807 ∧ ∀ x ∈ xs, AnyS x :=
  open_recs Tryz.underlying80 (by kernel_rfl) (by omega) (fun _ _ _ h => open_spot h) h
set_option maxRecDepth 100000 in
theorem open_notch {fuel : Nat} {cs : List Value} {x : DataW H × List MemPlace} (h : DataW.trod enc Tryz.prog W 0 (fun _ => true) true fuel 253 cs = some x) : ∃ p, spotG W p cs ∧ AnyS p := by
  obtain ⟨xs, n, _, rfl, hl, hlen, hf⟩ := DataW.trod_struct Tryz.underlying253 h
  rw [show Tryz.prog.cellsOf 253 = 2 by kernel_rfl] at hl
  match cs, xs, hl, hlen with
  | [a0, a1], [y0, y1], _, _ =>
    have h0 := hf 0 _ rfl
    have h1 := hf 1 _ rfl
    simp [cInt] at h0 h1
    obtain ⟨z0, e0, _, r0⟩ := DataW.trod_int Tryz.underlying3 h0
    obtain ⟨z1, e1, _, r1⟩ := DataW.trod_int Tryz.underlying3 h1
    simp at e0 e1
    subst e0
    subst e1
    exact ⟨(z0, z1), rfl, trivial⟩
set_option maxRecDepth 100000 in
theorem open_notches {fuel : Nat} {cs : List Value} {x : DataW H × List MemPlace} (h : DataW.trod enc Tryz.prog W 0 (fun _ => true) true fuel 84 cs = some x) :
    ∃ (A : Option Addr) (n c : Nat) (xs : List Pt), cs = [.slice A n c] ∧ Recs 2 spotG W A n xs ∧ n ≤ c ∧ n ≤ 9223372036854775807 ∧ ∀ x ∈ xs, AnyS x :=
  open_recs Tryz.underlying84 (by kernel_rfl) (by omega) (fun _ _ _ h => open_notch h) h
set_option maxRecDepth 100000 in
theorem open_edge {fuel : Nat} {cs : List Value} {x : DataW H × List MemPlace} (h : DataW.trod enc Tryz.prog W 0 (fun _ => true) true fuel 82 cs = some x) : ∃ p, edgeG W p cs ∧ EdgeS p := by
  obtain ⟨xs, n, _, rfl, hl, hlen, hf⟩ := DataW.trod_struct Tryz.underlying82 h
  rw [show Tryz.prog.cellsOf 82 = 2 by kernel_rfl] at hl
  match cs, xs, hl, hlen with
  | [a0, a1], [y0, y1], _, _ =>
    have h0 := hf 0 _ rfl
    have h1 := hf 1 _ rfl
    simp [cStr, cSSpot] at h0 h1
    obtain ⟨z0, e0, _, m0⟩ := DataW.trod_string Tryz.underlying9 h0
    unfold maxLen at m0
    obtain ⟨A1, n1, c1, z1, e1, g1, l1, m1, k1⟩ := open_spots h1
    simp at e0 e1
    subst e0
    subst e1
    exact ⟨⟨z0, z1⟩, ⟨A1, n1, c1, rfl, g1, l1⟩, ⟨m0, by show z1.length ≤ 9223372036854775807; rw [g1.len]; exact m1⟩⟩
set_option maxRecDepth 100000 in
theorem open_edges {fuel : Nat} {cs : List Value} {x : DataW H × List MemPlace} (h : DataW.trod enc Tryz.prog W 0 (fun _ => true) true fuel 83 cs = some x) :
    ∃ (A : Option Addr) (n c : Nat) (xs : List PEdge), cs = [.slice A n c] ∧ Recs 2 edgeG W A n xs ∧ n ≤ c ∧ n ≤ 9223372036854775807 ∧ ∀ x ∈ xs, EdgeS x :=
  open_recs Tryz.underlying83 (by kernel_rfl) (by omega) (fun _ _ _ h => open_edge h) h
set_option maxRecDepth 100000 in
theorem open_piece {fuel : Nat} {cs : List Value} {x : DataW H × List MemPlace} (h : DataW.trod enc Tryz.prog W 0 (fun _ => true) true fuel 86 cs = some x) : ∃ p, pieceG W p cs ∧ PieceS p := by
  obtain ⟨xs, n, _, rfl, hl, hlen, hf⟩ := DataW.trod_struct Tryz.underlying86 h
  rw [show Tryz.prog.cellsOf 86 = 7 by kernel_rfl] at hl
  match cs, xs, hl, hlen with
  | [a0, a1, a2, a3, a4, a5, a6], [y0, y1, y2, y3, y4, y5, y6], _, _ =>
    have h0 := hf 0 _ rfl
    have h1 := hf 1 _ rfl
    have h2 := hf 2 _ rfl
    have h3 := hf 3 _ rfl
    have h4 := hf 4 _ rfl
    have h5 := hf 5 _ rfl
    have h6 := hf 6 _ rfl
    simp [cStr, cSEdge, cInt, cSNotch, cSSpot, cSInt, cBool] at h0 h1 h2 h3 h4 h5 h6
    obtain ⟨z0, e0, _, m0⟩ := DataW.trod_string Tryz.underlying9 h0
    unfold maxLen at m0
    obtain ⟨A1, n1, c1, z1, e1, g1, l1, m1, k1⟩ := open_edges h1
    obtain ⟨z2, e2, _, r2⟩ := DataW.trod_int Tryz.underlying3 h2
    obtain ⟨A3, n3, c3, z3, e3, g3, l3, m3, k3⟩ := open_notches h3
    obtain ⟨A4, n4, c4, z4, e4, g4, l4, m4, k4⟩ := open_spots h4
    obtain ⟨A5, n5, c5, z5, e5, g5, l5, m5⟩ := open_is h5
    obtain ⟨z6, e6, _⟩ := DataW.trod_bool Tryz.underlying4 h6
    simp at e0 e1 e2 e3 e4 e5 e6
    subst e0
    subst e1
    subst e2
    subst e3
    subst e4
    subst e5
    subst e6
    exact ⟨⟨z0, z1, z2, z3, z4, z5, z6⟩, ⟨A1, n1, c1, A3, n3, c3, A4, n4, c4, A5, n5, c5, rfl, g1, l1, g3, l3, g4, l4, g5, l5⟩, ⟨m0, by show z1.length ≤ 9223372036854775807; rw [g1.len]; exact m1, k1, by show z4.length ≤ 9223372036854775807; rw [g4.len]; exact m4, by show z5.length ≤ 9223372036854775807; rw [g5.ilen]; exact m5, by show z3.length ≤ 9223372036854775807; rw [g3.len]; exact m3⟩⟩
set_option maxRecDepth 100000 in
theorem open_pieces {fuel : Nat} {cs : List Value} {x : DataW H × List MemPlace} (h : DataW.trod enc Tryz.prog W 0 (fun _ => true) true fuel 24 cs = some x) :
    ∃ (A : Option Addr) (n c : Nat) (xs : List PPiece), cs = [.slice A n c] ∧ Recs 7 pieceG W A n xs ∧ n ≤ c ∧ n ≤ 9223372036854775807 ∧ ∀ x ∈ xs, PieceS x :=
  open_recs Tryz.underlying24 (by kernel_rfl) (by omega) (fun _ _ _ h => open_piece h) h
set_option maxRecDepth 100000 in
theorem open_use {fuel : Nat} {cs : List Value} {x : DataW H × List MemPlace} (h : DataW.trod enc Tryz.prog W 0 (fun _ => true) true fuel 88 cs = some x) : ∃ p, useG W p cs ∧ AnyS p := by
  obtain ⟨xs, n, _, rfl, hl, hlen, hf⟩ := DataW.trod_struct Tryz.underlying88 h
  rw [show Tryz.prog.cellsOf 88 = 3 by kernel_rfl] at hl
  match cs, xs, hl, hlen with
  | [a0, a1, a2], [y0, y1, y2], _, _ =>
    have h0 := hf 0 _ rfl
    have h1 := hf 1 _ rfl
    have h2 := hf 2 _ rfl
    simp [cInt, cBool] at h0 h1 h2
    obtain ⟨z0, e0, _, r0⟩ := DataW.trod_int Tryz.underlying3 h0
    obtain ⟨z1, e1, _, r1⟩ := DataW.trod_int Tryz.underlying3 h1
    obtain ⟨z2, e2, _⟩ := DataW.trod_bool Tryz.underlying4 h2
    simp at e0 e1 e2
    subst e0
    subst e1
    subst e2
    exact ⟨⟨z0, z1, z2⟩, rfl, trivial⟩
set_option maxRecDepth 100000 in
theorem open_uses {fuel : Nat} {cs : List Value} {x : DataW H × List MemPlace} (h : DataW.trod enc Tryz.prog W 0 (fun _ => true) true fuel 25 cs = some x) :
    ∃ (A : Option Addr) (n c : Nat) (xs : List PUse), cs = [.slice A n c] ∧ Recs 3 useG W A n xs ∧ n ≤ c ∧ n ≤ 9223372036854775807 ∧ ∀ x ∈ xs, AnyS x :=
  open_recs Tryz.underlying25 (by kernel_rfl) (by omega) (fun _ _ _ h => open_use h) h
set_option maxRecDepth 100000 in
theorem open_seam {fuel : Nat} {cs : List Value} {x : DataW H × List MemPlace} (h : DataW.trod enc Tryz.prog W 0 (fun _ => true) true fuel 187 cs = some x) : ∃ p, seamG W p cs ∧ AnyS p := by
  obtain ⟨xs, n, _, rfl, hl, hlen, hf⟩ := DataW.trod_struct Tryz.underlying187 h
  rw [show Tryz.prog.cellsOf 187 = 6 by kernel_rfl] at hl
  match cs, xs, hl, hlen with
  | [a0, a1, a2, a3, a4, a5], [y0, y1, y2, y3, y4, y5], _, _ =>
    have h0 := hf 0 _ rfl
    have h1 := hf 1 _ rfl
    have h2 := hf 2 _ rfl
    have h3 := hf 3 _ rfl
    have h4 := hf 4 _ rfl
    have h5 := hf 5 _ rfl
    simp [cInt, cBool] at h0 h1 h2 h3 h4 h5
    obtain ⟨z0, e0, _, r0⟩ := DataW.trod_int Tryz.underlying3 h0
    obtain ⟨z1, e1, _, r1⟩ := DataW.trod_int Tryz.underlying3 h1
    obtain ⟨z2, e2, _, r2⟩ := DataW.trod_int Tryz.underlying3 h2
    obtain ⟨z3, e3, _, r3⟩ := DataW.trod_int Tryz.underlying3 h3
    obtain ⟨z4, e4, _⟩ := DataW.trod_bool Tryz.underlying4 h4
    obtain ⟨z5, e5, _, r5⟩ := DataW.trod_int Tryz.underlying3 h5
    simp at e0 e1 e2 e3 e4 e5
    subst e0
    subst e1
    subst e2
    subst e3
    subst e4
    subst e5
    exact ⟨⟨z0, z1, z2, z3, z4, z5⟩, rfl, trivial⟩
set_option maxRecDepth 100000 in
theorem open_seams {fuel : Nat} {cs : List Value} {x : DataW H × List MemPlace} (h : DataW.trod enc Tryz.prog W 0 (fun _ => true) true fuel 26 cs = some x) :
    ∃ (A : Option Addr) (n c : Nat) (xs : List PSeam), cs = [.slice A n c] ∧ Recs 6 seamG W A n xs ∧ n ≤ c ∧ n ≤ 9223372036854775807 ∧ ∀ x ∈ xs, AnyS x :=
  open_recs Tryz.underlying26 (by kernel_rfl) (by omega) (fun _ _ _ h => open_seam h) h
set_option maxRecDepth 100000 in
theorem open_op {fuel : Nat} {cs : List Value} {x : DataW H × List MemPlace} (h : DataW.trod enc Tryz.prog W 0 (fun _ => true) true fuel 65 cs = some x) : ∃ p, opG W p cs ∧ OpS p := by
  obtain ⟨xs, n, _, rfl, hl, hlen, hf⟩ := DataW.trod_struct Tryz.underlying65 h
  rw [show Tryz.prog.cellsOf 65 = 5 by kernel_rfl] at hl
  match cs, xs, hl, hlen with
  | [a0, a1, a2, a3, a4], [y0, y1, y2, y3, y4], _, _ =>
    have h0 := hf 0 _ rfl
    have h1 := hf 1 _ rfl
    have h2 := hf 2 _ rfl
    have h3 := hf 3 _ rfl
    have h4 := hf 4 _ rfl
    simp [cStr, cInt, cSInt] at h0 h1 h2 h3 h4
    obtain ⟨z0, e0, _, m0⟩ := DataW.trod_string Tryz.underlying9 h0
    unfold maxLen at m0
    obtain ⟨z1, e1, _, r1⟩ := DataW.trod_int Tryz.underlying3 h1
    obtain ⟨z2, e2, _, r2⟩ := DataW.trod_int Tryz.underlying3 h2
    obtain ⟨A3, n3, c3, z3, e3, g3, l3, m3⟩ := open_is h3
    obtain ⟨A4, n4, c4, z4, e4, g4, l4, m4⟩ := open_is h4
    simp at e0 e1 e2 e3 e4
    subst e0
    subst e1
    subst e2
    subst e3
    subst e4
    exact ⟨⟨z0, z1, z2, z3, z4⟩, ⟨A3, n3, c3, A4, n4, c4, rfl, g3, l3, g4, l4⟩, ⟨m0, by show z3.length ≤ 9223372036854775807; rw [g3.ilen]; exact m3, by show z4.length ≤ 9223372036854775807; rw [g4.ilen]; exact m4⟩⟩
set_option maxRecDepth 100000 in
theorem open_ops {fuel : Nat} {cs : List Value} {x : DataW H × List MemPlace} (h : DataW.trod enc Tryz.prog W 0 (fun _ => true) true fuel 27 cs = some x) :
    ∃ (A : Option Addr) (n c : Nat) (xs : List POp), cs = [.slice A n c] ∧ Recs 5 opG W A n xs ∧ n ≤ c ∧ n ≤ 9223372036854775807 ∧ ∀ x ∈ xs, OpS x :=
  open_recs Tryz.underlying27 (by kernel_rfl) (by omega) (fun _ _ _ h => open_op h) h
set_option maxRecDepth 100000 in
theorem open_bundle {fuel : Nat} {cs : List Value} {x : DataW H × List MemPlace} (h : DataW.trod enc Tryz.prog W 0 (fun _ => true) true fuel 60 cs = some x) : ∃ p, bundleG W p cs ∧ AnyS p := by
  obtain ⟨xs, n, _, rfl, hl, hlen, hf⟩ := DataW.trod_struct Tryz.underlying60 h
  rw [show Tryz.prog.cellsOf 60 = 6 by kernel_rfl] at hl
  match cs, xs, hl, hlen with
  | [a0, a1, a2, a3, a4, a5], [y0, y1, y2, y3, y4, y5], _, _ =>
    have h0 := hf 0 _ rfl
    have h1 := hf 1 _ rfl
    have h2 := hf 2 _ rfl
    have h3 := hf 3 _ rfl
    have h4 := hf 4 _ rfl
    have h5 := hf 5 _ rfl
    simp [cInt] at h0 h1 h2 h3 h4 h5
    obtain ⟨z0, e0, _, r0⟩ := DataW.trod_int Tryz.underlying3 h0
    obtain ⟨z1, e1, _, r1⟩ := DataW.trod_int Tryz.underlying3 h1
    obtain ⟨z2, e2, _, r2⟩ := DataW.trod_int Tryz.underlying3 h2
    obtain ⟨z3, e3, _, r3⟩ := DataW.trod_int Tryz.underlying3 h3
    obtain ⟨z4, e4, _, r4⟩ := DataW.trod_int Tryz.underlying3 h4
    obtain ⟨z5, e5, _, r5⟩ := DataW.trod_int Tryz.underlying3 h5
    simp at e0 e1 e2 e3 e4 e5
    subst e0
    subst e1
    subst e2
    subst e3
    subst e4
    subst e5
    exact ⟨⟨z0, z1, z2, z3, z4, z5⟩, ⟨rfl, i64_of r4, i64_of r5⟩, trivial⟩
set_option maxRecDepth 100000 in
theorem open_bundles {fuel : Nat} {cs : List Value} {x : DataW H × List MemPlace} (h : DataW.trod enc Tryz.prog W 0 (fun _ => true) true fuel 30 cs = some x) :
    ∃ (A : Option Addr) (n c : Nat) (xs : List PBundle), cs = [.slice A n c] ∧ Recs 6 bundleG W A n xs ∧ n ≤ c ∧ n ≤ 9223372036854775807 ∧ ∀ x ∈ xs, AnyS x :=
  open_recs Tryz.underlying30 (by kernel_rfl) (by omega) (fun _ _ _ h => open_bundle h) h
set_option maxRecDepth 100000 in
theorem open_worker {fuel : Nat} {cs : List Value} {x : DataW H × List MemPlace} (h : DataW.trod enc Tryz.prog W 0 (fun _ => true) true fuel 90 cs = some x) : ∃ p, workerG W p cs ∧ WorkerS p := by
  obtain ⟨xs, n, _, rfl, hl, hlen, hf⟩ := DataW.trod_struct Tryz.underlying90 h
  rw [show Tryz.prog.cellsOf 90 = 2 by kernel_rfl] at hl
  match cs, xs, hl, hlen with
  | [a0, a1], [y0, y1], _, _ =>
    have h0 := hf 0 _ rfl
    have h1 := hf 1 _ rfl
    simp [cStr, cSInt] at h0 h1
    obtain ⟨z0, e0, _, m0⟩ := DataW.trod_string Tryz.underlying9 h0
    unfold maxLen at m0
    obtain ⟨A1, n1, c1, z1, e1, g1, l1, m1⟩ := open_is h1
    simp at e0 e1
    subst e0
    subst e1
    exact ⟨⟨z0, z1⟩, ⟨A1, n1, c1, rfl, g1, l1⟩, ⟨m0, by show z1.length ≤ 9223372036854775807; rw [g1.ilen]; exact m1⟩⟩
set_option maxRecDepth 100000 in
theorem open_workers {fuel : Nat} {cs : List Value} {x : DataW H × List MemPlace} (h : DataW.trod enc Tryz.prog W 0 (fun _ => true) true fuel 31 cs = some x) :
    ∃ (A : Option Addr) (n c : Nat) (xs : List PWorker), cs = [.slice A n c] ∧ Recs 2 workerG W A n xs ∧ n ≤ c ∧ n ≤ 9223372036854775807 ∧ ∀ x ∈ xs, WorkerS x :=
  open_recs Tryz.underlying31 (by kernel_rfl) (by omega) (fun _ _ _ h => open_worker h) h
set_option maxRecDepth 100000 in
theorem open_scan {fuel : Nat} {cs : List Value} {x : DataW H × List MemPlace} (h : DataW.trod enc Tryz.prog W 0 (fun _ => true) true fuel 49 cs = some x) : ∃ p, scanG W p cs ∧ scanIn p := by
  obtain ⟨xs, n, _, rfl, hl, hlen, hf⟩ := DataW.trod_struct Tryz.underlying49 h
  rw [show Tryz.prog.cellsOf 49 = 4 by kernel_rfl] at hl
  match cs, xs, hl, hlen with
  | [a0, a1, a2, a3], [y0, y1, y2, y3], _, _ =>
    have h0 := hf 0 _ rfl
    have h1 := hf 1 _ rfl
    have h2 := hf 2 _ rfl
    have h3 := hf 3 _ rfl
    simp [cInt] at h0 h1 h2 h3
    obtain ⟨z0, e0, _, r0⟩ := DataW.trod_int Tryz.underlying3 h0
    obtain ⟨z1, e1, _, r1⟩ := DataW.trod_int Tryz.underlying3 h1
    obtain ⟨z2, e2, _, r2⟩ := DataW.trod_int Tryz.underlying3 h2
    obtain ⟨z3, e3, _, r3⟩ := DataW.trod_int Tryz.underlying3 h3
    simp at e0 e1 e2 e3
    subst e0
    subst e1
    subst e2
    subst e3
    exact ⟨⟨z0, z1, z2, z3⟩, rfl, ⟨inI64_iff.2 (i64_of r0), inI64_iff.2 (i64_of r1), inI64_iff.2 (i64_of r2), inI64_iff.2 (i64_of r3)⟩⟩
set_option maxRecDepth 100000 in
theorem open_scans {fuel : Nat} {cs : List Value} {x : DataW H × List MemPlace} (h : DataW.trod enc Tryz.prog W 0 (fun _ => true) true fuel 32 cs = some x) :
    ∃ (A : Option Addr) (n c : Nat) (xs : List PScan), cs = [.slice A n c] ∧ Recs 4 scanG W A n xs ∧ n ≤ c ∧ n ≤ 9223372036854775807 ∧ ∀ x ∈ xs, scanIn x :=
  open_recs Tryz.underlying32 (by kernel_rfl) (by omega) (fun _ _ _ h => open_scan h) h
end
end Go.Proofs.YthomflbjijjhaaaGreatDoor

/- How the arguments of TopWages are opened: a case, a tariff, a number of 16 bits. Nothing here is about a single law. -/
namespace Go.Proofs.YthomflbjijjhaaaGreatDoor
open Go.ChangeShapes Go.WideShapes Go.ChangeAt Go.RowKit

theorem cStyle : Tryz.prog.cellsOf 29 = 7 := by kernel_rfl
theorem cCase : Tryz.prog.cellsOf 34 = 10 := by kernel_rfl
theorem cSScan : Tryz.prog.cellsOf 32 = 1 := by kernel_rfl
section
variable {H : Type} {enc : TypeId × Value → H} {W : World}
set_option maxRecDepth 100000 in
theorem open_style {fuel : Nat} {cs : List Value} {x : DataW H × List MemPlace} (h : DataW.trod enc Tryz.prog W 0 (fun _ => true) true fuel 29 cs = some x) :
    ∃ (s : PStyle) (Z : Option Addr) (z zc : Nat) (M : Option Addr) (m mc : Nat) (P : Option Addr) (p pc : Nat) (U : Option Addr) (u uc : Nat) (E : Option Addr) (e ec : Nat) (O : Option Addr) (o oc : Nat),
      cs = [.string s.name, .slice Z z zc, .slice M m mc, .slice P p pc, .slice U u uc, .slice E e ec, .slice O o oc] ∧ StyleA W s Z z zc M m mc P p pc U u uc E e ec O o oc ∧ StyleS s := by
  obtain ⟨xs, n, _, rfl, hl, hlen, hf⟩ := DataW.trod_struct Tryz.underlying29 h
  rw [cStyle] at hl
  match cs, xs, hl, hlen with
  | [a0, a1, a2, a3, a4, a5, a6], [y0, y1, y2, y3, y4, y5, y6], _, _ =>
    have h0 := hf 0 _ rfl
    have h1 := hf 1 _ rfl
    have h2 := hf 2 _ rfl
    have h3 := hf 3 _ rfl
    have h4 := hf 4 _ rfl
    have h5 := hf 5 _ rfl
    have h6 := hf 6 _ rfl
    simp [cStr, cSStr, cSInt, cSPiece, cSUse, cSSeam, cSOperation] at h0 h1 h2 h3 h4 h5 h6
    obtain ⟨z0, e0, _, m0⟩ := DataW.trod_string Tryz.underlying9 h0
    unfold maxLen at m0
    obtain ⟨A1, n1, c1, z1, e1, g1, l1, m1, k1⟩ := open_strs h1
    obtain ⟨A2, n2, c2, z2, e2, g2, l2, m2⟩ := open_is h2
    obtain ⟨A3, n3, c3, z3, e3, g3, l3, m3, k3⟩ := open_pieces h3
    obtain ⟨A4, n4, c4, z4, e4, g4, l4, m4, k4⟩ := open_uses h4
    obtain ⟨A5, n5, c5, z5, e5, g5, l5, m5, k5⟩ := open_seams h5
    obtain ⟨A6, n6, c6, z6, e6, g6, l6, m6, k6⟩ := open_ops h6
    simp at e0 e1 e2 e3 e4 e5 e6
    subst e0
    subst e1
    subst e2
    subst e3
    subst e4
    subst e5
    subst e6
    exact ⟨⟨z0, z1, z2, z3, z4, z5, z6⟩, A1, n1, c1, A2, n2, c2, A3, n3, c3, A4, n4, c4, A5, n5, c5, A6, n6, c6, rfl, ⟨g1, g2, g3, g4, g5, g6, l1, l2, l3, l4, l5, l6⟩, ⟨m0, by show z1.length ≤ 9223372036854775807; rw [g1.slen]; exact m1, k1, by show z2.length ≤ 9223372036854775807; rw [g2.ilen]; exact m2, by show z3.length ≤ 9223372036854775807; rw [g3.len]; exact m3, k3, by show z4.length ≤ 9223372036854775807; rw [g4.len]; exact m4, by show z5.length ≤ 9223372036854775807; rw [g5.len]; exact m5, by show z6.length ≤ 9223372036854775807; rw [g6.len]; exact m6, k6⟩⟩
set_option maxRecDepth 100000 in
theorem open_case {fuel : Nat} {cs : List Value} {x : DataW H × List MemPlace} (h : DataW.trod enc Tryz.prog W 0 (fun _ => true) true fuel 34 cs = some x) :
    ∃ (s : PStyle) (bs : List PBundle) (ws : List PWorker) (xs : List PScan) (F : FH) (X : Option Addr) (xn xc : Nat), cs = [.string s.name, .slice F.Z F.z F.zc, .slice F.M F.m F.mc, .slice F.P F.p F.pc, .slice F.U F.u F.uc, .slice F.E F.e F.ec, .slice F.O F.o F.oc, .slice F.L F.n F.c, .slice F.V F.k F.kc, .slice X xn xc] ∧ FloorA W s bs ws F ∧ FloorS s ws ∧ Recs 4 scanG W X xn xs ∧ xn ≤ xc ∧ (∀ x ∈ xs, scanIn x) ∧ F.n ≤ 9223372036854775807 ∧ F.k ≤ 9223372036854775807 ∧ xn ≤ 9223372036854775807 := by
  obtain ⟨xs, n, _, rfl, hl, hlen, hf⟩ := DataW.trod_struct Tryz.underlying34 h
  rw [cCase] at hl
  match cs, xs, hl, hlen with
  | [a0, a1, a2, a3, a4, a5, a6, a7, a8, a9], [y0, y1, y2, y3], _, _ =>
    have h0 := hf 0 _ rfl
    have h1 := hf 1 _ rfl
    have h2 := hf 2 _ rfl
    have h3 := hf 3 _ rfl
    simp [cStyle, cSBundle, cSWorker, cSScan] at h0 h1 h2 h3
    obtain ⟨s, Z, z, zc, M, m, mc, P, p, pc, U, u, uc, E, e, ec, O, o, oc, e0, hs, hss⟩ := open_style h0
    obtain ⟨A1, n1, c1, z1, e1, g1, l1, m1, _⟩ := open_bundles h1
    obtain ⟨A2, n2, c2, z2, e2, g2, l2, m2, k2⟩ := open_workers h2
    obtain ⟨A3, n3, c3, z3, e3, g3, l3, m3, k3⟩ := open_scans h3
    simp at e0 e1 e2 e3
    obtain ⟨rfl, rfl, rfl, rfl, rfl, rfl, rfl⟩ := e0
    subst e1
    subst e2
    subst e3
    exact ⟨s, z1, z2, z3, ⟨Z, M, P, U, E, O, A1, A2, z, zc, m, mc, p, pc, u, uc, e, ec, o, oc, n1, c1, n2, c2⟩, A3, n3, c3, rfl, ⟨hs, g1, l1, g2, l2⟩, ⟨hss, k2⟩, g3, l3, k3, m1, m2, m3⟩
end
section
variable {H : Type} {enc : TypeId × Value → H} {W : World} {r : Reach} {b0 : Nat} {v : Value} {d : DataW H} {p : List MemPlace}
set_option maxRecDepth 100000 in
theorem open_case1 (hv : Value.okWide Tryz.prog W r b0 34 v) (h : DataW.Trod enc Tryz.prog W 0 (fun _ => true) true 34 v d p) :
    ∃ (s : PStyle) (bs : List PBundle) (ws : List PWorker) (xs : List PScan) (F : FH) (X : Option Addr) (xn xc : Nat), v = .agg #[.string s.name, .slice F.Z F.z F.zc, .slice F.M F.m F.mc, .slice F.P F.p F.pc, .slice F.U F.u F.uc, .slice F.E F.e F.ec, .slice F.O F.o F.oc, .slice F.L F.n F.c, .slice F.V F.k F.kc, .slice X xn xc] ∧ FloorA W s bs ws F ∧ FloorS s ws ∧ Recs 4 scanG W X xn xs ∧ xn ≤ xc ∧ (∀ x ∈ xs, scanIn x) ∧ F.n ≤ 9223372036854775807 ∧ F.k ≤ 9223372036854775807 ∧ xn ≤ 9223372036854775807 := by
  obtain ⟨cs, rfl, hsz⟩ := okWide_struct Tryz.underlying34 hv
  obtain ⟨fuel, hf⟩ := h
  obtain ⟨s, bs, ws, xs, F, X, xn, xc, e, hF⟩ := open_case hf
  refine ⟨s, bs, ws, xs, F, X, xn, xc, ?_, hF⟩
  congr 1
  obtain ⟨l⟩ := cs
  simp [Value.cells] at e
  simp [e]
set_option maxRecDepth 100000 in
theorem open_u16 (hv : Value.okWide Tryz.prog W r b0 37 v) (h : DataW.Trod enc Tryz.prog W 0 (fun _ => true) true 37 v d p) : ∃ z : Nat, v = .int .u16 (z : Int) ∧ z ≤ 65535 := by
  obtain ⟨z, rfl⟩ := okWide_int Tryz.underlying37 hv
  obtain ⟨fuel, hf⟩ := h
  obtain ⟨a, e0, _, r0⟩ := DataW.trod_int Tryz.underlying37 hf
  simp [Value.cells] at e0
  subst e0
  simp [Lit.wf, IntKind.min, IntKind.max, IntKind.signed, IntKind.bits] at r0
  obtain ⟨k, rfl⟩ : ∃ k : Nat, z = (k : Int) := ⟨z.toNat, by omega⟩
  exact ⟨k, rfl, by omega⟩
set_option maxRecDepth 100000 in
theorem open_tariff1 (hv : Value.okWide Tryz.prog W r b0 36 v) (h : DataW.Trod enc Tryz.prog W 0 (fun _ => true) true 36 v d p) : ∃ t : PTariff, v = .agg #[.int .i64 t.rate, .int .i64 t.least] ∧ inI t.rate ∧ inI t.least := by
  obtain ⟨v0, v1, y0, y1, k, rfl, _, _, h0, h1⟩ := Go.Joins.open_agg2 Tryz.underlying36 (by kernel_rfl) (by kernel_rfl) hv h
  obtain ⟨a, e0, _, r0⟩ := DataW.trod_int Tryz.underlying3 h0
  obtain ⟨b, e1, _, r1⟩ := DataW.trod_int Tryz.underlying3 h1
  simp at e0 e1
  subst e0
  subst e1
  exact ⟨⟨a, b⟩, rfl, i64_of r0, i64_of r1⟩
end
end Go.Proofs.YthomflbjijjhaaaGreatDoor
