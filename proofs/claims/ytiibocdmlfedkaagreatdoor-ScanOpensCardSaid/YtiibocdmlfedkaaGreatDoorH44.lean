/- Parts of the proof. -/
import Derived.Test.YtiibocdmlfedkaaGreatDoorH09
import Derived.Test.YtiibocdmlfedkaaGreatDoorH26
namespace Go.Proofs.YtiibocdmlfedkaaGreatDoor
section
open Go.ChangeShapes Go.WideShapes Go.ChangeAt Go.RowKit
theorem cSInt : Tryz.prog.cellsOf 23 = 1 := by kernel_rfl
theorem cSStr : Tryz.prog.cellsOf 22 = 1 := by kernel_rfl
theorem cSSpot : Tryz.prog.cellsOf 65 = 1 := by kernel_rfl
theorem cSEdge : Tryz.prog.cellsOf 63 = 1 := by kernel_rfl
theorem cSNotch : Tryz.prog.cellsOf 64 = 1 := by kernel_rfl
theorem cSPiece : Tryz.prog.cellsOf 24 = 1 := by kernel_rfl
theorem cSUse : Tryz.prog.cellsOf 25 = 1 := by kernel_rfl
theorem cSSeam : Tryz.prog.cellsOf 26 = 1 := by kernel_rfl
theorem cSOperation : Tryz.prog.cellsOf 27 = 1 := by kernel_rfl
theorem cSBundle : Tryz.prog.cellsOf 30 = 1 := by kernel_rfl
theorem cSWorker : Tryz.prog.cellsOf 31 = 1 := by kernel_rfl
instance : Inhabited PEdge := ⟨⟨ByteArray.empty, []⟩⟩
instance : Inhabited PPiece := ⟨⟨ByteArray.empty, [], 0, [], [], [], false⟩⟩
instance : Inhabited PUse := ⟨⟨0, 0, false⟩⟩
instance : Inhabited PSeam := ⟨⟨0, 0, 0, 0, false, 0⟩⟩
instance : Inhabited POp := ⟨⟨ByteArray.empty, 0, 0, [], []⟩⟩
instance : Inhabited PBundle := ⟨⟨0, 0, 0, 0, 0, 0⟩⟩
instance : Inhabited PWorker := ⟨⟨ByteArray.empty, []⟩⟩
instance : Inhabited PScan := ⟨⟨0, 0, 0, 0⟩⟩
section
variable {H : Type} {enc : TypeId × Value → H} {W : World}
theorem i64_of {z : Int} (h : (Lit.int .i64 z).wf = true) : inI z := by
 simp [Lit.wf, IntKind.min, IntKind.max, IntKind.signed, IntKind.bits] at h
 exact ⟨by omega, by omega⟩
set_option maxRecDepth 100000 in
theorem open_spot {fuel : Nat} {cs : List Value} {x : DataW H × List MemPlace} (h : DataW.trod enc Tryz.prog W 0 (fun _ => true) true fuel 74 cs = some x) : ∃ p, spotG W p cs := by
 obtain ⟨xs, n, _, rfl, hl, hlen, hf⟩ := DataW.trod_struct Tryz.underlying74 h
 rw [show Tryz.prog.cellsOf 74 = 2 by kernel_rfl] at hl
 match cs, xs, hl, hlen with
 | [a0, a1], [y0, y1], _, _ =>
  have h0 := hf 0 _ rfl
  have h1 := hf 1 _ rfl
  simp [cInt] at h0 h1
  obtain ⟨z0, e0, _, r0⟩ := DataW.trod_int Tryz.underlying3 h0
  obtain ⟨z1, e1, _, r1⟩ := DataW.trod_int Tryz.underlying3 h1
  simp at e0 e1
  subst e0
  subst e1
  exact ⟨(z0, z1), rfl⟩
set_option maxRecDepth 100000 in
theorem open_spots {fuel : Nat} {cs : List Value} {x : DataW H × List MemPlace} (h : DataW.trod enc Tryz.prog W 0 (fun _ => true) true fuel 65 cs = some x) :
  ∃ (A : Option Addr) (n c : Nat) (xs : List Pt), cs = [.slice A n c] ∧ Recs 2 spotG W A n xs ∧ n ≤ c :=
 open_recs Tryz.underlying65 (by kernel_rfl) (by omega) (fun _ _ _ h => open_spot h) h
set_option maxRecDepth 100000 in
theorem open_notch {fuel : Nat} {cs : List Value} {x : DataW H × List MemPlace} (h : DataW.trod enc Tryz.prog W 0 (fun _ => true) true fuel 213 cs = some x) : ∃ p, spotG W p cs := by
 obtain ⟨xs, n, _, rfl, hl, hlen, hf⟩ := DataW.trod_struct Tryz.underlying213 h
 rw [show Tryz.prog.cellsOf 213 = 2 by kernel_rfl] at hl
 match cs, xs, hl, hlen with
 | [a0, a1], [y0, y1], _, _ =>
  have h0 := hf 0 _ rfl
  have h1 := hf 1 _ rfl
  simp [cInt] at h0 h1
  obtain ⟨z0, e0, _, r0⟩ := DataW.trod_int Tryz.underlying3 h0
  obtain ⟨z1, e1, _, r1⟩ := DataW.trod_int Tryz.underlying3 h1
  simp at e0 e1
  subst e0
  subst e1
  exact ⟨(z0, z1), rfl⟩
set_option maxRecDepth 100000 in
theorem open_notches {fuel : Nat} {cs : List Value} {x : DataW H × List MemPlace} (h : DataW.trod enc Tryz.prog W 0 (fun _ => true) true fuel 64 cs = some x) :
  ∃ (A : Option Addr) (n c : Nat) (xs : List Pt), cs = [.slice A n c] ∧ Recs 2 spotG W A n xs ∧ n ≤ c :=
 open_recs Tryz.underlying64 (by kernel_rfl) (by omega) (fun _ _ _ h => open_notch h) h
set_option maxRecDepth 100000 in
theorem open_edge {fuel : Nat} {cs : List Value} {x : DataW H × List MemPlace} (h : DataW.trod enc Tryz.prog W 0 (fun _ => true) true fuel 76 cs = some x) : ∃ p, edgeG W p cs := by
 obtain ⟨xs, n, _, rfl, hl, hlen, hf⟩ := DataW.trod_struct Tryz.underlying76 h
 rw [show Tryz.prog.cellsOf 76 = 2 by kernel_rfl] at hl
 match cs, xs, hl, hlen with
 | [a0, a1], [y0, y1], _, _ =>
  have h0 := hf 0 _ rfl
  have h1 := hf 1 _ rfl
  simp [cStr, cSSpot] at h0 h1
  obtain ⟨z0, e0, _⟩ := DataW.trod_string Tryz.underlying9 h0
  obtain ⟨A1, n1, c1, z1, e1, g1, l1⟩ := open_spots h1
  simp at e0 e1
  subst e0
  subst e1
  exact ⟨⟨z0, z1⟩, A1, n1, c1, rfl, g1, l1⟩
set_option maxRecDepth 100000 in
theorem open_edges {fuel : Nat} {cs : List Value} {x : DataW H × List MemPlace} (h : DataW.trod enc Tryz.prog W 0 (fun _ => true) true fuel 63 cs = some x) :
  ∃ (A : Option Addr) (n c : Nat) (xs : List PEdge), cs = [.slice A n c] ∧ Recs 2 edgeG W A n xs ∧ n ≤ c :=
 open_recs Tryz.underlying63 (by kernel_rfl) (by omega) (fun _ _ _ h => open_edge h) h
set_option maxRecDepth 100000 in
theorem open_piece {fuel : Nat} {cs : List Value} {x : DataW H × List MemPlace} (h : DataW.trod enc Tryz.prog W 0 (fun _ => true) true fuel 67 cs = some x) : ∃ p, pieceG W p cs := by
 obtain ⟨xs, n, _, rfl, hl, hlen, hf⟩ := DataW.trod_struct Tryz.underlying67 h
 rw [show Tryz.prog.cellsOf 67 = 7 by kernel_rfl] at hl
 match cs, xs, hl, hlen with
 | [a0, a1, a2, a3, a4, a5, a6], [y0, y1, y2, y3, y4, y5, y6], _, _ =>
  have h0 := hf 0 _ rfl
  have h1 := hf 1 _ rfl
  have h2 := hf 2 _ rfl
  have h3 := hf 3 _ rfl
  have h4 := hf 4 _ rfl
  have h5 := hf 5 _ rfl
  have h6 := hf 6 _ rfl
  simp [cStr, cSEdge, cInt, cSNotch, cSSpot, cSInt, cBool] at h0 h1 h2 h3 h4 h5 h6
  obtain ⟨z0, e0, _⟩ := DataW.trod_string Tryz.underlying9 h0
  obtain ⟨A1, n1, c1, z1, e1, g1, l1⟩ := open_edges h1
  obtain ⟨z2, e2, _, r2⟩ := DataW.trod_int Tryz.underlying3 h2
  obtain ⟨A3, n3, c3, z3, e3, g3, l3⟩ := open_notches h3
  obtain ⟨A4, n4, c4, z4, e4, g4, l4⟩ := open_spots h4
  obtain ⟨A5, n5, c5, z5, e5, g5, l5⟩ := open_is h5
  obtain ⟨z6, e6, _⟩ := DataW.trod_bool Tryz.underlying4 h6
  simp at e0 e1 e2 e3 e4 e5 e6
  subst e0
  subst e1
  subst e2
  subst e3
  subst e4
  subst e5
  subst e6
  exact ⟨⟨z0, z1, z2, z3, z4, z5, z6⟩, A1, n1, c1, A3, n3, c3, A4, n4, c4, A5, n5, c5, rfl, g1, l1, g3, l3, g4, l4, g5, l5⟩
set_option maxRecDepth 100000 in
theorem open_pieces {fuel : Nat} {cs : List Value} {x : DataW H × List MemPlace} (h : DataW.trod enc Tryz.prog W 0 (fun _ => true) true fuel 24 cs = some x) :
  ∃ (A : Option Addr) (n c : Nat) (xs : List PPiece), cs = [.slice A n c] ∧ Recs 7 pieceG W A n xs ∧ n ≤ c :=
 open_recs Tryz.underlying24 (by kernel_rfl) (by omega) (fun _ _ _ h => open_piece h) h
set_option maxRecDepth 100000 in
theorem open_use {fuel : Nat} {cs : List Value} {x : DataW H × List MemPlace} (h : DataW.trod enc Tryz.prog W 0 (fun _ => true) true fuel 79 cs = some x) : ∃ p, useG W p cs := by
 obtain ⟨xs, n, _, rfl, hl, hlen, hf⟩ := DataW.trod_struct Tryz.underlying79 h
 rw [show Tryz.prog.cellsOf 79 = 3 by kernel_rfl] at hl
 match cs, xs, hl, hlen with
 | [a0, a1, a2], [y0, y1, y2], _, _ =>
  have h0 := hf 0 _ rfl
  have h1 := hf 1 _ rfl
  have h2 := hf 2 _ rfl
  simp [cInt, cBool] at h0 h1 h2
  obtain ⟨z0, e0, _, r0⟩ := DataW.trod_int Tryz.underlying3 h0
  obtain ⟨z1, e1, _, r1⟩ := DataW.trod_int Tryz.underlying3 h1
  obtain ⟨z2, e2, _⟩ := DataW.trod_bool Tryz.underlying4 h2
  simp at e0 e1 e2
  subst e0
  subst e1
  subst e2
  exact ⟨⟨z0, z1, z2⟩, rfl⟩
set_option maxRecDepth 100000 in
theorem open_uses {fuel : Nat} {cs : List Value} {x : DataW H × List MemPlace} (h : DataW.trod enc Tryz.prog W 0 (fun _ => true) true fuel 25 cs = some x) :
  ∃ (A : Option Addr) (n c : Nat) (xs : List PUse), cs = [.slice A n c] ∧ Recs 3 useG W A n xs ∧ n ≤ c :=
 open_recs Tryz.underlying25 (by kernel_rfl) (by omega) (fun _ _ _ h => open_use h) h
set_option maxRecDepth 100000 in
theorem open_seam {fuel : Nat} {cs : List Value} {x : DataW H × List MemPlace} (h : DataW.trod enc Tryz.prog W 0 (fun _ => true) true fuel 148 cs = some x) : ∃ p, seamG W p cs := by
 obtain ⟨xs, n, _, rfl, hl, hlen, hf⟩ := DataW.trod_struct Tryz.underlying148 h
 rw [show Tryz.prog.cellsOf 148 = 6 by kernel_rfl] at hl
 match cs, xs, hl, hlen with
 | [a0, a1, a2, a3, a4, a5], [y0, y1, y2, y3, y4, y5], _, _ =>
  have h0 := hf 0 _ rfl
  have h1 := hf 1 _ rfl
  have h2 := hf 2 _ rfl
  have h3 := hf 3 _ rfl
  have h4 := hf 4 _ rfl
  have h5 := hf 5 _ rfl
  simp [cInt, cBool] at h0 h1 h2 h3 h4 h5
  obtain ⟨z0, e0, _, r0⟩ := DataW.trod_int Tryz.underlying3 h0
  obtain ⟨z1, e1, _, r1⟩ := DataW.trod_int Tryz.underlying3 h1
  obtain ⟨z2, e2, _, r2⟩ := DataW.trod_int Tryz.underlying3 h2
  obtain ⟨z3, e3, _, r3⟩ := DataW.trod_int Tryz.underlying3 h3
  obtain ⟨z4, e4, _⟩ := DataW.trod_bool Tryz.underlying4 h4
  obtain ⟨z5, e5, _, r5⟩ := DataW.trod_int Tryz.underlying3 h5
  simp at e0 e1 e2 e3 e4 e5
  subst e0
  subst e1
  subst e2
  subst e3
  subst e4
  subst e5
  exact ⟨⟨z0, z1, z2, z3, z4, z5⟩, rfl⟩
set_option maxRecDepth 100000 in
theorem open_seams {fuel : Nat} {cs : List Value} {x : DataW H × List MemPlace} (h : DataW.trod enc Tryz.prog W 0 (fun _ => true) true fuel 26 cs = some x) :
  ∃ (A : Option Addr) (n c : Nat) (xs : List PSeam), cs = [.slice A n c] ∧ Recs 6 seamG W A n xs ∧ n ≤ c :=
 open_recs Tryz.underlying26 (by kernel_rfl) (by omega) (fun _ _ _ h => open_seam h) h
set_option maxRecDepth 100000 in
theorem open_op {fuel : Nat} {cs : List Value} {x : DataW H × List MemPlace} (h : DataW.trod enc Tryz.prog W 0 (fun _ => true) true fuel 70 cs = some x) : ∃ p, opG W p cs := by
 obtain ⟨xs, n, _, rfl, hl, hlen, hf⟩ := DataW.trod_struct Tryz.underlying70 h
 rw [show Tryz.prog.cellsOf 70 = 5 by kernel_rfl] at hl
 match cs, xs, hl, hlen with
 | [a0, a1, a2, a3, a4], [y0, y1, y2, y3, y4], _, _ =>
  have h0 := hf 0 _ rfl
  have h1 := hf 1 _ rfl
  have h2 := hf 2 _ rfl
  have h3 := hf 3 _ rfl
  have h4 := hf 4 _ rfl
  simp [cStr, cInt, cSInt] at h0 h1 h2 h3 h4
  obtain ⟨z0, e0, _⟩ := DataW.trod_string Tryz.underlying9 h0
  obtain ⟨z1, e1, _, r1⟩ := DataW.trod_int Tryz.underlying3 h1
  obtain ⟨z2, e2, _, r2⟩ := DataW.trod_int Tryz.underlying3 h2
  obtain ⟨A3, n3, c3, z3, e3, g3, l3⟩ := open_is h3
  obtain ⟨A4, n4, c4, z4, e4, g4, l4⟩ := open_is h4
  simp at e0 e1 e2 e3 e4
  subst e0
  subst e1
  subst e2
  subst e3
  subst e4
  exact ⟨⟨z0, z1, z2, z3, z4⟩, A3, n3, c3, A4, n4, c4, rfl, g3, l3, g4, l4⟩
set_option maxRecDepth 100000 in
theorem open_ops {fuel : Nat} {cs : List Value} {x : DataW H × List MemPlace} (h : DataW.trod enc Tryz.prog W 0 (fun _ => true) true fuel 27 cs = some x) :
  ∃ (A : Option Addr) (n c : Nat) (xs : List POp), cs = [.slice A n c] ∧ Recs 5 opG W A n xs ∧ n ≤ c :=
 open_recs Tryz.underlying27 (by kernel_rfl) (by omega) (fun _ _ _ h => open_op h) h
set_option maxRecDepth 100000 in
theorem open_bundle {fuel : Nat} {cs : List Value} {x : DataW H × List MemPlace} (h : DataW.trod enc Tryz.prog W 0 (fun _ => true) true fuel 81 cs = some x) : ∃ p, bundleG W p cs := by
 obtain ⟨xs, n, _, rfl, hl, hlen, hf⟩ := DataW.trod_struct Tryz.underlying81 h
 rw [show Tryz.prog.cellsOf 81 = 6 by kernel_rfl] at hl
 match cs, xs, hl, hlen with
 | [a0, a1, a2, a3, a4, a5], [y0, y1, y2, y3, y4, y5], _, _ =>
  have h0 := hf 0 _ rfl
  have h1 := hf 1 _ rfl
  have h2 := hf 2 _ rfl
  have h3 := hf 3 _ rfl
  have h4 := hf 4 _ rfl
  have h5 := hf 5 _ rfl
  simp [cInt] at h0 h1 h2 h3 h4 h5
  obtain ⟨z0, e0, _, r0⟩ := DataW.trod_int Tryz.underlying3 h0
  obtain ⟨z1, e1, _, r1⟩ := DataW.trod_int Tryz.underlying3 h1
  obtain ⟨z2, e2, _, r2⟩ := DataW.trod_int Tryz.underlying3 h2
  obtain ⟨z3, e3, _, r3⟩ := DataW.trod_int Tryz.underlying3 h3
  obtain ⟨z4, e4, _, r4⟩ := DataW.trod_int Tryz.underlying3 h4
  obtain ⟨z5, e5, _, r5⟩ := DataW.trod_int Tryz.underlying3 h5
  simp at e0 e1 e2 e3 e4 e5
  subst e0
  subst e1
  subst e2
  subst e3
  subst e4
  subst e5
  exact ⟨⟨z0, z1, z2, z3, z4, z5⟩, rfl, i64_of r4, i64_of r5⟩
set_option maxRecDepth 100000 in
theorem open_bundles {fuel : Nat} {cs : List Value} {x : DataW H × List MemPlace} (h : DataW.trod enc Tryz.prog W 0 (fun _ => true) true fuel 30 cs = some x) :
  ∃ (A : Option Addr) (n c : Nat) (xs : List PBundle), cs = [.slice A n c] ∧ Recs 6 bundleG W A n xs ∧ n ≤ c :=
 open_recs Tryz.underlying30 (by kernel_rfl) (by omega) (fun _ _ _ h => open_bundle h) h
set_option maxRecDepth 100000 in
theorem open_worker {fuel : Nat} {cs : List Value} {x : DataW H × List MemPlace} (h : DataW.trod enc Tryz.prog W 0 (fun _ => true) true fuel 72 cs = some x) : ∃ p, workerG W p cs := by
 obtain ⟨xs, n, _, rfl, hl, hlen, hf⟩ := DataW.trod_struct Tryz.underlying72 h
 rw [show Tryz.prog.cellsOf 72 = 2 by kernel_rfl] at hl
 match cs, xs, hl, hlen with
 | [a0, a1], [y0, y1], _, _ =>
  have h0 := hf 0 _ rfl
  have h1 := hf 1 _ rfl
  simp [cStr, cSInt] at h0 h1
  obtain ⟨z0, e0, _⟩ := DataW.trod_string Tryz.underlying9 h0
  obtain ⟨A1, n1, c1, z1, e1, g1, l1⟩ := open_is h1
  simp at e0 e1
  subst e0
  subst e1
  exact ⟨⟨z0, z1⟩, A1, n1, c1, rfl, g1, l1⟩
set_option maxRecDepth 100000 in
theorem open_workers {fuel : Nat} {cs : List Value} {x : DataW H × List MemPlace} (h : DataW.trod enc Tryz.prog W 0 (fun _ => true) true fuel 31 cs = some x) :
  ∃ (A : Option Addr) (n c : Nat) (xs : List PWorker), cs = [.slice A n c] ∧ Recs 2 workerG W A n xs ∧ n ≤ c :=
 open_recs Tryz.underlying31 (by kernel_rfl) (by omega) (fun _ _ _ h => open_worker h) h
set_option maxRecDepth 100000 in
theorem open_scan {fuel : Nat} {cs : List Value} {x : DataW H × List MemPlace} (h : DataW.trod enc Tryz.prog W 0 (fun _ => true) true fuel 55 cs = some x) : ∃ p, scanG W p cs := by
 obtain ⟨xs, n, _, rfl, hl, hlen, hf⟩ := DataW.trod_struct Tryz.underlying55 h
 rw [show Tryz.prog.cellsOf 55 = 4 by kernel_rfl] at hl
 match cs, xs, hl, hlen with
 | [a0, a1, a2, a3], [y0, y1, y2, y3], _, _ =>
  have h0 := hf 0 _ rfl
  have h1 := hf 1 _ rfl
  have h2 := hf 2 _ rfl
  have h3 := hf 3 _ rfl
  simp [cInt] at h0 h1 h2 h3
  obtain ⟨z0, e0, _, r0⟩ := DataW.trod_int Tryz.underlying3 h0
  obtain ⟨z1, e1, _, r1⟩ := DataW.trod_int Tryz.underlying3 h1
  obtain ⟨z2, e2, _, r2⟩ := DataW.trod_int Tryz.underlying3 h2
  obtain ⟨z3, e3, _, r3⟩ := DataW.trod_int Tryz.underlying3 h3
  simp at e0 e1 e2 e3
  subst e0
  subst e1
  subst e2
  subst e3
  exact ⟨⟨z0, z1, z2, z3⟩, rfl⟩
set_option maxRecDepth 100000 in
theorem open_scans {fuel : Nat} {cs : List Value} {x : DataW H × List MemPlace} (h : DataW.trod enc Tryz.prog W 0 (fun _ => true) true fuel 34 cs = some x) :
  ∃ (A : Option Addr) (n c : Nat) (xs : List PScan), cs = [.slice A n c] ∧ Recs 4 scanG W A n xs ∧ n ≤ c :=
 open_recs Tryz.underlying34 (by kernel_rfl) (by omega) (fun _ _ _ h => open_scan h) h
end
end
end Go.Proofs.YtiibocdmlfedkaaGreatDoor
