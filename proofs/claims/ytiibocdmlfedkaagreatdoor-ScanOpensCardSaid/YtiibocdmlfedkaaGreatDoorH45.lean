/- Parts of the proof. -/
import Derived.Test.YtiibocdmlfedkaaGreatDoorH28
import Derived.Test.YtiibocdmlfedkaaGreatDoorH35
import Derived.Test.YtiibocdmlfedkaaGreatDoorH44
namespace Go.Proofs.YtiibocdmlfedkaaGreatDoor
section
open Go.ChangeShapes Go.WideShapes Go.ChangeAt Go.RowKit
theorem cStyle : Tryz.prog.cellsOf 29 = 7 := by kernel_rfl
theorem cFloor : Tryz.prog.cellsOf 33 = 9 := by kernel_rfl
section
variable {H : Type} {enc : TypeId × Value → H} {W : World}
set_option maxRecDepth 100000 in
theorem open_style {fuel : Nat} {cs : List Value} {x : DataW H × List MemPlace} (h : DataW.trod enc Tryz.prog W 0 (fun _ => true) true fuel 29 cs = some x) :
  ∃ (s : PStyle) (Z : Option Addr) (z zc : Nat) (M : Option Addr) (m mc : Nat) (P : Option Addr) (p pc : Nat) (U : Option Addr) (u uc : Nat) (E : Option Addr) (e ec : Nat) (O : Option Addr) (o oc : Nat),
   cs = [.string s.name, .slice Z z zc, .slice M m mc, .slice P p pc, .slice U u uc, .slice E e ec, .slice O o oc] ∧ StyleA W s Z z zc M m mc P p pc U u uc E e ec O o oc := by
 obtain ⟨xs, n, _, rfl, hl, hlen, hf⟩ := DataW.trod_struct Tryz.underlying29 h
 rw [cStyle] at hl
 match cs, xs, hl, hlen with
 | [a0, a1, a2, a3, a4, a5, a6], [y0, y1, y2, y3, y4, y5, y6], _, _ =>
  have h0 := hf 0 _ rfl
  have h1 := hf 1 _ rfl
  have h2 := hf 2 _ rfl
  have h3 := hf 3 _ rfl
  have h4 := hf 4 _ rfl
  have h5 := hf 5 _ rfl
  have h6 := hf 6 _ rfl
  simp [cStr, cSStr, cSInt, cSPiece, cSUse, cSSeam, cSOperation] at h0 h1 h2 h3 h4 h5 h6
  obtain ⟨z0, e0, _⟩ := DataW.trod_string Tryz.underlying9 h0
  obtain ⟨A1, n1, c1, z1, e1, g1, l1⟩ := open_strs h1
  obtain ⟨A2, n2, c2, z2, e2, g2, l2⟩ := open_is h2
  obtain ⟨A3, n3, c3, z3, e3, g3, l3⟩ := open_pieces h3
  obtain ⟨A4, n4, c4, z4, e4, g4, l4⟩ := open_uses h4
  obtain ⟨A5, n5, c5, z5, e5, g5, l5⟩ := open_seams h5
  obtain ⟨A6, n6, c6, z6, e6, g6, l6⟩ := open_ops h6
  simp at e0 e1 e2 e3 e4 e5 e6
  subst e0
  subst e1
  subst e2
  subst e3
  subst e4
  subst e5
  subst e6
  exact ⟨⟨z0, z1, z2, z3, z4, z5, z6⟩, A1, n1, c1, A2, n2, c2, A3, n3, c3, A4, n4, c4, A5, n5, c5, A6, n6, c6, rfl, ⟨g1, g2, g3, g4, g5, g6, l1, l2, l3, l4, l5, l6⟩⟩
set_option maxRecDepth 100000 in
theorem open_floor {fuel : Nat} {cs : List Value} {x : DataW H × List MemPlace} (h : DataW.trod enc Tryz.prog W 0 (fun _ => true) true fuel 33 cs = some x) :
  ∃ (s : PStyle) (bs : List PBundle) (ws : List PWorker) (F : FH), cs = [.string s.name, .slice F.Z F.z F.zc, .slice F.M F.m F.mc, .slice F.P F.p F.pc, .slice F.U F.u F.uc, .slice F.E F.e F.ec, .slice F.O F.o F.oc, .slice F.L F.n F.c, .slice F.V F.k F.kc] ∧ FloorA W s bs ws F := by
 obtain ⟨xs, n, _, rfl, hl, hlen, hf⟩ := DataW.trod_struct Tryz.underlying33 h
 rw [cFloor] at hl
 match cs, xs, hl, hlen with
 | [a0, a1, a2, a3, a4, a5, a6, a7, a8], [y0, y1, y2], _, _ =>
  have h0 := hf 0 _ rfl
  have h1 := hf 1 _ rfl
  have h2 := hf 2 _ rfl
  simp [cStyle, cSBundle, cSWorker] at h0 h1 h2
  obtain ⟨s, Z, z, zc, M, m, mc, P, p, pc, U, u, uc, E, e, ec, O, o, oc, e0, hs⟩ := open_style h0
  obtain ⟨A1, n1, c1, z1, e1, g1, l1⟩ := open_bundles h1
  obtain ⟨A2, n2, c2, z2, e2, g2, l2⟩ := open_workers h2
  simp at e0 e1 e2
  obtain ⟨rfl, rfl, rfl, rfl, rfl, rfl, rfl⟩ := e0
  subst e1
  subst e2
  exact ⟨s, z1, z2, ⟨Z, M, P, U, E, O, A1, A2, z, zc, m, mc, p, pc, u, uc, e, ec, o, oc, n1, c1, n2, c2⟩, rfl, ⟨hs, g1, l1, g2, l2⟩⟩
end
section
variable {H : Type} {enc : TypeId × Value → H} {W : World} {r : Reach} {b0 : Nat} {v : Value} {d : DataW H} {p : List MemPlace}
set_option maxRecDepth 100000 in
theorem open_int1 (hv : Value.okWide Tryz.prog W r b0 3 v) (_h : DataW.Trod enc Tryz.prog W 0 (fun _ => true) true 3 v d p) : ∃ z : Int, v = .int .i64 z := by
 obtain ⟨z, rfl⟩ := okWide_int Tryz.underlying3 hv
 exact ⟨z, rfl⟩
set_option maxRecDepth 100000 in
theorem open_floor1 (hv : Value.okWide Tryz.prog W r b0 33 v) (h : DataW.Trod enc Tryz.prog W 0 (fun _ => true) true 33 v d p) :
  ∃ (s : PStyle) (bs : List PBundle) (ws : List PWorker) (F : FH), v = .agg #[.string s.name, .slice F.Z F.z F.zc, .slice F.M F.m F.mc, .slice F.P F.p F.pc, .slice F.U F.u F.uc, .slice F.E F.e F.ec, .slice F.O F.o F.oc, .slice F.L F.n F.c, .slice F.V F.k F.kc] ∧ FloorA W s bs ws F := by
 obtain ⟨cs, rfl, hsz⟩ := okWide_struct Tryz.underlying33 hv
 obtain ⟨fuel, hf⟩ := h
 obtain ⟨s, bs, ws, F, e, hF⟩ := open_floor hf
 refine ⟨s, bs, ws, F, ?_, hF⟩
 congr 1
 obtain ⟨l⟩ := cs
 simp [Value.cells] at e
 simp [e]
set_option maxRecDepth 100000 in
theorem open_scans1 (hv : Value.okWide Tryz.prog W r b0 34 v) (h : DataW.Trod enc Tryz.prog W 0 (fun _ => true) true 34 v d p) : ∃ (A : Option Addr) (n c : Nat) (xs : List PScan), v = .slice A n c ∧ Recs 4 scanG W A n xs ∧ n ≤ c := by
 obtain ⟨A', n', c', rfl⟩ := okWide_slice Tryz.underlying34 hv
 obtain ⟨fuel, hf⟩ := h
 obtain ⟨A, n, c, xs, e, h1, h2⟩ := open_scans hf
 refine ⟨A, n, c, xs, ?_, h1, h2⟩
 simpa [Value.cells] using e
end
end
end Go.Proofs.YtiibocdmlfedkaaGreatDoor
