/-
  Several texts in one: How arguments are opened: naturals, ratios, rows and charts as data, to what the walks ask. Nothing here is about a single law.
-/
import Derived.ChangeSame
import Derived.ChangeSlices
import Derived.Deep.Slices
import Derived.Lib.SmallJoins
import Derived.OpenShut
import Derived.ProofKit
import Derived.SliceStrings
import Derived.WalkKit
import Derived.Test.YtjiccijfbpkliaaGreatDoorG29

/- How arguments are opened: naturals, ratios, rows and charts as data, to what the walks ask. Nothing here is about a single law. -/
namespace Go.Proofs.YtjiccijfbpkliaaGreatDoor
open Go.ChangeShapes Go.WideShapes Go.ChangeAt Go.RowKit

theorem cellsInt : Tryz.prog.cellsOf 3 = 1 := by kernel_rfl
theorem cellsStr : Tryz.prog.cellsOf 9 = 1 := by kernel_rfl
theorem cellsU32 : Tryz.prog.cellsOf 117 = 1 := by kernel_rfl
theorem cellsBool : Tryz.prog.cellsOf 4 = 1 := by kernel_rfl
theorem cellsNat : Tryz.prog.cellsOf 32 = 1 := by kernel_rfl
theorem cellsI : Tryz.prog.cellsOf 34 = 2 := by kernel_rfl
theorem cellsQ : Tryz.prog.cellsOf 36 = 3 := by kernel_rfl
theorem cellsQs : Tryz.prog.cellsOf 55 = 1 := by kernel_rfl
theorem cellsRow : Tryz.prog.cellsOf 57 = 5 := by kernel_rfl
theorem cellsChart : Tryz.prog.cellsOf 25 = 3 := by kernel_rfl
/-- No slice is longer. -/
def big : Nat := 9223372036854775807

section
variable {H : Type} {enc : TypeId × Value → H} {W : World}
theorem u32_of {z : Int} (h : (Lit.int .u32 z).wf = true) : ∃ x : Nat, z = (x : Int) ∧ x < bs := by
  simp [Lit.wf, IntKind.min, IntKind.max, IntKind.signed, IntKind.bits] at h
  exact ⟨z.toNat, by omega, by unfold bs; omega⟩
set_option maxRecDepth 100000 in
theorem open_nat {fuel : Nat} {cs : List Value} {x : DataW H × List MemPlace} (h : DataW.trod enc Tryz.prog W 0 (fun _ => true) true fuel 32 cs = some x) :
    ∃ (A : Option Addr) (n c y : Nat), cs = [.slice A n c] ∧ NatA W A n c y ∧ n ≤ big := by
  rcases open_ints Tryz.underlying32 Tryz.underlying117 cellsU32 h with ⟨hcs, _⟩ | ⟨a, len, cap, zs, hcs, _, hl, hm, hz, _, hcell, hwf⟩
  · exact ⟨none, 0, 0, 0, hcs, ⟨[], Sl.none_, okL_nil, rfl, Nat.le_refl _⟩, Nat.zero_le _⟩
  · simp only [if_true] at hz
    unfold maxLen at hm
    have hx : ∀ z ∈ zs, ∃ x : Nat, z = (x : Int) ∧ x < bs := fun z hz => u32_of (hwf z hz)
    refine ⟨some a, len, cap, _, hcs, ⟨(zs.take len).map Int.toNat, ⟨?_, fun hn => ?_⟩, ?_, rfl, hl⟩, by unfold big; omega⟩
    · simp [u32s]
      omega
    · obtain ⟨b, off, spot⟩ := a
      have h0 := hcell 0 (by omega)
      have hspot : spot = none := by simpa [Addr.add] using World.cell?_spot h0
      subst hspot
      refine ⟨b, off, rfl, ?_, fun j u hu => ?_⟩
      · have := World.block_lt_of_cell? W _ h0
        simpa [Addr.add] using this
      · simp only [u32s, List.map_map, List.getElem?_map, Option.map_eq_some_iff] at hu
        obtain ⟨z, hzj, rfl⟩ := hu
        rw [List.getElem?_take] at hzj
        split at hzj
        · have hjl := (List.getElem?_eq_some_iff.1 hzj).1
          have := hcell j hjl
          rw [Go.WideShapes.add_plain] at this
          rw [this]
          obtain ⟨x, rfl, _⟩ := hx z (List.mem_of_getElem? hzj)
          simp [hzj]
        · cases hzj
    · intro y hy
      obtain ⟨z, hz, rfl⟩ := List.mem_map.1 hy
      obtain ⟨x, rfl, hlt⟩ := hx z (List.mem_of_mem_take hz)
      simpa using hlt
set_option maxRecDepth 100000 in
theorem open_ratio {fuel : Nat} {cs : List Value} {x : DataW H × List MemPlace} (h : DataW.trod enc Tryz.prog W 0 (fun _ => true) true fuel 36 cs = some x) :
    ∃ neg A n c B m d q, cs = [.bool neg, .slice A n c, .slice B m d] ∧ RatA W (.agg #[.bool neg, .slice A n c, .slice B m d]) big q := by
  obtain ⟨y0, y1, k, _, hl, h0, h1⟩ := trod_struct2 Tryz.underlying36 h
  simp only [cellsQ] at hl
  simp only [cellsI, cellsNat] at h0 h1
  obtain ⟨z0, z1, k2, _, hl2, g0, g1⟩ := trod_struct2 Tryz.underlying34 h0
  simp only [cellsBool, cellsNat] at g0 g1
  match cs, hl with
  | [a, b, c], _ =>
    simp at g0 g1 h1
    obtain ⟨neg, e0, _⟩ := DataW.trod_bool Tryz.underlying4 g0
    obtain ⟨A, n, c', x1, e1, n1, b1⟩ := open_nat g1
    obtain ⟨B, m, d, x2, e2, n2, b2⟩ := open_nat h1
    simp at e0 e1 e2
    subst e0
    subst e1
    subst e2
    exact ⟨neg, A, n, c', B, m, d, _, rfl, neg, A, n, c', B, m, d, x1, x2, rfl, n1, n2, b1, b2, rfl⟩
/-- The places of a slice of elements of s cells. -/
theorem cells_at {cs : List Value} {b off i s : Nat} (hc : W.cells? 0 ((⟨b, off, none⟩ : Addr).add (i * s)) s = some cs) (j : Nat) (hj : j < s) : W.cell? ⟨b, off + i * s + j, none⟩ = cs[j]? := by
  obtain ⟨_, _, hat⟩ := World.cells?_some hc
  have := hat j hj
  rw [Go.Deep.add_add, Go.WideShapes.add_plain] at this
  rw [← this]
  congr 2
  omega
theorem spot_none {a : Addr} {s : Nat} {cs : List Value} (hs : 0 < s) (hc : W.cells? 0 (a.add (0 * s)) s = some cs) : ∃ b off, a = ⟨b, off, none⟩ ∧ b < W.heap.size := by
  obtain ⟨_, hl, hat⟩ := World.cells?_some hc
  have h0 := hat 0 hs
  rw [Go.Deep.add_add, List.getElem?_eq_getElem (by omega), Nat.zero_mul, Nat.zero_add] at h0
  obtain ⟨b, off, spot⟩ := a
  have hspot : spot = none := by simpa [Addr.add] using World.cell?_spot h0
  subst hspot
  exact ⟨b, off, rfl, by simpa [Addr.add] using World.block_lt_of_cell? W _ h0⟩
theorem trod_struct3 {P : Program} {w : World} {base : Nat} {spare : Nat → Bool} {held : Bool} {t : TypeId} {f0 f1 f2 : Field} {fuel : Nat} {cs : List Value} {x : DataW H × List MemPlace} (ht : P.underlying t = some (.struct #[f0, f1, f2])) (h : DataW.trod enc P w base spare held fuel t cs = some x) :
    ∃ y0 y1 y2 n, cs.length = P.cellsOf t ∧ DataW.trod enc P w base spare held n f0.type ((cs.drop f0.offset).take (P.cellsOf f0.type)) = some y0 ∧ DataW.trod enc P w base spare held n f1.type ((cs.drop f1.offset).take (P.cellsOf f1.type)) = some y1 ∧ DataW.trod enc P w base spare held n f2.type ((cs.drop f2.offset).take (P.cellsOf f2.type)) = some y2 := by
  obtain ⟨xs, n, _, rfl, hl, hlen, hf⟩ := DataW.trod_struct ht h
  match xs, hlen with
  | [y0, y1, y2], _ => exact ⟨y0, y1, y2, n, hl, by simpa using hf 0 f0 rfl, by simpa using hf 1 f1 rfl, by simpa using hf 2 f2 rfl⟩
set_option maxRecDepth 100000 in
theorem open_rats {fuel : Nat} {cs : List Value} {x : DataW H × List MemPlace} (h : DataW.trod enc Tryz.prog W 0 (fun _ => true) true fuel 55 cs = some x) :
    ∃ A n c qs, cs = [.slice A n c] ∧ RatsA W A n big qs ∧ n ≤ c := by
  rcases Go.Deep.open_slice Tryz.underlying55 h with ⟨hcs, _⟩ | ⟨a, len, cap, m, k, D, Pl, hcs, _, hl, hm, hmm, _, hi⟩
  · exact ⟨none, 0, 0, [], hcs, RatsA.nil _ _ _, Nat.le_refl _⟩
  · simp only [if_true] at hmm
    rw [cellsQ] at hi
    obtain ⟨Q, hQ⟩ := Go.Deep.choose_lt (α := Rat) (n := len) (p := fun i q => ∃ cs' neg A n c B m' d, W.cells? 0 (a.add (i * 3)) 3 = some cs' ∧ cs' = [.bool neg, .slice A n c, .slice B m' d] ∧ RatA W (.agg #[.bool neg, .slice A n c, .slice B m' d]) big q) (fun i hil => by
      obtain ⟨cs', hc, ht⟩ := hi i (by omega)
      obtain ⟨neg, A, n, c, B, m', d, q, e, hq⟩ := open_ratio ht
      exact ⟨q, cs', neg, A, n, c, B, m', d, hc, e, hq⟩)
    refine ⟨some a, len, cap, (List.range len).map Q, hcs, ⟨by simp, fun hn => ?_⟩, hl⟩
    obtain ⟨cs0, _, _, _, _, _, _, _, hc0, _⟩ := hQ 0 hn
    obtain ⟨b, off, rfl, hlt⟩ := spot_none (by omega) hc0
    refine ⟨b, off, rfl, hlt, fun j q hj => ?_⟩
    have hjl : j < len := by have := (List.getElem?_eq_some_iff.1 hj).1; simpa using this
    rw [List.getElem?_map, List.getElem?_range hjl] at hj
    obtain rfl : Q j = q := by simpa using hj
    obtain ⟨cs', neg, A, n, c, B, m', d, hc, rfl, hq⟩ := hQ j hjl
    have e0 := cells_at hc 0 (by omega)
    have e1 := cells_at hc 1 (by omega)
    have e2 := cells_at hc 2 (by omega)
    exact ⟨neg, A, n, c, B, m', d, e0, e1, e2, hq⟩
set_option maxRecDepth 100000 in
theorem open_row {fuel : Nat} {cs : List Value} {x : DataW H × List MemPlace} (h : DataW.trod enc Tryz.prog W 0 (fun _ => true) true fuel 57 cs = some x) :
    ∃ (r : PRow) (neg : Bool) (B : Option Addr) (m c : Nat) (C : Option Addr) (l d : Nat) (S : Option Addr) (sn sc : Nat), cs = [.string r.name, .bool neg, .slice B m c, .slice C l d, .slice S sn sc] ∧ RatA W (.agg #[.bool neg, .slice B m c, .slice C l d]) big r.base ∧ RatsA W S sn big r.steps ∧ sn ≤ sc := by
  obtain ⟨y0, y1, y2, k, hl, h0, h1, h2⟩ := trod_struct3 Tryz.underlying57 h
  simp only [cellsRow] at hl
  simp only [cellsStr, cellsQ, cellsQs] at h0 h1 h2
  match cs, hl with
  | [a, b, c, d, e], _ =>
    simp at h0 h1 h2
    obtain ⟨nm, e0, _⟩ := DataW.trod_string Tryz.underlying9 h0
    obtain ⟨neg, A, n, c', B, m, d', q, e1, hq⟩ := open_ratio h1
    obtain ⟨S, sn, sc, qs, e2, hs, hl⟩ := open_rats h2
    simp at e0 e1 e2
    obtain ⟨e3, e4, e5⟩ := e1
    subst e0
    subst e2
    subst e3
    subst e4
    subst e5
    exact ⟨⟨nm, q, qs⟩, neg, A, n, c', B, m, d', S, sn, sc, rfl, hq, hs, hl⟩
instance : Inhabited PRow := ⟨⟨⟨#[]⟩, 0, []⟩⟩
set_option maxRecDepth 100000 in
theorem open_rows {fuel : Nat} {cs : List Value} {x : DataW H × List MemPlace} (h : DataW.trod enc Tryz.prog W 0 (fun _ => true) true fuel 23 cs = some x) :
    ∃ A n c rs, cs = [.slice A n c] ∧ RowsA W A n big rs ∧ n ≤ c := by
  rcases Go.Deep.open_slice Tryz.underlying23 h with ⟨hcs, _⟩ | ⟨a, len, cap, m, k, D, Pl, hcs, _, hl, hm, hmm, _, hi⟩
  · exact ⟨none, 0, 0, [], hcs, RowsA.nil _ _ _, Nat.le_refl _⟩
  · simp only [if_true] at hmm
    rw [cellsRow] at hi
    obtain ⟨Q, hQ⟩ := Go.Deep.choose_lt (α := PRow) (n := len) (p := fun i r => ∃ (cs' : List Value) (neg : Bool) (B : Option Addr) (m c : Nat) (C : Option Addr) (l d : Nat) (S : Option Addr) (sn sc : Nat), W.cells? 0 (a.add (i * 5)) 5 = some cs' ∧ cs' = [.string r.name, .bool neg, .slice B m c, .slice C l d, .slice S sn sc] ∧ RatA W (.agg #[.bool neg, .slice B m c, .slice C l d]) big r.base ∧ RatsA W S sn big r.steps ∧ sn ≤ sc) (fun i hil => by
      obtain ⟨cs', hc, ht⟩ := hi i (by omega)
      obtain ⟨r, neg, B, m, c, C, l, d, S, sn, sc, e, hh⟩ := open_row ht
      exact ⟨r, cs', neg, B, m, c, C, l, d, S, sn, sc, hc, e, hh⟩)
    refine ⟨some a, len, cap, (List.range len).map Q, hcs, ⟨by simp, fun hn => ?_⟩, hl⟩
    obtain ⟨cs0, _, _, _, _, _, _, _, _, _, _, hc0, _⟩ := hQ 0 hn
    obtain ⟨b, off, rfl, hlt⟩ := spot_none (by omega) hc0
    refine ⟨b, off, rfl, hlt, fun j q hj => ?_⟩
    have hjl : j < len := by have := (List.getElem?_eq_some_iff.1 hj).1; simpa using this
    rw [List.getElem?_map, List.getElem?_range hjl] at hj
    obtain rfl : Q j = q := by simpa using hj
    obtain ⟨cs', neg, B, m, c, C, l, d, S, sn, sc, hc, rfl, hh⟩ := hQ j hjl
    exact ⟨neg, B, m, c, C, l, d, S, sn, sc, cells_at hc 0 (by omega), cells_at hc 1 (by omega), cells_at hc 2 (by omega), cells_at hc 3 (by omega), cells_at hc 4 (by omega), hh⟩
set_option maxRecDepth 100000 in
theorem open_strs {fuel : Nat} {cs : List Value} {x : DataW H × List MemPlace} (hf : DataW.trod enc Tryz.prog W 0 (fun _ => true) true fuel 22 cs = some x) :
    ∃ (A : Option Addr) (n c : Nat) (zs : List ByteArray), cs = [.slice A n c] ∧ Sl W W.heap.size A n (strs zs) ∧ n ≤ c := by
  rcases open_strings Tryz.underlying22 Tryz.underlying9 cellsStr hf with ⟨hcs, _⟩ | ⟨a, len', cap', ss, hcs, _, hl, hm, hz, _, hcell, hws⟩
  · exact ⟨none, 0, 0, [], hcs, Sl.none_, Nat.le_refl _⟩
  · simp only [if_true] at hz
    refine ⟨some a, len', cap', ss.take len', hcs, ⟨?_, fun hn => ?_⟩, hl⟩
    · rw [strs_len, List.length_take]
      omega
    · obtain ⟨b, off, spot⟩ := a
      have h0 := hcell 0 (by omega)
      have hspot : spot = none := by simpa [Addr.add] using World.cell?_spot h0
      subst hspot
      refine ⟨b, off, rfl, ?_, fun j u hu => ?_⟩
      · have := World.block_lt_of_cell? W _ h0
        simpa [Addr.add] using this
      · simp only [strs, List.getElem?_map, Option.map_eq_some_iff] at hu
        obtain ⟨x, hx, rfl⟩ := hu
        rw [List.getElem?_take] at hx
        split at hx
        · have hjl := (List.getElem?_eq_some_iff.1 hx).1
          have := hcell j hjl
          rw [Go.WideShapes.add_plain] at this
          rw [this]
          simp [hx]
        · cases hx
set_option maxRecDepth 100000 in
/-- A chart as an argument. -/
theorem open_chart {r : Reach} {b0 : Nat} {v : Value} {d : DataW H} {p : List MemPlace} (hv : Value.okWide Tryz.prog W r b0 25 v) (h : DataW.Trod enc Tryz.prog W 0 (fun _ => true) true 25 v d p) :
    ∃ (S : Option Addr) (n c : Nat) (R : Option Addr) (m d k : Nat) (ch : PChart), v = .agg #[.slice S n c, .int .i64 ch.base, .slice R m d] ∧ LgtA W S n c R m d k ch := by
  obtain ⟨v0, v1, v2, y0, y1, y2, k, rfl, _, _, h0, h1, h2⟩ := Go.Joins.open_agg3 Tryz.underlying25 (by kernel_rfl) cellsChart hv h
  obtain ⟨S, n, c, zs, e0, hs, hc⟩ := open_strs h0
  obtain ⟨z, e1, _⟩ := DataW.trod_int Tryz.underlying3 h1
  obtain ⟨R, m, d, rs, e2, hr, hd⟩ := open_rows h2
  simp at e0 e1 e2
  subst e0
  subst e1
  subst e2
  exact ⟨S, n, c, R, m, d, big, ⟨zs, z, rs⟩, rfl, ⟨⟨hs, hr⟩, hc, hd⟩⟩
end
end Go.Proofs.YtjiccijfbpkliaaGreatDoor
