/- Parts of the proof. -/
import Derived.ChangeSame
import Derived.ChangeSlices
import Derived.Deep.Slices
import Derived.Lib.SmallJoins
import Derived.OpenShut
import Derived.ProofKit
import Derived.SliceStrings
import Derived.Test.YtiibocdmlfedkaaGreatDoorH07
namespace Go.Proofs.YtiibocdmlfedkaaGreatDoor
section
open Go.ChangeShapes Go.WideShapes Go.ChangeAt Go.RowKit
theorem cInt : Tryz.prog.cellsOf 3 = 1 := by kernel_rfl
theorem cStr : Tryz.prog.cellsOf 9 = 1 := by kernel_rfl
theorem cBool : Tryz.prog.cellsOf 4 = 1 := by kernel_rfl
section
variable {H : Type} {enc : TypeId × Value → H} {W : World}
theorem cells_at {cs : List Value} {b off i s : Nat} (hc : W.cells? 0 ((⟨b, off, none⟩ : Addr).add (i * s)) s = some cs) (j : Nat) (hj : j < s) : W.cell? ⟨b, off + i * s + j, none⟩ = cs[j]? := by
 obtain ⟨_, _, hat⟩ := World.cells?_some hc
 have := hat j hj
 rw [Go.Deep.add_add, Go.WideShapes.add_plain] at this
 rw [← this]
 congr 2
 omega
theorem spot_none {a : Addr} {s : Nat} {cs : List Value} (hs : 0 < s) (hc : W.cells? 0 (a.add (0 * s)) s = some cs) : ∃ b off, a = ⟨b, off, none⟩ ∧ b < W.heap.size := by
 obtain ⟨_, hl, hat⟩ := World.cells?_some hc
 have h0 := hat 0 hs
 rw [Go.Deep.add_add, List.getElem?_eq_getElem (by omega), Nat.zero_mul, Nat.zero_add] at h0
 obtain ⟨b, off, spot⟩ := a
 have hspot : spot = none := by simpa [Addr.add] using World.cell?_spot h0
 subst hspot
 exact ⟨b, off, rfl, by simpa [Addr.add] using World.block_lt_of_cell? W _ h0⟩
theorem open_recs {α : Type} [Inhabited α] {s : Nat} {G : World → α → List Value → Prop} {T E : TypeId} (hu : Tryz.prog.underlying T = some (.slice E)) (hc : Tryz.prog.cellsOf E = s) (hs : 0 < s)
  (hel : ∀ (fuel : Nat) (cs : List Value) (x : DataW H × List MemPlace), DataW.trod enc Tryz.prog W 0 (fun _ => true) true fuel E cs = some x → ∃ a, G W a cs)
  {fuel : Nat} {cs : List Value} {x : DataW H × List MemPlace} (h : DataW.trod enc Tryz.prog W 0 (fun _ => true) true fuel T cs = some x) :
  ∃ A n c xs, cs = [.slice A n c] ∧ Recs s G W A n xs ∧ n ≤ c := by
 rcases Go.Deep.open_slice hu h with ⟨hcs, _⟩ | ⟨a, len, cap, m, k, D, Pl, hcs, _, hl, hm, hmm, _, hi⟩
 ·exact ⟨none, 0, 0, [], hcs, Recs.nil _ _ _ _, Nat.le_refl _⟩
 ·simp only [if_true] at hmm
  rw [hc] at hi
  obtain ⟨Q, hQ⟩ := Go.Deep.choose_lt (α := α) (n := len) (p := fun i q => ∃ cs', W.cells? 0 (a.add (i * s)) s = some cs' ∧ G W q cs') (fun i hil => by
   obtain ⟨cs', hc', ht⟩ := hi i (by omega)
   obtain ⟨q, hq⟩ := hel _ _ _ ht
   exact ⟨q, cs', hc', hq⟩)
  refine ⟨some a, len, cap, (List.range len).map Q, hcs, ⟨by simp, fun hn => ?_⟩, hl⟩
  obtain ⟨cs0, hc0, _⟩ := hQ 0 hn
  obtain ⟨b, off, rfl, hlt⟩ := spot_none hs hc0
  refine ⟨b, off, rfl, hlt, fun j q hj => ?_⟩
  have hjl : j < len := by have := (List.getElem?_eq_some_iff.1 hj).1; simpa using this
  rw [List.getElem?_map, List.getElem?_range hjl] at hj
  obtain rfl : Q j = q := by simpa using hj
  obtain ⟨cs', hc', hg⟩ := hQ j hjl
  refine ⟨cs', hg, fun i u hu => ?_⟩
  have hil : i < s := by
   have h1 := (List.getElem?_eq_some_iff.1 hu).1
   obtain ⟨_, hl', _⟩ := World.cells?_some hc'
   omega
  rw [cells_at hc' i hil]
  exact hu
set_option maxRecDepth 100000 in
theorem open_is {fuel : Nat} {cs : List Value} {x : DataW H × List MemPlace} (hf : DataW.trod enc Tryz.prog W 0 (fun _ => true) true fuel 23 cs = some x) :
  ∃ (A : Option Addr) (n c : Nat) (zs : List Int), cs = [.slice A n c] ∧ Sl W W.heap.size A n (ints zs) ∧ n ≤ c := by
 rcases open_ints Tryz.underlying23 Tryz.underlying3 cInt hf with ⟨hcs, _⟩ | ⟨a, len', cap', ss, hcs, _, hl, hm, hz, _, hcell, hws⟩
 ·exact ⟨none, 0, 0, [], hcs, Sl.none_, Nat.le_refl _⟩
 ·simp only [if_true] at hz
  refine ⟨some a, len', cap', ss.take len', hcs, ⟨?_, fun hn => ?_⟩, hl⟩
  ·rw [ints_len, List.length_take]
   omega
  ·obtain ⟨b, off, spot⟩ := a
   have h0 := hcell 0 (by omega)
   have hspot : spot = none := by simpa [Addr.add] using World.cell?_spot h0
   subst hspot
   refine ⟨b, off, rfl, ?_, fun j u hu => ?_⟩
   ·have := World.block_lt_of_cell? W _ h0
    simpa [Addr.add] using this
   ·simp only [ints, List.getElem?_map, Option.map_eq_some_iff] at hu
    obtain ⟨x, hx, rfl⟩ := hu
    rw [List.getElem?_take] at hx
    split at hx
    ·have hjl := (List.getElem?_eq_some_iff.1 hx).1
     have := hcell j hjl
     rw [Go.WideShapes.add_plain] at this
     rw [this]
     simp [hx]
    ·cases hx
set_option maxRecDepth 100000 in
theorem open_strs {fuel : Nat} {cs : List Value} {x : DataW H × List MemPlace} (hf : DataW.trod enc Tryz.prog W 0 (fun _ => true) true fuel 22 cs = some x) :
  ∃ (A : Option Addr) (n c : Nat) (zs : List ByteArray), cs = [.slice A n c] ∧ Sl W W.heap.size A n (strs zs) ∧ n ≤ c := by
 rcases open_strings Tryz.underlying22 Tryz.underlying9 cStr hf with ⟨hcs, _⟩ | ⟨a, len', cap', ss, hcs, _, hl, hm, hz, _, hcell, hws⟩
 ·exact ⟨none, 0, 0, [], hcs, Sl.none_, Nat.le_refl _⟩
 ·simp only [if_true] at hz
  refine ⟨some a, len', cap', ss.take len', hcs, ⟨?_, fun hn => ?_⟩, hl⟩
  ·rw [strs_len, List.length_take]
   omega
  ·obtain ⟨b, off, spot⟩ := a
   have h0 := hcell 0 (by omega)
   have hspot : spot = none := by simpa [Addr.add] using World.cell?_spot h0
   subst hspot
   refine ⟨b, off, rfl, ?_, fun j u hu => ?_⟩
   ·have := World.block_lt_of_cell? W _ h0
    simpa [Addr.add] using this
   ·simp only [strs, List.getElem?_map, Option.map_eq_some_iff] at hu
    obtain ⟨x, hx, rfl⟩ := hu
    rw [List.getElem?_take] at hx
    split at hx
    ·have hjl := (List.getElem?_eq_some_iff.1 hx).1
     have := hcell j hjl
     rw [Go.WideShapes.add_plain] at this
     rw [this]
     simp [hx]
    ·cases hx
end
end
end Go.Proofs.YtiibocdmlfedkaaGreatDoor
