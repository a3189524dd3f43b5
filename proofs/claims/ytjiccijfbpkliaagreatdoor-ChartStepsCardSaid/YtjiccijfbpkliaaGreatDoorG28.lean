/-
  Several texts in one: Appending to a row of the call's own that bears no limbs: such a block never overlaps a slice of limbs. Nothing here walks the program.
-/
import Derived.Laws.AppendOwn
import Derived.Test.YtjiccijfbpkliaaGreatDoorG19

/- Appending to a row of the call's own that bears no limbs: such a block never overlaps a slice of limbs. Nothing here walks the program. -/
namespace Go.Proofs.YtjiccijfbpkliaaGreatDoor
open Go.RowKit

/-- A row of the call's own, no cell of whose block is a limb. -/
def OwnN (w : World) (base : Nat) (e : TypeId) (size : Nat) (v : Value) (n : Nat) (xs : List Value) : Prop :=
  w.ownsRow base e size v n xs ∧ ∀ g, v.ownBlock = some g → NoU w g
theorem OwnN.nil (w : World) (base : Nat) (e : TypeId) (size : Nat) : OwnN w base e size (.slice none 0 0) 0 [] :=
  ⟨World.ownsRow_nil w base e size, fun g h => by simp [Value.ownBlock] at h⟩
theorem OwnN.below {w w' : World} {base : Nat} {e : TypeId} {size n : Nat} {v : Value} {xs : List Value} (h : OwnN w base e size v n xs) (hb : Below w.heap.size w w') : OwnN w' base e size v n xs :=
  ⟨h.1.kept ⟨hb.os, hb.tape, hb.output, hb.size, fun k hk _ => hb.block k hk⟩ (row := none) (by cases v.ownBlock <;> simp), fun g hg => (h.2 g hg).below hb (h.1.lt g hg).2⟩

theorem noU_row {w : World} {g : Nat} {cs : Array Value} {e : TypeId} {f : Nat × Nat} (h : w.heap[g]? = some (.cells cs e f)) (hc : ∀ v ∈ cs.toList, ∀ x, v ≠ .int .u32 x) : NoU w g := by
  intro o x e
  rw [cell_of_row w g o cs _ f h] at e
  have hm : Value.int .u32 x ∈ cs := Array.mem_of_getElem? e
  exact hc _ (by simpa using hm) x rfl
theorem noU_mem {w : World} {g : Nat} {cs : Array Value} {e : TypeId} {f : Nat × Nat} (h : w.heap[g]? = some (.cells cs e f)) (hN : NoU w g) : ∀ v ∈ cs.toList, ∀ x, v ≠ .int .u32 x := by
  intro v hv x e
  subst e
  obtain ⟨i, hi⟩ := List.mem_iff_getElem?.1 hv
  refine hN i x ?_
  rw [cell_of_row w g i cs _ f h]
  simpa using hi
theorem zeroCells_mem {z : Array Value} {k : Nat} {v : Value} (h : v ∈ (Builtin.zeroCells z k).toList) : v ∈ z.toList := by
  unfold Builtin.zeroCells at h
  simp only [Array.toList_map, List.mem_map, Array.toList_range, List.mem_range] at h
  obtain ⟨i, hi, rfl⟩ := h
  have hz : 0 < z.size := Nat.pos_of_ne_zero (fun e => by rw [e] at hi; omega)
  have hm : i % z.size < z.size := Nat.mod_lt _ hz
  rw [getElem!_pos z (i % z.size) hm]
  simp

/-- One element more: as run_append_own, and the block still bears no limbs. -/
theorem run_append_ownN {P : Program} (w : World) (base : Nat) (t ty e : TypeId) (i : TypeInfo) (z : Value) (size bytes : Nat) (ht : P.underlying t = some (.slice e)) (hi : P.info? e = some i) (hz : i.zero = some z)
    (hsize : i.size = size) (hby : i.bytes = bytes) (hzs : z.cells.size = size) (hsz : 0 < size) (hzn : ∀ v ∈ z.cells.toList, ∀ x, v ≠ .int .u32 x)
    (v : Value) (n : Nat) (xs : List Value) (hown : OwnN w base e size v n xs)
    (a : Addr) (c : Nat) (news : List Value) (hl : news.length = 1 * size) (hnews : ∀ j u, news[j]? = some u → w.cell? (a.add j) = some u) (h1 : ∀ u ∈ news, u.oneCell' = true) (hnn : ∀ u ∈ news, ∀ x, u ≠ .int .u32 x)
    (h63 : n + 1 ≤ maxLen) (hbytes : (n + 1) * bytes ≤ 140737488355328) (hbase : base ≤ w.heap.size) :
    ∃ v' w', (Builtin.append_ #[t, t] ty #[v, .slice (some a) 1 c]).run P w = .ok v' w' ∧ OwnN w' base e size v' (n + 1) (xs ++ news) ∧ w.grownBy w' v.ownBlock ∧ (∀ g, v'.ownBlock = some g → v.ownBlock = some g ∨ w.heap.size ≤ g) := by
  obtain ⟨v', w', hr, ho, hg, _⟩ := run_append_own (P := P) w base t ty e i z size bytes ht hi hz hsize hby hzs hsz v n xs hown.1 a 1 c news hl hnews h1 h63 hbytes hbase
  have hsmall : n + 1 ≤ 9223372036854775807 := by simp only [maxLen] at h63; omega
  subst hsize
  subst hby
  have hnl : 0 < news.length := by rw [hl]; omega
  rcases hown.1.2 with ⟨rfl, rfl⟩ | ⟨g, cap, cur, rfl, hbg, hgc, hnc, hcm, hcs, htake⟩
  · have hr2 := run_append_nil (P := P) w t ty e i z ht hi hz a 1 c news hl hnews (by omega) (by omega) (by omega)
    have he := hr.symm.trans hr2
    injection he with e1 e2
    subst e1
    subst e2
    refine ⟨_, _, hr, ⟨ho, fun g hg2 => ?_⟩, hg, fun g hg2 => ?_⟩
    · obtain rfl : w.heap.size = g := by simpa [Value.ownBlock] using hg2
      refine noU_row (heap_alloc_new w.drew _) fun u hu => ?_
      simp only [Array.toList_append, List.mem_append] at hu
      rcases hu with h | h
      · exact hnn u h
      · exact hzn u (zeroCells_mem h)
    · obtain rfl : w.heap.size = g := by simpa [Value.ownBlock] using hg2
      exact .inr (Nat.le_refl _)
  · have hN := hown.2 g (by simp [Value.ownBlock])
    have hold := noU_mem hgc hN
    by_cases hroom : n + 1 ≤ cap
    · have hfit : n * i.size + news.length ≤ cur.size := by rw [hl, hcs, ← Nat.add_mul]; exact Nat.mul_le_mul_right _ hroom
      have hr2 := run_append_room (P := P) w t ty e i ht hi g n cap cur hgc a 1 c news hl hnews h1 hroom hfit
      have he := hr.symm.trans hr2
      injection he with e1 e2
      subst e1
      subst e2
      refine ⟨_, _, hr, ⟨ho, fun g' hg2 => ?_⟩, hg, fun g' hg2 => .inl (by simpa [Value.ownBlock] using hg2)⟩
      obtain rfl : g = g' := by simpa [Value.ownBlock] using hg2
      refine noU_row (setRow_heap w g cur _ e _ hgc) fun u hu => ?_
      simp only [List.mem_append] at hu
      rcases hu with (h | h) | h
      · exact hold u (List.mem_of_mem_take h)
      · exact hnn u h
      · exact hold u (List.mem_of_mem_drop h)
    · have holds : ∀ j u, xs[j]? = some u → w.cell? ((⟨g, 0, none⟩ : Addr).add j) = some u := hown.1.cells (g := g) rfl
      have hr2 := run_append_grow (P := P) w t ty e i z ht hi hz ⟨g, 0, none⟩ n cap xs hown.1.1 holds a 1 c news hl hnews (by omega) (by omega) (growslice_fits (by omega) hbytes)
      have he := hr.symm.trans hr2
      injection he with e1 e2
      subst e1
      subst e2
      refine ⟨_, _, hr, ⟨ho, fun g' hg2 => ?_⟩, hg, fun g' hg2 => ?_⟩
      · obtain rfl : w.heap.size = g' := by simpa [Value.ownBlock] using hg2
        refine noU_row (heap_alloc_new w.drew _) fun u hu => ?_
        simp only [Array.toList_append, List.mem_append] at hu
        rcases hu with (h | h) | h
        · have h : u ∈ xs := h
          rw [← htake] at h
          exact hold u (List.mem_of_mem_take h)
        · exact hnn u h
        · exact hzn u (zeroCells_mem h)
      · obtain rfl : w.heap.size = g' := by simpa [Value.ownBlock] using hg2
        exact .inr (Nat.le_refl _)

theorem wpList_append_ownN {P : Program} {w : World} {ops : Array Oper} {rest : List Oper} {o : Oper} {a : Act} {Q : Exit → Act → World → Prop} (hgd : o.guard = none) (s x : Operand) (t : TypeId)
    (ho : o.op = .call { callee := .builtin .append, args := #[s, x], argTypes := #[t, t] })
    (base : Nat) (e : TypeId) (i : TypeInfo) (z : Value) (size bytes : Nat) (ht : P.underlying t = some (.slice e)) (hi : P.info? e = some i) (hz : i.zero = some z)
    (hsize : i.size = size) (hby : i.bytes = bytes) (hzs : z.cells.size = size) (hsz : 0 < size) (hzn : ∀ v ∈ z.cells.toList, ∀ x, v ≠ .int .u32 x)
    (v : Value) (n : Nat) (xs : List Value) (hs : a.eval s = v) (hown : OwnN w base e size v n xs)
    (ad : Addr) (c : Nat) (news : List Value) (hx : a.eval x = .slice (some ad) 1 c) (hl : news.length = 1 * size) (hnews : ∀ j u, news[j]? = some u → w.cell? (ad.add j) = some u) (h1 : ∀ u ∈ news, u.oneCell' = true) (hnn : ∀ u ∈ news, ∀ x, u ≠ .int .u32 x)
    (h63 : n + 1 ≤ maxLen) (hbytes : (n + 1) * bytes ≤ 140737488355328) (hbase : base ≤ w.heap.size)
    (h : ∀ v' w', OwnN w' base e size v' (n + 1) (xs ++ news) → w.grownBy w' v.ownBlock → (∀ g, v'.ownBlock = some g → v.ownBlock = some g ∨ w.heap.size ≤ g) → wpList P ops Q rest (a.put o.dst v') w') : wpList P ops Q (o :: rest) a w :=
  wpList_plain hgd fun _ hK => by
    obtain ⟨v', w', hr, h2, h3, h4⟩ := run_append_ownN (P := P) w base t o.type e i z size bytes ht hi hz hsize hby hzs hsz hzn v n xs hown ad c news hl hnews h1 hnn h63 hbytes hbase
    unfold Oper.wp execOp
    simp only [ho, resolve, invoke, builtin, Sem.run_bind, Sem.run_pure, Result.andThen_ok, List.map_toArray, List.map_cons, List.map_nil, hs, hx, hr]
    exact hK _ _ (h v' w' h2 h3 h4)

/-- What holds of a world whatever becomes of block r. -/
def Safe (w : World) (r : Option Nat) (Φ : World → Prop) : Prop := ∀ w', w.grownBy w' r → Φ w'
section
variable {w w1 : World} {r : Option Nat} {Φ Ψ : World → Prop}
theorem Safe.out (h : Safe w r Φ) : Φ w := h w ⟨rfl, rfl, rfl, Nat.le_refl _, fun _ _ _ => rfl⟩
theorem Safe.imp (h : Safe w r Φ) (hi : ∀ w', Φ w' → Ψ w') : Safe w r Ψ := fun w' hw => hi w' (h w' hw)
theorem Safe.next {r' : Option Nat} (h : Safe w r Φ) (hg : w.grownBy w1 r) (hr : ∀ g, r' = some g → r = some g ∨ w.heap.size ≤ g) : Safe w1 r' Φ := fun w' hw =>
  h w' ⟨hw.os.trans hg.os, hw.tape.trans hg.tape, hw.output.trans hg.output, Nat.le_trans hg.size hw.size, fun k hk hne =>
    (hw.block k (Nat.lt_of_lt_of_le hk hg.size) (fun e => by
      rcases hr k e.symm with h | h
      · exact hne h.symm
      · omega)).trans (hg.block k hk hne)⟩
theorem Safe.below (h : Safe w r Φ) (hb : Below w.heap.size w w1) : Safe w1 r Φ := h.next ⟨hb.os, hb.tape, hb.output, hb.size, fun k hk _ => hb.block k hk⟩ fun _ e => .inl e
theorem Safe.sl {A : Option Addr} {n : Nat} {l : List Nat} (h : Sl w w.heap.size A n (u32s l)) (hr : ∀ g, r = some g → NoU w g) : Safe w r (fun w => Sl w w.heap.size A n (u32s l)) := fun w' hw => by
  refine ⟨h.1, fun h0 => ?_⟩
  obtain ⟨b, off, e, hlt, hc⟩ := h.2 h0
  have hne : some b ≠ r := fun e2 => by
    have hl : 0 < (u32s l).length := by rw [h.1]; exact h0
    have h1 := hc 0 _ (List.getElem?_eq_getElem hl)
    cases l with
    | nil => simp [u32s] at hl
    | cons y l => exact hr b e2.symm off y (by simpa [u32s] using h1)
  exact ⟨b, off, e, Nat.lt_of_lt_of_le hlt hw.size, fun j u hu => (World.cell?_of_block (a := ⟨b, off + j, none⟩) (hw.block b hlt hne)).trans (hc j u hu)⟩
theorem Safe.nat {A : Option Addr} {n c v : Nat} (h : NatA w A n c v) (hr : ∀ g, r = some g → NoU w g) : Safe w r (fun w => NatA w A n c v) := fun w' hw => by
  obtain ⟨l, h1, h2⟩ := h
  exact ⟨l, Safe.sl h1 hr w' hw, h2⟩
theorem Safe.rat {v : Value} {k : Nat} {q : Rat} (h : RatA w v k q) (hr : ∀ g, r = some g → NoU w g) : Safe w r (fun w => RatA w v k q) := fun w' hw => by
  obtain ⟨neg, A, n, c, B, m, d, x, y, h1, h2, h3, h4⟩ := h
  exact ⟨neg, A, n, c, B, m, d, x, y, h1, Safe.nat h2 hr w' hw, Safe.nat h3 hr w' hw, h4⟩
end

end Go.Proofs.YtjiccijfbpkliaaGreatDoor
