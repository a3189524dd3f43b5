/- Parts of the proof. -/
import Derived.Deep.RegionHeld3
import Derived.Maps.AppendAt
import Derived.Test.YtiibocdmlfedkaaGreatDoorH07
namespace Go.Proofs.YtiibocdmlfedkaaGreatDoor
section
open Go.RowKit
section
variable {w : World} {A : Option Addr} {n : Nat}
theorem edge_at {xs : List PEdge} (h : Recs 2 edgeG w A n xs) {j : Nat} (hj : j < n) : ∃ b off x B m d, A = some ⟨b, off, none⟩ ∧ b < w.heap.size ∧ xs[j]? = some x ∧ w.cell? ⟨b, off + j * 2, none⟩ = some (.string x.name) ∧ w.cell? ⟨b, off + j * 2 + 1, none⟩ = some (.slice B m d) ∧ Recs 2 spotG w B m x.line ∧ m ≤ d := by
 obtain ⟨b, off, x, vs, e, hlt, hp, hg, hv⟩ := h.at_ hj
 obtain ⟨B, m, d, rfl, h1, h2⟩ := hg
 exact ⟨b, off, x, B, m, d, e, hlt, hp, hv 0 _ rfl, hv 1 _ rfl, h1, h2⟩
theorem piece_cells {xs : List PPiece} (h : Recs 7 pieceG w A n xs) {j : Nat} (hj : j < n) : ∃ b off x E en ec N nn nc C cn cc D dn dc, A = some ⟨b, off, none⟩ ∧ b < w.heap.size ∧ xs[j]? = some x ∧
  w.cell? ⟨b, off + j * 7, none⟩ = some (.string x.name) ∧ w.cell? ⟨b, off + j * 7 + 1, none⟩ = some (.slice E en ec) ∧ w.cell? ⟨b, off + j * 7 + 2, none⟩ = some (.int .i64 x.grain) ∧ w.cell? ⟨b, off + j * 7 + 3, none⟩ = some (.slice N nn nc) ∧ w.cell? ⟨b, off + j * 7 + 4, none⟩ = some (.slice C cn cc) ∧ w.cell? ⟨b, off + j * 7 + 5, none⟩ = some (.slice D dn dc) ∧ w.cell? ⟨b, off + j * 7 + 6, none⟩ = some (.bool x.match_) ∧
  Recs 2 edgeG w E en x.edges ∧ en ≤ ec ∧ Recs 2 spotG w N nn x.notches ∧ nn ≤ nc ∧ Recs 2 spotG w C cn x.corners ∧ cn ≤ cc ∧ Sl w w.heap.size D dn (ints x.widths) ∧ dn ≤ dc := by
 obtain ⟨b, off, x, vs, e, hlt, hp, hg, hv⟩ := h.at_ hj
 obtain ⟨E, en, ec, N, nn, nc, C, cn, cc, D, dn, dc, rfl, h1, h2, h3, h4, h5, h6, h7, h8⟩ := hg
 exact ⟨b, off, x, E, en, ec, N, nn, nc, C, cn, cc, D, dn, dc, e, hlt, hp, hv 0 _ rfl, hv 1 _ rfl, hv 2 _ rfl, hv 3 _ rfl, hv 4 _ rfl, hv 5 _ rfl, hv 6 _ rfl, h1, h2, h3, h4, h5, h6, h7, h8⟩
theorem use_at {xs : List PUse} (h : Recs 3 useG w A n xs) {j : Nat} (hj : j < n) : ∃ b off x, A = some ⟨b, off, none⟩ ∧ b < w.heap.size ∧ xs[j]? = some x ∧ w.cell? ⟨b, off + j * 3, none⟩ = some (.int .i64 x.piece) ∧ w.cell? ⟨b, off + j * 3 + 1, none⟩ = some (.int .i64 x.count) ∧ w.cell? ⟨b, off + j * 3 + 2, none⟩ = some (.bool x.pair) := by
 obtain ⟨b, off, x, vs, e, hlt, hp, hg, hv⟩ := h.at_ hj
 subst hg
 exact ⟨b, off, x, e, hlt, hp, hv 0 _ rfl, hv 1 _ rfl, hv 2 _ rfl⟩
theorem seam_at {xs : List PSeam} (h : Recs 6 seamG w A n xs) {j : Nat} (hj : j < n) : ∃ b off x, A = some ⟨b, off, none⟩ ∧ b < w.heap.size ∧ xs[j]? = some x ∧ w.cell? ⟨b, off + j * 6, none⟩ = some (.int .i64 x.pa) ∧ w.cell? ⟨b, off + j * 6 + 1, none⟩ = some (.int .i64 x.ea) ∧ w.cell? ⟨b, off + j * 6 + 2, none⟩ = some (.int .i64 x.pb) ∧ w.cell? ⟨b, off + j * 6 + 3, none⟩ = some (.int .i64 x.eb) ∧ w.cell? ⟨b, off + j * 6 + 4, none⟩ = some (.bool x.rev) ∧ w.cell? ⟨b, off + j * 6 + 5, none⟩ = some (.int .i64 x.ease) := by
 obtain ⟨b, off, x, vs, e, hlt, hp, hg, hv⟩ := h.at_ hj
 subst hg
 exact ⟨b, off, x, e, hlt, hp, hv 0 _ rfl, hv 1 _ rfl, hv 2 _ rfl, hv 3 _ rfl, hv 4 _ rfl, hv 5 _ rfl⟩
theorem op_at {xs : List POp} (h : Recs 5 opG w A n xs) {j : Nat} (hj : j < n) : ∃ b off x B m d C l e, A = some ⟨b, off, none⟩ ∧ b < w.heap.size ∧ xs[j]? = some x ∧ w.cell? ⟨b, off + j * 5, none⟩ = some (.string x.name) ∧ w.cell? ⟨b, off + j * 5 + 1, none⟩ = some (.int .i64 x.machine) ∧ w.cell? ⟨b, off + j * 5 + 2, none⟩ = some (.int .i64 x.minutes) ∧ w.cell? ⟨b, off + j * 5 + 3, none⟩ = some (.slice B m d) ∧ w.cell? ⟨b, off + j * 5 + 4, none⟩ = some (.slice C l e) ∧
  Sl w w.heap.size B m (ints x.after) ∧ m ≤ d ∧ Sl w w.heap.size C l (ints x.uses) ∧ l ≤ e := by
 obtain ⟨b, off, x, vs, e, hlt, hp, hg, hv⟩ := h.at_ hj
 obtain ⟨B, m, d, C, l, e', rfl, h1, h2, h3, h4⟩ := hg
 exact ⟨b, off, x, B, m, d, C, l, e', e, hlt, hp, hv 0 _ rfl, hv 1 _ rfl, hv 2 _ rfl, hv 3 _ rfl, hv 4 _ rfl, h1, h2, h3, h4⟩
theorem bundle_at {xs : List PBundle} (h : Recs 6 bundleG w A n xs) {j : Nat} (hj : j < n) : ∃ b off x, A = some ⟨b, off, none⟩ ∧ b < w.heap.size ∧ xs[j]? = some x ∧ w.cell? ⟨b, off + j * 6, none⟩ = some (.int .i64 x.ticket) ∧ w.cell? ⟨b, off + j * 6 + 1, none⟩ = some (.int .i64 x.garment) ∧ w.cell? ⟨b, off + j * 6 + 2, none⟩ = some (.int .i64 x.size) ∧ w.cell? ⟨b, off + j * 6 + 3, none⟩ = some (.int .i64 x.lot) ∧ w.cell? ⟨b, off + j * 6 + 4, none⟩ = some (.int .i64 x.from_) ∧ w.cell? ⟨b, off + j * 6 + 5, none⟩ = some (.int .i64 x.to_) ∧ inI x.from_ ∧ inI x.to_ := by
 obtain ⟨b, off, x, vs, e, hlt, hp, hg, hv⟩ := h.at_ hj
 obtain ⟨rfl, r1, r2⟩ := hg
 exact ⟨b, off, x, e, hlt, hp, hv 0 _ rfl, hv 1 _ rfl, hv 2 _ rfl, hv 3 _ rfl, hv 4 _ rfl, hv 5 _ rfl, r1, r2⟩
theorem worker_at {xs : List PWorker} (h : Recs 2 workerG w A n xs) {j : Nat} (hj : j < n) : ∃ b off x B m d, A = some ⟨b, off, none⟩ ∧ b < w.heap.size ∧ xs[j]? = some x ∧ w.cell? ⟨b, off + j * 2, none⟩ = some (.string x.name) ∧ w.cell? ⟨b, off + j * 2 + 1, none⟩ = some (.slice B m d) ∧ Sl w w.heap.size B m (ints x.machines) ∧ m ≤ d := by
 obtain ⟨b, off, x, vs, e, hlt, hp, hg, hv⟩ := h.at_ hj
 obtain ⟨B, m, d, rfl, h1, h2⟩ := hg
 exact ⟨b, off, x, B, m, d, e, hlt, hp, hv 0 _ rfl, hv 1 _ rfl, h1, h2⟩
theorem scan_at {xs : List PScan} (h : Recs 4 scanG w A n xs) {j : Nat} (hj : j < n) : ∃ b off x, A = some ⟨b, off, none⟩ ∧ b < w.heap.size ∧ xs[j]? = some x ∧ w.cell? ⟨b, off + j * 4, none⟩ = some (.int .i64 x.ticket) ∧ w.cell? ⟨b, off + j * 4 + 1, none⟩ = some (.int .i64 x.op) ∧ w.cell? ⟨b, off + j * 4 + 2, none⟩ = some (.int .i64 x.worker) ∧ w.cell? ⟨b, off + j * 4 + 3, none⟩ = some (.int .i64 x.at_) := by
 obtain ⟨b, off, x, vs, e, hlt, hp, hg, hv⟩ := h.at_ hj
 subst hg
 exact ⟨b, off, x, e, hlt, hp, hv 0 _ rfl, hv 1 _ rfl, hv 2 _ rfl, hv 3 _ rfl⟩
end
theorem flat_at {α : Type} {s : Nat} {f : α → List Value} (hf : ∀ x, (f x).length = s) : ∀ {ts : List α} {j : Nat} {x : α}, ts[j]? = some x → ∀ (i : Nat) (u : Value), (f x)[i]? = some u → (ts.flatMap f)[j * s + i]? = some u
 | [], j, x, h, _, _, _ => by simp at h
 | t :: ts, 0, x, h, i, u, hu => by
  obtain rfl : t = x := by simpa using h
  rw [List.flatMap_cons, Nat.zero_mul, Nat.zero_add, List.getElem?_append_left]
  ·exact hu
  ·exact (List.getElem?_eq_some_iff.1 hu).1
 | t :: ts, j + 1, x, h, i, u, hu => by
  rw [List.flatMap_cons, List.getElem?_append_right (by rw [hf, Nat.succ_mul]; omega), hf, show (j + 1) * s + i - s = j * s + i by rw [Nat.succ_mul]; omega]
  exact flat_at hf (by simpa using h) i u hu
theorem flat_len {α : Type} {s : Nat} {f : α → List Value} (hf : ∀ x, (f x).length = s) : ∀ (ts : List α), (ts.flatMap f).length = ts.length * s
 | [] => by simp
 | t :: ts => by
  rw [List.flatMap_cons, List.length_append, hf, flat_len hf ts, List.length_cons, Nat.succ_mul]
  omega
section
variable {w w' : World} {α : Type}
theorem own_recs {s : Nat} {G : World → α → List Value → Prop} {base : Nat} {e : TypeId} {v : Value} {n : Nat} {β : Type} {ts : List β} {f : β → List Value} {g : β → α} (hf : ∀ x, (f x).length = s) (h : w.ownsRow base e s v n (ts.flatMap f)) (hn : ts.length = n) (hG : ∀ t ∈ ts, G w (g t) (f t)) :
  ∃ A c, v = .slice A n c ∧ Recs s G w A n (ts.map g) ∧ n ≤ c := by
 rcases h.2 with ⟨rfl, h0⟩ | ⟨b, cap, cur, rfl, hb, hc, h1, h2, h3, h4⟩
 ·subst h0
  obtain rfl : ts = [] := List.eq_nil_of_length_eq_zero hn
  exact ⟨none, 0, rfl, Recs.nil _ _ _ _, Nat.le_refl _⟩
 ·refine ⟨some ⟨b, 0, none⟩, cap, rfl, ⟨by rw [List.length_map]; exact hn, fun _ => ⟨b, 0, rfl, (Array.getElem?_eq_some_iff.1 hc).1, fun j x hx => ?_⟩⟩, h1⟩
  rw [List.getElem?_map, Option.map_eq_some_iff] at hx
  obtain ⟨t, ht, rfl⟩ := hx
  refine ⟨f t, hG t (List.mem_of_getElem? ht), fun i u hu => ?_⟩
  have := h.cells (g := b) rfl _ _ (flat_at hf ht i u hu)
  rw [Go.WideShapes.add_plain] at this
  rw [Nat.zero_add]
  simpa using this
def Stays (w : World) (r : Option Nat) (Φ : World → Prop) : Prop := ∀ w', w.grownBy w' r → Φ w'
variable {r : Option Nat} {Φ Ψ : World → Prop} {w1 : World}
theorem Stays.out (h : Stays w r Φ) : Φ w := h w ⟨rfl, rfl, rfl, Nat.le_refl _, fun _ _ _ => rfl⟩
theorem Stays.next {r' : Option Nat} (h : Stays w r Φ) (hg : w.grownBy w1 r) (hr : r' = r ∨ ∀ g, r' = some g → w.heap.size ≤ g) : Stays w1 r' Φ := fun w' hw =>
 h w' ⟨hw.os.trans hg.os, hw.tape.trans hg.tape, hw.output.trans hg.output, Nat.le_trans hg.size hw.size, fun k hk hne =>
  (hw.block k (Nat.lt_of_lt_of_le hk hg.size) (fun e => by
   rcases hr with h | h
   ·exact hne (by rw [← h]; exact e)
   ·have := h k e.symm
    omega)).trans (hg.block k hk hne)⟩
theorem Stays.below (h : Stays w r Φ) (hb : Below w.heap.size w w1) : Stays w1 r Φ := h.next ⟨hb.os, hb.tape, hb.output, hb.size, fun k hk _ => hb.block k hk⟩ (.inl rfl)
theorem Stays.recs {s : Nat} {G : World → α → List Value → Prop} {A : Option Addr} {n : Nat} {xs : List α} (hG : ∀ w w' x vs, G w x vs → G w' x vs) (h : Recs s G w A n xs) (hne : ∀ b o, A = some ⟨b, o, none⟩ → r ≠ some b) : Stays w r (fun w => Recs s G w A n xs) := fun w' hw =>
 ⟨h.1, fun h0 => by
  obtain ⟨b, off, e, hlt, hc⟩ := h.2 h0
  refine ⟨b, off, e, Nat.lt_of_lt_of_le hlt hw.size, fun j x hx => ?_⟩
  obtain ⟨vs, hg, hv⟩ := hc j x hx
  exact ⟨vs, hG _ _ _ _ hg, fun i u hu => (World.cell?_of_block (a := ⟨b, off + j * s + i, none⟩) (hw.block b hlt (fun e2 => hne b off e e2.symm))).trans (hv i u hu)⟩⟩
theorem spot_any : ∀ (w w' : World) (x : Pt) (vs : List Value), spotG w x vs → spotG w' x vs := fun _ _ _ _ h => h
theorem step_own {P : Program} {ops : Array Oper} {o : Oper} {a : Act} {K : Act → World → Prop} {Q : Exit → Act → World → Prop} {E : Prop} (hgd : o.guard = none) (s x : Operand) (t : TypeId)
  (ho : o.op = .call { callee := .builtin .append, args := #[s, x], argTypes := #[t, t] })
  (base : Nat) (e : TypeId) (z : Value) (size bytes : Nat) (ht : P.underlying t = some (.slice e)) (hinfo : (P.info? e).map (fun i => (i.zero, i.size, i.bytes)) = some (some z, size, bytes))
  (hzs : z.cells.size = size) (hsz : 0 < size)
  (v : Value) (n : Nat) (xs : List Value) (hs : a.eval s = v) (hown : w.ownsRow base e size v n xs)
  (ad : Addr) (m c : Nat) (news : List Value) (hx : a.eval x = .slice (some ad) m c) (hl : news.length = m * size) (hnews : ∀ j u, news[j]? = some u → w.cell? (ad.add j) = some u) (h1 : ∀ u ∈ news, u.oneCell' = true)
  (h63 : n + m ≤ maxLen) (hbytes : (n + m) * bytes ≤ 140737488355328) (hbase : base ≤ w.heap.size)
  (h : ∀ v' w', w'.ownsRow base e size v' (n + m) (xs ++ news) → w.grownBy w' v.ownBlock → (v'.ownBlock = v.ownBlock ∨ v'.ownBlock = some w.heap.size) → K (a.put o.dst v') w') :
  if Region.wanted o (yielded ops a.tmps) = true then Oper.wp P o a w K Q else E := by
 have hw : Region.wanted o (yielded ops a.tmps) = true := by simp [Region.wanted, hgd]
 rw [if_pos hw]
 obtain ⟨i0, hi, hz0, hz1, hz2⟩ := info_parts hinfo
 obtain ⟨v', w', hr, h2, h3, _, h4⟩ := run_append_own_at (P := P) (w := w) base t o.type e i0 z size bytes ht hi hz0 hz1 hz2 hzs hsz v n xs hown ad m c news hl hnews h1 h63 hbytes hbase
 unfold Oper.wp execOp
 simp only [ho, resolve, invoke, builtin, Sem.run_bind, Sem.run_pure, Result.andThen_ok, List.map_toArray, List.map_cons, List.map_nil, hs, hx, hr]
 exact h v' w' h2 h3 h4
theorem wpl_own {P : Program} {ops : Array Oper} {rest : List Oper} {o : Oper} {a : Act} {Q : Exit → Act → World → Prop} (hgd : o.guard = none) (s x : Operand) (t : TypeId)
  (ho : o.op = .call { callee := .builtin .append, args := #[s, x], argTypes := #[t, t] })
  (base : Nat) (e : TypeId) (z : Value) (size bytes : Nat) (ht : P.underlying t = some (.slice e)) (hinfo : (P.info? e).map (fun i => (i.zero, i.size, i.bytes)) = some (some z, size, bytes))
  (hzs : z.cells.size = size) (hsz : 0 < size)
  (v : Value) (n : Nat) (xs : List Value) (hs : a.eval s = v) (hown : w.ownsRow base e size v n xs)
  (ad : Addr) (m c : Nat) (news : List Value) (hx : a.eval x = .slice (some ad) m c) (hl : news.length = m * size) (hnews : ∀ j u, news[j]? = some u → w.cell? (ad.add j) = some u) (h1 : ∀ u ∈ news, u.oneCell' = true)
  (h63 : n + m ≤ maxLen) (hbytes : (n + m) * bytes ≤ 140737488355328) (hbase : base ≤ w.heap.size)
  (h : ∀ v' w', w'.ownsRow base e size v' (n + m) (xs ++ news) → w.grownBy w' v.ownBlock → (v'.ownBlock = v.ownBlock ∨ v'.ownBlock = some w.heap.size) → wpList P ops Q rest (a.put o.dst v') w') : wpList P ops Q (o :: rest) a w := by
 obtain ⟨i0, hi, hz0, hz1, hz2⟩ := info_parts hinfo
 exact wpList_append_own_at w hgd s x t ho base e i0 z size bytes ht hi hz0 hz1 hz2 hzs hsz v n xs hs hown ad m c news hx hl hnews h1 h63 hbytes hbase (fun v' w' g1 g2 _ g3 => h v' w' g1 g2 g3)
theorem own_below {base : Nat} {e : TypeId} {size n : Nat} {v : Value} {xs : List Value} (h : w.ownsRow base e size v n xs) (hb : Below w.heap.size w w') : w'.ownsRow base e size v n xs :=
 h.kept ⟨hb.os, hb.tape, hb.output, hb.size, fun k hk _ => hb.block k hk⟩ (row := none) (by cases v.ownBlock <;> simp)
theorem below_own {B : Nat} {w0 : World} (h : Below B w0 w) (hg : w.grownBy w' r) (hB : B ≤ w.heap.size) (hr : ∀ g, r = some g → B ≤ g) : Below B w0 w' :=
 ⟨hg.os.trans h.os, hg.tape.trans h.tape, hg.output.trans h.output, Nat.le_trans h.size hg.size, fun i hi => (hg.block i (by omega) (fun e => by have := hr i e.symm; omega)).trans (h.block i hi)⟩
end
end
end Go.Proofs.YtiibocdmlfedkaaGreatDoor
