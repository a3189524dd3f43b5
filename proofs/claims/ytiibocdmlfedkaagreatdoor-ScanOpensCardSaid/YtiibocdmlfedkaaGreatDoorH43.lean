/- Parts of the proof. -/
import Derived.Test.YtiibocdmlfedkaaGreatDoorH14
import Derived.Test.YtiibocdmlfedkaaGreatDoorH36
import Derived.Test.YtiibocdmlfedkaaGreatDoorH42
namespace Go.Proofs.YtiibocdmlfedkaaGreatDoor
section
open Go.RowKit
open Go.Lib hiding intOf
def sideG (nm : ByteArray) (a b : Pt) (w : World) (v : Value) : Prop := ∃ g, v = .agg #[.string nm, .slice (some ⟨g, 0, none⟩) 2 2] ∧ Blk w g 74 #[.int .i64 a.1, .int .i64 a.2, .int .i64 b.1, .int .i64 b.2]
def edgesG (w : World) (v : Value) : Prop := ∃ gE g1 g2 g3, v = .slice (some ⟨gE, 0, none⟩) 3 3 ∧ Blk w gE 76 #[.string ⟨#[97]⟩, .slice (some ⟨g1, 0, none⟩) 2 2, .string ⟨#[98]⟩, .slice (some ⟨g2, 0, none⟩) 2 2, .string ⟨#[99]⟩, .slice (some ⟨g3, 0, none⟩) 2 2] ∧ Blk w g1 74 #[.int .i64 0, .int .i64 0, .int .i64 40, .int .i64 0] ∧ Blk w g2 74 #[.int .i64 40, .int .i64 0, .int .i64 0, .int .i64 30] ∧ Blk w g3 74 #[.int .i64 0, .int .i64 30, .int .i64 0, .int .i64 0]
def cornG (w : World) (v : Value) : Prop := ∃ g, v = .slice (some ⟨g, 0, none⟩) 3 3 ∧ Blk w g 74 #[.int .i64 0, .int .i64 0, .int .i64 0, .int .i64 0, .int .i64 0, .int .i64 0]
def widG (w : World) (v : Value) : Prop := ∃ g, v = .slice (some ⟨g, 0, none⟩) 3 3 ∧ Blk w g 3 #[.int .i64 0, .int .i64 0, .int .i64 0]
def piecG (w : World) (vs : Array Value) : Prop := ∃ e c d, vs = #[.string ⟨#[102, 108, 97, 103]⟩, e, .int .i64 1, .slice none 0 0, c, d, .bool false] ∧ edgesG w e ∧ cornG w c ∧ widG w d
def placeG (W0 w : World) (v : Value) : Prop := ∃ g, v = .pointer (some ⟨g, 0, none⟩) ∧ W0.heap.size ≤ g ∧ Blk w g 67 #[.string ⟨#[]⟩, .slice none 0 0, .int .i64 0, .slice none 0 0, .slice none 0 0, .slice none 0 0, .bool false]
def doneG (w : World) (v : Value) : Prop := ∃ g vs, v = .pointer (some ⟨g, 0, none⟩) ∧ Blk w g 67 vs ∧ piecG w vs
section
variable {w w' W0 : World} {v : Value}
theorem sideG.on {nm : ByteArray} {a b : Pt} (h : sideG nm a b w v) (hb : Below w.heap.size w w') : sideG nm a b w' v := by
 obtain ⟨g, e, h1⟩ := h
 exact ⟨g, e, h1.below hb⟩
theorem edgesG.on (h : edgesG w v) (hb : Below w.heap.size w w') : edgesG w' v := by
 obtain ⟨gE, g1, g2, g3, e, h1, h2, h3, h4⟩ := h
 exact ⟨gE, g1, g2, g3, e, h1.below hb, h2.below hb, h3.below hb, h4.below hb⟩
theorem cornG.on (h : cornG w v) (hb : Below w.heap.size w w') : cornG w' v := by
 obtain ⟨g, e, h1⟩ := h
 exact ⟨g, e, h1.below hb⟩
theorem widG.on (h : widG w v) (hb : Below w.heap.size w w') : widG w' v := by
 obtain ⟨g, e, h1⟩ := h
 exact ⟨g, e, h1.below hb⟩
theorem piecG.on {vs : Array Value} (h : piecG w vs) (hb : Below w.heap.size w w') : piecG w' vs := by
 obtain ⟨e, c, d, rfl, h1, h2, h3⟩ := h
 exact ⟨e, c, d, rfl, h1.on hb, h2.on hb, h3.on hb⟩
theorem placeG.on (h : placeG W0 w v) (hb : Below w.heap.size w w') : placeG W0 w' v := by
 obtain ⟨g, e, h0, h1⟩ := h
 exact ⟨g, e, h0, h1.below hb⟩
theorem doneG.on (h : doneG w v) (hb : Below w.heap.size w w') : doneG w' v := by
 obtain ⟨g, vs, e, h1, h2⟩ := h
 exact ⟨g, vs, e, h1.below hb, h2.on hb⟩
theorem nine_box {g : Nat} {t : TypeId} {a0 a1 a2 a3 a4 a5 a6 a7 a8 : Value} (h : Blk w g t #[a0, a1, a2, a3, a4, a5, a6, a7, a8]) : w.cell? ⟨g, 0, none⟩ = some a0 ∧ w.cell? ⟨g, 1, none⟩ = some a1 ∧ w.cell? ⟨g, 2, none⟩ = some a2 ∧ w.cell? ⟨g, 3, none⟩ = some a3 ∧ w.cell? ⟨g, 4, none⟩ = some a4 ∧ w.cell? ⟨g, 5, none⟩ = some a5 ∧ w.cell? ⟨g, 6, none⟩ = some a6 ∧ w.cell? ⟨g, 7, none⟩ = some a7 ∧ w.cell? ⟨g, 8, none⟩ = some a8 := ⟨h.c rfl, h.c rfl, h.c rfl, h.c rfl, h.c rfl, h.c rfl, h.c rfl, h.c rfl, h.c rfl⟩
theorem Blk.differ {g g' : Nat} {t t' : TypeId} {cs cs' : Array Value} (h : Blk w g t cs) (h' : Blk w g' t' cs') (hne : t ≠ t') : g ≠ g' := by
 rintro rfl
 unfold Blk at h h'
 rw [h] at h'
 injection h' with h'
 injection h' with _ e _
 exact hne e
def szG (w : World) (v : Value) : Prop := ∃ g, v = .slice (some ⟨g, 0, none⟩) 1 1 ∧ Blk w g 9 #[.string ⟨#[77]⟩]
def muG (w : World) (v : Value) : Prop := ∃ g, v = .slice (some ⟨g, 0, none⟩) 1 1 ∧ Blk w g 3 #[.int .i64 0]
def pcG (w : World) (v : Value) : Prop := ∃ g vs, v = .slice (some ⟨g, 0, none⟩) 1 1 ∧ Blk w g 67 vs ∧ piecG w vs
def usG (w : World) (v : Value) : Prop := ∃ g, v = .slice (some ⟨g, 0, none⟩) 1 1 ∧ Blk w g 79 #[.int .i64 0, .int .i64 1, .bool false]
def opsG (w : World) (v : Value) : Prop := ∃ g a b, v = .slice (some ⟨g, 0, none⟩) 2 2 ∧ Blk w g 70 #[.string ⟨#[104, 101, 109]⟩, .int .i64 0, .int .i64 5, .slice none 0 0, .slice (some ⟨a, 0, none⟩) 1 1, .string ⟨#[108, 97, 98, 101, 108]⟩, .int .i64 1, .int .i64 3, .slice (some ⟨b, 0, none⟩) 1 1, .slice none 0 0] ∧ Blk w a 3 #[.int .i64 0] ∧ Blk w b 3 #[.int .i64 0]
def bnG (w : World) (v : Value) : Prop := ∃ g, v = .slice (some ⟨g, 0, none⟩) 2 2 ∧ Blk w g 81 #[.int .i64 1, .int .i64 0, .int .i64 0, .int .i64 0, .int .i64 0, .int .i64 2, .int .i64 2, .int .i64 0, .int .i64 0, .int .i64 0, .int .i64 0, .int .i64 1]
def wkG (w : World) (v : Value) : Prop := ∃ g a b, v = .slice (some ⟨g, 0, none⟩) 2 2 ∧ Blk w g 72 #[.string ⟨#[97, 110, 110]⟩, .slice (some ⟨a, 0, none⟩) 2 2, .string ⟨#[98, 101, 97]⟩, .slice (some ⟨b, 0, none⟩) 1 1] ∧ Blk w a 3 #[.int .i64 0, .int .i64 1] ∧ Blk w b 3 #[.int .i64 1]
def Stay (w w' : World) : Prop := ∀ (k : Nat) (t : TypeId) (cs : Array Value), Blk w k t cs → t ≠ 29 → t ≠ 33 → Blk w' k t cs
theorem szG.stay (h : szG w v) (s : Stay w w') : szG w' v := by
 obtain ⟨g, e, h1⟩ := h
 exact ⟨g, e, s _ _ _ h1 (by decide) (by decide)⟩
theorem muG.stay (h : muG w v) (s : Stay w w') : muG w' v := by
 obtain ⟨g, e, h1⟩ := h
 exact ⟨g, e, s _ _ _ h1 (by decide) (by decide)⟩
theorem usG.stay (h : usG w v) (s : Stay w w') : usG w' v := by
 obtain ⟨g, e, h1⟩ := h
 exact ⟨g, e, s _ _ _ h1 (by decide) (by decide)⟩
theorem bnG.stay (h : bnG w v) (s : Stay w w') : bnG w' v := by
 obtain ⟨g, e, h1⟩ := h
 exact ⟨g, e, s _ _ _ h1 (by decide) (by decide)⟩
theorem opsG.stay (h : opsG w v) (s : Stay w w') : opsG w' v := by
 obtain ⟨g, a, b, e, h1, h2, h3⟩ := h
 exact ⟨g, a, b, e, s _ _ _ h1 (by decide) (by decide), s _ _ _ h2 (by decide) (by decide), s _ _ _ h3 (by decide) (by decide)⟩
theorem wkG.stay (h : wkG w v) (s : Stay w w') : wkG w' v := by
 obtain ⟨g, a, b, e, h1, h2, h3⟩ := h
 exact ⟨g, a, b, e, s _ _ _ h1 (by decide) (by decide), s _ _ _ h2 (by decide) (by decide), s _ _ _ h3 (by decide) (by decide)⟩
theorem pcG.stay (h : pcG w v) (s : Stay w w') : pcG w' v := by
 obtain ⟨g, vs, e, h0, e', c, d, rfl, ⟨gE, g1, g2, g3, rfl, h1, h2, h3, h4⟩, ⟨gC, rfl, h5⟩, ⟨gW, rfl, h6⟩⟩ := h
 exact ⟨g, _, e, s _ _ _ h0 (by decide) (by decide), _, _, _, rfl, ⟨gE, g1, g2, g3, rfl, s _ _ _ h1 (by decide) (by decide), s _ _ _ h2 (by decide) (by decide), s _ _ _ h3 (by decide) (by decide), s _ _ _ h4 (by decide) (by decide)⟩, ⟨gC, rfl, s _ _ _ h5 (by decide) (by decide)⟩, ⟨gW, rfl, s _ _ _ h6 (by decide) (by decide)⟩⟩
theorem Stay.of_below (hb : Below w.heap.size w w') : Stay w w' := fun _ _ _ h _ _ => h.below hb
theorem Stay.trans {w1 : World} (h : Stay w w') (h' : Stay w' w1) : Stay w w1 := fun _ _ _ hb h1 h2 => h' _ _ _ (h _ _ _ hb h1 h2) h1 h2
theorem Stay.set_ {g : Nat} {t : TypeId} {cs : Array Value} (hg : Blk w g t cs) (ht : t = 29 ∨ t = 33) (i : Nat) (u : Value) : Stay w (w.setCell ⟨g, i, none⟩ u) := fun _ _ _ h h1 h2 => h.far (p := ⟨g, i, none⟩) (h.differ hg (by rcases ht with rfl | rfl <;> assumption)) u
theorem put9_blk {g : Nat} {t : TypeId} {b0 b1 b2 b3 b4 b5 b6 b7 b8 : Value} (h : Blk w g t #[b0, b1, b2, b3, b4, b5, b6, b7, b8]) (a0 a1 a2 a3 a4 a5 a6 a7 a8 : Value) : Blk (((((((((w.setCell ⟨g, 0, none⟩ a0).setCell ⟨g, 1, none⟩ a1).setCell ⟨g, 2, none⟩ a2).setCell ⟨g, 3, none⟩ a3).setCell ⟨g, 4, none⟩ a4).setCell ⟨g, 5, none⟩ a5).setCell ⟨g, 6, none⟩ a6).setCell ⟨g, 7, none⟩ a7).setCell ⟨g, 8, none⟩ a8) g t #[a0, a1, a2, a3, a4, a5, a6, a7, a8] := by
 have h1 : Blk _ g t #[a0, b1, b2, b3, b4, b5, b6, b7, b8] := h.set_ 0 a0
 have h2 : Blk _ g t #[a0, a1, b2, b3, b4, b5, b6, b7, b8] := h1.set_ 1 a1
 have h3 : Blk _ g t #[a0, a1, a2, b3, b4, b5, b6, b7, b8] := h2.set_ 2 a2
 have h4 : Blk _ g t #[a0, a1, a2, a3, b4, b5, b6, b7, b8] := h3.set_ 3 a3
 have h5 : Blk _ g t #[a0, a1, a2, a3, a4, b5, b6, b7, b8] := h4.set_ 4 a4
 have h6 : Blk _ g t #[a0, a1, a2, a3, a4, a5, b6, b7, b8] := h5.set_ 5 a5
 have h7 : Blk _ g t #[a0, a1, a2, a3, a4, a5, a6, b7, b8] := h6.set_ 6 a6
 have h8 : Blk _ g t #[a0, a1, a2, a3, a4, a5, a6, a7, b8] := h7.set_ 7 a7
 exact h8.set_ 8 a8
theorem put9_stay {g : Nat} {cs : Array Value} (hg : Blk w g 33 cs) (a0 a1 a2 a3 a4 a5 a6 a7 a8 : Value) : Stay w (((((((((w.setCell ⟨g, 0, none⟩ a0).setCell ⟨g, 1, none⟩ a1).setCell ⟨g, 2, none⟩ a2).setCell ⟨g, 3, none⟩ a3).setCell ⟨g, 4, none⟩ a4).setCell ⟨g, 5, none⟩ a5).setCell ⟨g, 6, none⟩ a6).setCell ⟨g, 7, none⟩ a7).setCell ⟨g, 8, none⟩ a8) := fun _ _ _ h _ h2 => by
 have hne := h.differ hg h2
 exact (((((((((h.far (p := ⟨g, 0, none⟩) hne a0).far (p := ⟨g, 1, none⟩) hne a1).far (p := ⟨g, 2, none⟩) hne a2).far (p := ⟨g, 3, none⟩) hne a3).far (p := ⟨g, 4, none⟩) hne a4).far (p := ⟨g, 5, none⟩) hne a5).far (p := ⟨g, 6, none⟩) hne a6).far (p := ⟨g, 7, none⟩) hne a7).far (p := ⟨g, 8, none⟩) hne a8)
theorem put9_below {B g : Nat} (h : Below B W0 w) (hg : B ≤ g) (a0 a1 a2 a3 a4 a5 a6 a7 a8 : Value) : Below B W0 (((((((((w.setCell ⟨g, 0, none⟩ a0).setCell ⟨g, 1, none⟩ a1).setCell ⟨g, 2, none⟩ a2).setCell ⟨g, 3, none⟩ a3).setCell ⟨g, 4, none⟩ a4).setCell ⟨g, 5, none⟩ a5).setCell ⟨g, 6, none⟩ a6).setCell ⟨g, 7, none⟩ a7).setCell ⟨g, 8, none⟩ a8) := (((((((((h.setCell (p := ⟨g, 0, none⟩) hg a0).setCell (p := ⟨g, 1, none⟩) hg a1).setCell (p := ⟨g, 2, none⟩) hg a2).setCell (p := ⟨g, 3, none⟩) hg a3).setCell (p := ⟨g, 4, none⟩) hg a4).setCell (p := ⟨g, 5, none⟩) hg a5).setCell (p := ⟨g, 6, none⟩) hg a6).setCell (p := ⟨g, 7, none⟩) hg a7).setCell (p := ⟨g, 8, none⟩) hg a8)
def put7 (w : World) (g : Nat) (a0 a1 a2 a3 a4 a5 a6 : Value) : World := ((((((w.setCell ⟨g, 0, none⟩ a0).setCell ⟨g, 1, none⟩ a1).setCell ⟨g, 2, none⟩ a2).setCell ⟨g, 3, none⟩ a3).setCell ⟨g, 4, none⟩ a4).setCell ⟨g, 5, none⟩ a5).setCell ⟨g, 6, none⟩ a6
theorem put7_blk {g : Nat} {t : TypeId} {b0 b1 b2 b3 b4 b5 b6 : Value} (h : Blk w g t #[b0, b1, b2, b3, b4, b5, b6]) (a0 a1 a2 a3 a4 a5 a6 : Value) : Blk (put7 w g a0 a1 a2 a3 a4 a5 a6) g t #[a0, a1, a2, a3, a4, a5, a6] := by
 have h1 : Blk _ g t #[a0, b1, b2, b3, b4, b5, b6] := h.set_ 0 a0
 have h2 : Blk _ g t #[a0, a1, b2, b3, b4, b5, b6] := h1.set_ 1 a1
 have h3 : Blk _ g t #[a0, a1, a2, b3, b4, b5, b6] := h2.set_ 2 a2
 have h4 : Blk _ g t #[a0, a1, a2, a3, b4, b5, b6] := h3.set_ 3 a3
 have h5 : Blk _ g t #[a0, a1, a2, a3, a4, b5, b6] := h4.set_ 4 a4
 have h6 : Blk _ g t #[a0, a1, a2, a3, a4, a5, b6] := h5.set_ 5 a5
 exact h6.set_ 6 a6
theorem put7_far {g k : Nat} {t : TypeId} {cs : Array Value} (h : Blk w k t cs) (hne : k ≠ g) (a0 a1 a2 a3 a4 a5 a6 : Value) : Blk (put7 w g a0 a1 a2 a3 a4 a5 a6) k t cs :=
 ((((((h.far (p := ⟨g, 0, none⟩) hne a0).far (p := ⟨g, 1, none⟩) hne a1).far (p := ⟨g, 2, none⟩) hne a2).far (p := ⟨g, 3, none⟩) hne a3).far (p := ⟨g, 4, none⟩) hne a4).far (p := ⟨g, 5, none⟩) hne a5).far (p := ⟨g, 6, none⟩) hne a6
theorem put7_below {B g : Nat} (h : Below B W0 w) (hg : B ≤ g) (a0 a1 a2 a3 a4 a5 a6 : Value) : Below B W0 (put7 w g a0 a1 a2 a3 a4 a5 a6) :=
 ((((((h.setCell (p := ⟨g, 0, none⟩) hg a0).setCell (p := ⟨g, 1, none⟩) hg a1).setCell (p := ⟨g, 2, none⟩) hg a2).setCell (p := ⟨g, 3, none⟩) hg a3).setCell (p := ⟨g, 4, none⟩) hg a4).setCell (p := ⟨g, 5, none⟩) hg a5).setCell (p := ⟨g, 6, none⟩) hg a6
theorem sideG.far {nm : ByteArray} {a b : Pt} (h : sideG nm a b w v) (hf : ∀ (k : Nat) (t : TypeId) (cs : Array Value), Blk w k t cs → t ≠ 67 → Blk w' k t cs) : sideG nm a b w' v := by
 obtain ⟨g, e, h1⟩ := h
 exact ⟨g, e, hf _ _ _ h1 (by decide)⟩
theorem edgesG.far (h : edgesG w v) (hf : ∀ (k : Nat) (t : TypeId) (cs : Array Value), Blk w k t cs → t ≠ 67 → Blk w' k t cs) : edgesG w' v := by
 obtain ⟨gE, g1, g2, g3, e, h1, h2, h3, h4⟩ := h
 exact ⟨gE, g1, g2, g3, e, hf _ _ _ h1 (by decide), hf _ _ _ h2 (by decide), hf _ _ _ h3 (by decide), hf _ _ _ h4 (by decide)⟩
theorem cornG.far (h : cornG w v) (hf : ∀ (k : Nat) (t : TypeId) (cs : Array Value), Blk w k t cs → t ≠ 67 → Blk w' k t cs) : cornG w' v := by
 obtain ⟨g, e, h1⟩ := h
 exact ⟨g, e, hf _ _ _ h1 (by decide)⟩
theorem widG.far (h : widG w v) (hf : ∀ (k : Nat) (t : TypeId) (cs : Array Value), Blk w k t cs → t ≠ 67 → Blk w' k t cs) : widG w' v := by
 obtain ⟨g, e, h1⟩ := h
 exact ⟨g, e, hf _ _ _ h1 (by decide)⟩
theorem piece_put {vs : Array Value} (h : piecG w vs) (hf : ∀ (k : Nat) (t : TypeId) (cs : Array Value), Blk w k t cs → t ≠ 67 → Blk w' k t cs) : piecG w' vs := by
 obtain ⟨e, c, d, rfl, ⟨gE, g1, g2, g3, rfl, h1, h2, h3, h4⟩, ⟨gc, rfl, h5⟩, ⟨gd, rfl, h6⟩⟩ := h
 exact ⟨_, _, _, rfl, ⟨gE, g1, g2, g3, rfl, hf _ _ _ h1 (by decide), hf _ _ _ h2 (by decide), hf _ _ _ h3 (by decide), hf _ _ _ h4 (by decide)⟩, ⟨gc, rfl, hf _ _ _ h5 (by decide)⟩, ⟨gd, rfl, hf _ _ _ h6 (by decide)⟩⟩
end
end
section
open Go.RowKit
theorem Recs.lit {α : Type} {s : Nat} {G : World → α → List Value → Prop} {w : World} {g : Nat} {t : TypeId} {cs : Array Value} {xs : List α} {n : Nat} (h : Blk w g t cs) (hn : xs.length = n)
  (hG : ∀ (j : Nat) (x : α), xs[j]? = some x → ∃ vs, G w x vs ∧ ∀ (i : Nat) (u : Value), vs[i]? = some u → cs[j * s + i]? = some u) : Recs s G w (some ⟨g, 0, none⟩) n xs := by
 refine ⟨hn, fun _ => ⟨g, 0, rfl, h.lt, fun j x hx => ?_⟩⟩
 obtain ⟨vs, h1, h2⟩ := hG j x hx
 refine ⟨vs, h1, fun i u hu => ?_⟩
 rw [Nat.zero_add]
 exact h.c (h2 i u hu)
theorem Sl.blk {w : World} {g : Nat} {t : TypeId} {cs : Array Value} {xs : List Value} {n : Nat} (h : Blk w g t cs) (hx : cs.toList = xs) (hn : xs.length = n) : Sl w w.heap.size (some ⟨g, 0, none⟩) n xs := by
 refine ⟨hn, fun _ => ⟨g, 0, rfl, h.lt, fun j u hu => ?_⟩⟩
 rw [Nat.zero_add]
 refine h.c ?_
 rw [← hx, Array.getElem?_toList] at hu
 exact hu
section
variable {w : World} {v : Value}
theorem edgesG.recs (h : edgesG w v) : ∃ g, v = .slice (some ⟨g, 0, none⟩) 3 3 ∧ Recs 2 edgeG w (some ⟨g, 0, none⟩) 3 exEdges := by
 obtain ⟨gE, g1, g2, g3, rfl, h0, h1, h2, h3⟩ := h
 refine ⟨gE, rfl, Recs.lit h0 rfl fun j x hx => ?_⟩
 match j, hx with
 | 0, hx =>
  obtain rfl := Option.some.inj hx
  refine ⟨_, ⟨_, 2, 2, rfl, side_recs (a := (0, 0)) (b := (40, 0)) h1, Nat.le_refl _⟩, fun i u hu => ?_⟩
  match i, hu with
  | 0, hu => exact hu
  | 1, hu => exact hu
  | i + 2, hu => simp at hu
 | 1, hx =>
  obtain rfl := Option.some.inj hx
  refine ⟨_, ⟨_, 2, 2, rfl, side_recs (a := (40, 0)) (b := (0, 30)) h2, Nat.le_refl _⟩, fun i u hu => ?_⟩
  match i, hu with
  | 0, hu => exact hu
  | 1, hu => exact hu
  | i + 2, hu => simp at hu
 | 2, hx =>
  obtain rfl := Option.some.inj hx
  refine ⟨_, ⟨_, 2, 2, rfl, side_recs (a := (0, 30)) (b := (0, 0)) h3, Nat.le_refl _⟩, fun i u hu => ?_⟩
  match i, hu with
  | 0, hu => exact hu
  | 1, hu => exact hu
  | i + 2, hu => simp at hu
 | j + 3, hx => simp [exEdges] at hx
theorem cornG.recs (h : cornG w v) : ∃ g, v = .slice (some ⟨g, 0, none⟩) 3 3 ∧ Recs 2 spotG w (some ⟨g, 0, none⟩) 3 [((0 : Int), (0 : Int)), (0, 0), (0, 0)] := by
 obtain ⟨g, rfl, h0⟩ := h
 refine ⟨g, rfl, Recs.lit h0 rfl fun j x hx => ?_⟩
 match j, hx with
 | 0, hx =>
  obtain rfl := Option.some.inj hx
  refine ⟨_, rfl, fun i u hu => ?_⟩
  match i, hu with
  | 0, hu => exact hu
  | 1, hu => exact hu
  | i + 2, hu => simp at hu
 | 1, hx =>
  obtain rfl := Option.some.inj hx
  refine ⟨_, rfl, fun i u hu => ?_⟩
  match i, hu with
  | 0, hu => exact hu
  | 1, hu => exact hu
  | i + 2, hu => simp at hu
 | 2, hx =>
  obtain rfl := Option.some.inj hx
  refine ⟨_, rfl, fun i u hu => ?_⟩
  match i, hu with
  | 0, hu => exact hu
  | 1, hu => exact hu
  | i + 2, hu => simp at hu
 | j + 3, hx => simp at hx
theorem pcG.recs (h : pcG w v) : ∃ g, v = .slice (some ⟨g, 0, none⟩) 1 1 ∧ Recs 7 pieceG w (some ⟨g, 0, none⟩) 1 [exPiece] := by
 obtain ⟨g, vs, rfl, h0, e, c, d, rfl, he, hc, gW, rfl, hd⟩ := h
 obtain ⟨gE, rfl, h1⟩ := he.recs
 obtain ⟨gC, rfl, h2⟩ := hc.recs
 refine ⟨g, rfl, Recs.lit h0 rfl fun j x hx => ?_⟩
 match j, hx with
 | 0, hx =>
  obtain rfl := Option.some.inj hx
  refine ⟨_, ⟨_, 3, 3, none, 0, 0, _, 3, 3, _, 3, 3, rfl, h1, Nat.le_refl _, Recs.nil _ _ _ _, Nat.le_refl _, h2, Nat.le_refl _, Sl.blk hd rfl rfl, Nat.le_refl _⟩, fun i u hu => ?_⟩
  match i, hu with
  | 0, hu => exact hu
  | 1, hu => exact hu
  | 2, hu => exact hu
  | 3, hu => exact hu
  | 4, hu => exact hu
  | 5, hu => exact hu
  | 6, hu => exact hu
  | i + 7, hu => simp at hu
 | j + 1, hx => simp at hx
theorem usG.recs (h : usG w v) : ∃ g, v = .slice (some ⟨g, 0, none⟩) 1 1 ∧ Recs 3 useG w (some ⟨g, 0, none⟩) 1 exStyle.uses := by
 obtain ⟨g, rfl, h0⟩ := h
 refine ⟨g, rfl, Recs.lit h0 rfl fun j x hx => ?_⟩
 match j, hx with
 | 0, hx =>
  obtain rfl := Option.some.inj hx
  refine ⟨_, rfl, fun i u hu => ?_⟩
  match i, hu with
  | 0, hu => exact hu
  | 1, hu => exact hu
  | 2, hu => exact hu
  | i + 3, hu => simp at hu
 | j + 1, hx => simp [exStyle] at hx
theorem opsG.recs (h : opsG w v) : ∃ g, v = .slice (some ⟨g, 0, none⟩) 2 2 ∧ Recs 5 opG w (some ⟨g, 0, none⟩) 2 exOps := by
 obtain ⟨g, a, b, rfl, h0, h1, h2⟩ := h
 refine ⟨g, rfl, Recs.lit h0 rfl fun j x hx => ?_⟩
 match j, hx with
 | 0, hx =>
  obtain rfl := Option.some.inj hx
  refine ⟨_, ⟨none, 0, 0, _, 1, 1, rfl, Sl.none_, Nat.le_refl _, Sl.blk h1 rfl rfl, Nat.le_refl _⟩, fun i u hu => ?_⟩
  match i, hu with
  | 0, hu => exact hu
  | 1, hu => exact hu
  | 2, hu => exact hu
  | 3, hu => exact hu
  | 4, hu => exact hu
  | i + 5, hu => simp at hu
 | 1, hx =>
  obtain rfl := Option.some.inj hx
  refine ⟨_, ⟨_, 1, 1, none, 0, 0, rfl, Sl.blk h2 rfl rfl, Nat.le_refl _, Sl.none_, Nat.le_refl _⟩, fun i u hu => ?_⟩
  match i, hu with
  | 0, hu => exact hu
  | 1, hu => exact hu
  | 2, hu => exact hu
  | 3, hu => exact hu
  | 4, hu => exact hu
  | i + 5, hu => simp at hu
 | j + 2, hx => simp [exOps] at hx
theorem bnG.recs (h : bnG w v) : ∃ g, v = .slice (some ⟨g, 0, none⟩) 2 2 ∧ Recs 6 bundleG w (some ⟨g, 0, none⟩) 2 exBundles := by
 obtain ⟨g, rfl, h0⟩ := h
 refine ⟨g, rfl, Recs.lit h0 rfl fun j x hx => ?_⟩
 match j, hx with
 | 0, hx =>
  obtain rfl := Option.some.inj hx
  refine ⟨_, ⟨rfl, by unfold inI; decide, by unfold inI; decide⟩, fun i u hu => ?_⟩
  match i, hu with
  | 0, hu => exact hu
  | 1, hu => exact hu
  | 2, hu => exact hu
  | 3, hu => exact hu
  | 4, hu => exact hu
  | 5, hu => exact hu
  | i + 6, hu => simp at hu
 | 1, hx =>
  obtain rfl := Option.some.inj hx
  refine ⟨_, ⟨rfl, by unfold inI; decide, by unfold inI; decide⟩, fun i u hu => ?_⟩
  match i, hu with
  | 0, hu => exact hu
  | 1, hu => exact hu
  | 2, hu => exact hu
  | 3, hu => exact hu
  | 4, hu => exact hu
  | 5, hu => exact hu
  | i + 6, hu => simp at hu
 | j + 2, hx => simp [exBundles] at hx
theorem wkG.recs (h : wkG w v) : ∃ g, v = .slice (some ⟨g, 0, none⟩) 2 2 ∧ Recs 2 workerG w (some ⟨g, 0, none⟩) 2 exWorkers := by
 obtain ⟨g, a, b, rfl, h0, h1, h2⟩ := h
 refine ⟨g, rfl, Recs.lit h0 rfl fun j x hx => ?_⟩
 match j, hx with
 | 0, hx =>
  obtain rfl := Option.some.inj hx
  refine ⟨_, ⟨_, 2, 2, rfl, Sl.blk h1 rfl rfl, Nat.le_refl _⟩, fun i u hu => ?_⟩
  match i, hu with
  | 0, hu => exact hu
  | 1, hu => exact hu
  | i + 2, hu => simp at hu
 | 1, hx =>
  obtain rfl := Option.some.inj hx
  refine ⟨_, ⟨_, 1, 1, rfl, Sl.blk h2 rfl rfl, Nat.le_refl _⟩, fun i u hu => ?_⟩
  match i, hu with
  | 0, hu => exact hu
  | 1, hu => exact hu
  | i + 2, hu => simp at hu
 | j + 2, hx => simp [exWorkers] at hx
end
theorem ex_floor {w : World} {vz vm vp vu vo vb vw : Value} (h1 : szG w vz) (h2 : muG w vm) (h3 : pcG w vp) (h4 : usG w vu) (h5 : opsG w vo) (h6 : bnG w vb) (h7 : wkG w vw) :
  ∃ F : FH, vz = .slice F.Z F.z F.zc ∧ vm = .slice F.M F.m F.mc ∧ vp = .slice F.P F.p F.pc ∧ vu = .slice F.U F.u F.uc ∧ Value.slice none 0 0 = .slice F.E F.e F.ec ∧ vo = .slice F.O F.o F.oc ∧ vb = .slice F.L F.n F.c ∧ vw = .slice F.V F.k F.kc ∧ FloorA w exStyle exBundles exWorkers F := by
 obtain ⟨z, rfl, hz⟩ := h1
 obtain ⟨m, rfl, hm⟩ := h2
 obtain ⟨p, rfl, hp⟩ := h3.recs
 obtain ⟨u, rfl, hu⟩ := h4.recs
 obtain ⟨o, rfl, ho⟩ := h5.recs
 obtain ⟨b, rfl, hb⟩ := h6.recs
 obtain ⟨k, rfl, hk⟩ := h7.recs
 refine ⟨⟨some ⟨z, 0, none⟩, some ⟨m, 0, none⟩, some ⟨p, 0, none⟩, some ⟨u, 0, none⟩, none, some ⟨o, 0, none⟩, some ⟨b, 0, none⟩, some ⟨k, 0, none⟩, 1, 1, 1, 1, 1, 1, 1, 1, 0, 0, 2, 2, 2, 2, 2, 2⟩, rfl, rfl, rfl, rfl, rfl, rfl, rfl, rfl, ?_⟩
 exact ⟨⟨Sl.blk hz rfl rfl, Sl.blk hm rfl rfl, hp, hu, Recs.nil _ _ _ _, ho, Nat.le_refl _, Nat.le_refl _, Nat.le_refl _, Nat.le_refl _, Nat.le_refl _, Nat.le_refl _⟩, hb, Nat.le_refl _, hk, Nat.le_refl _⟩
end
section
open Go.RowKit
open Go.Lib hiding intOf
theorem make_spots (w : World) : (Instr.makeSlice 65 (.int .i64 3) (.int .i64 3)).run Tryz.prog w = .ok (.slice (some ⟨w.heap.size, 0, none⟩) 3 3) (w.alloc (.cells #[.int .i64 0, .int .i64 0, .int .i64 0, .int .i64 0, .int .i64 0, .int .i64 0] 74)) := by kernel_rfl
theorem make_ints (w : World) : (Instr.makeSlice 23 (.int .i64 3) (.int .i64 3)).run Tryz.prog w = .ok (.slice (some ⟨w.heap.size, 0, none⟩) 3 3) (w.alloc (.cells #[.int .i64 0, .int .i64 0, .int .i64 0] 3)) := by kernel_rfl
structure ExI (h : Nat) (W0 : World) (listed : Array Bool) (a : Act) (w : World) (b0 b1 b2 b3 b4 b5 b6 b7 b8 b9 b10 b11 b12 b13 b14 : Bool) (t9 t10 t11 t12 t13 t14 t15 t16 t17 t18 t19 t20 t21 t4 : Value) : Prop where
 li : listed = #[b0, b1, b2, b3, b4, b5, b6, b7, b8, b9, b10, b11, b12, b13, b14]
 ac : a = ⟨#[.pointer (some ⟨h, 0, none⟩), .pointer (some ⟨h + 1, 0, none⟩), .pointer (some ⟨h + 1 + 1, 0, none⟩), .pointer (some ⟨h + 1 + 1 + 1, 0, none⟩), t4, undef, .agg #[.int .i64 0, .int .i64 0], .agg #[.int .i64 40, .int .i64 0], .agg #[.int .i64 0, .int .i64 30], t9, t10, t11, t12, t13, t14, t15, t16, t17, t18, t19, t20, t21, undef, undef, undef, undef, undef, undef, undef, undef, undef, undef, undef, undef, undef, undef, undef, undef, undef, undef, undef, undef, undef, undef, undef], []⟩
 lo : Below W0.heap.size W0 w
 f0 : b0 = true → t9 = .agg #[.int .i64 0, .int .i64 0]
 f1 : b1 = true → t10 = .agg #[.int .i64 40, .int .i64 0]
 f2 : b2 = true → sideG ⟨#[97]⟩ (0, 0) (40, 0) w t11
 f3 : b3 = true → t12 = .agg #[.int .i64 40, .int .i64 0]
 f4 : b4 = true → t13 = .agg #[.int .i64 0, .int .i64 30]
 f5 : b5 = true → sideG ⟨#[98]⟩ (40, 0) (0, 30) w t14
 f6 : b6 = true → t15 = .agg #[.int .i64 0, .int .i64 30]
 f7 : b7 = true → t16 = .agg #[.int .i64 0, .int .i64 0]
 f8 : b8 = true → sideG ⟨#[99]⟩ (0, 30) (0, 0) w t17
 f9 : b9 = true → edgesG w t18
 f10 : b10 = true → cornG w t19
 f11 : b11 = true → widG w t20
 f12 : b12 = true → ∃ vs, t21 = .agg vs ∧ piecG w vs
 f13 : b13 = true → b14 = false → placeG W0 w t4
 f14 : b14 = true → b13 = true ∧ doneG w t4
theorem ExI.on {h : Nat} {W0 : World} {listed : Array Bool} {a : Act} {w w' : World} {b0 b1 b2 b3 b4 b5 b6 b7 b8 b9 b10 b11 b12 b13 b14 : Bool} {t9 t10 t11 t12 t13 t14 t15 t16 t17 t18 t19 t20 t21 t4 : Value} (x : ExI h W0 listed a w b0 b1 b2 b3 b4 b5 b6 b7 b8 b9 b10 b11 b12 b13 b14 t9 t10 t11 t12 t13 t14 t15 t16 t17 t18 t19 t20 t21 t4) (hb : Below w.heap.size w w') : ExI h W0 listed a w' b0 b1 b2 b3 b4 b5 b6 b7 b8 b9 b10 b11 b12 b13 b14 t9 t10 t11 t12 t13 t14 t15 t16 t17 t18 t19 t20 t21 t4 :=
 ⟨x.li, x.ac, x.lo.trans (hb.mono x.lo.size), x.f0, x.f1, (fun e => (x.f2 e).on hb), x.f3, x.f4, (fun e => (x.f5 e).on hb), x.f6, x.f7, (fun e => (x.f8 e).on hb), (fun e => (x.f9 e).on hb), (fun e => (x.f10 e).on hb), (fun e => (x.f11 e).on hb), (fun e => (x.f12 e).imp fun _ h => ⟨h.1, h.2.on hb⟩), (fun e e2 => (x.f13 e e2).on hb), (fun e => ⟨(x.f14 e).1, (x.f14 e).2.on hb⟩)⟩
set_option maxRecDepth 100000 in
set_option maxHeartbeats 12800000 in
theorem example_floor (w : World) : Calls Tryz.prog 18 #[] w fun e w' => ∃ F : FH, e = .returned (.agg #[.string exStyle.name, .slice F.Z F.z F.zc, .slice F.M F.m F.mc, .slice F.P F.p F.pc, .slice F.U F.u F.uc, .slice F.E F.e F.ec, .slice F.O F.o F.oc, .slice F.L F.n F.c, .slice F.V F.k F.kc]) ∧ FloorA w' exStyle exBundles exWorkers F ∧ Below w.heap.size w w' := by
 go_enter Tryz.func18, Tryz.ntmps18
 go_wp2_with fail
 obtain ⟨h, hh⟩ : ∃ h, w.heap.size = h := ⟨_, rfl⟩
 have HS := fun nm a b W => side_any nm a b W
 have HS1 := Lib.hid (HS ⟨#[97]⟩ (0, 0) (40, 0))
 have HS2 := Lib.hid (HS ⟨#[98]⟩ (40, 0) (0, 30))
 have HS3 := Lib.hid (HS ⟨#[99]⟩ (0, 30) (0, 0))
 clear HS
 obtain ⟨W0, hW0⟩ : ∃ v, v = (((w.alloc (.cells #[.string ⟨#[]⟩, .slice none 0 0, .slice none 0 0, .slice none 0 0, .slice none 0 0, .slice none 0 0, .slice none 0 0, .slice none 0 0, .slice none 0 0] 33)).alloc (.cells #[.int .i64 0, .int .i64 0] 74)).alloc (.cells #[.int .i64 40, .int .i64 0] 74)).alloc (.cells #[.int .i64 0, .int .i64 30] 74) := ⟨_, rfl⟩
 have HP := Lib.hid (show Blk W0 (h + 1) 74 #[.int .i64 0, .int .i64 0] by rw [hW0]; exact ((Blk.new' _ _ _ (by simp [hh])).alloc _).alloc _)
 have HQ := Lib.hid (show Blk W0 (h + 1 + 1) 74 #[.int .i64 40, .int .i64 0] by rw [hW0]; exact (Blk.new' _ _ _ (by simp [hh])).alloc _)
 have HR := Lib.hid (show Blk W0 (h + 1 + 1 + 1) 74 #[.int .i64 0, .int .i64 30] by rw [hW0]; exact Blk.new' _ _ _ (by simp [hh]))
 have HF := Lib.hid (show Blk W0 h 33 #[.string ⟨#[]⟩, .slice none 0 0, .slice none 0 0, .slice none 0 0, .slice none 0 0, .slice none 0 0, .slice none 0 0, .slice none 0 0, .slice none 0 0] by rw [hW0]; exact (((Blk.new' _ _ _ hh).alloc _).alloc _).alloc _)
 have HBW := Lib.hid (show Below h w W0 by rw [hW0]; exact ((((Below.refl _ _).alloc (by omega) _).alloc (by simp; omega) _).alloc (by simp; omega) _).alloc (by simp; omega) _)
 rw [← hW0]
 clear hW0
 rw [hh]
 go_cut [4] (fun v4 wc => doneG wc v4 ∧ Blk wc h 33 #[.string ⟨#[]⟩, .slice none 0 0, .slice none 0 0, .slice none 0 0, .slice none 0 0, .slice none 0 0, .slice none 0 0, .slice none 0 0, .slice none 0 0] ∧ Below h w wc)
 case first =>
  refine region_inv (I := fun li a w' => ∃ b0 b1 b2 b3 b4 b5 b6 b7 b8 b9 b10 b11 b12 b13 b14 t9 t10 t11 t12 t13 t14 t15 t16 t17 t18 t19 t20 t21 t4, ExI h W0 li a w' b0 b1 b2 b3 b4 b5 b6 b7 b8 b9 b10 b11 b12 b13 b14 t9 t10 t11 t12 t13 t14 t15 t16 t17 t18 t19 t20 t21 t4) (by kernel_rfl) ?_ ?_ ?_
  ·exact ⟨false, false, false, false, false, false, false, false, false, false, false, false, false, false, false, undef, undef, undef, undef, undef, undef, undef, undef, undef, undef, undef, undef, undef, undef, rfl, rfl, (Below.refl _ _).drew, (fun e => by cases e), (fun e => by cases e), (fun e => by cases e), (fun e => by cases e), (fun e => by cases e), (fun e => by cases e), (fun e => by cases e), (fun e => by cases e), (fun e => by cases e), (fun e => by cases e), (fun e => by cases e), (fun e => by cases e), (fun e => by cases e), (fun e => by cases e), (fun e => by cases e)⟩
  ·rintro listed a w' i o ⟨b0, b1, b2, b3, b4, b5, b6, b7, b8, b9, b10, b11, b12, b13, b14, t9, t10, t11, t12, t13, t14, t15, t16, t17, t18, t19, t20, t21, t4, X⟩ hi1 ho hd K hK
   obtain ⟨rfl, rfl, hlo, f0, f1, f2, f3, f4, f5, f6, f7, f8, f9, f10, f11, f12, f13, f14⟩ := X
   have hlt : i < 15 := (Array.getElem?_eq_some_iff.1 ho).1
   match i, hlt with
   | 0, _ =>
    simp only [List.getElem?_toArray, List.getElem?_cons_zero, Option.some.injEq] at ho
    subst ho
    rw [if_pos (wanted_free rfl)]
    obtain ⟨c0, c1⟩ := two_box (HP.out.below hlo)
    go_simp
    exact hK _ _ ⟨true, b1, b2, b3, b4, b5, b6, b7, b8, b9, b10, b11, b12, b13, b14, _, _, _, _, _, _, _, _, _, _, _, _, _, _, ⟨rfl, rfl, hlo, (fun _ => rfl), f1, f2, f3, f4, f5, f6, f7, f8, f9, f10, f11, f12, f13, f14⟩⟩
   | 1, _ =>
    simp only [List.getElem?_toArray, List.getElem?_cons_zero, List.getElem?_cons_succ, Option.some.injEq] at ho
    subst ho
    rw [if_pos (wanted_free rfl)]
    obtain ⟨c0, c1⟩ := two_box (HQ.out.below hlo)
    go_simp
    exact hK _ _ ⟨b0, true, b2, b3, b4, b5, b6, b7, b8, b9, b10, b11, b12, b13, b14, _, _, _, _, _, _, _, _, _, _, _, _, _, _, ⟨rfl, rfl, hlo, f0, (fun _ => rfl), f2, f3, f4, f5, f6, f7, f8, f9, f10, f11, f12, f13, f14⟩⟩
   | 2, _ =>
    simp only [List.getElem?_toArray, List.getElem?_cons_zero, List.getElem?_cons_succ, Option.some.injEq] at ho
    subst ho
    rw [if_pos (wanted_free rfl)]
    have d0 := f0 (hd ⟨0, .data⟩ (by simp) rfl)
    have d1 := f1 (hd ⟨1, .data⟩ (by simp) rfl)
    subst d0 d1
    have Y0 := fun (w2 : World) => (ExI.mk (W0 := W0) (listed := #[b0, b1, b2, b3, b4, b5, b6, b7, b8, b9, b10, b11, b12, b13, b14]) (a := ⟨#[.pointer (some ⟨h, 0, none⟩), .pointer (some ⟨h + 1, 0, none⟩), .pointer (some ⟨h + 1 + 1, 0, none⟩), .pointer (some ⟨h + 1 + 1 + 1, 0, none⟩), t4, undef, .agg #[.int .i64 0, .int .i64 0], .agg #[.int .i64 40, .int .i64 0], .agg #[.int .i64 0, .int .i64 30], (.agg #[.int .i64 0, .int .i64 0]), (.agg #[.int .i64 40, .int .i64 0]), t11, t12, t13, t14, t15, t16, t17, t18, t19, t20, t21, undef, undef, undef, undef, undef, undef, undef, undef, undef, undef, undef, undef, undef, undef, undef, undef, undef, undef, undef, undef, undef, undef, undef], []⟩) rfl rfl hlo f0 f1 f2 f3 f4 f5 f6 f7 f8 f9 f10 f11 f12 f13 f14).on (w' := w2)
    go_simp
    refine (HS1.out w').mono ?_
    rintro e w2 ⟨g, rfl, hg, hblk, hb⟩
    have Y := Y0 w2 hb
    exact hK _ _ ⟨b0, b1, true, b3, b4, b5, b6, b7, b8, b9, b10, b11, b12, b13, b14, _, _, _, _, _, _, _, _, _, _, _, _, _, _, ⟨rfl, rfl, Y.lo, Y.f0, Y.f1, (fun _ => ⟨g, rfl, hblk⟩), Y.f3, Y.f4, Y.f5, Y.f6, Y.f7, Y.f8, Y.f9, Y.f10, Y.f11, Y.f12, Y.f13, Y.f14⟩⟩
   | 3, _ =>
    simp only [List.getElem?_toArray, List.getElem?_cons_zero, List.getElem?_cons_succ, Option.some.injEq] at ho
    subst ho
    rw [if_pos (wanted_free rfl)]
    obtain ⟨c0, c1⟩ := two_box (HQ.out.below hlo)
    go_simp
    exact hK _ _ ⟨b0, b1, b2, true, b4, b5, b6, b7, b8, b9, b10, b11, b12, b13, b14, _, _, _, _, _, _, _, _, _, _, _, _, _, _, ⟨rfl, rfl, hlo, f0, f1, f2, (fun _ => rfl), f4, f5, f6, f7, f8, f9, f10, f11, f12, f13, f14⟩⟩
   | 4, _ =>
    simp only [List.getElem?_toArray, List.getElem?_cons_zero, List.getElem?_cons_succ, Option.some.injEq] at ho
    subst ho
    rw [if_pos (wanted_free rfl)]
    obtain ⟨c0, c1⟩ := two_box (HR.out.below hlo)
    go_simp
    exact hK _ _ ⟨b0, b1, b2, b3, true, b5, b6, b7, b8, b9, b10, b11, b12, b13, b14, _, _, _, _, _, _, _, _, _, _, _, _, _, _, ⟨rfl, rfl, hlo, f0, f1, f2, f3, (fun _ => rfl), f5, f6, f7, f8, f9, f10, f11, f12, f13, f14⟩⟩
   | 5, _ =>
    simp only [List.getElem?_toArray, List.getElem?_cons_zero, List.getElem?_cons_succ, Option.some.injEq] at ho
    subst ho
    rw [if_pos (wanted_free rfl)]
    have d3 := f3 (hd ⟨3, .data⟩ (by simp) rfl)
    have d4 := f4 (hd ⟨4, .data⟩ (by simp) rfl)
    have d2 := f2 (hd ⟨2, .chain⟩ (by simp) rfl)
    subst d3 d4
    have Y0 := fun (w2 : World) => (ExI.mk (W0 := W0) (listed := #[b0, b1, b2, b3, b4, b5, b6, b7, b8, b9, b10, b11, b12, b13, b14]) (a := ⟨#[.pointer (some ⟨h, 0, none⟩), .pointer (some ⟨h + 1, 0, none⟩), .pointer (some ⟨h + 1 + 1, 0, none⟩), .pointer (some ⟨h + 1 + 1 + 1, 0, none⟩), t4, undef, .agg #[.int .i64 0, .int .i64 0], .agg #[.int .i64 40, .int .i64 0], .agg #[.int .i64 0, .int .i64 30], t9, t10, t11, (.agg #[.int .i64 40, .int .i64 0]), (.agg #[.int .i64 0, .int .i64 30]), t14, t15, t16, t17, t18, t19, t20, t21, undef, undef, undef, undef, undef, undef, undef, undef, undef, undef, undef, undef, undef, undef, undef, undef, undef, undef, undef, undef, undef, undef, undef], []⟩) rfl rfl hlo f0 f1 f2 f3 f4 f5 f6 f7 f8 f9 f10 f11 f12 f13 f14).on (w' := w2)
    go_simp
    refine (HS2.out w').mono ?_
    rintro e w2 ⟨g, rfl, hg, hblk, hb⟩
    have Y := Y0 w2 hb
    exact hK _ _ ⟨b0, b1, b2, b3, b4, true, b6, b7, b8, b9, b10, b11, b12, b13, b14, _, _, _, _, _, _, _, _, _, _, _, _, _, _, ⟨rfl, rfl, Y.lo, Y.f0, Y.f1, Y.f2, Y.f3, Y.f4, (fun _ => ⟨g, rfl, hblk⟩), Y.f6, Y.f7, Y.f8, Y.f9, Y.f10, Y.f11, Y.f12, Y.f13, Y.f14⟩⟩
   | 6, _ =>
    simp only [List.getElem?_toArray, List.getElem?_cons_zero, List.getElem?_cons_succ, Option.some.injEq] at ho
    subst ho
    rw [if_pos (wanted_free rfl)]
    obtain ⟨c0, c1⟩ := two_box (HR.out.below hlo)
    go_simp
    exact hK _ _ ⟨b0, b1, b2, b3, b4, b5, true, b7, b8, b9, b10, b11, b12, b13, b14, _, _, _, _, _, _, _, _, _, _, _, _, _, _, ⟨rfl, rfl, hlo, f0, f1, f2, f3, f4, f5, (fun _ => rfl), f7, f8, f9, f10, f11, f12, f13, f14⟩⟩
   | 7, _ =>
    simp only [List.getElem?_toArray, List.getElem?_cons_zero, List.getElem?_cons_succ, Option.some.injEq] at ho
    subst ho
    rw [if_pos (wanted_free rfl)]
    obtain ⟨c0, c1⟩ := two_box (HP.out.below hlo)
    go_simp
    exact hK _ _ ⟨b0, b1, b2, b3, b4, b5, b6, true, b8, b9, b10, b11, b12, b13, b14, _, _, _, _, _, _, _, _, _, _, _, _, _, _, ⟨rfl, rfl, hlo, f0, f1, f2, f3, f4, f5, f6, (fun _ => rfl), f8, f9, f10, f11, f12, f13, f14⟩⟩
   | 8, _ =>
    simp only [List.getElem?_toArray, List.getElem?_cons_zero, List.getElem?_cons_succ, Option.some.injEq] at ho
    subst ho
    rw [if_pos (wanted_free rfl)]
    have d6 := f6 (hd ⟨6, .data⟩ (by simp) rfl)
    have d7 := f7 (hd ⟨7, .data⟩ (by simp) rfl)
    have d5 := f5 (hd ⟨5, .chain⟩ (by simp) rfl)
    subst d6 d7
    have Y0 := fun (w2 : World) => (ExI.mk (W0 := W0) (listed := #[b0, b1, b2, b3, b4, b5, b6, b7, b8, b9, b10, b11, b12, b13, b14]) (a := ⟨#[.pointer (some ⟨h, 0, none⟩), .pointer (some ⟨h + 1, 0, none⟩), .pointer (some ⟨h + 1 + 1, 0, none⟩), .pointer (some ⟨h + 1 + 1 + 1, 0, none⟩), t4, undef, .agg #[.int .i64 0, .int .i64 0], .agg #[.int .i64 40, .int .i64 0], .agg #[.int .i64 0, .int .i64 30], t9, t10, t11, t12, t13, t14, (.agg #[.int .i64 0, .int .i64 30]), (.agg #[.int .i64 0, .int .i64 0]), t17, t18, t19, t20, t21, undef, undef, undef, undef, undef, undef, undef, undef, undef, undef, undef, undef, undef, undef, undef, undef, undef, undef, undef, undef, undef, undef, undef], []⟩) rfl rfl hlo f0 f1 f2 f3 f4 f5 f6 f7 f8 f9 f10 f11 f12 f13 f14).on (w' := w2)
    go_simp
    refine (HS3.out w').mono ?_
    rintro e w2 ⟨g, rfl, hg, hblk, hb⟩
    have Y := Y0 w2 hb
    exact hK _ _ ⟨b0, b1, b2, b3, b4, b5, b6, b7, true, b9, b10, b11, b12, b13, b14, _, _, _, _, _, _, _, _, _, _, _, _, _, _, ⟨rfl, rfl, Y.lo, Y.f0, Y.f1, Y.f2, Y.f3, Y.f4, Y.f5, Y.f6, Y.f7, (fun _ => ⟨g, rfl, hblk⟩), Y.f9, Y.f10, Y.f11, Y.f12, Y.f13, Y.f14⟩⟩
   | 9, _ =>
    simp only [List.getElem?_toArray, List.getElem?_cons_zero, List.getElem?_cons_succ, Option.some.injEq] at ho
    subst ho
    rw [if_pos (wanted_free rfl)]
    have d2 := f2 (hd ⟨2, .data⟩ (by simp) rfl)
    have d5 := f5 (hd ⟨5, .data⟩ (by simp) rfl)
    have d8 := f8 (hd ⟨8, .data⟩ (by simp) rfl)
    obtain ⟨g1, rfl, h1⟩ := d2
    obtain ⟨g2, rfl, h2⟩ := d5
    obtain ⟨g3, rfl, h3⟩ := d8
    have Y0 := fun (w2 : World) => (ExI.mk (W0 := W0) (listed := #[b0, b1, b2, b3, b4, b5, b6, b7, b8, b9, b10, b11, b12, b13, b14]) (a := ⟨#[.pointer (some ⟨h, 0, none⟩), .pointer (some ⟨h + 1, 0, none⟩), .pointer (some ⟨h + 1 + 1, 0, none⟩), .pointer (some ⟨h + 1 + 1 + 1, 0, none⟩), t4, undef, .agg #[.int .i64 0, .int .i64 0], .agg #[.int .i64 40, .int .i64 0], .agg #[.int .i64 0, .int .i64 30], t9, t10, (.agg #[.string ⟨#[97]⟩, .slice (some ⟨g1, 0, none⟩) 2 2]), t12, t13, (.agg #[.string ⟨#[98]⟩, .slice (some ⟨g2, 0, none⟩) 2 2]), t15, t16, (.agg #[.string ⟨#[99]⟩, .slice (some ⟨g3, 0, none⟩) 2 2]), t18, t19, t20, t21, undef, undef, undef, undef, undef, undef, undef, undef, undef, undef, undef, undef, undef, undef, undef, undef, undef, undef, undef, undef, undef, undef, undef], []⟩) rfl rfl hlo f0 f1 f2 f3 f4 f5 f6 f7 f8 f9 f10 f11 f12 f13 f14).on (w' := w2)
    go_simp
    have hb := (Below.refl w'.heap.size w').alloc (Nat.le_refl _) (.cells #[.string ⟨#[97]⟩, .slice (some ⟨g1, 0, none⟩) 2 2, .string ⟨#[98]⟩, .slice (some ⟨g2, 0, none⟩) 2 2, .string ⟨#[99]⟩, .slice (some ⟨g3, 0, none⟩) 2 2] 76)
    have Y := Y0 _ hb
    exact hK _ _ ⟨b0, b1, b2, b3, b4, b5, b6, b7, b8, true, b10, b11, b12, b13, b14, _, _, _, _, _, _, _, _, _, _, _, _, _, _, ⟨rfl, rfl, Y.lo, Y.f0, Y.f1, Y.f2, Y.f3, Y.f4, Y.f5, Y.f6, Y.f7, Y.f8, (fun _ => ⟨w'.heap.size, g1, g2, g3, rfl, Blk.new _ _ _, h1.below hb, h2.below hb, h3.below hb⟩), Y.f10, Y.f11, Y.f12, Y.f13, Y.f14⟩⟩
   | 10, _ =>
    simp only [List.getElem?_toArray, List.getElem?_cons_zero, List.getElem?_cons_succ, Option.some.injEq] at ho
    subst ho
    rw [if_pos (wanted_free rfl)]
    have Y0 := fun (w2 : World) => (ExI.mk (W0 := W0) (listed := #[b0, b1, b2, b3, b4, b5, b6, b7, b8, b9, b10, b11, b12, b13, b14]) (a := ⟨#[.pointer (some ⟨h, 0, none⟩), .pointer (some ⟨h + 1, 0, none⟩), .pointer (some ⟨h + 1 + 1, 0, none⟩), .pointer (some ⟨h + 1 + 1 + 1, 0, none⟩), t4, undef, .agg #[.int .i64 0, .int .i64 0], .agg #[.int .i64 40, .int .i64 0], .agg #[.int .i64 0, .int .i64 30], t9, t10, t11, t12, t13, t14, t15, t16, t17, t18, t19, t20, t21, undef, undef, undef, undef, undef, undef, undef, undef, undef, undef, undef, undef, undef, undef, undef, undef, undef, undef, undef, undef, undef, undef, undef], []⟩) rfl rfl hlo f0 f1 f2 f3 f4 f5 f6 f7 f8 f9 f10 f11 f12 f13 f14).on (w' := w2)
    have hmk := make_spots
    go_simp
    have hb := (Below.refl w'.heap.size w').alloc (Nat.le_refl _) (.cells #[.int .i64 0, .int .i64 0, .int .i64 0, .int .i64 0, .int .i64 0, .int .i64 0] 74)
    have Y := Y0 _ hb
    exact hK _ _ ⟨b0, b1, b2, b3, b4, b5, b6, b7, b8, b9, true, b11, b12, b13, b14, _, _, _, _, _, _, _, _, _, _, _, _, _, _, ⟨rfl, rfl, Y.lo, Y.f0, Y.f1, Y.f2, Y.f3, Y.f4, Y.f5, Y.f6, Y.f7, Y.f8, Y.f9, (fun _ => ⟨w'.heap.size, rfl, Blk.new _ _ _⟩), Y.f11, Y.f12, Y.f13, Y.f14⟩⟩
   | 11, _ =>
    simp only [List.getElem?_toArray, List.getElem?_cons_zero, List.getElem?_cons_succ, Option.some.injEq] at ho
    subst ho
    rw [if_pos (wanted_free rfl)]
    have Y0 := fun (w2 : World) => (ExI.mk (W0 := W0) (listed := #[b0, b1, b2, b3, b4, b5, b6, b7, b8, b9, b10, b11, b12, b13, b14]) (a := ⟨#[.pointer (some ⟨h, 0, none⟩), .pointer (some ⟨h + 1, 0, none⟩), .pointer (some ⟨h + 1 + 1, 0, none⟩), .pointer (some ⟨h + 1 + 1 + 1, 0, none⟩), t4, undef, .agg #[.int .i64 0, .int .i64 0], .agg #[.int .i64 40, .int .i64 0], .agg #[.int .i64 0, .int .i64 30], t9, t10, t11, t12, t13, t14, t15, t16, t17, t18, t19, t20, t21, undef, undef, undef, undef, undef, undef, undef, undef, undef, undef, undef, undef, undef, undef, undef, undef, undef, undef, undef, undef, undef, undef, undef], []⟩) rfl rfl hlo f0 f1 f2 f3 f4 f5 f6 f7 f8 f9 f10 f11 f12 f13 f14).on (w' := w2)
    have hmk := make_ints
    go_simp
    have hb := (Below.refl w'.heap.size w').alloc (Nat.le_refl _) (.cells #[.int .i64 0, .int .i64 0, .int .i64 0] 3)
    have Y := Y0 _ hb
    exact hK _ _ ⟨b0, b1, b2, b3, b4, b5, b6, b7, b8, b9, b10, true, b12, b13, b14, _, _, _, _, _, _, _, _, _, _, _, _, _, _, ⟨rfl, rfl, Y.lo, Y.f0, Y.f1, Y.f2, Y.f3, Y.f4, Y.f5, Y.f6, Y.f7, Y.f8, Y.f9, Y.f10, (fun _ => ⟨w'.heap.size, rfl, Blk.new _ _ _⟩), Y.f12, Y.f13, Y.f14⟩⟩
   | 12, _ =>
    simp only [List.getElem?_toArray, List.getElem?_cons_zero, List.getElem?_cons_succ, Option.some.injEq] at ho
    subst ho
    rw [if_pos (wanted_free rfl)]
    have d9 := f9 (hd ⟨9, .data⟩ (by simp) rfl)
    have d10 := f10 (hd ⟨10, .data⟩ (by simp) rfl)
    have d11 := f11 (hd ⟨11, .data⟩ (by simp) rfl)
    obtain ⟨gE, g1, g2, g3, rfl, h1, h2, h3, h4⟩ := d9
    obtain ⟨gC, rfl, h5⟩ := d10
    obtain ⟨gW, rfl, h6⟩ := d11
    go_simp
    exact hK _ _ ⟨b0, b1, b2, b3, b4, b5, b6, b7, b8, b9, b10, b11, true, b13, b14, _, _, _, _, _, _, _, _, _, _, _, _, _, _, ⟨rfl, rfl, hlo, f0, f1, f2, f3, f4, f5, f6, f7, f8, f9, f10, f11, (fun _ => ⟨_, rfl, _, _, _, rfl, ⟨gE, g1, g2, g3, rfl, h1, h2, h3, h4⟩, ⟨gC, rfl, h5⟩, ⟨gW, rfl, h6⟩⟩), f13, f14⟩⟩
   | 13, _ =>
    simp only [List.getElem?_toArray, List.getElem?_cons_zero, List.getElem?_cons_succ, Option.some.injEq] at ho
    subst ho
    rw [if_pos (wanted_free rfl)]
    have Y0 := fun (w2 : World) => (ExI.mk (W0 := W0) (listed := #[b0, b1, b2, b3, b4, b5, b6, b7, b8, b9, b10, b11, b12, b13, b14]) (a := ⟨#[.pointer (some ⟨h, 0, none⟩), .pointer (some ⟨h + 1, 0, none⟩), .pointer (some ⟨h + 1 + 1, 0, none⟩), .pointer (some ⟨h + 1 + 1 + 1, 0, none⟩), t4, undef, .agg #[.int .i64 0, .int .i64 0], .agg #[.int .i64 40, .int .i64 0], .agg #[.int .i64 0, .int .i64 30], t9, t10, t11, t12, t13, t14, t15, t16, t17, t18, t19, t20, t21, undef, undef, undef, undef, undef, undef, undef, undef, undef, undef, undef, undef, undef, undef, undef, undef, undef, undef, undef, undef, undef, undef, undef], []⟩) rfl rfl hlo f0 f1 f2 f3 f4 f5 f6 f7 f8 f9 f10 f11 f12 f13 f14).on (w' := w2)
    have hle := hlo.size
    go_simp
    have hb := (Below.refl w'.heap.size w').alloc (Nat.le_refl _) (.cells #[.string ⟨#[]⟩, .slice none 0 0, .int .i64 0, .slice none 0 0, .slice none 0 0, .slice none 0 0, .bool false] 67)
    have Y := Y0 _ hb
    exact hK _ _ ⟨b0, b1, b2, b3, b4, b5, b6, b7, b8, b9, b10, b11, b12, true, b14, _, _, _, _, _, _, _, _, _, _, _, _, _, _, ⟨rfl, rfl, Y.lo, Y.f0, Y.f1, Y.f2, Y.f3, Y.f4, Y.f5, Y.f6, Y.f7, Y.f8, Y.f9, Y.f10, Y.f11, Y.f12, (fun _ _ => ⟨w'.heap.size, rfl, hle, Blk.new _ _ _⟩), (fun e => by have h1 := (Y.f14 e).1; rw [show b13 = false from hi1] at h1; cases h1)⟩⟩
   | 14, _ =>
    simp only [List.getElem?_toArray, List.getElem?_cons_zero, List.getElem?_cons_succ, Option.some.injEq] at ho
    subst ho
    rw [if_pos (wanted_free rfl)]
    have d13 := f13 (hd ⟨13, .data⟩ (by simp) rfl)
    have d12 := f12 (hd ⟨12, .data⟩ (by simp) rfl)
    obtain ⟨g, rfl, hge, hblk⟩ := d13 hi1
    obtain ⟨vs, rfl, e, c, d, rfl, ⟨gE, g1, g2, g3, rfl, h1, h2, h3, h4⟩, ⟨gC, rfl, h5⟩, ⟨gW, rfl, h6⟩⟩ := d12
    have hpc : piecG w' #[.string ⟨#[102, 108, 97, 103]⟩, .slice (some ⟨gE, 0, none⟩) 3 3, .int .i64 1, .slice none 0 0, .slice (some ⟨gC, 0, none⟩) 3 3, .slice (some ⟨gW, 0, none⟩) 3 3, .bool false] := ⟨_, _, _, rfl, ⟨gE, g1, g2, g3, rfl, h1, h2, h3, h4⟩, ⟨gC, rfl, h5⟩, ⟨gW, rfl, h6⟩⟩
    obtain ⟨z0, z1, z2, z3, z4, z5, z6⟩ := seven hblk
    have y0 := hblk.frozen 0
    have y1 := hblk.frozen 1
    have y2 := hblk.frozen 2
    have y3 := hblk.frozen 3
    have y4 := hblk.frozen 4
    have y5 := hblk.frozen 5
    have y6 := hblk.frozen 6
    go_simp
    have hf : ∀ (k : Nat) (t : TypeId) (cs : Array Value), Blk w' k t cs → t ≠ 67 → Blk (put7 w' g (.string ⟨#[102, 108, 97, 103]⟩) (.slice (some ⟨gE, 0, none⟩) 3 3) (.int .i64 1) (.slice none 0 0) (.slice (some ⟨gC, 0, none⟩) 3 3) (.slice (some ⟨gW, 0, none⟩) 3 3) (.bool false)) k t cs := fun k t cs hb hne => put7_far hb (hb.differ hblk hne) _ _ _ _ _ _ _
    have hnew := put7_blk hblk (.string ⟨#[102, 108, 97, 103]⟩) (.slice (some ⟨gE, 0, none⟩) 3 3) (.int .i64 1) (.slice none 0 0) (.slice (some ⟨gC, 0, none⟩) 3 3) (.slice (some ⟨gW, 0, none⟩) 3 3) (.bool false)
    have hlo2 := put7_below hlo hge (.string ⟨#[102, 108, 97, 103]⟩) (.slice (some ⟨gE, 0, none⟩) 3 3) (.int .i64 1) (.slice none 0 0) (.slice (some ⟨gC, 0, none⟩) 3 3) (.slice (some ⟨gW, 0, none⟩) 3 3) (.bool false)
    exact hK _ _ ⟨b0, b1, b2, b3, b4, b5, b6, b7, b8, b9, b10, b11, b12, b13, true, _, _, _, _, _, _, _, _, _, _, _, _, _, _, ⟨rfl, rfl, hlo2, f0, f1, (fun e => (f2 e).far hf), f3, f4, (fun e => (f5 e).far hf), f6, f7, (fun e => (f8 e).far hf), (fun e => (f9 e).far hf), (fun e => (f10 e).far hf), (fun e => (f11 e).far hf), (fun _ => ⟨_, rfl, piece_put hpc hf⟩), (fun _ e => by cases e), (fun _ => ⟨hd ⟨13, .data⟩ (by simp) rfl, g, _, rfl, hnew, piece_put hpc hf⟩)⟩⟩
  ·rintro listed a w' ⟨b0, b1, b2, b3, b4, b5, b6, b7, b8, b9, b10, b11, b12, b13, b14, t9, t10, t11, t12, t13, t14, t15, t16, t17, t18, t19, t20, t21, t4, X⟩ hall
   obtain ⟨rfl, rfl, hlo, f0, f1, f2, f3, f4, f5, f6, f7, f8, f9, f10, f11, f12, f13, f14⟩ := X
   have d0 : b0 = true := hall 0 _ rfl (fun e he _ => by simp at he)
   have d1 : b1 = true := hall 1 _ rfl (fun e he _ => by simp at he)
   have d3 : b3 = true := hall 3 _ rfl (fun e he _ => by simp at he)
   have d4 : b4 = true := hall 4 _ rfl (fun e he _ => by simp at he)
   have d6 : b6 = true := hall 6 _ rfl (fun e he _ => by simp at he)
   have d7 : b7 = true := hall 7 _ rfl (fun e he _ => by simp at he)
   have d10 : b10 = true := hall 10 _ rfl (fun e he _ => by simp at he)
   have d11 : b11 = true := hall 11 _ rfl (fun e he _ => by simp at he)
   have d13 : b13 = true := hall 13 _ rfl (fun e he _ => by simp at he)
   have d2 : b2 = true := hall 2 _ rfl (fun e he _ => by
    simp at he
    rcases he with rfl | rfl
    ·exact d0
    ·exact d1)
   have d5 : b5 = true := hall 5 _ rfl (fun e he _ => by
    simp at he
    rcases he with rfl | rfl | rfl
    ·exact d3
    ·exact d4
    ·exact d2)
   have d8 : b8 = true := hall 8 _ rfl (fun e he _ => by
    simp at he
    rcases he with rfl | rfl | rfl
    ·exact d6
    ·exact d7
    ·exact d5)
   have d9 : b9 = true := hall 9 _ rfl (fun e he _ => by
    simp at he
    rcases he with rfl | rfl | rfl
    ·exact d2
    ·exact d5
    ·exact d8)
   have d12 : b12 = true := hall 12 _ rfl (fun e he _ => by
    simp at he
    rcases he with rfl | rfl | rfl
    ·exact d9
    ·exact d10
    ·exact d11)
   have d14 : b14 = true := hall 14 _ rfl (fun e he _ => by
    simp at he
    rcases he with rfl | rfl | rfl | rfl | rfl | rfl | rfl | rfl | rfl | rfl | rfl | rfl | rfl | rfl | rfl | rfl | rfl
    ·exact d13
    ·exact d12
    ·exact d8
    ·exact d0
    ·exact d1
    ·exact d2
    ·exact d3
    ·exact d4
    ·exact d5
    ·exact d6
    ·exact d7
    ·exact d8
    ·exact d9
    ·exact d10
    ·exact d11
    ·exact d12
    ·exact d13)
   go_wp2_with fail
   go_meet
   case rel => exact ⟨(f14 d14).2, HF.out.below hlo, HBW.out.trans (hlo.mono (by have := HBW.out.size; omega))⟩
 case rest =>
  obtain ⟨⟨gP, vs, rfl, hbp, hpc⟩, hfl, hbl⟩ := hcut
  obtain ⟨e, c, d, rfl, ⟨gE, g1, g2, g3, rfl, h1, h2, h3, h4⟩, ⟨gC, rfl, h5⟩, ⟨gW, rfl, h6⟩⟩ := hpc
  have HPC : Hid (piecG wc #[.string ⟨#[102, 108, 97, 103]⟩, .slice (some ⟨gE, 0, none⟩) 3 3, .int .i64 1, .slice none 0 0, .slice (some ⟨gC, 0, none⟩) 3 3, .slice (some ⟨gW, 0, none⟩) 3 3, .bool false]) := ⟨_, _, _, rfl, ⟨gE, g1, g2, g3, rfl, h1, h2, h3, h4⟩, ⟨gC, rfl, h5⟩, ⟨gW, rfl, h6⟩⟩
  obtain ⟨p0, p1, p2, p3, p4, p5, p6⟩ := seven hbp
  have HFL := Lib.hid hfl
  have HBL := Lib.hid hbl
  obtain ⟨W2, rfl⟩ : ∃ v, v = wc := ⟨_, rfl⟩
  have hgl := hbp.lt
  clear hbp h1 h2 h3 h4 h5 h6 hfl hbl HP HQ HR HF HS1 HS2 HS3
  go_upto_region 3 with fail
  go_cut [5] (fun v5 wc => ∃ gS vz vm vp vu, v5 = .pointer (some ⟨gS, 0, none⟩) ∧ Blk wc gS 29 #[.string ⟨#[102, 108, 97, 103]⟩, vz, vm, vp, vu, .slice none 0 0, .slice none 0 0] ∧ szG wc vz ∧ muG wc vm ∧ pcG wc vp ∧ usG wc vu ∧ h ≤ gS ∧ Below W2.heap.size W2 wc)
  case first =>
   go_wp2_with fail
   go_meet
   have hb := (show Below W2.heap.size W2 (((((W2.alloc (.cells #[.string ⟨#[77]⟩] 9)).alloc (.cells #[.int .i64 0] 3)).alloc (.cells #[.string ⟨#[102, 108, 97, 103]⟩, .slice (some ⟨gE, 0, none⟩) 3 3, .int .i64 1, .slice none 0 0, .slice (some ⟨gC, 0, none⟩) 3 3, .slice (some ⟨gW, 0, none⟩) 3 3, .bool false] 67)).alloc (.cells #[.int .i64 0, .int .i64 1, .bool false] 79)).alloc (.cells #[.string ⟨#[102, 108, 97, 103]⟩, .slice (some ⟨W2.heap.size, 0, none⟩) 1 1, .slice (some ⟨W2.heap.size + 1, 0, none⟩) 1 1, .slice (some ⟨W2.heap.size + 1 + 1, 0, none⟩) 1 1, .slice (some ⟨W2.heap.size + 1 + 1 + 1, 0, none⟩) 1 1, .slice none 0 0, .slice none 0 0] 29)) by repeat (first | exact Below.refl _ _ | refine Below.alo ?_ _))
   refine ⟨_, _, _, _, _, rfl, Blk.new' _ _ _ (by simp), ⟨_, rfl, (by repeat (first | (focus ((with_reducible refine Blk.new' _ _ _ ?_); (simp; done))) | (with_reducible exact Blk.new _ _ _) | (with_reducible refine Blk.alloc ?_ _)))⟩, ⟨_, rfl, (by repeat (first | (focus ((with_reducible refine Blk.new' _ _ _ ?_); (simp; done))) | (with_reducible exact Blk.new _ _ _) | (with_reducible refine Blk.alloc ?_ _)))⟩, ⟨_, _, rfl, (by repeat (first | (focus ((with_reducible refine Blk.new' _ _ _ ?_); (simp; done))) | (with_reducible exact Blk.new _ _ _) | (with_reducible refine Blk.alloc ?_ _))), HPC.out.on hb⟩, ⟨_, rfl, (by repeat (first | (focus ((with_reducible refine Blk.new' _ _ _ ?_); (simp; done))) | (with_reducible exact Blk.new _ _ _) | (with_reducible refine Blk.alloc ?_ _)))⟩, by have := HBL.out.size; omega, hb⟩
  case rest =>
   obtain ⟨gS, vz, vm, vp, vu, rfl, hst, hz, hm, hp, hu, hgS, hb3⟩ := hcut
   obtain ⟨W3, rfl⟩ : ∃ v, v = wc := ⟨_, rfl⟩
   have HST := Lib.hid hst
   have HG3 := Lib.hid (And.intro hz (And.intro hm (And.intro hp hu)))
   have HF3 := Lib.hid (HFL.out.below hb3)
   have HB3 := Lib.hid (HBL.out.trans (hb3.mono (by have := HBL.out.size; omega)))
   have hsg := ((hst.alloc (.cells #[.int .i64 0] 3)).alloc (.cells #[.int .i64 0] 3)).alloc (.cells #[.string ⟨#[104, 101, 109]⟩, .int .i64 0, .int .i64 5, .slice none 0 0, .slice (some ⟨W3.heap.size, 0, none⟩) 1 1, .string ⟨#[108, 97, 98, 101, 108]⟩, .int .i64 1, .int .i64 3, .slice (some ⟨W3.heap.size + 1, 0, none⟩) 1 1, .slice none 0 0] 70)
   have s6 := hsg.c (i := 6) rfl
   have y6 := hsg.frozen 6
   clear hsg
   have hsl := hst.lt
   clear hst hz hm hp hu hb3 p0 p1 p2 p3 p4 p5 p6
   go_upto_region 4 with fail
   go_cut [] (fun wc => ∃ vo, Blk wc gS 29 #[.string ⟨#[102, 108, 97, 103]⟩, vz, vm, vp, vu, .slice none 0 0, vo] ∧ opsG wc vo ∧ Stay W3 wc ∧ Blk wc h 33 #[.string ⟨#[]⟩, .slice none 0 0, .slice none 0 0, .slice none 0 0, .slice none 0 0, .slice none 0 0, .slice none 0 0, .slice none 0 0, .slice none 0 0] ∧ Below h w wc)
   case first =>
    go_wp2_with fail
    go_meet
    have hb := (show Below W3.heap.size W3 (((W3.alloc (.cells #[.int .i64 0] 3)).alloc (.cells #[.int .i64 0] 3)).alloc (.cells #[.string ⟨#[104, 101, 109]⟩, .int .i64 0, .int .i64 5, .slice none 0 0, .slice (some ⟨W3.heap.size, 0, none⟩) 1 1, .string ⟨#[108, 97, 98, 101, 108]⟩, .int .i64 1, .int .i64 3, .slice (some ⟨W3.heap.size + 1, 0, none⟩) 1 1, .slice none 0 0] 70)) by repeat (first | exact Below.refl _ _ | refine Below.alo ?_ _))
    refine ⟨_, (((HST.out.alloc _).alloc _).alloc _).set_ 6 _, ⟨_, W3.heap.size, W3.heap.size + 1, rfl, ?_, ?_, ?_⟩, ?_, ?_, ?_⟩
    ·refine Blk.far ((by repeat (first | (focus ((with_reducible refine Blk.new' _ _ _ ?_); (simp; done))) | (with_reducible exact Blk.new _ _ _) | (with_reducible refine Blk.alloc ?_ _)))) (p := ⟨gS, 6, none⟩) (by have := HST.out.lt; show _ ≠ gS; omega) _
    ·refine Blk.far ((by repeat (first | (focus ((with_reducible refine Blk.new' _ _ _ ?_); (simp; done))) | (with_reducible exact Blk.new _ _ _) | (with_reducible refine Blk.alloc ?_ _)))) (p := ⟨gS, 6, none⟩) (by have := HST.out.lt; show _ ≠ gS; omega) _
    ·refine Blk.far ((by repeat (first | (focus ((with_reducible refine Blk.new' _ _ _ ?_); (simp; done))) | (with_reducible exact Blk.new _ _ _) | (with_reducible refine Blk.alloc ?_ _)))) (p := ⟨gS, 6, none⟩) (by have := HST.out.lt; show _ ≠ gS; omega) _
    ·exact (Stay.of_below hb).trans (Stay.set_ (HST.out.below hb) (.inl rfl) 6 _)
    ·exact (HF3.out.below hb).far (p := ⟨gS, 6, none⟩) ((HF3.out.below hb).differ (HST.out.below hb) (by decide)) _
    ·exact (HB3.out.trans (hb.mono (by have := HB3.out.size; omega))).setCell (p := ⟨gS, 6, none⟩) hgS _
   case rest =>
    obtain ⟨vo, hst, ho, hsy, hfl, hbl⟩ := hcut
    obtain ⟨W4, rfl⟩ : ∃ v, v = wc := ⟨_, rfl⟩
    have HG4 := Lib.hid (And.intro (HG3.out.1.stay hsy) (And.intro (HG3.out.2.1.stay hsy) (And.intro (HG3.out.2.2.1.stay hsy) (And.intro (HG3.out.2.2.2.stay hsy) ho))))
    have HFA := Lib.hid hfl
    have HBA := Lib.hid hbl
    have HS5 := Lib.hid hst
    clear HG3 HST HF3 HB3 s6 y6 hsl
    obtain ⟨⟨z1, rfl, _⟩, ⟨m1, rfl, _⟩, ⟨q1, _, rfl, _⟩, ⟨u1, rfl, _⟩, ⟨o1, _, _, rfl, _⟩⟩ := HG4.out
    obtain ⟨x0, x1, x2, x3, x4, x5, x6⟩ := seven hst
    have hfl1 := hfl.lt
    have hsl := hst.lt
    have hfz := HFA.out.below (show Below W4.heap.size W4 ((((W4.alloc (.cells #[.int .i64 1, .int .i64 0, .int .i64 0, .int .i64 0, .int .i64 0, .int .i64 2, .int .i64 2, .int .i64 0, .int .i64 0, .int .i64 0, .int .i64 0, .int .i64 1] 81)).alloc (.cells #[.int .i64 0, .int .i64 1] 3)).alloc (.cells #[.int .i64 1] 3)).alloc (.cells #[.string ⟨#[97, 110, 110]⟩, .slice (some ⟨W4.heap.size + 1, 0, none⟩) 2 2, .string ⟨#[98, 101, 97]⟩, .slice (some ⟨W4.heap.size + 1 + 1, 0, none⟩) 1 1] 72)) by repeat (first | exact Below.refl _ _ | refine Below.alo ?_ _))
    obtain ⟨c0, c1, c2, c3, c4, c5, c6, c7, c8⟩ := nine_box hfz
    have y0 := hfz.frozen 0
    have y1 := hfz.frozen 1
    have y2 := hfz.frozen 2
    have y3 := hfz.frozen 3
    have y4 := hfz.frozen 4
    have y5 := hfz.frozen 5
    have y6 := hfz.frozen 6
    have y7 := hfz.frozen 7
    have y8 := hfz.frozen 8
    clear hfz
    clear hst ho hsy hfl hbl
    have hb := (show Below W4.heap.size W4 ((((W4.alloc (.cells #[.int .i64 1, .int .i64 0, .int .i64 0, .int .i64 0, .int .i64 0, .int .i64 2, .int .i64 2, .int .i64 0, .int .i64 0, .int .i64 0, .int .i64 0, .int .i64 1] 81)).alloc (.cells #[.int .i64 0, .int .i64 1] 3)).alloc (.cells #[.int .i64 1] 3)).alloc (.cells #[.string ⟨#[97, 110, 110]⟩, .slice (some ⟨W4.heap.size + 1, 0, none⟩) 2 2, .string ⟨#[98, 101, 97]⟩, .slice (some ⟨W4.heap.size + 1 + 1, 0, none⟩) 1 1] 72)) by repeat (first | exact Below.refl _ _ | refine Below.alo ?_ _))
    have hB5 := Lib.hid (HBA.out.trans (hb.mono (by have := HBA.out.size; omega)))
    have hF5 := Lib.hid (HFA.out.below hb)
    have hs5 := Lib.hid (Stay.of_below hb)
    have hbn : Hid (bnG ((((W4.alloc (.cells #[.int .i64 1, .int .i64 0, .int .i64 0, .int .i64 0, .int .i64 0, .int .i64 2, .int .i64 2, .int .i64 0, .int .i64 0, .int .i64 0, .int .i64 0, .int .i64 1] 81)).alloc (.cells #[.int .i64 0, .int .i64 1] 3)).alloc (.cells #[.int .i64 1] 3)).alloc (.cells #[.string ⟨#[97, 110, 110]⟩, .slice (some ⟨W4.heap.size + 1, 0, none⟩) 2 2, .string ⟨#[98, 101, 97]⟩, .slice (some ⟨W4.heap.size + 1 + 1, 0, none⟩) 1 1] 72)) (.slice (some ⟨W4.heap.size, 0, none⟩) 2 2)) := ⟨_, rfl, (by repeat (first | (focus ((with_reducible refine Blk.new' _ _ _ ?_); (simp; done))) | (with_reducible exact Blk.new _ _ _) | (with_reducible refine Blk.alloc ?_ _)))⟩
    have hwk : Hid (wkG ((((W4.alloc (.cells #[.int .i64 1, .int .i64 0, .int .i64 0, .int .i64 0, .int .i64 0, .int .i64 2, .int .i64 2, .int .i64 0, .int .i64 0, .int .i64 0, .int .i64 0, .int .i64 1] 81)).alloc (.cells #[.int .i64 0, .int .i64 1] 3)).alloc (.cells #[.int .i64 1] 3)).alloc (.cells #[.string ⟨#[97, 110, 110]⟩, .slice (some ⟨W4.heap.size + 1, 0, none⟩) 2 2, .string ⟨#[98, 101, 97]⟩, .slice (some ⟨W4.heap.size + 1 + 1, 0, none⟩) 1 1] 72)) (.slice (some ⟨W4.heap.size + 1 + 1 + 1, 0, none⟩) 2 2)) := ⟨_, W4.heap.size + 1, W4.heap.size + 1 + 1, rfl, (by repeat (first | (focus ((with_reducible refine Blk.new' _ _ _ ?_); (simp; done))) | (with_reducible exact Blk.new _ _ _) | (with_reducible refine Blk.alloc ?_ _))), (by repeat (first | (focus ((with_reducible refine Blk.new' _ _ _ ?_); (simp; done))) | (with_reducible exact Blk.new _ _ _) | (with_reducible refine Blk.alloc ?_ _))), (by repeat (first | (focus ((with_reducible refine Blk.new' _ _ _ ?_); (simp; done))) | (with_reducible exact Blk.new _ _ _) | (with_reducible refine Blk.alloc ?_ _)))⟩
    clear hb
    go_wp2_with fail
    clear c0 c1 c2 c3 c4 c5 c6 c7 c8 y0 y1 y2 y3 y4 y5 y6 y7 y8 x0 x1 x2 x3 x4 x5 x6
    obtain ⟨W5, hW5⟩ : ∃ v, v = ((((W4.alloc (.cells #[.int .i64 1, .int .i64 0, .int .i64 0, .int .i64 0, .int .i64 0, .int .i64 2, .int .i64 2, .int .i64 0, .int .i64 0, .int .i64 0, .int .i64 0, .int .i64 1] 81)).alloc (.cells #[.int .i64 0, .int .i64 1] 3)).alloc (.cells #[.int .i64 1] 3)).alloc (.cells #[.string ⟨#[97, 110, 110]⟩, .slice (some ⟨W4.heap.size + 1, 0, none⟩) 2 2, .string ⟨#[98, 101, 97]⟩, .slice (some ⟨W4.heap.size + 1 + 1, 0, none⟩) 1 1] 72)) := ⟨_, rfl⟩
    rw [← hW5] at hB5 hF5 hs5 hbn hwk ⊢
    clear hW5
    obtain ⟨W6, hW6⟩ : ∃ v, v = (((((((((W5.setCell ⟨h, 0, none⟩ (.string ⟨#[102, 108, 97, 103]⟩)).setCell ⟨h, 1, none⟩ (.slice (some ⟨z1, 0, none⟩) 1 1)).setCell ⟨h, 2, none⟩ (.slice (some ⟨m1, 0, none⟩) 1 1)).setCell ⟨h, 3, none⟩ (.slice (some ⟨q1, 0, none⟩) 1 1)).setCell ⟨h, 4, none⟩ (.slice (some ⟨u1, 0, none⟩) 1 1)).setCell ⟨h, 5, none⟩ (.slice none 0 0)).setCell ⟨h, 6, none⟩ (.slice (some ⟨o1, 0, none⟩) 2 2)).setCell ⟨h, 7, none⟩ (.slice (some ⟨W4.heap.size, 0, none⟩) 2 2)).setCell ⟨h, 8, none⟩ (.slice (some ⟨W4.heap.size + 1 + 1 + 1, 0, none⟩) 2 2)) := ⟨_, rfl⟩
    have hF6 : Blk W6 h 33 #[.string ⟨#[102, 108, 97, 103]⟩, .slice (some ⟨z1, 0, none⟩) 1 1, .slice (some ⟨m1, 0, none⟩) 1 1, .slice (some ⟨q1, 0, none⟩) 1 1, .slice (some ⟨u1, 0, none⟩) 1 1, .slice none 0 0, .slice (some ⟨o1, 0, none⟩) 2 2, .slice (some ⟨W4.heap.size, 0, none⟩) 2 2, .slice (some ⟨W4.heap.size + 1 + 1 + 1, 0, none⟩) 2 2] := by rw [hW6]; exact put9_blk hF5.out _ _ _ _ _ _ _ _ _
    have hS6 : Stay W5 W6 := by rw [hW6]; exact put9_stay hF5.out _ _ _ _ _ _ _ _ _
    have hB6 : Below h w W6 := by rw [hW6]; exact put9_below hB5.out (Nat.le_refl _) _ _ _ _ _ _ _ _ _
    rw [← hW6]
    clear hW6
    have hS := hs5.out.trans hS6
    obtain ⟨F, e1, e2, e3, e4, e5, e6, e7, e8, hFA⟩ := ex_floor (HG4.out.1.stay hS) (HG4.out.2.1.stay hS) (HG4.out.2.2.1.stay hS) (HG4.out.2.2.2.1.stay hS) (HG4.out.2.2.2.2.stay hS) (hbn.out.stay hS6) (hwk.out.stay hS6)
    obtain ⟨k0, k1, k2, k3, k4, k5, k6, k7, k8⟩ := nine_box hF6
    refine bodyPost_ret (v := .agg #[.string ⟨#[102, 108, 97, 103]⟩, .slice (some ⟨z1, 0, none⟩) 1 1, .slice (some ⟨m1, 0, none⟩) 1 1, .slice (some ⟨q1, 0, none⟩) 1 1, .slice (some ⟨u1, 0, none⟩) 1 1, .slice none 0 0, .slice (some ⟨o1, 0, none⟩) 2 2, .slice (some ⟨W4.heap.size, 0, none⟩) 2 2, .slice (some ⟨W4.heap.size + 1 + 1 + 1, 0, none⟩) 2 2]) (by simp [results, Tryz.results18, go_sem, k0, k1, k2, k3, k4, k5, k6, k7, k8]) rfl ?_
    refine ⟨F, ?_, hFA, by rw [hh]; exact hB6⟩
    rw [← e1, ← e2, ← e3, ← e4, ← e5, ← e6, ← e7, ← e8]
    rfl
end
section
open Go.RowKit
open Go.Lib hiding intOf
theorem ex_jerr : judgeErr exStyle exBundles exWorkers exScans.length = 0 := jerr_ok ex_check (by decide)
theorem ex_oerr1 : openErr exStyle exBundles exWorkers exScans.length 1 = 0 := oerr_ok ex_jerr (by decide)
theorem ex_oerr2 : openErr exStyle exBundles exWorkers exScans.length 2 = 0 := oerr_ok ex_jerr (by decide)
theorem ex_oerr3 : openErr exStyle exBundles exWorkers exScans.length 3 = 6 := oerr_no ex_jerr (by decide)
theorem ex_read : parseS [115, 99, 97, 110, 32, 49, 50, 32, 48, 32, 51, 32, 52, 53, 48, 48] = .ok ⟨12, 0, 3, 4500⟩ := by kernel_rfl
theorem ex_wrong : parseS [115, 99, 97, 110, 32, 49, 50, 32, 48, 32, 48, 51, 32, 52, 53, 48, 48] = .error 2 := by kernel_rfl
theorem ex_text : textS ⟨12, 0, 3, 4500⟩ = [115, 99, 97, 110, 32, 49, 50, 32, 48, 32, 51, 32, 52, 53, 48, 48] := by kernel_rfl
theorem ex_in : scanIn ⟨12, 0, 3, 4500⟩ := by unfold scanIn inI64; decide
theorem ex_floorS : FloorS exStyle exWorkers := ⟨ex_small, ex_workers⟩
def exSC : Array Value := #[.int .i64 1, .int .i64 1, .int .i64 0, .int .i64 5, .int .i64 1, .int .i64 0, .int .i64 0, .int .i64 6, .int .i64 1, .int .i64 1, .int .i64 1, .int .i64 5, .int .i64 1, .int .i64 1, .int .i64 1, .int .i64 6, .int .i64 1, .int .i64 1, .int .i64 0, .int .i64 9, .int .i64 2, .int .i64 0, .int .i64 1, .int .i64 0, .int .i64 3, .int .i64 0, .int .i64 0, .int .i64 0, .int .i64 2, .int .i64 0, .int .i64 0, .int .i64 (-1)]
theorem scans_lit {w : World} {g : Nat} {t : TypeId} {cs : Array Value} {xs : List PScan} {n : Nat} (h : Blk w g t cs) (hc : cs.toList = xs.flatMap sC) (hn : xs.length = n) : Recs 4 scanG w (some ⟨g, 0, none⟩) n xs := by
 refine Recs.lit h hn fun j x hx => ⟨sC x, rfl, fun i u hu => ?_⟩
 have hi : i < 4 := by have := (List.getElem?_eq_some_iff.1 hu).1; simpa [sC] using this
 rw [← Array.getElem?_toList, hc]
 clear hc hn h
 induction xs generalizing j with
 | nil => simp at hx
 | cons y xs ih =>
  rw [List.flatMap_cons]
  cases j with
  | zero =>
   obtain rfl : y = x := by simpa using hx
   rw [Nat.zero_mul, Nat.zero_add, List.getElem?_append_left (by rw [sC_len]; exact hi)]
   exact hu
  | succ j =>
   rw [List.getElem?_append_right (by rw [sC_len]; omega), sC_len, show (j + 1) * 4 + i - 4 = j * 4 + i by omega]
   exact ih j (by simpa using hx)
theorem RetJu.ok {s : PStyle} {bs : List PBundle} {ws : List PWorker} {xs : List PScan} {w w' : World} {e : Ending} (h : RetJu s bs ws xs w e w') (h0 : judgeErr s bs ws xs.length = 0) :
  ∃ g, e = .returned (.tuple #[.slice (some ⟨g, 0, none⟩) xs.length xs.length, .int .i64 0]) ∧ Sl w' w'.heap.size (some ⟨g, 0, none⟩) xs.length (ints (judgeP s bs ws xs)) ∧ Below w.heap.size w w' := by
 rcases h with ⟨hb, ⟨hn, _⟩ | ⟨_, g, he, hsl⟩⟩
 ·exact absurd h0 hn
 ·exact ⟨g, he, hsl, hb⟩
theorem RetPa.ok {s : PStyle} {bs : List PBundle} {ws : List PWorker} {xs : List PScan} {w w' : World} {e : Ending} (h : RetPa s bs ws xs w e w') (h0 : judgeErr s bs ws xs.length = 0) :
  ∃ A c, e = .returned (.tuple #[.slice A (paidP s bs ws xs).length c, .int .i64 0]) ∧ Recs 4 scanG w' A (paidP s bs ws xs).length (paidP s bs ws xs) ∧ (paidP s bs ws xs).length ≤ c ∧ Below w.heap.size w w' := by
 rcases h with ⟨hb, ⟨hn, _⟩ | ⟨_, A, c, he, hsl, hc⟩⟩
 ·exact absurd h0 hn
 ·exact ⟨A, c, he, hsl, hc, hb⟩
theorem RetOp.ok {s : PStyle} {bs : List PBundle} {ws : List PWorker} {xs : List PScan} {t : Int} {w w' : World} {e : Ending} (h : RetOp s bs ws xs t w e w') (h0 : openErr s bs ws xs.length t = 0) :
  ∃ A c, e = .returned (.tuple #[.slice A (openP s bs ws xs t).length c, .int .i64 0]) ∧ Sl w' w'.heap.size A (openP s bs ws xs t).length (ints (openP s bs ws xs t)) ∧ Below w.heap.size w w' := by
 rcases h with ⟨hb, ⟨hn, _⟩ | ⟨_, A, c, he, hsl⟩⟩
 ·exact absurd h0 hn
 ·exact ⟨A, c, he, hsl, hb⟩
theorem RetOp.bad {s : PStyle} {bs : List PBundle} {ws : List PWorker} {xs : List PScan} {t : Int} {w w' : World} {e : Ending} (h : RetOp s bs ws xs t w e w') (h0 : openErr s bs ws xs.length t ≠ 0) :
  e = .returned (.tuple #[.slice none 0 0, .int .i64 (openErr s bs ws xs.length t)]) ∧ Below w.heap.size w w' := by
 rcases h with ⟨hb, ⟨_, he⟩ | ⟨hz, _⟩⟩
 ·exact ⟨he, hb⟩
 ·exact absurd hz h0
section
variable {w w' : World} {e : Ending}
theorem ju_ex (h : RetJu exStyle exBundles exWorkers exScans w e w') : ∃ g, e = .returned (.tuple #[.slice (some ⟨g, 0, none⟩) 8 8, .int .i64 0]) ∧ Sl w' w'.heap.size (some ⟨g, 0, none⟩) 8 (ints [5, 1, 6, 1, 2, 4, 3, 3]) ∧ Below w.heap.size w w' := by
 obtain ⟨g, he, hs, hb⟩ := h.ok ex_jerr
 rw [ex_judge] at hs
 exact ⟨g, he, hs, hb⟩
theorem pa_ex (h : RetPa exStyle exBundles exWorkers exScans w e w') : ∃ A c, e = .returned (.tuple #[.slice A 2 c, .int .i64 0]) ∧ Recs 4 scanG w' A 2 [⟨1, 0, 0, 6⟩, ⟨1, 1, 1, 6⟩] ∧ Below w.heap.size w w' := by
 obtain ⟨A, c, he, hs, _, hb⟩ := h.ok ex_jerr
 rw [ex_paid] at he hs
 exact ⟨A, c, he, hs, hb⟩
theorem op1_ex (h : RetOp exStyle exBundles exWorkers exScans 1 w e w') : ∃ A c, e = .returned (.tuple #[.slice A 0 c, .int .i64 0]) ∧ Below w.heap.size w w' := by
 obtain ⟨A, c, he, hs, hb⟩ := h.ok ex_oerr1
 rw [ex_open1] at he
 exact ⟨A, c, he, hb⟩
theorem op2_ex (h : RetOp exStyle exBundles exWorkers exScans 2 w e w') : ∃ A c, e = .returned (.tuple #[.slice A 2 c, .int .i64 0]) ∧ Sl w' w'.heap.size A 2 (ints [0, 1]) ∧ Below w.heap.size w w' := by
 obtain ⟨A, c, he, hs, hb⟩ := h.ok ex_oerr2
 rw [ex_open2] at he hs
 exact ⟨A, c, he, hs, hb⟩
theorem op3_ex (h : RetOp exStyle exBundles exWorkers exScans 3 w e w') : e = .returned (.tuple #[.slice none 0 0, .int .i64 6]) ∧ Below w.heap.size w w' := by
 have := h.bad (by rw [ex_oerr3]; decide)
 rw [ex_oerr3] at this
 exact this
end
theorem below_call {a W u : World} (hv : Below W.heap.size W u) (h : Below a.heap.size a W) : Below a.heap.size a u := h.trans (hv.mono h.size)
theorem parse1 (w : World) (hw : Std w) : Calls Tryz.prog 19 #[.string ⟨#[115, 99, 97, 110, 32, 49, 50, 32, 48, 32, 51, 32, 52, 53, 48, 48]⟩] w fun e w' => e = .returned (.tuple #[.agg #[.int .i64 12, .int .i64 0, .int .i64 3, .int .i64 4500], .int .i64 0]) ∧ Below w.heap.size w w' := by
 have h := scanParse_any ⟨#[115, 99, 97, 110, 32, 49, 50, 32, 48, 32, 51, 32, 52, 53, 48, 48]⟩ w hw (by decide)
 rw [show parseS (⟨#[115, 99, 97, 110, 32, 49, 50, 32, 48, 32, 51, 32, 52, 53, 48, 48]⟩ : ByteArray).data.toList = .ok ⟨12, 0, 3, 4500⟩ from ex_read] at h
 exact h
theorem parse2 (w : World) (hw : Std w) : Calls Tryz.prog 19 #[.string ⟨#[115, 99, 97, 110, 32, 49, 50, 32, 48, 32, 48, 51, 32, 52, 53, 48, 48]⟩] w fun e w' => e = .returned (.tuple #[.agg #[.int .i64 0, .int .i64 0, .int .i64 0, .int .i64 0], .int .i64 2]) ∧ Below w.heap.size w w' := by
 have h := scanParse_any ⟨#[115, 99, 97, 110, 32, 49, 50, 32, 48, 32, 48, 51, 32, 52, 53, 48, 48]⟩ w hw (by decide)
 rw [show parseS (⟨#[115, 99, 97, 110, 32, 49, 50, 32, 48, 32, 48, 51, 32, 52, 53, 48, 48]⟩ : ByteArray).data.toList = .error 2 from ex_wrong] at h
 exact h
theorem text1 (w : World) (hw : Std w) : Calls Tryz.prog 20 #[.agg #[.int .i64 12, .int .i64 0, .int .i64 3, .int .i64 4500]] w fun e w' => e = .returned (.string ⟨#[115, 99, 97, 110, 32, 49, 50, 32, 48, 32, 51, 32, 52, 53, 48, 48]⟩) ∧ Below w.heap.size w w' := by
 have h := scanText_any ⟨12, 0, 3, 4500⟩ w hw ex_in
 rw [ex_text] at h
 exact h
theorem eight_cells {w : World} {g : Nat} {t : TypeId} (h : Blk w g t exSC) : w.cell? ⟨g, 4, none⟩ = some (.int .i64 1) ∧ w.cell? ⟨g, 5, none⟩ = some (.int .i64 0) ∧ w.cell? ⟨g, 6, none⟩ = some (.int .i64 0) ∧ w.cell? ⟨g, 7, none⟩ = some (.int .i64 6) ∧ w.cell? ⟨g, 12, none⟩ = some (.int .i64 1) ∧ w.cell? ⟨g, 13, none⟩ = some (.int .i64 1) ∧ w.cell? ⟨g, 14, none⟩ = some (.int .i64 1) ∧ w.cell? ⟨g, 15, none⟩ = some (.int .i64 6) :=
 ⟨h.c rfl, h.c rfl, h.c rfl, h.c rfl, h.c rfl, h.c rfl, h.c rfl, h.c rfl⟩
set_option maxRecDepth 100000 in
set_option maxHeartbeats 12800000 in
theorem example_any (w : World) (hw : Std w) : Calls Tryz.prog 6 #[] w fun e w' => e = .returned (.bool true) ∧ Below w.heap.size w w' := by
 have HEX := Lib.hid (example_floor w)
 have HW := Lib.hid hw
 clear hw
 go_enter Tryz.func6, Tryz.ntmps6
 go_wp2_with fail
 refine HEX.out.mono ?_
 rintro e1 w1 ⟨F, rfl, hfa, hb1⟩
 have HFA := Lib.hid hfa
 have HB1 := Lib.hid hb1
 clear hfa hb1
 obtain ⟨W2, hW2⟩ : ∃ v, v = (w1.alloc (.cells #[.string exStyle.name, .slice F.Z F.z F.zc, .slice F.M F.m F.mc, .slice F.P F.p F.pc, .slice F.U F.u F.uc, .slice F.E F.e F.ec, .slice F.O F.o F.oc, .slice F.L F.n F.c, .slice F.V F.k F.kc] 33)).alloc (.cells #[.int .i64 1, .int .i64 1, .int .i64 0, .int .i64 5, .int .i64 1, .int .i64 0, .int .i64 0, .int .i64 6, .int .i64 1, .int .i64 1, .int .i64 1, .int .i64 5, .int .i64 1, .int .i64 1, .int .i64 1, .int .i64 6, .int .i64 1, .int .i64 1, .int .i64 0, .int .i64 9, .int .i64 2, .int .i64 0, .int .i64 1, .int .i64 0, .int .i64 3, .int .i64 0, .int .i64 0, .int .i64 0, .int .i64 2, .int .i64 0, .int .i64 0, .int .i64 (-1)] 55) := ⟨_, rfl⟩
 have hb12 : Below w1.heap.size w1 W2 := by rw [hW2]; exact ((Below.refl _ _).alloc (Nat.le_refl _) _).alloc (by simp) _
 have HB2 := Lib.hid (HB1.out.trans (hb12.mono HB1.out.size))
 have HA2 := Lib.hid (HFA.out.on hb12)
 have HX2 := Lib.hid (show Blk W2 w1.heap.size 33 #[.string exStyle.name, .slice F.Z F.z F.zc, .slice F.M F.m F.mc, .slice F.P F.p F.pc, .slice F.U F.u F.uc, .slice F.E F.e F.ec, .slice F.O F.o F.oc, .slice F.L F.n F.c, .slice F.V F.k F.kc] by rw [hW2]; exact (Blk.new _ _ _).alloc _)
 have HS2 := Lib.hid (show Blk W2 (w1.heap.size + 1) 55 exSC by rw [hW2]; exact Blk.new' _ _ _ (by simp))
 have HR2 := Lib.hid (scans_lit (xs := exScans) HS2.out rfl rfl)
 have HJ := Lib.hid (fjudge_any F _ _ _ _ 8 8 exScans W2 HA2.out ex_floorS HR2.out)
 clear hb12
 go_upto_region 3 with fail
 rw [← hW2]
 clear hW2
 obtain ⟨x0, x1, x2, x3, x4, x5, x6, x7, x8⟩ := nine_box HX2.out
 go_wp2_with fail
 refine HJ.out.mono ?_
 intro e3 w3 hret
 obtain ⟨gj, rfl, hsl, hb⟩ := ju_ex hret
 have HB3 := Lib.hid (HB2.out.trans (hb.mono HB2.out.size))
 have HA3 := Lib.hid (HA2.out.on hb)
 have HX3 := Lib.hid (HX2.out.below hb)
 have HS3 := Lib.hid (HS2.out.below hb)
 have HR3 := Lib.hid (HR2.out.on scan_mono hb)
 clear HB2 HA2 HX2 HS2 HR2
 have HJ3 := Lib.hid hsl
 clear hret hb hsl HJ x0 x1 x2 x3 x4 x5 x6 x7 x8
 have HP := Lib.hid (fpaid_any F _ _ _ _ 8 8 exScans w3 HA3.out ex_floorS HR3.out)
 obtain ⟨x0, x1, x2, x3, x4, x5, x6, x7, x8⟩ := nine_box HX3.out
 go_wp2_with fail
 refine HP.out.mono ?_
 intro e4 w4 hret
 obtain ⟨Ap, cp, rfl, hsl, hb⟩ := pa_ex hret
 have HB4 := Lib.hid (HB3.out.trans (hb.mono HB3.out.size))
 have HA4 := Lib.hid (HA3.out.on hb)
 have HX4 := Lib.hid (HX3.out.below hb)
 have HS4 := Lib.hid (HS3.out.below hb)
 have HR4 := Lib.hid (HR3.out.on scan_mono hb)
 have HJ4 := Lib.hid (HJ3.out.on hb)
 clear HB3 HA3 HX3 HS3 HR3 HJ3
 have HP4 := Lib.hid hsl
 clear hret hb hsl HP x0 x1 x2 x3 x4 x5 x6 x7 x8
 have HO := Lib.hid (fopen_any F _ _ _ _ 8 8 exScans 1 w4 HA4.out ex_floorS HR4.out)
 obtain ⟨x0, x1, x2, x3, x4, x5, x6, x7, x8⟩ := nine_box HX4.out
 go_wp2_with fail
 refine HO.out.mono ?_
 intro e5 w5 hret
 obtain ⟨A1, c1, rfl, hb⟩ := op1_ex hret
 have HB5 := Lib.hid (HB4.out.trans (hb.mono HB4.out.size))
 have HA5 := Lib.hid (HA4.out.on hb)
 have HX5 := Lib.hid (HX4.out.below hb)
 have HS5 := Lib.hid (HS4.out.below hb)
 have HR5 := Lib.hid (HR4.out.on scan_mono hb)
 have HJ5 := Lib.hid (HJ4.out.on hb)
 have HP5 := Lib.hid (HP4.out.on scan_mono hb)
 clear HB4 HA4 HX4 HS4 HR4 HJ4 HP4
 clear hret hb HO x0 x1 x2 x3 x4 x5 x6 x7 x8
 have HO := Lib.hid (fopen_any F _ _ _ _ 8 8 exScans 2 w5 HA5.out ex_floorS HR5.out)
 obtain ⟨x0, x1, x2, x3, x4, x5, x6, x7, x8⟩ := nine_box HX5.out
 go_wp2_with fail
 refine HO.out.mono ?_
 intro e6 w6 hret
 obtain ⟨A2, c2, rfl, hsl, hb⟩ := op2_ex hret
 have HB6 := Lib.hid (HB5.out.trans (hb.mono HB5.out.size))
 have HA6 := Lib.hid (HA5.out.on hb)
 have HX6 := Lib.hid (HX5.out.below hb)
 have HS6 := Lib.hid (HS5.out.below hb)
 have HR6 := Lib.hid (HR5.out.on scan_mono hb)
 have HJ6 := Lib.hid (HJ5.out.on hb)
 have HP6 := Lib.hid (HP5.out.on scan_mono hb)
 clear HB5 HA5 HX5 HS5 HR5 HJ5 HP5
 have HQ6 := Lib.hid hsl
 clear hret hb hsl HO x0 x1 x2 x3 x4 x5 x6 x7 x8
 have HO := Lib.hid (fopen_any F _ _ _ _ 8 8 exScans 3 w6 HA6.out ex_floorS HR6.out)
 obtain ⟨x0, x1, x2, x3, x4, x5, x6, x7, x8⟩ := nine_box HX6.out
 go_wp2_with fail
 refine HO.out.mono ?_
 intro e7 w7 hret
 obtain ⟨rfl, hb⟩ := op3_ex hret
 have HB7 := Lib.hid (HB6.out.trans (hb.mono HB6.out.size))
 have HA7 := Lib.hid (HA6.out.on hb)
 have HX7 := Lib.hid (HX6.out.below hb)
 have HS7 := Lib.hid (HS6.out.below hb)
 have HR7 := Lib.hid (HR6.out.on scan_mono hb)
 have HJ7 := Lib.hid (HJ6.out.on hb)
 have HP7 := Lib.hid (HP6.out.on scan_mono hb)
 have HQ7 := Lib.hid (HQ6.out.on hb)
 clear HB6 HA6 HX6 HS6 HR6 HJ6 HP6 HQ6
 clear hret hb HO x0 x1 x2 x3 x4 x5 x6 x7 x8
 go_wp2_with fail
 have hq := Below.refl w7.heap.size w7
 have HK := fun W => Lib.hid (fun (hb : Below w7.heap.size w7 W) => eight_cells (HS7.out.below hb))
 obtain ⟨a0, a1, a2, a3, a4, a5, a6, a7⟩ := (HK w7).out hq
 go_region_held3 (fun w' => w'.cell? ⟨w1.heap.size + 1, 4, none⟩ = some (.int .i64 1) ∧ w'.cell? ⟨w1.heap.size + 1, 5, none⟩ = some (.int .i64 0) ∧ w'.cell? ⟨w1.heap.size + 1, 6, none⟩ = some (.int .i64 0) ∧ w'.cell? ⟨w1.heap.size + 1, 7, none⟩ = some (.int .i64 6) ∧ w'.cell? ⟨w1.heap.size + 1, 12, none⟩ = some (.int .i64 1) ∧ w'.cell? ⟨w1.heap.size + 1, 13, none⟩ = some (.int .i64 1) ∧ w'.cell? ⟨w1.heap.size + 1, 14, none⟩ = some (.int .i64 1) ∧ w'.cell? ⟨w1.heap.size + 1, 15, none⟩ = some (.int .i64 6))
  ((refine (HK _).out ?_; repeat (first | (with_reducible exact Below.refl _ _) | (with_reducible exact hq) | (with_reducible refine Below.drew ?_) | (with_reducible refine Below.alo ?_ _))))
  (first
   | (go_at_call 11; go_must ((refine (sameInts_true [5, 1, 6, 1, 2, 4, 3, 3] (some ⟨gj, 0, none⟩) 8 8 _ 8 _ (HJ7.out.on (by repeat (first | (with_reducible exact Below.refl _ _) | (with_reducible exact hq) | (with_reducible refine Below.drew ?_) | (with_reducible refine Below.alo ?_ _)))) (Sl.blk (t := 3) (cs := #[.int .i64 5, .int .i64 1, .int .i64 6, .int .i64 1, .int .i64 2, .int .i64 4, .int .i64 3, .int .i64 3]) (by repeat (first | (focus ((with_reducible refine Blk.new' _ _ _ ?_); (simp; done))) | (with_reducible exact Blk.new _ _ _) | (with_reducible refine Blk.drew ?_) | (with_reducible refine Blk.alloc ?_ _))) rfl rfl) (by omega)).mono ?_); rintro e u1 ⟨rfl, hv⟩; replace hq := below_call (a := w7) hv (by repeat (first | (with_reducible exact Below.refl _ _) | (with_reducible exact hq) | (with_reducible refine Below.drew ?_) | (with_reducible refine Below.alo ?_ _))); clear hv))
   | (go_at_call 12; go_must ((refine (sameScans_true [⟨1, 0, 0, 6⟩, ⟨1, 1, 1, 6⟩] Ap 2 cp _ 2 _ (HP7.out.on scan_mono (by repeat (first | (with_reducible exact Below.refl _ _) | (with_reducible exact hq) | (with_reducible refine Below.drew ?_) | (with_reducible refine Below.alo ?_ _)))) (scans_lit (t := 55) (cs := #[.int .i64 1, .int .i64 0, .int .i64 0, .int .i64 6, .int .i64 1, .int .i64 1, .int .i64 1, .int .i64 6]) (xs := [⟨1, 0, 0, 6⟩, ⟨1, 1, 1, 6⟩]) (by repeat (first | (focus ((with_reducible refine Blk.new' _ _ _ ?_); (simp; done))) | (with_reducible exact Blk.new _ _ _) | (with_reducible refine Blk.drew ?_) | (with_reducible refine Blk.alloc ?_ _))) rfl rfl) (by omega)).mono ?_); rintro e u2 ⟨rfl, hv⟩; replace hq := below_call (a := w7) hv (by repeat (first | (with_reducible exact Below.refl _ _) | (with_reducible exact hq) | (with_reducible refine Below.drew ?_) | (with_reducible refine Below.alo ?_ _))); clear hv)))
 clear a0 a1 a2 a3 a4 a5 a6 a7 HK
 have HB8 := Lib.hid (HB7.out.trans (hq.mono HB7.out.size))
 have HA8 := Lib.hid (HA7.out.on hq)
 have HX8 := Lib.hid (HX7.out.below hq)
 have HQ8 := Lib.hid (HQ7.out.on hq)
 have HP1 := Lib.hid (parse1 u2 (HW.out.below HB8.out))
 clear hq HB7 HA7 HX7 HQ7 HS7 HR7 HJ7 HP7
 go_wp2_with fail
 refine HP1.out.mono ?_
 rintro e8 w8 ⟨rfl, hb⟩
 have hal := Below.alo hb (.cells #[.int .i64 12, .int .i64 0, .int .i64 3, .int .i64 4500] 55)
 have HB9 := Lib.hid (HB8.out.trans (hal.mono HB8.out.size))
 have HA9 := Lib.hid (HA8.out.on hal)
 have HX9 := Lib.hid (HX8.out.below hal)
 have HQ9 := Lib.hid (HQ8.out.on hal)
 have HY9 := Lib.hid (Blk.new w8 55 #[.int .i64 12, .int .i64 0, .int .i64 3, .int .i64 4500])
 have HP2 := Lib.hid (parse2 _ (HW.out.below HB9.out))
 clear hb hal HB8 HA8 HX8 HQ8 HP1
 go_wp2_with fail
 refine HP2.out.mono ?_
 rintro e9 w9 ⟨rfl, hb⟩
 have hal := Below.alo hb (.cells #[.int .i64 0, .int .i64 0, .int .i64 0, .int .i64 0] 55)
 have HB10 := Lib.hid (HB9.out.trans (hal.mono HB9.out.size))
 have HA10 := Lib.hid (HA9.out.on hal)
 have HX10 := Lib.hid (HX9.out.below hal)
 have HQ10 := Lib.hid (HQ9.out.on hal)
 have HY10 := Lib.hid (HY9.out.below hal)
 obtain ⟨x0, x1, x2, x3, x4, x5, x6, x7, x8⟩ := nine_box HX10.out
 obtain ⟨y0, y1, y2, y3⟩ := four_box HY10.out
 clear hb hal HB9 HA9 HX9 HQ9 HP2 HY9
 have hal := Below.alo (Below.refl (w9.alloc (.cells #[.int .i64 0, .int .i64 0, .int .i64 0, .int .i64 0] 55)).heap.size (w9.alloc (.cells #[.int .i64 0, .int .i64 0, .int .i64 0, .int .i64 0] 55))) (.cells #[.int .i64 0, .int .i64 1] 3)
 have HB11 := Lib.hid (HB10.out.trans (hal.mono HB10.out.size))
 have HA11 := Lib.hid (HA10.out.on hal)
 have HX11 := Lib.hid (HX10.out.below hal)
 have HY11 := Lib.hid (HY10.out.below hal)
 have HSI := Lib.hid (sameInts_true [0, 1] A2 2 c2 (some ⟨w9.heap.size + 1, 0, none⟩) 2 ((w9.alloc (.cells #[.int .i64 0, .int .i64 0, .int .i64 0, .int .i64 0] 55)).alloc (.cells #[.int .i64 0, .int .i64 1] 3)) (HQ10.out.on hal) (Sl.blk (t := 3) (cs := #[.int .i64 0, .int .i64 1]) (Blk.new' _ _ _ (by simp)) rfl rfl) (by omega))
 clear hal HB10 HA10 HX10 HQ10 HY10
 go_wp2_with fail
 refine HSI.out.mono ?_
 rintro e10 w10 ⟨rfl, hb⟩
 have HB12 := Lib.hid (HB11.out.trans (hb.mono HB11.out.size))
 have HA12 := Lib.hid (HA11.out.on hb)
 have HX12 := Lib.hid (HX11.out.below hb)
 have HY12 := Lib.hid (HY11.out.below hb)
 have HTX := Lib.hid (text1 w10 (HW.out.below HB12.out))
 clear x0 x1 x2 x3 x4 x5 x6 x7 x8 y0 y1 y2 y3 HB11 HA11 HX11 HY11 HSI hb
 obtain ⟨y0, y1, y2, y3⟩ := four_box HY12.out
 go_wp2_with fail
 refine HTX.out.mono ?_
 rintro e11 w11 ⟨rfl, hb⟩
 have HB13 := Lib.hid (HB12.out.trans (hb.mono HB12.out.size))
 have ha := HA12.out.on hb
 have hck := scanCheck_any exStyle F.Z F.z F.zc F.M F.m F.mc F.P F.p F.pc F.U F.u F.uc F.E F.e F.ec F.O F.o F.oc w11 ha.st ex_small F.L F.n F.c exBundles ha.bun ha.bcap F.V F.k F.kc exWorkers ha.wor ha.wcap ex_workers
 rw [ex_check] at hck
 have HCK := Lib.hid hck
 obtain ⟨x0, x1, x2, x3, x4, x5, x6, x7, x8⟩ := nine_box (HX12.out.below hb)
 clear hb ha hck HB12 HA12 HX12 HY12 HTX y0 y1 y2 y3
 go_wp2_with fail
 refine HCK.out.mono ?_
 rintro e12 w12 ⟨rfl, hb⟩
 have HB14 := Lib.hid (HB13.out.trans (hb.mono HB13.out.size))
 clear hb
 go_wp2_with fail
 go_ret
 exact ⟨rfl, HB14.out⟩
end
section
open Go.RowKit
open Go.Lib hiding intOf
theorem lightB_eq {s : PStyle} {k z m u e o p : Nat} (h0 : s.name.size = k) (h1 : s.sizes.length = z) (h2 : s.multiples.length = m) (h3 : s.uses.length = u) (h4 : s.seams.length = e) (h5 : s.ops.length = o) (h6 : s.pieces.length = p) :
  lightB s = (decide (k ≤ 100) && (decide (z ≤ 30) && (decide (m ≤ 30) && (decide (u ≤ 30) && (decide (e ≤ 30) && (decide (o ≤ 30) && (decide (p ≤ 14) &&
  (s.sizes.all (fun z : ByteArray => decide (z.size ≤ 100)) && s.pieces.all fun p => decide (p.name.size ≤ 100) && pieceL p)))))))) := by
 unfold lightB
 rw [h0, h1, h2, h3, h4, h5, h6]
set_option maxRecDepth 100000 in
set_option maxHeartbeats 12800000 in
theorem styleLight_any (s : PStyle) (Z : Option Addr) (z zc : Nat) (M : Option Addr) (m mc : Nat) (P : Option Addr) (p pc : Nat) (U : Option Addr) (u uc : Nat) (E : Option Addr) (e ec : Nat) (O : Option Addr) (o oc : Nat) (w : World) (h : StyleA w s Z z zc M m mc P p pc U u uc E e ec O o oc) :
  Calls Tryz.prog 15 #[.agg #[.string s.name, .slice Z z zc, .slice M m mc, .slice P p pc, .slice U u uc, .slice E e ec, .slice O o oc]] w fun e w' => e = .returned (.bool (lightB s)) ∧ Below w.heap.size w w' := by
 have HB : Hid (Below w.heap.size w (w.alloc (.cells #[.string s.name, .slice Z z zc, .slice M m mc, .slice P p pc, .slice U u uc, .slice E e ec, .slice O o oc] 29))) := (Below.refl _ _).alloc (Nat.le_refl _) _
 have HX := Lib.hid (Blk.new w 29 #[.string s.name, .slice Z z zc, .slice M m mc, .slice P p pc, .slice U u uc, .slice E e ec, .slice O o oc])
 obtain ⟨k0, hk0⟩ : ∃ k, s.name.size = k := ⟨_, rfl⟩
 have HQ := Lib.hid (lightB_eq hk0 h.sizes.slen h.mults.ilen h.uses.len h.seams.len h.ops.len h.pieces.len)
 have HSZ := Lib.hid h.sizes
 have HPC := Lib.hid h.pieces
 have HLN := Lib.hid (And.intro h.sizes.slen h.pieces.len)
 obtain ⟨R, hR⟩ : ∃ R, lightB s = R := ⟨_, rfl⟩
 rw [hR] at HQ ⊢
 clear h hR
 by_cases a0 : 100 < k0
 ·have HE : Hid (R = false) := by rw [Hid, HQ.out]; simp only [decide_eq_false (p := k0 ≤ 100) (by omega), Bool.false_and]
  go_enter Tryz.func15, Tryz.ntmps15
  go_wp2
  go_ret
  exact ⟨by rw [HE.out]; rfl, HB.out⟩
 by_cases az : 30 < z
 ·have HE : Hid (R = false) := by rw [Hid, HQ.out]; simp only [decide_eq_false (p := z ≤ 30) (by omega), Bool.false_and, Bool.and_false]
  go_enter Tryz.func15, Tryz.ntmps15
  go_wp2
  go_ret
  exact ⟨by rw [HE.out]; rfl, HB.out⟩
 by_cases am : 30 < m
 ·have HE : Hid (R = false) := by rw [Hid, HQ.out]; simp only [decide_eq_false (p := m ≤ 30) (by omega), Bool.false_and, Bool.and_false]
  go_enter Tryz.func15, Tryz.ntmps15
  go_wp2
  go_ret
  exact ⟨by rw [HE.out]; rfl, HB.out⟩
 by_cases au : 30 < u
 ·have HE : Hid (R = false) := by rw [Hid, HQ.out]; simp only [decide_eq_false (p := u ≤ 30) (by omega), Bool.false_and, Bool.and_false]
  go_enter Tryz.func15, Tryz.ntmps15
  go_wp2
  go_ret
  exact ⟨by rw [HE.out]; rfl, HB.out⟩
 by_cases ae : 30 < e
 ·have HE : Hid (R = false) := by rw [Hid, HQ.out]; simp only [decide_eq_false (p := e ≤ 30) (by omega), Bool.false_and, Bool.and_false]
  go_enter Tryz.func15, Tryz.ntmps15
  go_wp2
  go_ret
  exact ⟨by rw [HE.out]; rfl, HB.out⟩
 by_cases ao : 30 < o
 ·have HE : Hid (R = false) := by rw [Hid, HQ.out]; simp only [decide_eq_false (p := o ≤ 30) (by omega), Bool.false_and, Bool.and_false]
  go_enter Tryz.func15, Tryz.ntmps15
  go_wp2
  go_ret
  exact ⟨by rw [HE.out]; rfl, HB.out⟩
 by_cases ap : 14 < p
 ·have HE : Hid (R = false) := by rw [Hid, HQ.out]; simp only [decide_eq_false (p := p ≤ 14) (by omega), Bool.false_and, Bool.and_false]
  go_enter Tryz.func15, Tryz.ntmps15
  go_wp2
  go_ret
  exact ⟨by rw [HE.out]; rfl, HB.out⟩
 have HQ2 : Hid (R = (s.sizes.all (fun z : ByteArray => decide (z.size ≤ 100)) && s.pieces.all fun p => decide (p.name.size ≤ 100) && pieceL p)) := by
  rw [Hid, HQ.out, decide_eq_true (by omega), decide_eq_true (by omega), decide_eq_true (by omega), decide_eq_true (by omega), decide_eq_true (by omega), decide_eq_true (by omega), decide_eq_true (by omega)]
  rfl
 clear HQ
 go_enter Tryz.func15, Tryz.ntmps15
 go_wp2
 go_loop [3] (fun i => ∃ k : Nat, k ≤ z ∧ i = .int .i64 (k : Int) ∧ Hid (∀ (j : Nat) (x : ByteArray), j < k → s.sizes[j]? = some x → decide (x.size ≤ 100) = true)) (fun i => z - (intOf i).toNat)
 case atStart => exact ⟨0, Nat.zero_le _, rfl, fun j x hj => by omega⟩
 case round =>
  obtain ⟨k, hk, rfl, hall⟩ := hrel
  by_cases hlt : k < z
  ·obtain ⟨b, off, x, rfl, hbw, hx, c0⟩ := HSZ.out.str_ hlt
   replace c0 := (HB.out.cell (p := ⟨b, off + k, none⟩) hbw).trans c0
   have HXX := Lib.hid hx
   obtain ⟨q, hq⟩ : ∃ m, x.size = m := ⟨_, rfl⟩
   have HM := Lib.hid hq
   have i1 : (0 : Int) ≤ (k : Int) := by omega
   have i2 : (k : Int) < (z : Int) := by omega
   clear hx
   by_cases e1 : 100 < q
   ·have HE : Hid (R = false) := by
     rw [Hid, HQ2.out, all_no HXX.out (by rw [HM.out, decide_eq_false (by omega)]), Bool.false_and]
    go_wp2_with fail
    go_ret
    exact ⟨by rw [HE.out]; rfl, HB.out⟩
   have HE : Hid (∀ (j : Nat) (x : ByteArray), j < k + 1 → s.sizes[j]? = some x → decide (x.size ≤ 100) = true) := fun j y hj hy => by
    by_cases e : j = k
    ·subst e
     rw [HXX.out] at hy
     rw [← Option.some.inj hy, HM.out, decide_eq_true (by omega)]
    ·exact hall.out j y (by omega) hy
   go_wp2_with fail
   go_round
   case rel => exact ⟨k + 1, by omega, by go_num, HE⟩
   case measure => simp [intOf]; omega
  ·obtain rfl : z = k := by omega
   have HQ3 : Hid (R = s.pieces.all fun p => decide (p.name.size ≤ 100) && pieceL p) := by
    rw [Hid, HQ2.out, all_yes (f := fun z : ByteArray => decide (z.size ≤ 100)) (fun j x hx => hall.out j x (by rw [← HLN.out.1]; exact (List.getElem?_eq_some_iff.1 hx).1) hx), Bool.true_and]
   clear hall hk hlt HQ2
   go_wp2_with fail
   go_loopw [4] (fun i wr => ∃ k : Nat, k ≤ p ∧ i = .int .i64 (k : Int) ∧ Hid (∀ (j : Nat) (x : PPiece), j < k → s.pieces[j]? = some x → (decide (x.name.size ≤ 100) && pieceL x) = true) ∧ Hid (Below (w.alloc (.cells #[.string s.name, .slice Z z zc, .slice M m mc, .slice P p pc, .slice U u uc, .slice E e ec, .slice O o oc] 29)).heap.size (w.alloc (.cells #[.string s.name, .slice Z z zc, .slice M m mc, .slice P p pc, .slice U u uc, .slice E e ec, .slice O o oc] 29)) wr)) (fun i _ => p - (intOf i).toNat)
   case atStart => exact ⟨0, Nat.zero_le _, rfl, (fun j x hj => by omega), Below.refl _ _⟩
   case round =>
    obtain ⟨k, hk, rfl, hall, HBL⟩ := hrel
    have HBV := Lib.hid (HB.out.trans (HBL.out.mono HB.out.size))
    obtain ⟨x0, x1, x2, x3, x4, x5, x6⟩ := seven (HX.out.below HBL.out)
    by_cases hlt : k < p
    ·obtain ⟨b, off, x, E', en, ec', N, nn, nc, C, cn, cc, D, dn, dc, rfl, hbw, hx, c0, c1, c2, c3, c4, c5, c6, r1, r2, r3, r4, r5, r6, r7, r8⟩ := piece_cells (HPC.out.on piece_mono HBV.out) hlt
     have HXX := Lib.hid hx
     have HLT := pieceLight_any x E' en ec' N nn nc C cn cc D dn dc wr r1 r3.len r5.len r7.ilen
     obtain ⟨V, hV⟩ : ∃ V, pieceL x = V := ⟨_, rfl⟩
     rw [hV] at HLT
     have HV := Lib.hid hV
     have HLT := Lib.hid HLT
     obtain ⟨q, hq⟩ : ∃ m, x.name.size = m := ⟨_, rfl⟩
     have HM := Lib.hid hq
     have i1 : (0 : Int) ≤ (k : Int) := by omega
     have i2 : (k : Int) < (p : Int) := by omega
     clear hx r1 r3 r5 r7 hV
     by_cases e1 : 100 < q
     ·have HE : Hid (R = false) := by
       rw [Hid, HQ3.out, all_no HXX.out (by rw [HM.out, decide_eq_false (by omega)]; rfl)]
      go_wp2_with fail
      go_ret
      exact ⟨by rw [HE.out]; rfl, HBV.out⟩
     cases V
     ·have HE : Hid (R = false) := by
       rw [Hid, HQ3.out, all_no HXX.out (by rw [HV.out, Bool.and_false])]
      go_wp2_with fail
      refine HLT.out.mono ?_
      rintro e2 w2 ⟨rfl, hb2⟩
      have HB2 := Lib.hid (HBV.out.trans (hb2.mono HBV.out.size))
      clear hb2
      go_wp2_with fail
      go_ret
      exact ⟨by rw [HE.out]; rfl, HB2.out⟩
     ·have HE : Hid (∀ (j : Nat) (x : PPiece), j < k + 1 → s.pieces[j]? = some x → (decide (x.name.size ≤ 100) && pieceL x) = true) := fun j y hj hy => by
       by_cases e : j = k
       ·subst e
        rw [HXX.out] at hy
        rw [← Option.some.inj hy, HM.out, HV.out, decide_eq_true (by omega)]
        rfl
       ·exact hall.out j y (by omega) hy
      go_wp2_with fail
      refine HLT.out.mono ?_
      rintro e2 w2 ⟨rfl, hb2⟩
      have HB2 := Lib.hid (HBL.out.trans (hb2.mono HBL.out.size))
      clear hb2
      go_wp2_with fail
      go_roundw
      case rel => exact ⟨k + 1, by omega, by go_num, HE, HB2⟩
      case measure => simp [intOf]; omega
    ·obtain rfl : p = k := by omega
     have HE : Hid (R = true) := by
      rw [Hid, HQ3.out]
      exact all_yes fun j x hx => hall.out j x (by rw [← HLN.out.2]; exact (List.getElem?_eq_some_iff.1 hx).1) hx
     go_wp2_with fail
     go_ret
     exact ⟨by rw [HE.out]; rfl, HBV.out⟩
set_option maxRecDepth 100000 in
set_option maxHeartbeats 12800000 in
theorem few_any (F : FH) (s : PStyle) (bs : List PBundle) (ws : List PWorker) (X : Option Addr) (n xc : Nat) (w : World) (h : FloorA w s bs ws F) :
  Calls Tryz.prog 5 #[.agg #[.string s.name, .slice F.Z F.z F.zc, .slice F.M F.m F.mc, .slice F.P F.p F.pc, .slice F.U F.u F.uc, .slice F.E F.e F.ec, .slice F.O F.o F.oc, .slice F.L F.n F.c, .slice F.V F.k F.kc], .slice X n xc] w fun e w' => e = .returned (.bool (fewB s bs ws n)) ∧ Below w.heap.size w w' := by
 have HB : Hid (Below w.heap.size w (w.alloc (.cells #[.string s.name, .slice F.Z F.z F.zc, .slice F.M F.m F.mc, .slice F.P F.p F.pc, .slice F.U F.u F.uc, .slice F.E F.e F.ec, .slice F.O F.o F.oc, .slice F.L F.n F.c, .slice F.V F.k F.kc] 33))) := (Below.refl _ _).alloc (Nat.le_refl _) _
 have HX := Lib.hid (Blk.new w 33 #[.string s.name, .slice F.Z F.z F.zc, .slice F.M F.m F.mc, .slice F.P F.p F.pc, .slice F.U F.u F.uc, .slice F.E F.e F.ec, .slice F.O F.o F.oc, .slice F.L F.n F.c, .slice F.V F.k F.kc])
 have h1 := h.on HB.out
 have HL := styleLight_any s F.Z F.z F.zc F.M F.m F.mc F.P F.p F.pc F.U F.u F.uc F.E F.e F.ec F.O F.o F.oc _ h1.st
 have HA := Lib.hid h1
 have HQ : Hid (fewB s bs ws n = (lightB s && (fewO s.ops && (decide (F.n ≤ 70) && (fewW ws && decide (n ≤ 310)))))) := by
  unfold fewB
  rw [Hid, h.bun.len]
 obtain ⟨R, hR⟩ : ∃ R, fewB s bs ws n = R := ⟨_, rfl⟩
 obtain ⟨b1, e1⟩ : ∃ b, lightB s = b := ⟨_, rfl⟩
 obtain ⟨b2, e2⟩ : ∃ b, fewO s.ops = b := ⟨_, rfl⟩
 obtain ⟨b3, e3⟩ : ∃ b, fewW ws = b := ⟨_, rfl⟩
 rw [hR, e1, e2, e3] at HQ
 rw [e1] at HL
 rw [hR]
 have HO := Lib.hid (fun W (hr : Recs 5 opG W F.O F.o s.ops) => fewO_any F.O F.o F.oc s.ops W hr)
 have HW := Lib.hid (fun W (hr : Recs 2 workerG W F.V F.k ws) => fewW_any F.V F.k F.kc ws W hr)
 rw [e2] at HO
 rw [e3] at HW
 have HL := Lib.hid HL
 clear h h1 e1 e2 e3 hR
 cases b1
 ·have HE : Hid (R = false) := HQ.out
  go_enter Tryz.func5, Tryz.ntmps5
  go_wp2_with fail
  refine HL.out.mono ?_
  rintro e w1 ⟨rfl, hb⟩
  have HB1 := Lib.hid (HB.out.trans (hb.mono HB.out.size))
  clear hb
  go_wp2_with fail
  go_ret
  exact ⟨by rw [HE.out]; rfl, HB1.out⟩
 cases b2
 ·have HE : Hid (R = false) := HQ.out
  go_enter Tryz.func5, Tryz.ntmps5
  go_wp2_with fail
  refine HL.out.mono ?_
  rintro e w1 ⟨rfl, hb⟩
  have HB1 := Lib.hid (HB.out.trans (hb.mono HB.out.size))
  have HO1 := Lib.hid (HO.out w1 (HA.out.on hb).st.ops)
  obtain ⟨x0, x1, x2, x3, x4, x5, x6, x7, x8⟩ := nine_box (HX.out.below hb)
  clear hb
  go_wp2_with fail
  refine HO1.out.mono ?_
  rintro e w2 ⟨rfl, rfl⟩
  go_wp2_with fail
  go_ret
  exact ⟨by rw [HE.out]; rfl, HB1.out⟩
 by_cases a3 : F.n ≤ 70
 ·cases b3
  ·have HE : Hid (R = false) := by rw [Hid, HQ.out]; simp
   go_enter Tryz.func5, Tryz.ntmps5
   go_wp2_with fail
   refine HL.out.mono ?_
   rintro e w1 ⟨rfl, hb⟩
   have HB1 := Lib.hid (HB.out.trans (hb.mono HB.out.size))
   have HO1 := Lib.hid (HO.out w1 (HA.out.on hb).st.ops)
   have HW1 := Lib.hid (HW.out w1 (HA.out.on hb).wor)
   obtain ⟨x0, x1, x2, x3, x4, x5, x6, x7, x8⟩ := nine_box (HX.out.below hb)
   clear hb
   go_wp2_with (first | (go_at_call 16; refine HO1.out.mono ?_; rintro e w2 ⟨rfl, rfl⟩) | (go_at_call 17; refine HW1.out.mono ?_; rintro e w3 ⟨rfl, rfl⟩))
   go_ret
   exact ⟨by rw [HE.out]; rfl, HB1.out⟩
  ·have HE : Hid (R = decide (n ≤ 310)) := by rw [Hid, HQ.out, decide_eq_true a3]; rfl
   go_enter Tryz.func5, Tryz.ntmps5
   go_wp2_with fail
   refine HL.out.mono ?_
   rintro e w1 ⟨rfl, hb⟩
   have HB1 := Lib.hid (HB.out.trans (hb.mono HB.out.size))
   have HO1 := Lib.hid (HO.out w1 (HA.out.on hb).st.ops)
   have HW1 := Lib.hid (HW.out w1 (HA.out.on hb).wor)
   obtain ⟨x0, x1, x2, x3, x4, x5, x6, x7, x8⟩ := nine_box (HX.out.below hb)
   clear hb
   go_wp2_with (first | (go_at_call 16; refine HO1.out.mono ?_; rintro e w2 ⟨rfl, rfl⟩) | (go_at_call 17; refine HW1.out.mono ?_; rintro e w3 ⟨rfl, rfl⟩))
   go_ret
   refine ⟨?_, HB1.out⟩
   rw [HE.out]
   by_cases a5 : n ≤ 310
   ·simp [a5]; omega
   ·simp [a5]; omega
 ·have HE : Hid (R = false) := by rw [Hid, HQ.out, decide_eq_false a3]; rfl
  go_enter Tryz.func5, Tryz.ntmps5
  go_wp2_with fail
  refine HL.out.mono ?_
  rintro e w1 ⟨rfl, hb⟩
  have HB1 := Lib.hid (HB.out.trans (hb.mono HB.out.size))
  have HO1 := Lib.hid (HO.out w1 (HA.out.on hb).st.ops)
  obtain ⟨x0, x1, x2, x3, x4, x5, x6, x7, x8⟩ := nine_box (HX.out.below hb)
  clear hb
  go_wp2_with (go_at_call 16; refine HO1.out.mono ?_; rintro e w2 ⟨rfl, rfl⟩)
  go_ret
  exact ⟨by rw [HE.out]; rfl, HB1.out⟩
end
section
open Go.RowKit
open Go.Lib hiding intOf
def RetLaw (w : World) (e : Ending) (w' : World) : Prop := e = .returned (.bool true) ∧ Below w.heap.size w w'
theorem Sl.take_ {w : World} {B n k : Nat} {A : Option Addr} {xs : List Value} (h : Sl w B A n xs) (hk : k ≤ n) : Sl w B A k (xs.take k) := by
 refine ⟨by rw [List.length_take, h.len]; omega, fun h0 => ?_⟩
 obtain ⟨b, off, e, hb, hc⟩ := h.2 (by omega)
 refine ⟨b, off, e, hb, fun j u hu => hc j u ?_⟩
 rw [List.getElem?_take] at hu
 split at hu
 ·exact hu
 ·cases hu
theorem ints_take (xs : List Int) (k : Nat) : ints (xs.take k) = (ints xs).take k := by
 unfold ints
 rw [List.map_take]
end
end Go.Proofs.YtiibocdmlfedkaaGreatDoor
