/- Parts of the proof. -/
import Derived.Test.YtiibocdmlfedkaaGreatDoorH07
import Derived.Test.YtiibocdmlfedkaaGreatDoorH17
namespace Go.Proofs.YtiibocdmlfedkaaGreatDoor
section
open Go.RowKit
theorem RatA.zero (w : World) : RatA w (.agg #[.bool false, .slice none 0 0, .slice none 0 0]) 1 0 :=
 ⟨false, none, 0, 0, none, 0, 0, 0, 0, rfl, NatA.nil w none 0, NatA.nil w none 0, by omega, by omega, by rw [rv_zero]⟩
theorem operands_two (w : World) : Calls Tryz.prog 140 #[.int .i64 2] w fun e w' => e = .returned (.tuple #[.int .i64 0, .int .i64 0]) ∧ w = w' := by
 go_enter Tryz.func140, Tryz.ntmps140
 go_wp2
 go_ret2
 exact ⟨rfl, rfl⟩
def nameNode (s : ByteArray) : Value := .agg #[.int .i64 2, .bool false, .slice none 0 0, .slice none 0 0, .string s, .slice none 0 0]
def nodeW (w : World) (s : ByteArray) : World := w.alloc (.cells #[.int .i64 2, .bool false, .slice none 0 0, .slice none 0 0, .string s, .slice none 0 0] 128)
theorem nodeB (w : World) (s : ByteArray) : Below w.heap.size w (nodeW w s) := (Below.refl _ _).alloc (Nat.le_refl _) _
set_option maxRecDepth 100000 in
set_option maxHeartbeats 1600000 in
theorem right_name (s : ByteArray) (w : World) (hs : s.size ≤ 9223372036854775807) :
  Calls Tryz.prog 115 #[nameNode s] w fun e w' => e = .returned (.bool (nameOk s.data.toList)) ∧ Below w.heap.size w w' := by
 unfold nameNode
 have HN := fun W => isName_any s W hs
 have HB := Lib.hid (nodeB w s)
 cases hn : nameOk s.data.toList
 ·simp only [hn] at HN
  have HN := Lib.hid HN
  clear hn
  go_enter Tryz.func115, Tryz.ntmps115
  go_wp2_with (first
   | (go_at_call 140; refine (operands_two _).mono ?_; rintro e w' ⟨rfl, rfl⟩)
   | (go_at_call 141; refine (HN.out _).mono ?_; rintro e w' ⟨rfl, rfl⟩))
  go_ret
  exact ⟨rfl, HB.out⟩
 ·simp only [hn] at HN
  have HN := Lib.hid HN
  clear hn
  go_enter Tryz.func115, Tryz.ntmps115
  go_wp2_with (first
   | (go_at_call 140; refine (operands_two _).mono ?_; rintro e w' ⟨rfl, rfl⟩)
   | (go_at_call 141; refine (HN.out _).mono ?_; rintro e w' ⟨rfl, rfl⟩)
   | (go_at_call 143; refine (rcmp_any _ _ 1 1 0 0 _ (RatA.zero _) (RatA.zero _) (by omega) (by omega) (by omega) (by omega)).mono ?_; rintro e w' ⟨c, rfl, hc, hb⟩; obtain rfl : c = 0 := hc.2 rfl))
  go_ret
  exact ⟨rfl, HB.out.trans (hb.mono HB.out.size)⟩
set_option maxRecDepth 100000 in
set_option maxHeartbeats 1600000 in
theorem check_name (s : ByteArray) (w : World) (hs : s.size ≤ 9223372036854775807) :
  Calls Tryz.prog 80 #[nameNode s, .int .i64 1] w fun e w' => e = .returned (.int .i64 (if nameOk s.data.toList = true then 0 else 1)) ∧ Below w.heap.size w w' := by
 have HN := fun W => right_name s W hs
 unfold nameNode at HN ⊢
 have HB := Lib.hid (nodeB w s)
 cases hn : nameOk s.data.toList
 ·simp only [hn] at HN
  have HN := Lib.hid HN
  clear hn
  go_enter Tryz.func80, Tryz.ntmps80
  go_wp2_with (go_at_call 115; refine (HN.out _).mono ?_; rintro e w' ⟨rfl, hb⟩)
  go_ret
  exact ⟨rfl, HB.out.trans (hb.mono HB.out.size)⟩
 ·simp only [hn] at HN
  have HN := Lib.hid HN
  have X0 : Blk (nodeW w s) w.heap.size 128 #[.int .i64 2, .bool false, .slice none 0 0, .slice none 0 0, .string s, .slice none 0 0] := Blk.new w _ _
  have HX := Lib.hid X0
  clear hn X0
  go_enter Tryz.func80, Tryz.ntmps80
  go_wp2_with (go_at_call 115; refine (HN.out _).mono ?_; rintro e w' ⟨rfl, hb⟩; have X1 := (HX.out.below hb).c (i := 5) rfl)
  go_loop [16] (fun i => i = .int .i64 0) (fun _ => 0)
  case atStart => exact rfl
  case round =>
   subst hrel
   go_wp2
   go_ret
   exact ⟨rfl, HB.out.trans (hb.mono HB.out.size)⟩
theorem Check_name (s : ByteArray) (w : World) (hs : s.size ≤ 9223372036854775807) :
  Calls Tryz.prog 54 #[nameNode s] w fun e w' => e = .returned (.int .i64 (if nameOk s.data.toList = true then 0 else 1)) ∧ Below w.heap.size w w' := by
 have HN := fun W => check_name s W hs
 have HB := Lib.hid (nodeB w s)
 unfold nameNode at HN ⊢
 generalize (if nameOk s.data.toList = true then (0 : Int) else 1) = z at HN ⊢
 have HN := Lib.hid HN
 go_enter Tryz.func54, Tryz.ntmps54
 go_wp2_with (go_at_call 80; refine (HN.out _).mono ?_; rintro e w' ⟨rfl, hb⟩)
 go_ret
 exact ⟨rfl, HB.out.trans (hb.mono HB.out.size)⟩
theorem cname_any (s : ByteArray) (w : World) (hs : s.size ≤ 9223372036854775807) :
  Calls Tryz.prog 155 #[.string s] w fun e w' => e = .returned (.bool (nameOk s.data.toList)) ∧ Below w.heap.size w w' := by
 have HN := fun W => Check_name s W hs
 unfold nameNode at HN
 cases hn : nameOk s.data.toList
 ·simp only [hn] at HN
  have HN := Lib.hid HN
  clear hn
  go_enter Tryz.func155, Tryz.ntmps155
  go_wp2_with (go_at_call 54; refine (HN.out _).mono ?_; rintro e w' ⟨rfl, hb⟩)
  go_ret
  exact ⟨rfl, hb⟩
 ·simp only [hn] at HN
  have HN := Lib.hid HN
  clear hn
  go_enter Tryz.func155, Tryz.ntmps155
  go_wp2_with (go_at_call 54; refine (HN.out _).mono ?_; rintro e w' ⟨rfl, hb⟩)
  go_ret
  exact ⟨rfl, hb⟩
end
section
open Go.RowKit
def RatsA (w : World) (A : Option Addr) (n k : Nat) (qs : List Rat) : Prop :=
 qs.length = n ∧ (0 < n → ∃ b off, A = some ⟨b, off, none⟩ ∧ b < w.heap.size ∧ ∀ j q, qs[j]? = some q →
  ∃ neg B m c C l d, w.cell? ⟨b, off + j * 3, none⟩ = some (.bool neg) ∧ w.cell? ⟨b, off + j * 3 + 1, none⟩ = some (.slice B m c) ∧ w.cell? ⟨b, off + j * 3 + 2, none⟩ = some (.slice C l d) ∧ RatA w (.agg #[.bool neg, .slice B m c, .slice C l d]) k q)
def RowA (w : World) (v : Value) (k : Nat) (r : PRow) : Prop :=
 ∃ neg B m c C l d S sn sc, v = .agg #[.string r.name, .bool neg, .slice B m c, .slice C l d, .slice S sn sc] ∧ RatA w (.agg #[.bool neg, .slice B m c, .slice C l d]) k r.base ∧ RatsA w S sn k r.steps ∧ sn ≤ sc
def RowsA (w : World) (A : Option Addr) (n k : Nat) (rs : List PRow) : Prop :=
 rs.length = n ∧ (0 < n → ∃ b off, A = some ⟨b, off, none⟩ ∧ b < w.heap.size ∧ ∀ j r, rs[j]? = some r →
  ∃ neg B m c C l d S sn sc, w.cell? ⟨b, off + j * 5, none⟩ = some (.string r.name) ∧ w.cell? ⟨b, off + j * 5 + 1, none⟩ = some (.bool neg) ∧ w.cell? ⟨b, off + j * 5 + 2, none⟩ = some (.slice B m c) ∧ w.cell? ⟨b, off + j * 5 + 3, none⟩ = some (.slice C l d) ∧ w.cell? ⟨b, off + j * 5 + 4, none⟩ = some (.slice S sn sc) ∧
   RatA w (.agg #[.bool neg, .slice B m c, .slice C l d]) k r.base ∧ RatsA w S sn k r.steps ∧ sn ≤ sc)
def ChartA (w : World) (S : Option Addr) (n : Nat) (R : Option Addr) (m k : Nat) (ch : PChart) : Prop :=
 Sl w w.heap.size S n (strs ch.sizes) ∧ RowsA w R m k ch.rows
section
variable {w w' : World} {A : Option Addr} {n k : Nat}
theorem RatsA.len {qs : List Rat} (h : RatsA w A n k qs) : qs.length = n := h.1
theorem RowsA.len {rs : List PRow} (h : RowsA w A n k rs) : rs.length = n := h.1
theorem RatsA.on {qs : List Rat} (h : RatsA w A n k qs) (hb : Below w.heap.size w w') : RatsA w' A n k qs :=
 ⟨h.1, fun hn => by
  obtain ⟨b, off, e, hlt, hc⟩ := h.2 hn
  refine ⟨b, off, e, Nat.lt_of_lt_of_le hlt hb.size, fun j q hq => ?_⟩
  obtain ⟨neg, B, m, c, C, l, d, h0, h1, h2, h3⟩ := hc j q hq
  exact ⟨neg, B, m, c, C, l, d, (hb.cell (p := ⟨b, off + j * 3, none⟩) hlt).trans h0, (hb.cell (p := ⟨b, off + j * 3 + 1, none⟩) hlt).trans h1, (hb.cell (p := ⟨b, off + j * 3 + 2, none⟩) hlt).trans h2, h3.on hb⟩⟩
theorem RowsA.on {rs : List PRow} (h : RowsA w A n k rs) (hb : Below w.heap.size w w') : RowsA w' A n k rs :=
 ⟨h.1, fun hn => by
  obtain ⟨b, off, e, hlt, hc⟩ := h.2 hn
  refine ⟨b, off, e, Nat.lt_of_lt_of_le hlt hb.size, fun j r hr => ?_⟩
  obtain ⟨neg, B, m, c, C, l, d, S, sn, sc, h0, h1, h2, h3, h4, h5, h6, h7⟩ := hc j r hr
  exact ⟨neg, B, m, c, C, l, d, S, sn, sc, (hb.cell (p := ⟨b, off + j * 5, none⟩) hlt).trans h0, (hb.cell (p := ⟨b, off + j * 5 + 1, none⟩) hlt).trans h1, (hb.cell (p := ⟨b, off + j * 5 + 2, none⟩) hlt).trans h2, (hb.cell (p := ⟨b, off + j * 5 + 3, none⟩) hlt).trans h3, (hb.cell (p := ⟨b, off + j * 5 + 4, none⟩) hlt).trans h4, h5.on hb, h6.on hb, h7⟩⟩
theorem RowA.on {v : Value} {r : PRow} (h : RowA w v k r) (hb : Below w.heap.size w w') : RowA w' v k r := by
 obtain ⟨neg, B, m, c, C, l, d, S, sn, sc, h0, h1, h2, h3⟩ := h
 exact ⟨neg, B, m, c, C, l, d, S, sn, sc, h0, h1.on hb, h2.on hb, h3⟩
theorem ChartA.on {S R : Option Addr} {m : Nat} {ch : PChart} (h : ChartA w S n R m k ch) (hb : Below w.heap.size w w') : ChartA w' S n R m k ch := ⟨h.1.on hb, h.2.on hb⟩
theorem RatsA.nil (w : World) (A : Option Addr) (k : Nat) : RatsA w A 0 k [] := ⟨rfl, fun h => absurd h (by omega)⟩
theorem RowsA.nil (w : World) (A : Option Addr) (k : Nat) : RowsA w A 0 k [] := ⟨rfl, fun h => absurd h (by omega)⟩
theorem RatsA.at_ {qs : List Rat} (h : RatsA w A n k qs) {j : Nat} (hj : j < n) : ∃ b off q neg B m c C l d, A = some ⟨b, off, none⟩ ∧ b < w.heap.size ∧ qs[j]? = some q ∧ w.cell? ⟨b, off + j * 3, none⟩ = some (.bool neg) ∧ w.cell? ⟨b, off + j * 3 + 1, none⟩ = some (.slice B m c) ∧ w.cell? ⟨b, off + j * 3 + 2, none⟩ = some (.slice C l d) ∧ RatA w (.agg #[.bool neg, .slice B m c, .slice C l d]) k q := by
 obtain ⟨b, off, e, hlt, hc⟩ := h.2 (by omega)
 have hl : j < qs.length := by rw [h.1]; exact hj
 obtain ⟨neg, B, m, c, C, l, d, hh⟩ := hc j _ (List.getElem?_eq_getElem hl)
 exact ⟨b, off, _, neg, B, m, c, C, l, d, e, hlt, List.getElem?_eq_getElem hl, hh⟩
theorem RowsA.at_ {rs : List PRow} (h : RowsA w A n k rs) {j : Nat} (hj : j < n) : ∃ b off r neg B m c C l d S sn sc, A = some ⟨b, off, none⟩ ∧ b < w.heap.size ∧ rs[j]? = some r ∧ w.cell? ⟨b, off + j * 5, none⟩ = some (.string r.name) ∧ w.cell? ⟨b, off + j * 5 + 1, none⟩ = some (.bool neg) ∧ w.cell? ⟨b, off + j * 5 + 2, none⟩ = some (.slice B m c) ∧ w.cell? ⟨b, off + j * 5 + 3, none⟩ = some (.slice C l d) ∧ w.cell? ⟨b, off + j * 5 + 4, none⟩ = some (.slice S sn sc) ∧
   RatA w (.agg #[.bool neg, .slice B m c, .slice C l d]) k r.base ∧ RatsA w S sn k r.steps ∧ sn ≤ sc := by
 obtain ⟨b, off, e, hlt, hc⟩ := h.2 (by omega)
 have hl : j < rs.length := by rw [h.1]; exact hj
 obtain ⟨neg, B, m, c, C, l, d, S, sn, sc, hh⟩ := hc j _ (List.getElem?_eq_getElem hl)
 exact ⟨b, off, _, neg, B, m, c, C, l, d, S, sn, sc, e, hlt, List.getElem?_eq_getElem hl, hh⟩
theorem RowsA.take {rs : List PRow} (h : RowsA w A n k rs) {i : Nat} (hi : i ≤ n) : RowsA w A i k (rs.take i) := by
 refine ⟨by rw [List.length_take, h.1]; omega, fun h0 => ?_⟩
 obtain ⟨b, off, e, hlt, hc⟩ := h.2 (by omega)
 refine ⟨b, off, e, hlt, fun j r hr => hc j r ?_⟩
 rw [List.getElem?_take] at hr
 split at hr
 ·exact hr
 ·cases hr
theorem Sl.take {xs : List Value} {B : Nat} (h : Sl w B A n xs) {i : Nat} (hi : i ≤ n) : Sl w B A i (xs.take i) := by
 refine ⟨by rw [List.length_take, h.1]; omega, fun h0 => ?_⟩
 obtain ⟨b, off, e, hlt, hc⟩ := h.2 (by omega)
 refine ⟨b, off, e, hlt, fun j u hu => hc j u ?_⟩
 rw [List.getElem?_take] at hu
 split at hu
 ·exact hu
 ·cases hu
theorem RatA.mono {v : Value} {j : Nat} {q : Rat} (h : RatA w v j q) (hk : j ≤ k) : RatA w v k q := by
 obtain ⟨neg, A, n, c, B, m, d, x, y, h1, h2, h3, h4, h5, h6⟩ := h
 exact ⟨neg, A, n, c, B, m, d, x, y, h1, h2, h3, by omega, by omega, h6⟩
theorem RatsA.mono {qs : List Rat} {j : Nat} (h : RatsA w A n j qs) (hk : j ≤ k) : RatsA w A n k qs :=
 ⟨h.1, fun hn => by
  obtain ⟨b, off, e, hlt, hc⟩ := h.2 hn
  refine ⟨b, off, e, hlt, fun i q hq => ?_⟩
  obtain ⟨neg, B, m, c, C, l, d, h0, h1, h2, h3⟩ := hc i q hq
  exact ⟨neg, B, m, c, C, l, d, h0, h1, h2, h3.mono hk⟩⟩
theorem RowsA.mono {rs : List PRow} {j : Nat} (h : RowsA w A n j rs) (hk : j ≤ k) : RowsA w A n k rs :=
 ⟨h.1, fun hn => by
  obtain ⟨b, off, e, hlt, hc⟩ := h.2 hn
  refine ⟨b, off, e, hlt, fun i r hr => ?_⟩
  obtain ⟨neg, B, m, c, C, l, d, S, sn, sc, h0, h1, h2, h3, h4, h5, h6, h7⟩ := hc i r hr
  exact ⟨neg, B, m, c, C, l, d, S, sn, sc, h0, h1, h2, h3, h4, h5.mono hk, h6.mono hk, h7⟩⟩
end
end
end Go.Proofs.YtiibocdmlfedkaaGreatDoor
