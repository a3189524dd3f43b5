/- Parts of the proof. -/
import Derived.Test.YtiibocdmlfedkaaGreatDoorH32
import Derived.Test.YtiibocdmlfedkaaGreatDoorH41
namespace Go.Proofs.YtiibocdmlfedkaaGreatDoor
section
open Go.RowKit
open Go.Lib hiding intOf
theorem side_recs {w : World} {g : Nat} {t : TypeId} {a b : Pt} (h : Blk w g t #[.int .i64 a.1, .int .i64 a.2, .int .i64 b.1, .int .i64 b.2]) : Recs 2 spotG w (some ⟨g, 0, none⟩) 2 [a, b] := by
 refine ⟨rfl, fun _ => ⟨g, 0, rfl, h.lt, fun j x hx => ?_⟩⟩
 match j, hx with
 | 0, hx =>
  obtain rfl : a = x := by simpa using hx
  refine ⟨_, rfl, fun i u hu => ?_⟩
  match i, hu with
  | 0, hu => obtain rfl : Value.int .i64 a.1 = u := (by simpa using hu); exact h.c rfl
  | 1, hu => obtain rfl : Value.int .i64 a.2 = u := (by simpa using hu); exact h.c rfl
  | i + 2, hu => simp at hu
 | 1, hx =>
  obtain rfl : b = x := by simpa using hx
  refine ⟨_, rfl, fun i u hu => ?_⟩
  match i, hu with
  | 0, hu => obtain rfl : Value.int .i64 b.1 = u := (by simpa using hu); exact h.c rfl
  | 1, hu => obtain rfl : Value.int .i64 b.2 = u := (by simpa using hu); exact h.c rfl
  | i + 2, hu => simp at hu
 | j + 2, hx => simp at hx
set_option maxRecDepth 100000 in
set_option maxHeartbeats 6400000 in
theorem side_any (nm : ByteArray) (a b : Pt) (w : World) :
  Calls Tryz.prog 30 #[.string nm, .agg #[.int .i64 a.1, .int .i64 a.2], .agg #[.int .i64 b.1, .int .i64 b.2]] w fun e w' => ∃ g, e = .returned (.agg #[.string nm, .slice (some ⟨g, 0, none⟩) 2 2]) ∧ w.heap.size ≤ g ∧ Blk w' g 74 #[.int .i64 a.1, .int .i64 a.2, .int .i64 b.1, .int .i64 b.2] ∧ Below w.heap.size w w' := by
 obtain ⟨a1, a2⟩ := a
 obtain ⟨b1, b2⟩ := b
 simp only
 go_enter Tryz.func30, Tryz.ntmps30
 go_wp2
 obtain ⟨W6, hW6⟩ : ∃ v, v = (((w.alloc (.cells #[.int .i64 a1, .int .i64 a2] 74)).alloc (.cells #[.int .i64 b1, .int .i64 b2] 74)).alloc (.cells #[.string nm, .slice (some ⟨w.heap.size + 1 + 1 + 1, 0, none⟩) 2 2] 76)).alloc (.cells #[.int .i64 a1, .int .i64 a2, .int .i64 b1, .int .i64 b2] 74) := ⟨_, rfl⟩
 have hE : Blk W6 (w.heap.size + 1 + 1) 76 #[.string nm, .slice (some ⟨w.heap.size + 1 + 1 + 1, 0, none⟩) 2 2] := by rw [hW6]; exact (Blk.new' _ _ _ (by simp)).alloc _
 have hL : Blk W6 (w.heap.size + 1 + 1 + 1) 74 #[.int .i64 a1, .int .i64 a2, .int .i64 b1, .int .i64 b2] := by rw [hW6]; exact Blk.new' _ _ _ (by simp)
 have hB : Below w.heap.size w W6 := by rw [hW6]; exact ((((Below.refl _ _).alloc (Nat.le_refl _) _).alloc (by simp) _).alloc (by simp; omega) _).alloc (by simp; omega) _
 rw [← hW6]
 clear hW6
 have k0 := hE.c (i := 0) rfl
 have k1 := hE.c (i := 1) rfl
 refine bodyPost_ret (v := .agg #[.string nm, .slice (some ⟨w.heap.size + 1 + 1 + 1, 0, none⟩) 2 2]) (by simp [results, Tryz.results30, go_sem, k0, k1]) rfl ?_
 exact ⟨_, rfl, by omega, hL, hB⟩
set_option maxRecDepth 100000 in
set_option maxHeartbeats 6400000 in
theorem sameInts_true (xs : List Int) (A : Option Addr) (n c : Nat) (B : Option Addr) (d : Nat) (w : World) (h : Sl w w.heap.size A n (ints xs)) (h' : Sl w w.heap.size B n (ints xs)) (hl : n ≤ 1000000) :
  Calls Tryz.prog 11 #[.slice A n c, .slice B n d] w fun e w' => e = .returned (.bool true) ∧ Below w.heap.size w w' := by
 have HA := Lib.hid h
 have HB := Lib.hid h'
 clear h h'
 go_enter Tryz.func11, Tryz.ntmps11
 go_wp2
 go_loopw [5] (fun i wr => ∃ k : Nat, k ≤ n ∧ i = .int .i64 (k : Int) ∧ Hid (Below w.heap.size w wr)) (fun i _ => n - (intOf i).toNat)
 case atStart => exact ⟨0, Nat.zero_le _, rfl, Below.refl _ _⟩
 case round =>
  obtain ⟨k, hk, rfl, HBL⟩ := hrel
  by_cases hlt : k < n
  ·obtain ⟨b1, o1, x, rfl, hb1, hx, c1⟩ := HA.out.int_ hlt
   obtain ⟨b2, o2, y, rfl, hb2, hy, c2⟩ := HB.out.int_ hlt
   rw [hx] at hy
   obtain rfl := Option.some.inj hy
   replace c1 := (HBL.out.cell (p := ⟨b1, o1 + k, none⟩) hb1).trans c1
   replace c2 := (HBL.out.cell (p := ⟨b2, o2 + k, none⟩) hb2).trans c2
   have i1 : (0 : Int) ≤ (k : Int) := by omega
   have i2 : (k : Int) < (n : Int) := by omega
   clear hx hy
   go_wp2_with fail
   go_region
   go_wp2_with fail
   go_roundw
   case rel => exact ⟨k + 1, by omega, by go_num, by repeat (first | exact HBL.out | refine Below.drew ?_)⟩
   case measure => simp [intOf]; omega
  ·obtain rfl : n = k := by omega
   go_wp2
   go_ret
   exact ⟨rfl, HBL.out⟩
set_option maxRecDepth 100000 in
set_option maxHeartbeats 6400000 in
theorem sameScans_true (xs : List PScan) (A : Option Addr) (n c : Nat) (B : Option Addr) (d : Nat) (w : World) (h : Recs 4 scanG w A n xs) (h' : Recs 4 scanG w B n xs) (hl : n ≤ 1000000) :
  Calls Tryz.prog 12 #[.slice A n c, .slice B n d] w fun e w' => e = .returned (.bool true) ∧ Below w.heap.size w w' := by
 have HA := Lib.hid h
 have HB := Lib.hid h'
 clear h h'
 go_enter Tryz.func12, Tryz.ntmps12
 go_wp2
 go_loopw [5] (fun i wr => ∃ k : Nat, k ≤ n ∧ i = .int .i64 (k : Int) ∧ Hid (Below w.heap.size w wr)) (fun i _ => n - (intOf i).toNat)
 case atStart => exact ⟨0, Nat.zero_le _, rfl, Below.refl _ _⟩
 case round =>
  obtain ⟨k, hk, rfl, HBL⟩ := hrel
  by_cases hlt : k < n
  ·obtain ⟨b1, o1, x, rfl, hb1, hx, c10, c11, c12, c13⟩ := scan_at HA.out hlt
   obtain ⟨b2, o2, y, rfl, hb2, hy, c20, c21, c22, c23⟩ := scan_at HB.out hlt
   rw [hx] at hy
   obtain rfl := Option.some.inj hy
   replace c10 := (HBL.out.cell (p := ⟨b1, o1 + k * 4, none⟩) hb1).trans c10
   replace c11 := (HBL.out.cell (p := ⟨b1, o1 + k * 4 + 1, none⟩) hb1).trans c11
   replace c12 := (HBL.out.cell (p := ⟨b1, o1 + k * 4 + 2, none⟩) hb1).trans c12
   replace c13 := (HBL.out.cell (p := ⟨b1, o1 + k * 4 + 3, none⟩) hb1).trans c13
   replace c20 := (HBL.out.cell (p := ⟨b2, o2 + k * 4, none⟩) hb2).trans c20
   replace c21 := (HBL.out.cell (p := ⟨b2, o2 + k * 4 + 1, none⟩) hb2).trans c21
   replace c22 := (HBL.out.cell (p := ⟨b2, o2 + k * 4 + 2, none⟩) hb2).trans c22
   replace c23 := (HBL.out.cell (p := ⟨b2, o2 + k * 4 + 3, none⟩) hb2).trans c23
   obtain ⟨t0, e0⟩ : ∃ t, x.ticket = t := ⟨_, rfl⟩
   obtain ⟨t1, e1⟩ : ∃ t, x.op = t := ⟨_, rfl⟩
   obtain ⟨t2, e2⟩ : ∃ t, x.worker = t := ⟨_, rfl⟩
   obtain ⟨t3, e3⟩ : ∃ t, x.at_ = t := ⟨_, rfl⟩
   rw [e0] at c10 c20
   rw [e1] at c11 c21
   rw [e2] at c12 c22
   rw [e3] at c13 c23
   have i1 : (0 : Int) ≤ (k : Int) := by omega
   have i2 : (k : Int) < (n : Int) := by omega
   clear hx hy e0 e1 e2 e3
   go_wp2_with fail
   go_region
   go_wp2_with fail
   go_roundw
   case rel => exact ⟨k + 1, by omega, by go_num, by repeat (first | exact HBL.out | refine Below.drew ?_)⟩
   case measure => simp [intOf]; omega
  ·obtain rfl : n = k := by omega
   go_wp2
   go_ret
   exact ⟨rfl, HBL.out⟩
end
end Go.Proofs.YtiibocdmlfedkaaGreatDoor
