/-
  garmentlaw35.exampleHolds returns true. Conditions: Std.
-/
import Derived.Test.YtkcbgbpgiihdeaaDoorPrint2
import Derived.Test.YtkcbgbpgiihdeaaDoorExampleP
namespace Go.Proofs.YtkcbgbpgiihdeaaDoor
open Go.RowKit
open Go.Lib hiding intOf

theorem Sl.lit (w : World) (cs : Array Value) (t : TypeId) {n : Nat} {xs : List Value} (hn : cs.size = n) (hx : cs.toList = xs) : Sl (w.alloc (.cells cs t)) (w.heap.size + 1) (some ⟨w.heap.size, 0, none⟩) n xs := by
  subst hn hx
  refine ⟨by simp, fun _ => ⟨w.heap.size, 0, rfl, by omega, fun j u hu => ?_⟩⟩
  rw [cell_of_row _ w.heap.size (0 + j) cs t (0, 0) (heap_alloc_new w _), Nat.zero_add]
  simpa using hu
theorem Std.alloc {w : World} (h : Std w) (o : Obj) : Std (w.alloc o) := h.below ((Below.refl _ _).alloc (Nat.le_refl _) _)
theorem Std.drew {w : World} (h : Std w) : Std w.drew := h

theorem same_b (A B : Option Addr) (n m c d : Nat) (xs ys : List Int) (w : World) (ha : Sl w w.heap.size A n (ints xs)) (hb : Sl w w.heap.size B m (ints ys)) (hn : n ≤ 1000000) (hm : m ≤ 1000000) :
    Calls Tryd.prog 8 #[.slice A n c, .slice B m d] w fun e w' => e = .returned (.bool (decide (xs = ys))) ∧ Below w.heap.size w w' :=
  (same_any A B n m c d xs ys w ha hb hn hm).mono fun e w' ⟨he, k, hk⟩ => ⟨he, by rw [hk]; exact below_of_drewN w _ k⟩

set_option maxRecDepth 100000 in
set_option maxHeartbeats 3200000 in
theorem example_holds (w : World) (hw : Std w) : Calls Tryd.prog 6 #[] w fun e w' => e = .returned (.bool true) ∧ Below w.heap.size w w' := by
  have HW := Lib.hid hw; clear hw
  have HZs : Hid (∀ z ∈ exZ, z.size ≤ 1000000) := by
    intro z hz
    simp only [exZ, List.mem_cons, List.not_mem_nil, or_false] at hz
    rcases hz with rfl | rfl | rfl <;> decide
  go_enter Tryd.func6, Tryd.ntmps6
  go_wp2_with fail
  have hz0 := Sl.lit w #[.string ⟨#[83]⟩, .string ⟨#[77]⟩, .string ⟨#[76]⟩] 9 (n := 3) (xs := strs exZ) rfl rfl
  have hbz : Below w.heap.size w (w.alloc (.cells #[.string ⟨#[83]⟩, .string ⟨#[77]⟩, .string ⟨#[76]⟩] 9)) := (Below.refl _ _).alloc (Nat.le_refl _) _
  have H1 := parse_any exS (some ⟨w.heap.size, 0, none⟩) 3 3 exZ _ (HW.out.alloc _) (by decide) (by simpa using hz0) (by omega)
  rw [ex1.1, ex1.2] at H1
  refine H1.mono ?_
  clear H1
  rintro e w1 ⟨A1, n1, c1, rfl, hs1, hb1⟩
  obtain rfl : 3 = n1 := hs1.ilen
  have hz1 := (hz0.below (hb1.mono (by simp))).more (B' := w1.heap.size) (by have := hb1.size; simpa using this)
  have hB1 : Below w.heap.size w w1 := hbz.trans (hb1.mono (by simp))
  clear hz0 hbz hb1
  go_wp2_with fail
  have H2 := print_any A1 (some ⟨w.heap.size, 0, none⟩) 3 3 c1 3 [3, 0, 12] exZ w1 (HW.out.below hB1) hs1 hz1 (by omega) (by omega) (by omega) HZs.out
  rw [ex3, ex3S] at H2
  refine H2.mono ?_
  clear H2
  rintro e w2 ⟨rfl, hb2⟩
  have hs2 := hs1.on hb2
  have hz2 := hz1.on hb2
  have hB2 : Below w.heap.size w w2 := hB1.trans (hb2.mono hB1.size)
  clear hs1 hz1 hB1 hb2
  go_wp2_with fail
  have hl2 := Sl.lit w2 #[.int .i64 1, .int .i64 2, .int .i64 3] 3 (n := 3) (xs := ints [1, 2, 3]) rfl rfl
  have H3 := add_any A1 (some ⟨w2.heap.size, 0, none⟩) 3 3 c1 3 [3, 0, 12] [1, 2, 3] (w2.alloc (.cells #[.int .i64 1, .int .i64 2, .int .i64 3] 3)) (by simpa using (hs2.alloc (Nat.le_refl _) _).more (Nat.le_succ _)) (by simpa using hl2) (by omega) (by omega)
  rw [ex5.1, ex5.2] at H3
  refine H3.mono ?_
  clear H3
  rintro e w3 ⟨A3, n3, c3, rfl, hx3, hb3⟩
  obtain rfl : 3 = n3 := hx3.ilen
  have hc3 : Below w2.heap.size w2 w3 := ((Below.refl _ _).alloc (Nat.le_refl _) _).trans (hb3.mono (by simp))
  have hs3 := hs2.on hc3
  have hz3 := hz2.on hc3
  have hB3 : Below w.heap.size w w3 := hB2.trans (hc3.mono hB2.size)
  clear hs2 hz2 hB2 hb3 hc3 hl2
  go_wp2_with fail
  have hl3 := Sl.lit w3 #[.int .i64 3, .int .i64 5] 3 (n := 2) (xs := ints [3, 5]) rfl rfl
  have hl3' := Sl.lit (w3.alloc (.cells #[.int .i64 3, .int .i64 5] 3)) #[.int .i64 4, .int .i64 1] 3 (n := 2) (xs := ints [4, 1]) rfl rfl
  have H4 := compare_any (some ⟨w3.heap.size, 0, none⟩) (some ⟨w3.heap.size + 1, 0, none⟩) 2 2 2 2 [3, 5] [4, 1] ((w3.alloc (.cells #[.int .i64 3, .int .i64 5] 3)).alloc (.cells #[.int .i64 4, .int .i64 1] 3)) (by simpa using (hl3.alloc (by simp) _).more (Nat.le_succ _)) (by simpa using hl3') (by omega) (by omega)
  rw [ex6.1, ex6.2.1, ex6.2.2] at H4
  refine H4.mono ?_
  clear H4
  rintro e w4 ⟨A4, n4, c4, B4, m4, d4, rfl, hx4, hy4, hb4⟩
  obtain rfl : 2 = n4 := hx4.ilen
  obtain rfl : 2 = m4 := hy4.ilen
  have hc4 : Below w3.heap.size w3 w4 := (((Below.refl _ _).alloc (Nat.le_refl _) _).alloc (by simp) _).trans (hb4.mono (by simp; omega))
  have hs4 := hs3.on hc4
  have hz4 := hz3.on hc4
  have ha4 := hx3.on hc4
  have hB4 : Below w.heap.size w w4 := hB3.trans (hc4.mono hB3.size)
  clear hs3 hz3 hB3 hb4 hc4 hl3 hl3' hx3
  go_wp2_with fail
  have H5 := parse_any exT (some ⟨w.heap.size, 0, none⟩) 3 3 exZ w4 (HW.out.below hB4) (by decide) hz4 (by omega)
  rw [ex2.1, ex2.2] at H5
  refine H5.mono ?_
  clear H5
  rintro e w5 ⟨A5, n5, c5, rfl, hx5, hb5⟩
  have hs5 := hs4.on hb5
  have hz5 := hz4.on hb5
  have ha5 := ha4.on hb5
  have hp5 := hx4.on hb5
  have hq5 := hy4.on hb5
  have hB5 : Below w.heap.size w w5 := hB4.trans (hb5.mono hB4.size)
  clear hs4 hz4 hB4 hb5 ha4 hx4 hy4 hx5
  go_wp2_with fail
  have hl5 := Sl.lit w5 #[.int .i64 0, .int .i64 0, .int .i64 0] 3 (n := 3) (xs := ints [0, 0, 0]) rfl rfl
  have H6 := print_any (some ⟨w5.heap.size, 0, none⟩) (some ⟨w.heap.size, 0, none⟩) 3 3 3 3 [0, 0, 0] exZ (w5.alloc (.cells #[.int .i64 0, .int .i64 0, .int .i64 0] 3)) ((HW.out.below hB5).alloc _) (by simpa using hl5) (by simpa using (hz5.alloc (Nat.le_refl _) _).more (Nat.le_succ _)) (by omega) (by omega) (by omega) HZs.out
  rw [ex4, ex4S] at H6
  refine H6.mono ?_
  clear H6
  rintro e w6 ⟨rfl, hb6⟩
  have hc6 : Below w5.heap.size w5 w6 := ((Below.refl _ _).alloc (Nat.le_refl _) _).trans (hb6.mono (by simp))
  have hs6 := hs5.on hc6
  have ha6 := ha5.on hc6
  have hp6 := hp5.on hc6
  have hq6 := hq5.on hc6
  have hB6 : Below w.heap.size w w6 := hB5.trans (hc6.mono hB5.size)
  clear hs5 hz5 hB5 hb6 ha5 hp5 hq5 hc6 hl5
  have hn1 : (noneL == [110, 111, 110, 101]) = true := rfl
  have hn2 : ((⟨noneL.toArray⟩ : ByteArray).toList == [110, 111, 110, 101]) = true := by rw [toList_data]; rfl
  have hn3 : (exS.toList == [83, 32, 51, 44, 32, 76, 32, 49, 50]) = true := by rw [toList_data]; rfl
  go_wp2_with fail
  have hl6 := Sl.lit w6 #[.int .i64 3, .int .i64 0, .int .i64 12] 3 (n := 3) (xs := ints [3, 0, 12]) rfl rfl
  have H6 := same_b A1 (some ⟨w6.heap.size, 0, none⟩) 3 3 c1 3 [3, 0, 12] [3, 0, 12] (w6.alloc (.cells #[.int .i64 3, .int .i64 0, .int .i64 12] 3)) (by simpa using (hs6.alloc (Nat.le_refl _) _).more (Nat.le_succ _)) (by simpa using hl6) (by omega) (by omega)
  rw [decide_eq_true rfl] at H6
  refine H6.mono ?_
  clear H6
  rintro e w7 ⟨rfl, hb7⟩
  have hc7 : Below w6.heap.size w6 w7 := ((Below.refl _ _).alloc (Nat.le_refl _) _).trans (hb7.mono (by simp))
  have ha7 := ha6.on hc7
  have hp7 := hp6.on hc7
  have hq7 := hq6.on hc7
  have hB7 : Below w.heap.size w w7 := hB6.trans (hc7.mono hB6.size)
  clear hB6 hb7 hc7 hl6 ha6 hp6 hq6 hs6
  go_wp2_with fail
  have hl7 := Sl.lit w7 #[.int .i64 4, .int .i64 2, .int .i64 15] 3 (n := 3) (xs := ints [4, 2, 15]) rfl rfl
  have H7 := same_b A3 (some ⟨w7.heap.size, 0, none⟩) 3 3 c3 3 [4, 2, 15] [4, 2, 15] (w7.alloc (.cells #[.int .i64 4, .int .i64 2, .int .i64 15] 3)) (by simpa using (ha7.alloc (Nat.le_refl _) _).more (Nat.le_succ _)) (by simpa using hl7) (by omega) (by omega)
  rw [decide_eq_true rfl] at H7
  refine H7.mono ?_
  clear H7
  rintro e w8 ⟨rfl, hb8⟩
  have hc8 : Below w7.heap.size w7 w8 := ((Below.refl _ _).alloc (Nat.le_refl _) _).trans (hb8.mono (by simp))
  have hp8 := hp7.on hc8
  have hq8 := hq7.on hc8
  have hB8 : Below w.heap.size w w8 := hB7.trans (hc8.mono hB7.size)
  clear hB7 hb8 hc8 hl7 hp7 hq7 ha7
  go_wp2_with fail
  have hl8 := Sl.lit w8 #[.int .i64 0, .int .i64 4] 3 (n := 2) (xs := ints [0, 4]) rfl rfl
  have H8 := same_b A4 (some ⟨w8.heap.size, 0, none⟩) 2 2 c4 2 [0, 4] [0, 4] (w8.alloc (.cells #[.int .i64 0, .int .i64 4] 3)) (by simpa using (hp8.alloc (Nat.le_refl _) _).more (Nat.le_succ _)) (by simpa using hl8) (by omega) (by omega)
  rw [decide_eq_true rfl] at H8
  refine H8.mono ?_
  clear H8
  rintro e w9 ⟨rfl, hb9⟩
  have hc9 : Below w8.heap.size w8 w9 := ((Below.refl _ _).alloc (Nat.le_refl _) _).trans (hb9.mono (by simp))
  have hq9 := hq8.on hc9
  have hB9 : Below w.heap.size w w9 := hB8.trans (hc9.mono hB8.size)
  clear hB8 hb9 hc9 hl8 hq8 hp8
  go_wp2_with fail
  have hl9 := Sl.lit w9 #[.int .i64 1, .int .i64 0] 3 (n := 2) (xs := ints [1, 0]) rfl rfl
  have H9 := same_b B4 (some ⟨w9.heap.size, 0, none⟩) 2 2 d4 2 [1, 0] [1, 0] (w9.alloc (.cells #[.int .i64 1, .int .i64 0] 3)) (by simpa using (hq9.alloc (Nat.le_refl _) _).more (Nat.le_succ _)) (by simpa using hl9) (by omega) (by omega)
  rw [decide_eq_true rfl] at H9
  refine H9.mono ?_
  clear H9
  rintro e w10 ⟨rfl, hb10⟩
  have hc10 : Below w9.heap.size w9 w10 := ((Below.refl _ _).alloc (Nat.le_refl _) _).trans (hb10.mono (by simp))
  have hB10 : Below w.heap.size w w10 := hB9.trans (hc10.mono hB9.size)
  clear hB9 hb10 hc10 hl9  hq9
  go_wp2_with fail
  have hl10 := Sl.lit w10 #[.int .i64 5, .int .i64 (-3), .int .i64 1001, .int .i64 7] 3 (n := 4) (xs := ints [5, -3, 1001, 7]) rfl rfl
  have H10 := total_any (some ⟨w10.heap.size, 0, none⟩) 4 4 [5, -3, 1001, 7] (w10.alloc (.cells #[.int .i64 5, .int .i64 (-3), .int .i64 1001, .int .i64 7] 3)) (by simpa using hl10) (by omega)
  rw [ex7] at H10
  refine H10.mono ?_
  clear H10
  rintro e w11 ⟨rfl, rfl⟩
  go_wp2_with fail
  go_ret
  exact ⟨rfl, hB10.alloc hB10.size _⟩
end Go.Proofs.YtkcbgbpgiihdeaaDoor
