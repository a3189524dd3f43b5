/-
  The laws OrderParses, OrderPrints and OrderSums return true. Conditions: Std; the arguments are strings, slices of strings and slices of ints.
-/
import Derived.Test.YtkcbgbpgiihdeaaGreatDoorShort
namespace Go.Proofs.YtkcbgbpgiihdeaaGreatDoor
open Go.RowKit
open Go.Lib hiding intOf

set_option maxHeartbeats 1600000 in
theorem orderParses_walk (s : ByteArray) (A : Option Addr) (n c : Nat) (zs : List ByteArray) (w : World) (hw : Std w) (hs : s.size ≤ 9223372036854775807) (ha : Sl w w.heap.size A n (strs zs)) (_hc : n ≤ c) (hn : n ≤ 9223372036854775807) (hz : ∀ z ∈ zs, z.size ≤ 9223372036854775807) :
    Calls Tryz.prog 3 #[.string s, .slice A n c] w fun e w' => e = .returned (.bool true) ∧ Below w.heap.size w w' := by
  have HW := Lib.hid hw; clear hw
  have HZ := Lib.hid hz; clear hz
  by_cases h5 : 500 < s.size
  · go_enter Tryz.func3, Tryz.ntmps3
    go_wp2_with (go_at_call 9; refine (example_holds _ HW.out).mono ?_; rintro e w1 ⟨rfl, hb1⟩)
    go_ret
    exact ⟨rfl, hb1⟩
  cases hsh : shortB zs
  · go_enter Tryz.func3, Tryz.ntmps3
    go_wp2_with (first | (go_at_call 8; refine (short_any _ _ _ zs _ ha hn HZ.out).mono ?_; rintro e w1 ⟨rfl, rfl⟩; rw [hsh]) | (go_at_call 9; refine (example_holds _ HW.out).mono ?_; rintro e w1 ⟨rfl, hb1⟩))
    go_ret
    exact ⟨rfl, hb1⟩
  obtain ⟨hzl, hz1⟩ := shortB_true hsh
  have hn20 : n ≤ 20 := by rw [← ha.slen]; exact hzl
  clear hzl hz1
  obtain ⟨L, E, hL, hE⟩ : ∃ L E, parseL s zs = L ∧ parseE s zs = E := ⟨_, _, rfl, rfl⟩
  have HP := parse_any s A n c zs w HW.out (by omega) ha (by omega)
  have HR := fun W ha => rparse_any s A n c zs W (by omega) ha (by omega)
  rw [hL, hE] at HP
  simp only [hL, hE] at HR
  have HP' := Lib.hid HP
  have HR' := Lib.hid HR
  have hLl : L.length ≤ 1000000 := by
    rw [← hL]
    exact parseL_len s zs (by rw [ha.slen]; omega)
  clear HP HR hL hE
  have hEE : (E == E) = true := by simp
  go_enter Tryz.func3, Tryz.ntmps3
  go_wp2_with (go_at_call 8; refine (short_any _ _ _ zs _ ha hn HZ.out).mono ?_; rintro e w1 ⟨rfl, rfl⟩; rw [hsh])
  refine HP'.out.mono ?_
  rintro e w1 ⟨A1, n1, c1, rfl, hs1, hb1⟩
  go_wp2_with fail
  refine (HR'.out w1 (ha.on hb1)).mono ?_
  rintro e w2 ⟨A2, n2, c2, rfl, hs2, hb2⟩
  have hn1 : n1 ≤ 1000000 := by rw [← hs1.ilen]; exact hLl
  have hn2 : n2 ≤ 1000000 := by rw [← hs2.ilen]; exact hLl
  go_wp2_with fail
  have HS := same_b A1 A2 n1 n2 c1 c2 L L w2 (hs1.on hb2) hs2 hn1 hn2
  rw [decide_eq_true rfl] at HS
  refine HS.mono ?_
  rintro e w3 ⟨rfl, hb3⟩
  have hB : Below w.heap.size w w3 := hb1.trans ((hb2.mono hb1.size).trans (hb3.mono (Nat.le_trans hb1.size hb2.size)))
  clear HS hs1 hs2 hb1 hb2 hb3
  go_wp2_with fail
  refine (example_holds _ (HW.out.below hB)).mono ?_
  rintro e w4 ⟨rfl, hb4⟩
  go_wp2_with fail
  go_ret
  exact ⟨rfl, hB.trans (hb4.mono hB.size)⟩
end Go.Proofs.YtkcbgbpgiihdeaaGreatDoor
