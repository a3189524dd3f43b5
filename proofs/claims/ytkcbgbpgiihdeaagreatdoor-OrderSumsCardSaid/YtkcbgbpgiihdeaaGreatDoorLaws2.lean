/-
  The laws OrderPrints and OrderSums return true. Conditions: Std; the arguments are slices of strings and slices of ints.
-/
import Derived.Test.YtkcbgbpgiihdeaaGreatDoorShort
namespace Go.Proofs.YtkcbgbpgiihdeaaGreatDoor
open Go.RowKit
open Go.Lib hiding intOf

theorem total_b (A : Option Addr) (n c : Nat) (xs : List Int) (w : World) {B : Nat} (ha : Sl w B A n (ints xs)) (hB : B ≤ w.heap.size) (hn : n ≤ 1000000) :
    Calls Tryz.prog 19 #[.slice A n c] w fun e w' => e = .returned (.int .i64 (total xs)) ∧ w = w' := total_any A n c xs w (ha.more hB) hn

set_option maxHeartbeats 1600000 in
theorem orderPrints_walk (A : Option Addr) (n c : Nat) (cs : List Int) (B : Option Addr) (m d : Nat) (zs : List ByteArray) (w : World) (hw : Std w) (ha : Sl w w.heap.size A n (ints cs)) (_hc : n ≤ c) (hn : n ≤ 9223372036854775807) (hb : Sl w w.heap.size B m (strs zs)) (hd : m ≤ d) (hm : m ≤ 9223372036854775807) (hz : ∀ z ∈ zs, z.size ≤ 9223372036854775807) :
    Calls Tryz.prog 4 #[.slice A n c, .slice B m d] w fun e w' => e = .returned (.bool true) ∧ Below w.heap.size w w' := by
  have HW := Lib.hid hw; clear hw
  have HZ := Lib.hid hz; clear hz
  by_cases h20 : 20 < n
  · go_enter Tryz.func4, Tryz.ntmps4
    go_wp2_with (go_at_call 9; refine (example_holds _ HW.out).mono ?_; rintro e w1 ⟨rfl, hb1⟩)
    go_ret
    exact ⟨rfl, hb1⟩
  cases hsh : shortB zs
  · go_enter Tryz.func4, Tryz.ntmps4
    go_wp2_with (first | (go_at_call 8; refine (short_any _ _ _ zs _ hb hm HZ.out).mono ?_; rintro e w1 ⟨rfl, rfl⟩; rw [hsh]) | (go_at_call 9; refine (example_holds _ HW.out).mono ?_; rintro e w1 ⟨rfl, hb1⟩))
    go_ret
    exact ⟨rfl, hb1⟩
  obtain ⟨hzl, hz1⟩ := shortB_true hsh
  have hm20 : m ≤ 20 := by rw [← hb.slen]; exact hzl
  have HZ1 : Hid (∀ z ∈ zs, z.size ≤ 1000000) := fun z hz => by have := hz1 z hz; omega
  clear hzl hz1
  obtain ⟨L, E, hL, hE⟩ : ∃ L E, printS cs zs = L ∧ printE cs zs = E := ⟨_, _, rfl, rfl⟩
  have HP := print_any A B n m c d cs zs w HW.out ha hb (by omega) (by omega) hd HZ1.out
  have HR := fun W hW ha hb => rprint_any A B n m c d cs zs W hW ha hb (by omega) (by omega) HZ1.out
  rw [hL, hE] at HP
  simp only [hL, hE] at HR
  have HP' := Lib.hid HP
  have HR' := Lib.hid HR
  clear HP HR hL hE
  have hEE : (E == E) = true := by simp
  have hLL : (L.toList == L.toList) = true := by simp
  go_enter Tryz.func4, Tryz.ntmps4
  go_wp2_with (go_at_call 8; refine (short_any _ _ _ zs _ hb hm HZ.out).mono ?_; rintro e w1 ⟨rfl, rfl⟩; rw [hsh])
  refine HP'.out.mono ?_
  rintro e w1 ⟨rfl, hb1⟩
  go_wp2_with fail
  refine (HR'.out w1 (HW.out.below hb1) (ha.on hb1) (hb.on hb1)).mono ?_
  rintro e w2 ⟨rfl, hb2⟩
  have hB : Below w.heap.size w w2 := hb1.trans (hb2.mono hb1.size)
  clear hb1 hb2
  go_wp2_with fail
  refine (example_holds _ (HW.out.below hB)).mono ?_
  rintro e w4 ⟨rfl, hb4⟩
  go_wp2_with fail
  go_ret
  exact ⟨rfl, hB.trans (hb4.mono hB.size)⟩

set_option maxHeartbeats 1600000 in
theorem orderSums_walk (A : Option Addr) (n c : Nat) (xs : List Int) (B : Option Addr) (m d : Nat) (ys : List Int) (w : World) (hw : Std w) (ha : Sl w w.heap.size A n (ints xs)) (_hc : n ≤ c) (hn : n ≤ 9223372036854775807) (hb : Sl w w.heap.size B m (ints ys)) (_hd : m ≤ d) (hm : m ≤ 9223372036854775807) :
    Calls Tryz.prog 5 #[.slice A n c, .slice B m d] w fun e w' => e = .returned (.bool true) ∧ Below w.heap.size w w' := by
  have HW := Lib.hid hw; clear hw
  by_cases h30 : 30 < n
  · go_enter Tryz.func5, Tryz.ntmps5
    go_wp2_with (go_at_call 9; refine (example_holds _ HW.out).mono ?_; rintro e w1 ⟨rfl, hb1⟩)
    go_ret
    exact ⟨rfl, hb1⟩
  by_cases h31 : 30 < m
  · go_enter Tryz.func5, Tryz.ntmps5
    go_wp2_with (go_at_call 9; refine (example_holds _ HW.out).mono ?_; rintro e w1 ⟨rfl, hb1⟩)
    go_ret
    exact ⟨rfl, hb1⟩
  have hn' : n ≤ 1000000 := by omega
  have hm' : m ≤ 1000000 := by omega
  have hLl : (addL xs ys).length ≤ 1000000 := by
    unfold addL
    split
    · rw [sums, List.length_zipWith]
      have := ha.ilen
      omega
    · simp
  have hSl : (shortL xs ys).length ≤ 1000000 := by
    unfold shortL
    split
    · rw [miss, List.length_zipWith]
      have := ha.ilen
      omega
    · simp
  have hTl : (shortL ys xs).length ≤ 1000000 := by
    unfold shortL
    split
    · rw [miss, List.length_zipWith]
      have := ha.ilen
      omega
    · simp
  obtain ⟨L, E, S, T, F, hL, hE, hS, hT, hF⟩ : ∃ L E S T F, addL xs ys = L ∧ addE xs ys = E ∧ shortL xs ys = S ∧ shortL ys xs = T ∧ likeE xs ys = F := ⟨_, _, _, _, _, rfl, rfl, rfl, rfl, rfl⟩
  rw [hL] at hLl
  rw [hS] at hSl
  rw [hT] at hTl
  have H1 := fun W ha hb => add_any A B n m c d xs ys W ha hb hn' hm'
  have H2 := fun W ha hb => radd_any A B n m c d xs ys W ha hb hn' hm'
  have H3 := fun W ha hb => compare_any A B n m c d xs ys W ha hb hn' hm'
  have H4 := fun W ha hb => rcompare_any A B n m c d xs ys W ha hb hn' hm'
  simp only [hL, hE, hS, hT, hF] at H1 H2 H3 H4
  have HH := Lib.hid (And.intro H1 (And.intro H2 (And.intro H3 H4)))
  clear H1 H2 H3 H4 hL hE hS hT hF
  have hEE : (E == E) = true := by simp
  have hFF : (F == F) = true := by simp
  go_enter Tryz.func5, Tryz.ntmps5
  go_wp2_with fail
  refine (HH.out.1 _ ha hb).mono ?_
  rintro e w1 ⟨A1, n1, c1, rfl, hs1, hb1⟩
  have ha1 := ha.on hb1
  have hb1' := hb.on hb1
  have hB1 := hb1
  clear ha hb hb1
  go_wp2_with fail
  refine (HH.out.2.1 _ ha1 hb1').mono ?_
  rintro e w2 ⟨A2, n2, c2, rfl, hs2, hb2⟩
  have hB2 : Below w.heap.size w w2 := hB1.trans (hb2.mono hB1.size)
  have ha2 := ha1.on hb2
  have hb2' := hb1'.on hb2
  have hs1 := hs1.on hb2
  clear ha1 hb1' hB1 hb2
  go_wp2_with fail
  refine (HH.out.2.2.1 _ ha2 hb2').mono ?_
  rintro e w3 ⟨A3, n3, c3, B3, m3, d3, rfl, hs3, ht3, hb3⟩
  have hB3 : Below w.heap.size w w3 := hB2.trans (hb3.mono hB2.size)
  have ha3 := ha2.on hb3
  have hb3' := hb2'.on hb3
  have hs1 := hs1.on hb3
  have hs2 := hs2.on hb3
  clear ha2 hb2' hB2 hb3
  go_wp2_with fail
  refine (HH.out.2.2.2 _ ha3 hb3').mono ?_
  rintro e w4 ⟨A4, n4, c4, B4, m4, d4, rfl, hs4, ht4, hb4⟩
  have hB4 : Below w.heap.size w w4 := hB3.trans (hb4.mono hB3.size)
  have ha4 := ha3.on hb4
  have hs1 := hs1.on hb4
  have hs2 := hs2.on hb4
  have hs3 := hs3.on hb4
  have ht3 := ht3.on hb4
  clear ha3 hb3' hB3 hb4
  have l1 : n1 ≤ 1000000 := by rw [← hs1.ilen]; exact hLl
  have l2 : n2 ≤ 1000000 := by rw [← hs2.ilen]; exact hLl
  have l3 : n3 ≤ 1000000 := by rw [← hs3.ilen]; exact hSl
  have l4 : n4 ≤ 1000000 := by rw [← hs4.ilen]; exact hSl
  have k3 : m3 ≤ 1000000 := by rw [← ht3.ilen]; exact hTl
  have k4 : m4 ≤ 1000000 := by rw [← ht4.ilen]; exact hTl
  go_wp2_with fail
  have HS := same_b A1 A2 n1 n2 c1 c2 L L w4 hs1 hs2 l1 l2
  rw [decide_eq_true rfl] at HS
  refine HS.mono ?_
  clear HS
  rintro e w5 ⟨rfl, hb5⟩
  have hB5 : Below w.heap.size w w5 := hB4.trans (hb5.mono hB4.size)
  have ha5 := ha4.on hb5
  have hs3 := hs3.on hb5
  have ht3 := ht3.on hb5
  have hs4 := hs4.on hb5
  have ht4 := ht4.on hb5
  clear ha4 hB4 hb5 hs1 hs2
  go_wp2_with fail
  have HS := same_b A3 A4 n3 n4 c3 c4 S S w5 hs3 hs4 l3 l4
  rw [decide_eq_true rfl] at HS
  refine HS.mono ?_
  clear HS
  rintro e w6 ⟨rfl, hb6⟩
  have hB6 : Below w.heap.size w w6 := hB5.trans (hb6.mono hB5.size)
  have ha6 := ha5.on hb6
  have ht3 := ht3.on hb6
  have ht4 := ht4.on hb6
  clear ha5 hB5 hb6 hs3 hs4
  go_wp2_with fail
  have HS := same_b B3 B4 m3 m4 d3 d4 T T w6 ht3 ht4 k3 k4
  rw [decide_eq_true rfl] at HS
  refine HS.mono ?_
  clear HS
  rintro e w7 ⟨rfl, hb7⟩
  have hB7 : Below w.heap.size w w7 := hB6.trans (hb7.mono hB6.size)
  have ha7 := ha6.on hb7
  clear ha6 hB6 hb7 ht3 ht4
  go_wp2_with fail
  have HT := total_any A n c xs w7 ha7 hn'
  have HT2 := rtotal_any A n c xs w7 ha7 hn'
  obtain ⟨t, ht⟩ : ∃ t, total xs = t := ⟨_, rfl⟩
  rw [ht] at HT HT2
  have HT2' := Lib.hid HT2
  have htt : (t == t) = true := by simp
  refine HT.mono ?_
  clear HT HT2 ht
  rintro e w8 ⟨rfl, rfl⟩
  go_wp2_with fail
  refine HT2'.out.mono ?_
  rintro e w8 ⟨rfl, rfl⟩
  go_wp2_with fail
  refine (example_holds _ (HW.out.below hB7)).mono ?_
  rintro e w9 ⟨rfl, hb9⟩
  go_wp2_with fail
  go_ret
  exact ⟨rfl, hB7.trans (hb9.mono hB7.size)⟩
end Go.Proofs.YtkcbgbpgiihdeaaGreatDoor
