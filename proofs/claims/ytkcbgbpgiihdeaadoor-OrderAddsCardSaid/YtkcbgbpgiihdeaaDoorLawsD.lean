/-
  The laws OrderSwaps and OrderAdds return true. Conditions: Std; the arguments are slices of ints.
-/
import Derived.Test.YtkcbgbpgiihdeaaDoorExample
import Derived.Test.YtkcbgbpgiihdeaaDoorPlain2
namespace Go.Proofs.YtkcbgbpgiihdeaaDoor
open Go.RowKit
open Go.Lib hiding intOf

theorem addL_len {xs ys : List Int} {n m : Nat} (hx : xs.length = n) (hn : n ≤ m) : (addL xs ys).length ≤ m := by
  unfold addL
  split
  · rw [sums, List.length_zipWith]
    omega
  · simp
theorem shortL_len {xs ys : List Int} {n m : Nat} (hx : xs.length = n) (hn : n ≤ m) : (shortL xs ys).length ≤ m := by
  unfold shortL
  split
  · rw [miss, List.length_zipWith]
    omega
  · simp

set_option maxHeartbeats 1600000 in
theorem orderSwaps_walk (A : Option Addr) (n c : Nat) (xs : List Int) (B : Option Addr) (m d : Nat) (ys : List Int) (w : World) (hw : Std w) (ha : Sl w w.heap.size A n (ints xs)) (_hc : n ≤ c) (hn : n ≤ 9223372036854775807) (hb : Sl w w.heap.size B m (ints ys)) (_hd : m ≤ d) (hm : m ≤ 9223372036854775807) :
    Calls Tryd.prog 5 #[.slice A n c, .slice B m d] w fun e w' => e = .returned (.bool true) ∧ Below w.heap.size w w' := by
  have HW := Lib.hid hw; clear hw
  by_cases h30 : 30 < n
  · go_enter Tryd.func5, Tryd.ntmps5
    go_wp2_with (go_at_call 6; refine (example_holds _ HW.out).mono ?_; rintro e w1 ⟨rfl, hb1⟩)
    go_ret
    exact ⟨rfl, hb1⟩
  by_cases h31 : 30 < m
  · go_enter Tryd.func5, Tryd.ntmps5
    go_wp2_with (go_at_call 6; refine (example_holds _ HW.out).mono ?_; rintro e w1 ⟨rfl, hb1⟩)
    go_ret
    exact ⟨rfl, hb1⟩
  have hn' : n ≤ 1000000 := by omega
  have hm' : m ≤ 1000000 := by omega
  have hSl : (shortL xs ys).length ≤ 1000000 := shortL_len ha.ilen hn'
  have hTl : (shortL ys xs).length ≤ 1000000 := shortL_len hb.ilen hm'
  have H3 := fun W ha hb => compare_any A B n m c d xs ys W ha hb hn' hm'
  have H4 := fun W ha hb => compare_any B A m n d c ys xs W hb ha hm' hn'
  simp only [likeE_swap ys xs] at H4
  obtain ⟨S, T, F, hS, hT, hF⟩ : ∃ S T F, shortL xs ys = S ∧ shortL ys xs = T ∧ likeE xs ys = F := ⟨_, _, _, rfl, rfl, rfl⟩
  rw [hS] at hSl
  rw [hT] at hTl
  simp only [hS, hT, hF] at H3 H4
  have HH := Lib.hid (And.intro H3 H4)
  clear H3 H4 hS hT hF
  have hFF : (F == F) = true := by simp
  go_enter Tryd.func5, Tryd.ntmps5
  go_wp2_with fail
  refine (HH.out.1 _ ha hb).mono ?_
  rintro e w3 ⟨A3, n3, c3, B3, m3, d3, rfl, hs3, ht3, hB3⟩
  have ha3 := ha.on hB3
  have hb3 := hb.on hB3
  clear ha hb
  go_wp2_with fail
  refine (HH.out.2 _ ha3 hb3).mono ?_
  rintro e w4 ⟨B4, m4, d4, A4, n4, c4, rfl, ht4, hs4, hb4⟩
  have hB4 : Below w.heap.size w w4 := hB3.trans (hb4.mono hB3.size)
  have hs3 := hs3.on hb4
  have ht3 := ht3.on hb4
  clear ha3 hb3 hB3 hb4
  have l3 : n3 ≤ 1000000 := by rw [← hs3.ilen]; exact hSl
  have l4 : n4 ≤ 1000000 := by rw [← hs4.ilen]; exact hSl
  have k3 : m3 ≤ 1000000 := by rw [← ht3.ilen]; exact hTl
  have k4 : m4 ≤ 1000000 := by rw [← ht4.ilen]; exact hTl
  go_wp2_with fail
  have HS := same_b A3 A4 n3 n4 c3 c4 S S w4 hs3 hs4 l3 l4
  rw [decide_eq_true rfl] at HS
  refine HS.mono ?_
  clear HS
  rintro e w5 ⟨rfl, hb5⟩
  have hB5 : Below w.heap.size w w5 := hB4.trans (hb5.mono hB4.size)
  have ht3 := ht3.on hb5
  have ht4 := ht4.on hb5
  clear hB4 hb5 hs3 hs4
  go_wp2_with fail
  have HS := same_b B3 B4 m3 m4 d3 d4 T T w5 ht3 ht4 k3 k4
  rw [decide_eq_true rfl] at HS
  refine HS.mono ?_
  clear HS
  rintro e w7 ⟨rfl, hb7⟩
  have hB7 : Below w.heap.size w w7 := hB5.trans (hb7.mono hB5.size)
  clear hB5 hb7 ht3 ht4
  go_wp2_with fail
  refine (example_holds _ (HW.out.below hB7)).mono ?_
  rintro e w9 ⟨rfl, hb9⟩
  go_wp2_with fail
  go_ret
  exact ⟨rfl, hB7.trans (hb9.mono hB7.size)⟩

set_option maxRecDepth 100000 in
set_option maxHeartbeats 3200000 in
theorem orderAdds_walk (A : Option Addr) (n c : Nat) (xs : List Int) (B : Option Addr) (m d : Nat) (ys : List Int) (C : Option Addr) (k f : Nat) (us : List Int) (w : World) (hw : Std w) (ha : Sl w w.heap.size A n (ints xs)) (_hc : n ≤ c) (hn : n ≤ 9223372036854775807) (hb : Sl w w.heap.size B m (ints ys)) (_hd : m ≤ d) (hm : m ≤ 9223372036854775807) (hu : Sl w w.heap.size C k (ints us)) (_hf : k ≤ f) (hk : k ≤ 9223372036854775807) :
    Calls Tryd.prog 3 #[.slice A n c, .slice B m d, .slice C k f] w fun e w' => e = .returned (.bool true) ∧ Below w.heap.size w w' := by
  have HW := Lib.hid hw; clear hw
  by_cases h30 : 30 < n
  · go_enter Tryd.func3, Tryd.ntmps3
    go_wp2_with (go_at_call 6; refine (example_holds _ HW.out).mono ?_; rintro e w1 ⟨rfl, hb1⟩)
    go_ret
    exact ⟨rfl, hb1⟩
  by_cases h31 : 30 < m
  · go_enter Tryd.func3, Tryd.ntmps3
    go_wp2_with (go_at_call 6; refine (example_holds _ HW.out).mono ?_; rintro e w1 ⟨rfl, hb1⟩)
    go_ret
    exact ⟨rfl, hb1⟩
  by_cases h32 : 30 < k
  · go_enter Tryd.func3, Tryd.ntmps3
    go_wp2_with (go_at_call 6; refine (example_holds _ HW.out).mono ?_; rintro e w1 ⟨rfl, hb1⟩)
    go_ret
    exact ⟨rfl, hb1⟩
  have hn' : n ≤ 1000000 := by omega
  have hm' : m ≤ 1000000 := by omega
  have hk' : k ≤ 1000000 := by omega
  have hLl : (addL xs ys).length ≤ 1000000 := addL_len ha.ilen hn'
  have HX := Lib.hid ha.ilen
  have HY := Lib.hid hb.ilen
  have H1 := fun W ha hb => add_any A B n m c d xs ys W ha hb hn' hm'
  have H2 := fun W ha hb => add_any B A m n d c ys xs W hb ha hm' hn'
  simp only [addE_comm ys xs, addL_comm ys xs] at H2
  have d30 : decide ((30 : Int) < (n : Int)) = false := by simp; omega
  have d31 : decide ((30 : Int) < (m : Int)) = false := by simp; omega
  have d32 : decide ((30 : Int) < (k : Int)) = false := by simp; omega
  by_cases hE : addE xs ys = 0
  · have hmk := fun W => run_make_row' (P := Tryd.prog) 22 3 (.int .i64 0) 8 Tryd.underlying22 int_info rfl .i64 .i64 n (by omega) (by omega) W
    obtain ⟨e1, e2, e3, e4⟩ := addE_zero hE
    have hneu := add_neutral HX.out e2
    have H3 := fun O W ha hz => add_any A O n n c n xs (List.replicate n 0) W ha hz hn' hn'
    simp only [hneu.1, hneu.2] at H3
    have htot : total (addL xs ys) = total xs + total ys := by rw [addL_of hE]; exact total_sums e1 e2 e3 e4
    have hbx := total_bound xs
    have hby := total_bound ys
    have hlx : (xs.length : Int) ≤ 30 := by rw [HX.out]; omega
    have hly : (ys.length : Int) ≤ 30 := by rw [HY.out]; omega
    have H4 := fun A1 n1 c1 W hL hu hl => add_any A1 C n1 k c1 f (addL xs ys) us W hL hu hl hk'
    have H5 := fun W hb hu => add_any B C m k d f ys us W hb hu hm' hk'
    have H6 := fun D q g W ha hq hl => add_any A D n q c g xs (addL ys us) W ha hq hn' hl
    have hQl : (addL ys us).length ≤ 1000000 := addL_len HY.out hm'
    have hPl : (addL (addL xs ys) us).length ≤ 1000000 := addL_len rfl hLl
    have hasc := fun h => add_assoc (c := us) hE h
    have T1 := fun A1 n1 c1 W hL hl => total_any A1 n1 c1 (addL xs ys) W hL hl
    have T2 := fun W ha => total_any A n c xs W ha hn'
    have T3 := fun W hb => total_any B m d ys W hb hm'
    simp only [hE] at H1 H2
    generalize addL xs ys = L at *
    generalize hQ : addL ys us = Q at *
    generalize total xs = tx at *
    generalize total ys = ty at *
    simp only [htot] at T1
    have HH := Lib.hid (And.intro H1 (And.intro H2 (And.intro H3 (And.intro H4 (And.intro H5 H6)))))
    have HT := Lib.hid (And.intro T1 (And.intro T2 T3))
    clear H1 H2 H3 H4 H5 H6 T1 T2 T3 hE hneu htot e1 e2 e3 e4
    have htt : (tx + ty != tx + ty) = false := by simp
    have tx0 := hbx.1
    have tx1 : tx ≤ 30000 := by omega
    have ty0 := hby.1
    have ty1 : ty ≤ 30000 := by omega
    clear hbx hby hlx hly
    have HE2 : Hid (addE L us = 0 ∨ ¬ addE L us = 0) := Classical.em _
    have HAS := Lib.hid hasc
    clear hasc
    go_enter Tryd.func3, Tryd.ntmps3
    go_wp2_with fail
    refine (HH.out.1 _ ha hb).mono ?_
    rintro e w1 ⟨A1, n1, c1, rfl, hs1, hB1⟩
    have ha1 := ha.on hB1
    have hb1 := hb.on hB1
    have hu1 := hu.on hB1
    clear ha hb hu
    go_wp2_with fail
    refine (HH.out.2.1 _ ha1 hb1).mono ?_
    rintro e w2 ⟨A2, n2, c2, rfl, hs2, hc2⟩
    have hB2 : Below w.heap.size w w2 := hB1.trans (hc2.mono hB1.size)
    have ha2 := ha1.on hc2
    have hb2 := hb1.on hc2
    have hu2 := hu1.on hc2
    have hs1 := hs1.on hc2
    clear ha1 hb1 hu1 hB1 hc2
    have l1 : n1 ≤ 1000000 := by rw [← hs1.ilen]; exact hLl
    have l2 : n2 ≤ 1000000 := by rw [← hs2.ilen]; exact hLl
    go_wp2_with fail
    have HS := same_b A1 A2 n1 n2 c1 c2 L L w2 hs1 hs2 l1 l2
    rw [decide_eq_true rfl] at HS
    refine HS.mono ?_
    clear HS
    rintro e w3 ⟨rfl, hc3⟩
    have hB3 : Below w.heap.size w w3 := hB2.trans (hc3.mono hB2.size)
    have ha3 := ha2.on hc3
    have hb3 := hb2.on hc3
    have hu3 := hu2.on hc3
    have hs1 := hs1.on hc3
    clear ha2 hb2 hu2 hB2 hc3 hs2
    have hrow : Sl (w3.alloc (.cells (madeCells #[Value.int .i64 0] n) 3)) (w3.heap.size + 1) (some ⟨w3.heap.size, 0, none⟩) n (ints (List.replicate n 0)) := by
      have := Sl.of_row (S := List.replicate n 0) ((World.rowIs_made w3 (.int .i64 0) n 3).congr fun j _ => rowI_zero n j) (by simp)
      simpa using this
    have HR := Lib.hid hrow
    clear hrow
    go_wp2_with fail
    refine (HH.out.2.2.1 (some ⟨w3.heap.size, 0, none⟩) (w3.alloc (.cells (madeCells #[Value.int .i64 0] n) 3)) (by simpa using (ha3.alloc (Nat.le_refl _) _).more (Nat.le_succ _)) (by simpa using HR.out)).mono ?_
    rintro e w4 ⟨A4, n4, c4, rfl, hs4, hc4'⟩
    have hc4 : Below w3.heap.size w3 w4 := ((Below.refl _ _).alloc (Nat.le_refl _) _).trans (hc4'.mono (by simp))
    have hB4 : Below w.heap.size w w4 := hB3.trans (hc4.mono hB3.size)
    have ha4 := ha3.on hc4
    have hb4 := hb3.on hc4
    have hu4 := hu3.on hc4
    have hs1 := hs1.on hc4
    clear ha3 hb3 hu3 hB3 hc4 hc4' HR hmk
    have l4 : n4 ≤ 1000000 := by rw [← hs4.ilen, HX.out]; exact hn'
    go_wp2_with fail
    have HS := same_b A4 A n4 n c4 c xs xs w4 hs4 ha4 l4 hn'
    rw [decide_eq_true rfl] at HS
    refine HS.mono ?_
    clear HS
    rintro e w5 ⟨rfl, hc5⟩
    have hB5 : Below w.heap.size w w5 := hB4.trans (hc5.mono hB4.size)
    have ha5 := ha4.on hc5
    have hb5 := hb4.on hc5
    have hu5 := hu4.on hc5
    have hs1 := hs1.on hc5
    clear ha4 hb4 hu4 hB4 hc5 hs4
    go_wp2_with fail
    refine (HT.out.1 A1 n1 c1 w5 hs1 l1).mono ?_
    rintro e w6 ⟨rfl, rfl⟩
    go_wp2_with fail
    refine (HT.out.2.1 w5 ha5).mono ?_
    rintro e w6 ⟨rfl, rfl⟩
    go_wp2_with fail
    refine (HT.out.2.2 w5 hb5).mono ?_
    rintro e w6 ⟨rfl, rfl⟩
    go_wp2_with fail
    have H4 := HH.out.2.2.2.1 A1 n1 c1 w5 hs1 hu5 l1
    rcases HE2.out with hE2 | hE2
    · obtain ⟨r1, r2, r3⟩ := HAS.out hE2
      have H5 := HH.out.2.2.2.2.1
      have H6 := HH.out.2.2.2.2.2
      rw [hE2] at H4
      simp only [r1] at H5
      simp only [r2, r3] at H6
      have H5' := Lib.hid H5
      have H6' := Lib.hid H6
      clear H5 H6 r1 r2 r3 hE2 hQ
      generalize addL L us = P at *
      refine H4.mono ?_
      clear H4
      rintro e w6 ⟨A6, n6, c6, rfl, hs6, hc6⟩
      have hB6 : Below w.heap.size w w6 := hB5.trans (hc6.mono hB5.size)
      have ha6 := ha5.on hc6
      have hb6 := hb5.on hc6
      have hu6 := hu5.on hc6
      clear ha5 hb5 hu5 hB5 hc6 hs1
      go_wp2_with fail
      refine (H5'.out w6 hb6 hu6).mono ?_
      rintro e w7 ⟨A7, n7, c7, rfl, hs7, hc7⟩
      have hB7 : Below w.heap.size w w7 := hB6.trans (hc7.mono hB6.size)
      have ha7 := ha6.on hc7
      have hs6 := hs6.on hc7
      clear ha6 hb6 hu6 hB6 hc7
      have l7 : n7 ≤ 1000000 := by rw [← hs7.ilen]; exact hQl
      go_wp2_with fail
      refine (H6'.out A7 n7 c7 w7 ha7 hs7 l7).mono ?_
      rintro e w8 ⟨A8, n8, c8, rfl, hs8, hc8⟩
      have hB8 : Below w.heap.size w w8 := hB7.trans (hc8.mono hB7.size)
      have hs6 := hs6.on hc8
      clear ha7 hB7 hc8 hs7
      have l6 : n6 ≤ 1000000 := by rw [← hs6.ilen]; exact hPl
      have l8 : n8 ≤ 1000000 := by rw [← hs8.ilen]; exact hPl
      go_wp2_with fail
      have HS := same_b A6 A8 n6 n8 c6 c8 P P w8 hs6 hs8 l6 l8
      rw [decide_eq_true rfl] at HS
      refine HS.mono ?_
      clear HS
      rintro e w9 ⟨rfl, hc9⟩
      have hB9 : Below w.heap.size w w9 := hB8.trans (hc9.mono hB8.size)
      clear hB8 hc9 hs6 hs8
      go_wp2_with fail
      refine (example_holds _ (HW.out.below hB9)).mono ?_
      rintro e w10 ⟨rfl, hb10⟩
      go_wp2_with fail
      go_ret
      exact ⟨rfl, hB9.trans (hb10.mono hB9.size)⟩
    · have hE2' : (addE L us != 0) = true := by simp [hE2]
      generalize addE L us = E at *
      have HE3 := Lib.hid hE2
      clear hE2
      refine H4.mono ?_
      clear H4
      rintro e w6 ⟨A6, n6, c6, rfl, hs6, hc6⟩
      have hB6 : Below w.heap.size w w6 := hB5.trans (hc6.mono hB5.size)
      clear ha5 hb5 hu5 hB5 hc6 hs1 hs6
      go_wp2_with fail
      refine (example_holds _ (HW.out.below hB6)).mono ?_
      rintro e w10 ⟨rfl, hb10⟩
      go_wp2_with fail
      go_ret
      exact ⟨rfl, hB6.trans (hb10.mono hB6.size)⟩
  · have hE' : (addE xs ys != 0) = true := by simp [hE]
    generalize addL xs ys = L at *
    generalize addE xs ys = E at *
    have HH := Lib.hid (And.intro H1 H2)
    have HE := Lib.hid hE
    clear H1 H2 hE
    have hEE : (E != E) = false := by simp
    go_enter Tryd.func3, Tryd.ntmps3
    go_wp2_with fail
    refine (HH.out.1 _ ha hb).mono ?_
    rintro e w1 ⟨A1, n1, c1, rfl, hs1, hB1⟩
    have ha1 := ha.on hB1
    have hb1 := hb.on hB1
    clear ha hb hu
    go_wp2_with fail
    refine (HH.out.2 _ ha1 hb1).mono ?_
    rintro e w2 ⟨A2, n2, c2, rfl, hs2, hc2⟩
    have hB2 : Below w.heap.size w w2 := hB1.trans (hc2.mono hB1.size)
    have hs1 := hs1.on hc2
    clear ha1 hb1 hB1 hc2
    have l1 : n1 ≤ 1000000 := by rw [← hs1.ilen]; exact hLl
    have l2 : n2 ≤ 1000000 := by rw [← hs2.ilen]; exact hLl
    go_wp2_with fail
    have HS := same_b A1 A2 n1 n2 c1 c2 L L w2 hs1 hs2 l1 l2
    rw [decide_eq_true rfl] at HS
    refine HS.mono ?_
    clear HS
    rintro e w3 ⟨rfl, hc3⟩
    have hB3 : Below w.heap.size w w3 := hB2.trans (hc3.mono hB2.size)
    clear hB2 hc3 hs1 hs2
    go_wp2_with fail
    refine (example_holds _ (HW.out.below hB3)).mono ?_
    rintro e w10 ⟨rfl, hb10⟩
    go_wp2_with fail
    go_ret
    exact ⟨rfl, hB3.trans (hb10.mono hB3.size)⟩
end Go.Proofs.YtkcbgbpgiihdeaaDoor
