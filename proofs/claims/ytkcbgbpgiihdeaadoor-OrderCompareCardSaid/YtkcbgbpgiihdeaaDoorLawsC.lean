/-
  The law OrderCompare returns true. Conditions: Std; the arguments are slices of ints.
-/
import Derived.Test.YtkcbgbpgiihdeaaDoorLawsD
namespace Go.Proofs.YtkcbgbpgiihdeaaDoor
open Go.RowKit
open Go.Lib hiding intOf

set_option maxRecDepth 100000 in
set_option maxHeartbeats 6400000 in
theorem orderCompare_walk (A : Option Addr) (n c : Nat) (xs : List Int) (B : Option Addr) (m d : Nat) (ys : List Int) (w : World) (hw : Std w) (ha : Sl w w.heap.size A n (ints xs)) (_hc : n ≤ c) (hn : n ≤ 9223372036854775807) (hb : Sl w w.heap.size B m (ints ys)) (_hd : m ≤ d) (hm : m ≤ 9223372036854775807) :
    Calls Tryd.prog 4 #[.slice A n c, .slice B m d] w fun e w' => e = .returned (.bool true) ∧ Below w.heap.size w w' := by
  have HW := Lib.hid hw; clear hw
  by_cases h30 : 30 < n
  · go_enter Tryd.func4, Tryd.ntmps4
    go_wp2_with (go_at_call 6; refine (example_holds _ HW.out).mono ?_; rintro e w1 ⟨rfl, hb1⟩)
    go_ret
    exact ⟨rfl, hb1⟩
  by_cases h31 : 30 < m
  · go_enter Tryd.func4, Tryd.ntmps4
    go_wp2_with (go_at_call 6; refine (example_holds _ HW.out).mono ?_; rintro e w1 ⟨rfl, hb1⟩)
    go_ret
    exact ⟨rfl, hb1⟩
  have hn' : n ≤ 1000000 := by omega
  have hm' : m ≤ 1000000 := by omega
  have HX := Lib.hid ha.ilen
  have HY := Lib.hid hb.ilen
  have d30 : decide ((30 : Int) < (n : Int)) = false := by simp; omega
  have d31 : decide ((30 : Int) < (m : Int)) = false := by simp; omega
  have H3 := compare_any A B n m c d xs ys w ha hb hn' hm'
  by_cases hE : likeE xs ys = 0
  · obtain ⟨e1, e2, e3⟩ := likeE_zero hE
    obtain rfl : n = m := by rw [← HX.out, ← HY.out]; exact e1
    have hE' : likeE ys xs = 0 := by rw [likeE_swap]; exact hE
    have hS : shortL xs ys = miss xs ys := by rw [shortL, if_pos hE]
    have hT : shortL ys xs = miss ys xs := by rw [shortL, if_pos hE']
    have hcmp := fun h => short_complete hE h
    rw [hS] at hcmp
    rw [hT] at hcmp
    have HSl := miss_len HX.out HY.out
    have HTl := miss_len HY.out HX.out
    have H5 := fun A3 n3 c3 W hb hs hl => add_any B A3 n n3 d c3 ys (miss xs ys) W hb hs hn' hl
    have hAt : ∀ (k : Nat) (x y : Int), xs[k]? = some x → ys[k]? = some y → (miss xs ys)[k]? = some (max (x - y) 0) ∧ (miss ys xs)[k]? = some (max (y - x) 0) ∧ isC x = true ∧ isC y = true := fun k x y hx hy => ⟨miss_at hx hy, miss_at hy hx, within_at e2 hx, within_at e3 hy⟩
    rw [hE, hS, hT] at H3
    have hTb := total_bound (miss ys xs)
    have T1 := fun A3 n3 c3 W h hl => total_any A3 n3 c3 (miss ys xs) W h hl
    generalize miss xs ys = S at *
    generalize miss ys xs = T at *
    generalize hTT : total T = tt at *
    have HH := Lib.hid (And.intro H3 (And.intro H5 T1))
    have HA := Lib.hid hAt
    have HC := Lib.hid hcmp
    have HS2 := Lib.hid (And.intro HSl HTl)
    clear H3 H5 T1 hAt hcmp HSl HTl hE hE' e1 e2 e3 hS hT hTT
    go_enter Tryd.func4, Tryd.ntmps4
    go_wp2_with fail
    refine HH.out.1.mono ?_
    rintro e w3 ⟨A3, n3, c3, B3, m3, d3, rfl, hs3, ht3, hB3⟩
    obtain rfl : n = n3 := HS2.out.1.symm.trans hs3.ilen
    obtain rfl : n = m3 := HS2.out.2.symm.trans ht3.ilen
    have ha3 := ha.on hB3
    have hb3 := hb.on hB3
    clear ha hb
    go_wp2_with fail
    go_loopw [61] (fun i wr => ∃ k q : Nat, k ≤ n ∧ i = .int .i64 k ∧ wr = w3.drewN q) (fun i _ => n - (intOf i).toNat)
    case atStart => exact ⟨0, 0, Nat.zero_le _, rfl, rfl⟩
    case round =>
      obtain ⟨k, q, hk, rfl, rfl⟩ := hrel
      by_cases hlt : k < n
      · obtain ⟨b1, o1, x, rfl, _, hx, hcx⟩ := ha3.int_ hlt
        obtain ⟨b2, o2, y, rfl, _, hy, hcy⟩ := hb3.int_ hlt
        obtain ⟨b3, o3, p, rfl, _, hp, hcp⟩ := hs3.int_ hlt
        obtain ⟨b4, o4, r, rfl, _, hr, hcr⟩ := ht3.int_ hlt
        obtain ⟨f1, f2, f3, f4⟩ := HA.out k x y hx hy
        have hpe : p = max (x - y) 0 := Option.some.inj (hp.symm.trans f1)
        have hre : r = max (y - x) 0 := Option.some.inj (hr.symm.trans f2)
        have hmf := miss_facts (x := x) (y := y)
        rw [← hpe, ← hre] at hmf
        obtain ⟨g1, g2, g3, g4⟩ := hmf
        obtain ⟨x0, x1⟩ := isC_true.1 f3
        obtain ⟨y0, y1⟩ := isC_true.1 f4
        have hp1 : p ≤ 1000 := by rw [hpe, Int.max_def]; split <;> omega
        have hr1 : r ≤ 1000 := by rw [hre, Int.max_def]; split <;> omega
        clear f1 f2 f3 f4 hpe hre hx hy hp hr ha3 hb3 hs3 ht3
        have hk0 : (0 : Int) ≤ (k : Int) := Int.natCast_nonneg _
        have hk1 : (k : Int) < (n : Int) := by omega
        have w1 : IntKind.i64.wrap (x + r) = x + r := IntWalk.i64_in _ (by omega)
        have w2 : IntKind.i64.wrap (y + p) = y + p := IntWalk.i64_in _ (by omega)
        have t1 : decide (p < 0) = false := by simp; omega
        have t2 : decide (r < 0) = false := by simp; omega
        have t3 : (x + r != y + p) = false := by simp; omega
        by_cases hp0 : 0 < p
        · have t4 : decide (0 < p) = true := by simp; omega
          have t5 : decide (0 < r) = false := by simp; omega
          clear g3 g4
          go_wp2
          go_quiet (fail)
          go_wp2
          go_roundw
          case rel => exact ⟨k + 1, _, by omega, by go_num, rfl⟩
          case measure => simp [intOf]; omega
        · have t4 : decide (0 < p) = false := by simp; omega
          clear g3 g4
          go_wp2
          go_quiet (fail)
          go_wp2
          go_roundw
          case rel => exact ⟨k + 1, _, by omega, by go_num, rfl⟩
          case measure => simp [intOf]; omega
      · have hBq : Below w.heap.size w (w3.drewN q) := below_drewN hB3 q
        by_cases ht : 0 < tt
        · go_wp2_with fail
          refine (HH.out.2.2 B3 n d3 (w3.drewN q) ht3 hn').mono ?_
          rintro e w6 ⟨rfl, rfl⟩
          go_wp2_with fail
          refine (example_holds _ (HW.out.below hBq)).mono ?_
          rintro e w10 ⟨rfl, hb10⟩
          go_wp2_with fail
          go_ret
          exact ⟨rfl, hBq.trans (hb10.mono hBq.size)⟩
        · obtain ⟨r1, r2⟩ := HC.out (by omega)
          have H5 := HH.out.2.1 A3 n c3 (w3.drewN q) hb3 hs3 hn'
          rw [r1, r2] at H5
          have H5' := Lib.hid H5
          clear H5 r1 r2
          go_wp2_with fail
          refine (HH.out.2.2 B3 n d3 (w3.drewN q) ht3 hn').mono ?_
          rintro e w6 ⟨rfl, rfl⟩
          go_wp2_with fail
          refine H5'.out.mono ?_
          rintro e w7 ⟨A7, n7, c7, rfl, hs7, hc7⟩
          have hB7 : Below w.heap.size w w7 := hBq.trans (hc7.mono hBq.size)
          have ha7 := (ha3.drewN q).on (w' := w7) hc7
          have l7 : n7 ≤ 1000000 := by rw [← hs7.ilen, HX.out]; exact hn'
          clear hBq hc7 ha3 hb3 hs3 ht3 hB3
          go_wp2_with fail
          have HS := same_b A7 A n7 n c7 c xs xs w7 hs7 ha7 l7 hn'
          rw [decide_eq_true rfl] at HS
          refine HS.mono ?_
          clear HS
          rintro e w9 ⟨rfl, hc9⟩
          have hB9 : Below w.heap.size w w9 := hB7.trans (hc9.mono hB7.size)
          clear hB7 hc9 hs7 ha7
          go_wp2_with fail
          refine (example_holds _ (HW.out.below hB9)).mono ?_
          rintro e w10 ⟨rfl, hb10⟩
          go_wp2_with fail
          go_ret
          exact ⟨rfl, hB9.trans (hb10.mono hB9.size)⟩
  · have hE2 : ¬ likeE ys xs = 0 := by rw [likeE_swap]; exact hE
    have hS : shortL xs ys = [] := by rw [shortL, if_neg hE]
    have hT : shortL ys xs = [] := by rw [shortL, if_neg hE2]
    rw [hS, hT] at H3
    have hE' : (likeE xs ys != 0) = true := by simp [hE]
    generalize likeE xs ys = E at *
    have HH := Lib.hid H3
    have HE := Lib.hid hE
    clear H3 hE hE2 hS hT
    go_enter Tryd.func4, Tryd.ntmps4
    go_wp2_with fail
    refine HH.out.mono ?_
    rintro e w3 ⟨A3, n3, c3, B3, m3, d3, rfl, hs3, ht3, hB3⟩
    obtain rfl : 0 = n3 := hs3.ilen
    obtain rfl : 0 = m3 := ht3.ilen
    clear hs3 ht3 ha hb
    go_wp2_with fail
    refine (example_holds _ (HW.out.below hB3)).mono ?_
    rintro e w10 ⟨rfl, hb10⟩
    go_wp2_with fail
    go_ret
    exact ⟨rfl, hB3.trans (hb10.mono hB3.size)⟩
end Go.Proofs.YtkcbgbpgiihdeaaDoor
