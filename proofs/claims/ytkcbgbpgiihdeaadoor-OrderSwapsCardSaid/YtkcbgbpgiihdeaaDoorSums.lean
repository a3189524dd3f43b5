/-
  order.isCount, alike, Add, Compare and Total return what the plain functions say. Conditions: slices of ints of at most 1,000,000 elements.
-/
import Derived.Test.YtkcbgbpgiihdeaaDoorSame
import Derived.Test.YtkcbgbpgiihdeaaDoorPlain
import Derived.Deep.OwnRows
import Derived.RegionTactic
import Derived.ChangeAlike
import Derived.BigRegion
namespace Go.Proofs.YtkcbgbpgiihdeaaDoor
open Go.RowKit Go.Lib

theorem isCount_any (n : Int) (w : World) :
    Calls Tryd.prog 14 #[.int .i64 n] w fun e w' => e = .returned (.bool (isC n)) ∧ w = w' := by
  by_cases h0 : 0 ≤ n
  · by_cases h1 : n ≤ 1000
    · go_enter Tryd.func14, Tryd.ntmps14
      go_wp2
      go_ret
      exact ⟨ret_bool (isC_true.2 ⟨h0, h1⟩).symm, rfl⟩
    · go_enter Tryd.func14, Tryd.ntmps14
      go_wp2
      go_ret
      exact ⟨ret_bool (isC_false.2 (by omega)).symm, rfl⟩
  · go_enter Tryd.func14, Tryd.ntmps14
    go_wp2
    go_ret
    exact ⟨ret_bool (isC_false.2 (by omega)).symm, rfl⟩

theorem ret_int {k : IntKind} {a b : Int} (h : a = b) : Ending.returned (.int k a) = .returned (.int k b) := by rw [h]

set_option maxHeartbeats 400000 in
theorem alike_any (A B : Option Addr) (n m c d : Nat) (xs ys : List Int) (w : World) (ha : Sl w w.heap.size A n (ints xs)) (hb : Sl w w.heap.size B m (ints ys)) (hn : n ≤ 1000000) (hm : m ≤ 1000000) :
    Calls Tryd.prog 13 #[.slice A n c, .slice B m d] w fun e w' => e = .returned (.int .i64 (likeE xs ys)) ∧ w = w' := by
  have HX := Lib.hid ha.ilen
  have HY := Lib.hid hb.ilen
  by_cases hnm : n = m
  · subst hnm
    go_enter Tryd.func13, Tryd.ntmps13
    go_wp2
    go_loop [13] (fun i => ∃ k : Nat, k ≤ n ∧ i = .int .i64 k ∧ Hid (within (xs.take k) = true ∧ within (ys.take k) = true)) (fun i => n - (intOf i).toNat)
    case atStart => exact ⟨0, Nat.zero_le _, rfl, by simp [Hid, within]⟩
    case round =>
      obtain ⟨k, hk, rfl, hs⟩ := hrel
      by_cases hlt : k < n
      · obtain ⟨b, off, x, rfl, _, hx, hcx⟩ := ha.int_ hlt
        obtain ⟨b', off', y, rfl, _, hy, hcy⟩ := hb.int_ hlt
        have HA := Lib.hid hx; clear hx
        have HB := Lib.hid hy; clear hy
        clear ha hb
        cases hix : isC x
        · go_wp2_with (go_at_call 14; refine (isCount_any _ _).mono ?_; rintro e w' ⟨rfl, rfl⟩)
          go_ret
          exact ⟨ret_int (likeE_left (HX.out.trans HY.out.symm) (within_not HA.out hix)).symm, rfl⟩
        · cases hiy : isC y
          · go_wp2_with (go_at_call 14; refine (isCount_any _ _).mono ?_; rintro e w' ⟨rfl, rfl⟩)
            go_ret
            exact ⟨ret_int (likeE_right (HX.out.trans HY.out.symm) (within_not HB.out hiy)).symm, rfl⟩
          · go_wp2_with (go_at_call 14; refine (isCount_any _ _).mono ?_; rintro e w' ⟨rfl, rfl⟩)
            go_round
            case rel => exact ⟨k + 1, by omega, by go_num, within_succ hs.out.1 HA.out hix, within_succ hs.out.2 HB.out hiy⟩
            case measure => simp [intOf]; omega
      · go_wp2
        go_ret
        obtain rfl : k = n := by omega
        exact ⟨ret_int (likeE_mk (HX.out.trans HY.out.symm) (within_all hs.out.1 HX.out) (within_all hs.out.2 HY.out)).symm, rfl⟩
  · have hne : ((n : Int) != (m : Int)) = true := by simp; omega
    have HN := Lib.hid hnm; clear hnm
    go_enter Tryd.func13, Tryd.ntmps13
    go_wp2
    go_ret
    refine ⟨ret_int (Eq.symm (likeE_len ?_)), rfl⟩
    rw [HX.out, HY.out]
    exact HN.out

set_option maxHeartbeats 400000 in
theorem total_any (A : Option Addr) (n c : Nat) (xs : List Int) (w : World) (ha : Sl w w.heap.size A n (ints xs)) (hn : n ≤ 1000000) :
    Calls Tryd.prog 9 #[.slice A n c] w fun e w' => e = .returned (.int .i64 (total xs)) ∧ w = w' := by
  have HX := Lib.hid ha.ilen
  go_enter Tryd.func9, Tryd.ntmps9
  go_wp2
  go_loop [3, 8] (fun t i => ∃ k : Nat, k ≤ n ∧ i = .int .i64 k ∧ t = .int .i64 (total (xs.take k))) (fun _ i => n - (intOf i).toNat)
  case atStart => exact ⟨0, Nat.zero_le _, rfl, rfl⟩
  case round =>
    obtain ⟨k, hk, rfl, rfl⟩ := hrel
    have hbd := total_bound (xs.take k)
    have hl : (xs.take k).length ≤ k := List.length_take_le _ _
    by_cases hlt : k < n
    · obtain ⟨b, off, x, rfl, _, hx, hcx⟩ := ha.int_ hlt
      have HS := Lib.hid (total_succ hx); clear hx ha
      generalize total (xs.take k) = T at *
      cases hix : isC x
      · go_wp2_with (go_at_call 14; refine (isCount_any _ _).mono ?_; rintro e w' ⟨rfl, rfl⟩)
        go_round
        case rel => exact ⟨k + 1, by omega, by go_num, by rw [HS.out, hix]; simp⟩
        case measure => simp [intOf]; omega
      · have hxx := isC_true.1 hix
        obtain ⟨hx0, hx1⟩ := hxx
        go_wp2_with (go_at_call 14; refine (isCount_any _ _).mono ?_; rintro e w' ⟨rfl, rfl⟩)
        go_round
        case rel => exact ⟨k + 1, by omega, by go_num, by rw [HS.out, hix]; simp⟩
        case measure => simp [intOf]; omega
    · go_wp2
      go_ret
      exact ⟨ret_int (by rw [List.take_of_length_le (by rw [HX.out]; omega)]), rfl⟩
end Go.Proofs.YtkcbgbpgiihdeaaDoor
