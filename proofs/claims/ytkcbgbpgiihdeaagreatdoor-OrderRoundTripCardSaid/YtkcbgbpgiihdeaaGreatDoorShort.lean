/-
  R35.Short says whether there are at most 20 strings of at most 100 bytes. Conditions: a slice of strings.
-/
import Derived.Test.YtkcbgbpgiihdeaaGreatDoorExample
namespace Go.Proofs.YtkcbgbpgiihdeaaGreatDoor
open Go.RowKit
open Go.Lib hiding intOf

def shortB (zs : List ByteArray) : Bool := decide (zs.length ≤ 20) && (zs.take 20).all fun z => decide (z.size ≤ 100)
theorem shortB_true {zs : List ByteArray} (h : shortB zs = true) : zs.length ≤ 20 ∧ ∀ z ∈ zs, z.size ≤ 100 := by
  simp only [shortB, Bool.and_eq_true, decide_eq_true_eq, List.all_eq_true] at h
  refine ⟨h.1, fun z hz => ?_⟩
  have := h.2 z (by rwa [List.take_of_length_le (by omega)])
  exact this

set_option maxHeartbeats 400000 in
theorem short_any (A : Option Addr) (n c : Nat) (zs : List ByteArray) (w : World) (ha : Sl w w.heap.size A n (strs zs)) (hn : n ≤ 9223372036854775807) (hz : ∀ z ∈ zs, z.size ≤ 9223372036854775807) :
    Calls Tryz.prog 8 #[.slice A n c] w fun e w' => e = .returned (.bool (shortB zs)) ∧ w = w' := by
  have HX := Lib.hid ha.slen
  have HZ := Lib.hid hz; clear hz
  go_enter Tryz.func8, Tryz.ntmps8
  go_wp2
  go_loop [3] (fun i => ∃ k : Nat, k ≤ n ∧ k ≤ 20 ∧ i = .int .i64 k ∧ Hid (((zs.take k).all fun z => decide (z.size ≤ 100)) = true)) (fun i => 20 - (intOf i).toNat)
  case atStart => exact ⟨0, Nat.zero_le _, Nat.zero_le _, rfl, by simp [Hid]⟩
  case round =>
    obtain ⟨k, hk, hk20, rfl, hs⟩ := hrel
    by_cases hlt : k < n
    · by_cases h20 : k < 20
      · obtain ⟨b, off, z, rfl, _, hz, hcz⟩ := ha.str_ hlt
        have hzs := HZ.out z (List.mem_of_getElem? hz)
        have HZk := Lib.hid hz; clear hz ha
        have hlt' : (k : Int) < (n : Int) := by omega
        by_cases h100 : 100 < z.size
        · have HE : Hid (shortB zs = false) := by
            have hm : z ∈ zs.take 20 := by
              obtain ⟨hk1, hk2⟩ := List.getElem?_eq_some_iff.1 HZk.out
              rw [List.mem_take_iff_getElem]
              exact ⟨k, by omega, hk2⟩
            cases h : shortB zs
            · exact rfl
            · simp only [shortB, Bool.and_eq_true, decide_eq_true_eq, List.all_eq_true] at h
              have := h.2 z hm
              omega
          go_wp2
          go_ret
          exact ⟨ret_bool HE.out.symm, rfl⟩
        · have HS : Hid (((zs.take (k + 1)).all fun z => decide (z.size ≤ 100)) = true) := by
            rw [List.take_add_one, HZk.out, List.all_append, hs.out]
            have : decide (z.size ≤ 100) = true := by simp; omega
            simp [this, Hid]
          go_wp2
          go_round
          case rel => exact ⟨k + 1, by omega, by omega, by go_num, HS⟩
          case measure => simp [intOf]; omega
      · obtain rfl : k = 20 := by omega
        have HE : Hid (shortB zs = false) := by
          rw [shortB, HX.out, decide_eq_false (by omega : ¬ n ≤ 20)]
          exact rfl
        have hlt' : (20 : Int) < (n : Int) := by omega
        clear ha
        go_wp2
        go_ret
        exact ⟨ret_bool (by rw [HE.out]; first | rfl | (simp; done) | (simp; omega)), rfl⟩
    · obtain rfl : k = n := by omega
      have HE : Hid (shortB zs = true) := by
        have h2 := hs.out
        rw [List.take_of_length_le (by rw [HX.out]; omega)] at h2
        rw [shortB, List.take_of_length_le (by rw [HX.out]; omega), h2, HX.out, decide_eq_true hk20]
        exact rfl
      clear ha
      go_wp2
      go_ret
      exact ⟨ret_bool (by rw [HE.out]; first | rfl | (simp; done) | (simp; omega)), rfl⟩
end Go.Proofs.YtkcbgbpgiihdeaaGreatDoor
