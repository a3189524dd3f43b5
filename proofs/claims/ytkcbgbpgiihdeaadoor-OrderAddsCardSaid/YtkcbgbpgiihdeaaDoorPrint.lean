/-
  order.printable returns the error of Print. Conditions: slices of at most 1,000,000 elements; the sizes' texts of at most 1,000,000 bytes.
-/
import Derived.Test.YtkcbgbpgiihdeaaDoorSize1
import Derived.Test.YtkcbgbpgiihdeaaDoorPrintP
namespace Go.Proofs.YtkcbgbpgiihdeaaDoor
open Go.RowKit
open Go.Lib hiding intOf

theorem contains_any (A : Option Addr) (n k c : Nat) (zs : List ByteArray) (x : ByteArray) (w : World) {B : Nat} (h : Sl w B A n (strs zs)) (hk : k ≤ n) (hn : n ≤ 1000000) :
    Calls Tryd.prog 24 #[.slice A k c, .string x] w fun e w' => e = .returned (.bool (containsS (zs.take k) x)) ∧ w = w' := by
  have hl := h.slen
  by_cases h0 : k = 0
  · subst h0
    exact (Tryd.slices_Contains_string_empty A c x w).mono fun e w' ⟨he, hw⟩ => ⟨he, hw.symm⟩
  · obtain ⟨b, off, rfl, _, hc⟩ := h.2 (by omega)
    refine (Tryd.slices_Contains_string b off k c zs x w (by omega) (by omega) ?_).mono fun e w' ⟨he, hw⟩ => ⟨he, hw.symm⟩
    intro j hj
    refine hc j _ ?_
    simp [strs, hj]

set_option maxHeartbeats 3200000 in
theorem printable_any (A B : Option Addr) (n m c d : Nat) (cs : List Int) (zs : List ByteArray) (w : World) (ha : Sl w w.heap.size A n (ints cs)) (hb : Sl w w.heap.size B m (strs zs)) (hn : n ≤ 1000000) (hm : m ≤ 1000000) (hd : m ≤ d) (hz : ∀ z ∈ zs, z.size ≤ 1000000) :
    Calls Tryd.prog 18 #[.slice A n c, .slice B m d] w fun e w' => e = .returned (.int .i64 (printE cs zs)) ∧ Below w.heap.size w w' := by
  have HX := Lib.hid ha.ilen
  have HY := Lib.hid hb.slen
  have HZ := Lib.hid hz; clear hz
  by_cases hnm : n = m
  · subst hnm
    have HLE : Hid (cs.length = zs.length) := HX.out.trans HY.out.symm
    go_enter Tryd.func18, Tryd.ntmps18
    go_wp2
    go_loopw [18] (fun i wr => ∃ k : Nat, k ≤ n ∧ i = .int .i64 k ∧ Hid (sized (zs.take k) = true) ∧ Below w.heap.size w wr) (fun i _ => n - (intOf i).toNat)
    case atStart => exact ⟨0, Nat.zero_le _, rfl, by simp [Hid, sized], Below.refl _ _⟩
    case round =>
      obtain ⟨k, hk, rfl, hs, hbel⟩ := hrel
      by_cases hlt : k < n
      · obtain ⟨b', off', z, rfl, hb', hz, hcz⟩ := (hb.below hbel).str_ hlt
        have hzs : z.size ≤ 1000000 := HZ.out z (List.mem_of_getElem? hz)
        have HZk := Lib.hid hz; clear hz
        cases hq : szOk z.data.toList
        · have HE := Lib.hid (printE_size (cs := cs) (sized_not HZk.out hq))
          clear ha hb
          go_wp2_with (go_at_call 23; refine (osize_any _ _ hzs).mono ?_; rintro e w1 ⟨rfl, hb1⟩; rw [hq])
          go_ret
          exact ⟨ret_int HE.out.symm, hbel.trans (hb1.mono hbel.size)⟩
        · have HD := Lib.hid (sized_succ hs.out HZk.out hq)
          clear ha hb
          go_wp2_with (go_at_call 23; refine (osize_any _ _ hzs).mono ?_; rintro e w1 ⟨rfl, hb1⟩; rw [hq])
          go_roundw
          case rel => exact ⟨k + 1, by omega, by go_num, HD, hbel.trans (hb1.mono hbel.size)⟩
          case measure => simp [intOf]; omega
      · obtain rfl : k = n := by omega
        have hs' := hs.out
        rw [List.take_of_length_le (by rw [HY.out]; omega)] at hs'
        have HS := Lib.hid hs'
        clear hs'
        have ha1 := ha.below hbel
        have hb1 := hb.below hbel
        clear ha hb
        by_cases h12 : 12 < k
        · have HE := Lib.hid (printE_long HLE.out HS.out (by rw [HY.out]; exact h12))
          go_wp2
          go_ret
          exact ⟨ret_int HE.out.symm, hbel⟩
        · have HL : Hid (¬ 12 < zs.length) := by rw [HY.out]; exact h12
          go_wp2
          go_loop [31] (fun i => ∃ j : Nat, j ≤ k ∧ i = .int .i64 j ∧ Hid (within (cs.take j) = true)) (fun i => k - (intOf i).toNat)
          case atStart => exact ⟨0, Nat.zero_le _, rfl, by simp [Hid, within]⟩
          case round =>
            obtain ⟨j, hj, rfl, hw⟩ := hrel
            by_cases hlj : j < k
            · obtain ⟨b', off', x, rfl, _, hx, hcx⟩ := ha1.int_ hlj
              have HXk := Lib.hid hx; clear hx ha1 hb1
              cases hix : isC x
              · have HE := Lib.hid (printE_range HLE.out HS.out HL.out (within_not HXk.out hix))
                go_wp2_with (go_at_call 14; refine (isCount_any _ _).mono ?_; rintro e w' ⟨rfl, rfl⟩)
                go_ret
                exact ⟨ret_int HE.out.symm, hbel⟩
              · have HW := Lib.hid (within_succ hw.out HXk.out hix)
                go_wp2_with (go_at_call 14; refine (isCount_any _ _).mono ?_; rintro e w' ⟨rfl, rfl⟩)
                go_round
                case rel => exact ⟨j + 1, by omega, by go_num, HW⟩
                case measure => simp [intOf]; omega
            · obtain rfl : j = k := by omega
              have HW := Lib.hid (within_all hw.out HX.out)
              clear ha1
              go_wp2
              go_loop [41] (fun i => ∃ q : Nat, q ≤ j ∧ i = .int .i64 q ∧ Hid (∀ p, p < q → okAt zs p = true)) (fun i => j - (intOf i).toNat)
              case atStart => exact ⟨0, Nat.zero_le _, rfl, fun p hp => by omega⟩
              case round =>
                obtain ⟨q, hq, rfl, hok⟩ := hrel
                by_cases hlq : q < j
                · obtain ⟨b', off', z, rfl, _, hz, hcz⟩ := hb1.str_ hlq
                  have HZk := Lib.hid hz; clear hz
                  have hq1 : (q : Int) ≤ (d : Int) := by omega
                  cases hc : containsS (zs.take q) z
                  · have HO : Hid (∀ p, p < q + 1 → okAt zs p = true) := fun p hp => by
                      by_cases hpq : p = q
                      · subst hpq
                        rw [okAt_of HZk.out, hc]
                        rfl
                      · exact hok.out p (by omega)
                    go_wp2_with (go_at_call 24; refine (contains_any _ _ _ _ zs _ _ hb1 (by omega) hm).mono ?_; rintro e w' ⟨rfl, rfl⟩; rw [hc])
                    go_round
                    case rel => exact ⟨q + 1, by omega, by go_num, HO⟩
                    case measure => simp [intOf]; omega
                  · have HE := Lib.hid (printE_dup HLE.out HS.out HL.out HW.out (noDup_not HZk.out ((containsS_iff _ _).1 hc)))
                    go_wp2_with (go_at_call 24; refine (contains_any _ _ _ _ zs _ _ hb1 (by omega) hm).mono ?_; rintro e w' ⟨rfl, rfl⟩; rw [hc])
                    go_ret
                    exact ⟨ret_int HE.out.symm, hbel⟩
                · obtain rfl : q = j := by omega
                  have HE := Lib.hid (printE_ok HLE.out HS.out HL.out HW.out (noDup_all HY.out hok.out))
                  go_wp2
                  go_ret
                  exact ⟨ret_int HE.out.symm, hbel⟩
  · have hne : ((n : Int) != (m : Int)) = true := by simp; omega
    have HE := Lib.hid (printE_len (cs := cs) (zs := zs) (by rw [HX.out, HY.out]; exact hnm))
    clear hnm
    go_enter Tryd.func18, Tryd.ntmps18
    go_wp2
    go_ret
    exact ⟨ret_int HE.out.symm, Below.refl _ _⟩
end Go.Proofs.YtkcbgbpgiihdeaaDoor
