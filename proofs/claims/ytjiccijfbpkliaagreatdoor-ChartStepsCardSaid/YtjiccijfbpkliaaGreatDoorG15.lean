/-
  Several texts in one: natural.DivMod returns quotient and remainder. Conditions: slices of at most 1,000,000 limbs.
-/
import Derived.Deep.RegionHeld3
import Derived.Test.YtjiccijfbpkliaaGreatDoorG04
import Derived.Test.YtjiccijfbpkliaaGreatDoorG13

/- natural.DivMod returns quotient and remainder. Conditions: slices of at most 1,000,000 limbs. -/
namespace Go.Proofs.YtjiccijfbpkliaaGreatDoor
open Go.RowKit

/-- A quotient and a remainder come back. -/
def RetDM (q r : Nat) (w : World) (e : Ending) (w' : World) : Prop :=
  ∃ A n c B m d, e = .returned (.tuple #[.slice A n c, .slice B m d, .bool true]) ∧ Sl w' w'.heap.size A n (u32s (limbs q)) ∧ n ≤ c ∧ Sl w' w'.heap.size B m (u32s (limbs r)) ∧ m ≤ d ∧ Below w.heap.size w w'

theorem clz (z : Nat) (h0 : z ≠ 0) (h1 : z < 4294967296) : ∃ s : Nat, s ≤ 31 ∧ 2 ^ 31 ≤ z * 2 ^ s ∧ z * 2 ^ s < bs ∧ (32 - (Lib.bitLen z : Int)) = (s : Int) := by
  obtain ⟨b1, b2, b3⟩ := Lib.bitLenAux_bounds 64 z (by omega) h0
  have b4 : Lib.bitLen z ≤ 32 := Lib.bitLen_le z 32 (by omega) (by omega)
  have e : Lib.bitLenAux 64 z = Lib.bitLen z := rfl
  rw [e] at b1 b2 b3
  generalize Lib.bitLen z = bl at *
  refine ⟨32 - bl, by omega, ?_, ?_, by omega⟩
  · have := Nat.mul_le_mul_right (2 ^ (32 - bl)) b2
    rw [← Nat.pow_add, show bl - 1 + (32 - bl) = 31 by omega] at this
    exact this
  · have := Nat.mul_lt_mul_of_pos_right b3 (Nat.pow_pos (by omega : 0 < 2) : 0 < 2 ^ (32 - bl))
    rw [← Nat.pow_add, show bl + (32 - bl) = 32 by omega] at this
    exact this
theorem lz_any (z s : Nat) (w : World) (h1 : z < 4294967296) (hs : (32 - (Lib.bitLen z : Int)) = (s : Int)) :
    Calls Tryz.prog 141 #[.int .u32 (z : Int)] w fun e w' => e = .returned (.int .i64 (s : Int)) ∧ w = w' := by
  refine (Tryz.bits_LeadingZeros32 (z : Int) w (by omega) (by omega)).mono fun e w' ⟨he, hw⟩ => ⟨?_, hw.symm⟩
  rw [he, Int.toNat_natCast, hs]

theorem below_from_drewN {w w1 : World} {n : Nat} (h : Below (w.drewN n).heap.size (w.drewN n) w1) : Below w.heap.size w w1 := (below_of_drewN w w.heap.size n).trans h
theorem limbs_one {y : Nat} (h0 : y ≠ 0) (h : y < bs) : limbs y = [y] := by rw [limbs_pos h0, Nat.mod_eq_of_lt h, Nat.div_eq_of_lt h, limbs_zero]
theorem nl_one {y : Nat} (h : nl y = 1) : y ≠ 0 ∧ y < bs := by
  have h1 := nl_lt y
  rw [h] at h1
  refine ⟨fun e => ?_, by simpa using h1⟩
  rw [e, nl_zero] at h
  omega
theorem divmod_zero (A B : Option Addr) (n m c d x : Nat) (w : World) (ha : NatA w A n c x) (hb : NatA w B m d 0) (hn : n ≤ 1000000) (hm : m ≤ 1000000) :
    Calls Tryz.prog 105 #[.slice A n c, .slice B m d] w fun e w' => e = .returned (.tuple #[.slice none 0 0, .slice none 0 0, .bool false]) ∧ w = w' := by
  have hz : nl 0 = 0 := nl_zero
  go_enter Tryz.func105, Tryz.ntmps105
  go_wp2_with (go_at_call 108; (with_reducible refine (trim_nat _ _ _ _ _ (by assumption) (by omega)).mono ?_); rintro e w' ⟨rfl, rfl⟩)
  go_ret3
  exact ⟨rfl, rfl⟩

set_option maxRecDepth 100000 in
set_option maxHeartbeats 1600000 in
theorem divmod_lt (A B : Option Addr) (n m c d x y : Nat) (w : World) (ha : NatA w A n c x) (hb : NatA w B m d y) (hn : n ≤ 1000000) (hm : m ≤ 1000000) (hlt : x < y) :
    Calls Tryz.prog 105 #[.slice A n c, .slice B m d] w (RetDM 0 x w) := by
  have hy := nl_pos (v := y) (by omega)
  have hy0 : ((nl y : Int) == 0) = false := by simp; omega
  have t1 := ha.trimmed
  have s1 := hb.trimmed.1
  have ha2 := ha.cut
  have hb2 := hb.cut
  have HE := Lib.hid (cmpN_lt hlt)
  have HA := Lib.hid t1.2
  have t1 := t1.1
  go_enter Tryz.func105, Tryz.ntmps105
  go_wp2_with (first | (go_at_call 108; (with_reducible refine (trim_nat _ _ _ _ _ (by assumption) (by omega)).mono ?_); rintro e w' ⟨rfl, rfl⟩) | (go_at_call 91; (with_reducible refine (cmp_any _ _ _ _ _ _ _ _ _ (by assumption) (by assumption) (by omega) (by omega)).mono ?_); rintro e w' ⟨rfl, nq, rfl⟩; rw [HE.out]))
  have hc := ha.cap
  refine (norm_any _ _ _ (limbs x) _ (HA.out.drewN nq) (okL_limbs x) (by omega) (by omega)).mono ?_
  rintro e w1 ⟨g, k, rfl, hg, hs, hbel⟩
  go_wp2
  go_ret3
  rw [val_limbs] at hs
  exact ⟨none, 0, 0, _, _, _, rfl, by rw [limbs_zero]; exact Sl.none_, Nat.le_refl _, hs, Nat.le_refl _, below_from_drewN hbel⟩

set_option maxRecDepth 100000 in
set_option maxHeartbeats 1600000 in
theorem divmod_one (A B : Option Addr) (n m c d x y : Nat) (w : World) (ha : NatA w A n c x) (hb : NatA w B m d y) (hn : n ≤ 1000000) (hm : m ≤ 1000000) (hle : y ≤ x) (h1 : nl y = 1) :
    Calls Tryz.prog 105 #[.slice A n c, .slice B m d] w (RetDM (x / y) (x % y) w) := by
  obtain ⟨y0, yb⟩ := nl_one h1
  have hs := hb.trimmed.2
  rw [h1, limbs_one y0 yb] at hs
  obtain ⟨b, off, u, rfl, hbw, hu, hcu⟩ := hs.limb_ (k := 0) (by omega)
  obtain rfl : y = u := by simpa using hu
  rw [bs_eq] at yb
  rw [Nat.add_zero] at hcu
  have t1 := ha.trimmed.1
  have ha2 := ha.cut
  have hb2 := hb.cut
  have hge : 0 ≤ cmpN x y := by
    unfold cmpN
    rw [if_neg (by omega)]
    split <;> omega
  generalize hz : cmpN x y = z at *
  have HZ := Lib.hid hz
  rw [h1] at hb2
  have H1 := Lib.hid h1
  have hm1 : 1 ≤ m := by rw [← h1]; exact hb.trimmed.1
  clear hz hs hu h1
  go_enter Tryz.func105, Tryz.ntmps105
  go_wp2_with (first | (go_at_call 108; (with_reducible refine (trim_nat _ _ _ _ _ (by assumption) (by omega)).mono ?_); rintro e w' ⟨rfl, rfl⟩; (try rw [H1.out])) | (go_at_call 91; (with_reducible refine (cmp_any _ _ _ _ _ _ _ _ _ (by assumption) (by assumption) (by omega) (by omega)).mono ?_); rintro e w' ⟨rfl, nq, rfl⟩; rw [HZ.out]))
  have hsh := short_any _ _ _ _ _ _ (ha2.drewN nq) (by omega) (by omega : 0 < y) yb
  obtain ⟨r, hr⟩ : ∃ r, x % y = r := ⟨_, rfl⟩
  have hrb : r < 4294967296 := by
    have := Nat.mod_lt x (by omega : 0 < y)
    omega
  rw [hr] at hsh
  have HR := Lib.hid hr
  clear hr
  refine hsh.mono ?_
  clear hsh
  rintro e w1 ⟨A1, n1, c1, rfl, hq, hqc, hbel, _⟩
  clear ha hb ha2 hb2 hcu
  go_wp2_with fail
  refine (of_any r _ (by omega)).mono ?_
  rintro e w2 ⟨A2, n2, c2, rfl, hr, hrc, hbel2⟩
  go_wp2
  go_ret3
  rw [HR.out]
  exact ⟨_, _, _, _, _, _, rfl, hq.on hbel2, hqc, hr, hrc, (below_from_drewN hbel).trans (hbel2.mono (below_from_drewN hbel).size)⟩
end Go.Proofs.YtjiccijfbpkliaaGreatDoor
