/-
  Several texts in one: natural.DivMod and natural.Gcd. Conditions: slices of at most 1,000,000 limbs; a divisor that is not 0.
-/
import Derived.Deep.LoopGhost
import Derived.Test.YtjiccijfbpkliaaGreatDoorG16

/- natural.DivMod and natural.Gcd. Conditions: slices of at most 1,000,000 limbs; a divisor that is not 0. -/
namespace Go.Proofs.YtjiccijfbpkliaaGreatDoor
open Go.RowKit

theorem divmod_any (A B : Option Addr) (n m c d x y : Nat) (w : World) (ha : NatA w A n c x) (hb : NatA w B m d y) (hn : n ≤ 1000000) (hm : m ≤ 1000000) (hy : y ≠ 0) :
    Calls Tryz.prog 105 #[.slice A n c, .slice B m d] w (RetDM (x / y) (x % y) w) := by
  by_cases hlt : x < y
  · rw [Nat.div_eq_of_lt hlt, Nat.mod_eq_of_lt hlt]
    exact divmod_lt A B n m c d x y w ha hb hn hm hlt
  · have h1 := nl_pos hy
    by_cases h2 : nl y = 1
    · exact divmod_one A B n m c d x y w ha hb hn hm (by omega) h2
    · obtain ⟨k, hk⟩ : ∃ k, nl y = k + 2 := ⟨nl y - 2, by omega⟩
      exact divmod_big A B n m c d x y k w ha hb hn hm (by omega) hk

/-- What Gcd's loop keeps; the ghost is the second number. -/
def gcdRel (x y : Nat) (w : World) (Y : Nat) (s0 s1 : Value) (wr : World) : Prop :=
  ∃ (A : Option Addr) (n c X : Nat) (B : Option Addr) (m d : Nat), s0 = .slice A n c ∧ s1 = .slice B m d ∧ Sl wr wr.heap.size A n (u32s (limbs X)) ∧ n ≤ c ∧ Sl wr wr.heap.size B m (u32s (limbs Y)) ∧ m ≤ d ∧ Hid (X.gcd Y = x.gcd y) ∧ n ≤ 1000000 ∧ m ≤ 1000000 ∧ Below w.heap.size w wr
theorem gcd_step (X Y : Nat) : Y.gcd (X % Y) = X.gcd Y := by rw [Nat.gcd_comm X Y, Nat.gcd_rec Y X, Nat.gcd_comm]
theorem norm_nat (A : Option Addr) (n c v : Nat) (w : World) (h : NatA w A n c v) (hn : n ≤ 1000000) : Calls Tryz.prog 140 #[.slice A n c] w (RetNF v w) := by
  obtain ⟨l, h1, h2, rfl, h4⟩ := h
  exact norm_any A n c l w h1 h2 h4 hn

set_option maxRecDepth 100000 in
set_option maxHeartbeats 1600000 in
theorem gcd_any (A B : Option Addr) (n m c d x y : Nat) (w : World) (ha : NatA w A n c x) (hb : NatA w B m d y) (hn : n ≤ 1000000) (hm : m ≤ 1000000) :
    Calls Tryz.prog 104 #[.slice A n c, .slice B m d] w (RetN (x.gcd y) w) := by
  have t1 := ha.trimmed.1
  have s1 := hb.trimmed.1
  go_enter Tryz.func104, Tryz.ntmps104
  go_wp2_with fail
  refine (norm_nat A n c x w ha hn).mono ?_
  rintro e w1 ⟨g, n1, rfl, hg, hs1, hb1⟩
  have hb' := hb.on hb1
  clear ha hb
  go_wp2_with fail
  refine (norm_nat B m d y w1 hb' hm).mono ?_
  rintro e w2 ⟨h, n2, rfl, hh, hs2, hb2⟩
  have HS := Lib.hid (And.intro (hs1.on hb2) (And.intro hs2 (hb1.trans (hb2.mono hb1.size))))
  have e1 : n1 ≤ 1000000 := by have := hs1.ulen; have : n1 = nl x := this.symm; omega
  have e2 : n2 ≤ 1000000 := by have := hs2.ulen; have : n2 = nl y := this.symm; omega
  clear hs1 hs2 hb1 hb2 hb'
  go_wp2_with fail
  go_loopg [0, 1] y (fun Y s0 s1 wr => gcdRel x y w Y s0 s1 wr)
  case atStart => exact ⟨_, _, _, x, _, _, _, rfl, rfl, HS.out.1, Nat.le_refl _, HS.out.2.1, Nat.le_refl _, rfl, e1, e2, HS.out.2.2⟩
  case round =>
    clear HS
    obtain ⟨A1, k1, c1, X, B1, k2, d1, rfl, rfl, hA, hc1, hB, hd1, hgcd, l1, l2, hbel⟩ := hrel
    have hk2 : k2 = nl gk := hB.ulen.symm
    by_cases h0 : gk = 0
    · subst h0
      rw [nl_zero] at hk2
      subst hk2
      have HR := Lib.hid hA
      clear hA hB
      go_wp2_with fail
      go_ret
      have hg := hgcd.out
      rw [Nat.gcd_zero_right] at hg
      rw [← hg]
      exact ⟨_, _, _, rfl, HR.out, hc1, hbel⟩
    · have hp := nl_pos h0
      have hk0 : 0 < k2 := by omega
      have HC := Lib.hid (divmod_any A1 B1 k1 k2 c1 d1 X gk wr (.of_limbs hA hc1) (.of_limbs hB hd1) l1 l2 h0)
      have HB := Lib.hid (And.intro hB hk2)
      clear hA hB hk2 hp
      go_wp2_with (go_at_call 105; refine HC.out.mono ?_; rintro e w3 ⟨A3, n3, c3, B3, m3, d3, rfl, hq, hqc, hr, hrc, hb3⟩)
      go_roundg (X % gk)
      case measure => exact Nat.mod_lt _ (by omega)
      case rel =>
        have hm3 : m3 = nl (X % gk) := hr.ulen.symm
        have := nl_mono (Nat.le_of_lt (Nat.mod_lt X (by omega : 0 < gk)))
        have := HB.out.2
        exact ⟨_, _, _, gk, _, _, _, rfl, rfl, HB.out.1.on hb3, hd1, hr, hrc, (gcd_step X gk).trans hgcd.out, l2, by omega, hbel.trans (hb3.mono hbel.size)⟩
end Go.Proofs.YtjiccijfbpkliaaGreatDoor
