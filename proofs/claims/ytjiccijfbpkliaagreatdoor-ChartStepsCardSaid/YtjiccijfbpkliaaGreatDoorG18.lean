/-
  Several texts in one: natural.Parse returns the number that a text denotes, or the error. Conditions: none but that a text has at most 2^63 - 1 bytes.
-/
import Derived.Test.YtjiccijfbpkliaaGreatDoorG03
import Derived.Test.YtjiccijfbpkliaaGreatDoorG07
import Derived.Test.YtjiccijfbpkliaaGreatDoorG17

/- natural.Parse returns the number that a text denotes, or the error. Conditions: none but that a text has at most 2^63 - 1 bytes. -/
namespace Go.Proofs.YtjiccijfbpkliaaGreatDoor
open Go.RowKit
open Go.Lib hiding intOf

/-- The number that a text denotes, 0 where it denotes none. -/
def natV (l : List UInt8) : Nat := if natE l = 0 then valD l else 0
/-- A number and an error come back. -/
def RetNE (v : Nat) (err : Int) (w : World) (e : Ending) (w' : World) : Prop :=
  ∃ A n c, e = .returned (.tuple #[.slice A n c, .int .i64 err]) ∧ Sl w' w'.heap.size A n (u32s (limbs v)) ∧ n ≤ c ∧ Below w.heap.size w w'
theorem RetNE.bad {l : List UInt8} {err : Int} {w w' : World} (he : natE l = err) (h0 : err ≠ 0) (hb : Below w.heap.size w w') : RetNE (natV l) (natE l) w (.returned (.tuple #[.slice none 0 0, .int .i64 err])) w' := by
  rw [natV, he, if_neg h0]
  exact ⟨none, 0, 0, rfl, by rw [limbs_zero]; exact Sl.none_, Nat.le_refl _, hb⟩
theorem nl_ten {l : List UInt8} {k : Nat} (h : (l.take k).all isDig = true) (hk : k ≤ l.length) : nl (valD (l.take k)) ≤ k := by
  apply nl_le
  have h1 := valD_lt _ h
  rw [List.length_take, Nat.min_eq_left hk] at h1
  exact Nat.lt_of_lt_of_le h1 (Nat.pow_le_pow_left (by unfold bs; omega) _)
/-- What natural.Parse's loop keeps. -/
def parseRel (s : ByteArray) (w : World) (T : Option Addr) (tn : Nat) (s4 i : Value) (wr : World) : Prop :=
  ∃ (k : Nat) (A : Option Addr) (n c : Nat), k ≤ s.size ∧ i = .int .i64 (k : Int) ∧ s4 = .slice A n c ∧ Sl wr wr.heap.size A n (u32s (limbs (valD (s.data.toList.take k)))) ∧ n ≤ c ∧ n ≤ k ∧ Hid ((s.data.toList.take k).all isDig = true) ∧ Sl wr wr.heap.size T tn (u32s (limbs 10)) ∧ Below w.heap.size w wr

set_option maxRecDepth 100000 in
set_option maxHeartbeats 1600000 in
theorem nparse_any (s : ByteArray) (w : World) (hs : s.size ≤ 9223372036854775807) :
    Calls Tryz.prog 135 #[.string s] w (RetNE (natV s.data.toList) (natE s.data.toList) w) := by
  have HL := Lib.hid (size_eq s)
  by_cases hlong : 200 < s.size
  · have HE := Lib.hid (natE_long (l := s.data.toList) (by rw [← HL.out]; exact hlong))
    go_enter Tryz.func135, Tryz.ntmps135
    go_wp2
    go_ret2
    exact RetNE.bad HE.out (by omega) (Below.refl _ _)
  have HNL : Hid (¬ 200 < s.data.toList.length) := by rw [Hid, ← HL.out]; exact hlong
  by_cases h0 : s.size = 0
  · obtain ⟨d1, d2⟩ := empty_of s h0
    have HE := Lib.hid (natE_no HNL.out (digOk_empty (by rw [← HL.out]; exact h0)))
    clear h0
    go_enter Tryz.func135, Tryz.ntmps135
    go_wp2
    go_ret2
    exact RetNE.bad HE.out (by omega) (Below.refl _ _)
  have hpos : 0 < s.size := by omega
  obtain ⟨d1, d2⟩ := full_of s hpos
  obtain ⟨b, hb⟩ : ∃ b, s[0] = b := ⟨_, rfl⟩
  have hb0 := at_data s 0 hpos
  rw [hb] at hb0
  by_cases hz : 1 < s.size ∧ b = 48
  · obtain ⟨h1, rfl⟩ := hz
    have HE := Lib.hid (natE_no HNL.out (digOk_zero (by rw [← HL.out]; exact h1) hb0))
    clear hb0
    go_enter Tryz.func135, Tryz.ntmps135
    go_wp2
    go_ret2
    exact RetNE.bad HE.out (by omega) (Below.refl _ _)
  have hzz : (((b.toNat : Int) == 48) = false) ∨ (((b.toNat : Int) == 48) = true ∧ ¬ 1 < s.size) := by
    cases hq : ((b.toNat : Int) == 48)
    · exact .inl rfl
    · exact .inr ⟨rfl, fun h => hz ⟨h, byte_48 hq⟩⟩
  have HH : Hid (s.data.toList.length ≤ 1 ∨ s.data.toList[0]? ≠ some 48) := by
    rw [Hid, ← HL.out, hb0]
    rcases hzz with h | ⟨_, h⟩
    · right
      rintro e
      have : b = 48 := by simpa using e
      subst this
      exact absurd h (by decide)
    · left
      omega
  have hcase : (((b.toNat : Int) == 48) = false ∧ 1 < s.size) ∨ ¬ 1 < s.size := by
    by_cases h1 : 1 < s.size
    · rcases hzz with h | ⟨_, h⟩
      · exact .inl ⟨h, h1⟩
      · exact absurd h1 h
    · exact .inr h1
  clear hz hb0 hzz
  have hten := of_any 10 w (by omega)
  rcases hcase with ⟨hz, hz1⟩ | hz
  all_goals
    go_enter Tryz.func135, Tryz.ntmps135
    go_wp2_with (go_at_call 92; refine hten.mono ?_; rintro e w1 ⟨T, tn, tc, rfl, hT, htc, hb1⟩)
    have HT := Lib.hid (And.intro hT hb1)
    have ht1 : tn ≤ 1 := by
      have := hT.ulen
      have h2 := nl_small (v := 10) (by unfold bs; omega)
      have : tn = nl 10 := this.symm
      omega
    clear hT hb1 hten hb hz
    go_loopw [4, 25] (fun s4 i wr => parseRel s w T tn s4 i wr) (fun _ i _ => s.size - (intOf i).toNat)
    case atStart => exact ⟨0, none, 0, 0, Nat.zero_le _, rfl, rfl, by rw [show valD (s.data.toList.take 0) = 0 from rfl, limbs_zero]; exact Sl.none_, Nat.le_refl _, Nat.le_refl _, by simp [Hid], HT.out.1, HT.out.2⟩
    case round =>
      clear HT
      obtain ⟨k, A, n, c, hk, rfl, rfl, hA, hc, hnk, hd, hT, hbel⟩ := hrel
      by_cases hlt : k < s.size
      · obtain ⟨x, hx⟩ : ∃ x, s[k] = x := ⟨_, rfl⟩
        have hxk := at_data s k hlt
        rw [hx] at hxk
        cases hdx : isDig x
        · have HE := Lib.hid (natE_no HNL.out (digOk_bad hxk hdx))
          have hdx' := isDig_false.1 hdx
          clear hxk hdx hA hT
          rcases hdx' with h | h
          · go_wp2
            go_ret2
            exact RetNE.bad HE.out (by omega) hbel
          · go_wp2
            go_ret2
            exact RetNE.bad HE.out (by omega) hbel
        · have hdg := isDig_true.1 hdx
          obtain ⟨lo, hi⟩ := hdg
          have HD := Lib.hid (digs_succ hd.out hxk hdx)
          have HV := Lib.hid (valD_succ hxk)
          have hlo' : ¬ (x.toNat : Int) < 48 := by omega
          have hhi' : ¬ (57 : Int) < (x.toNat : Int) := by omega
          have HS := Lib.hid (And.intro hA hT)
          obtain ⟨dg, hdg⟩ : ∃ dg, x.toNat - 48 = dg := ⟨_, rfl⟩
          have hs1 : (x.toNat : Int) - 48 = (dg : Int) := by omega
          have hdb : dg < 10 := by omega
          have hs2 : IntKind.u8.wrap (dg : Int) = (dg : Int) := by rw [IntKind.wrap_u8']; omega
          have hs3 : IntKind.u64.wrap (dg : Int) = (dg : Int) := by rw [IntKind.wrap_u64]; omega
          generalize hv : valD (s.data.toList.take k) = v at *
          have hn2 : nl (v * 10) ≤ 1000 := by
            have h1 := nl_mul v 10
            have h2 := nl_small (v := 10) (by unfold bs; omega)
            have h3 : n = nl v := hA.ulen.symm
            omega
          have hn3 : nl dg ≤ 1 := nl_small (by unfold bs; omega)
          rw [hdg] at HV
          have HG := Lib.hid hv
          clear hxk hdx hA hT hdg hv
          go_wp2_with fail
          go_region_with (first
            | (go_at_call 71; go_must ((refine (mul_any A T n tn c tc v 10 _ (by exact .of_limbs HS.out.1 hc) (by exact .of_limbs HS.out.2 htc) (by omega) (by omega)).mono ?_); rintro e w2 ⟨A2, n2, c2, rfl, h2, hc2, hb2⟩; have HB2 := Lib.hid (show Below wr.heap.size wr w2 from ⟨hb2.os, hb2.tape, hb2.output, hb2.size, hb2.block⟩); have l2 : n2 ≤ 1000 := (by rw [← h2.ulen]; exact hn2); have HM := Lib.hid h2; clear hb2 h2))
            | (go_at_call 92; go_must ((refine (of_any dg _ (by omega)).mono ?_); rintro e w3 ⟨A3, n3, c3, rfl, h3, hc3, hb3⟩; have HB3 := Lib.hid hb3; have l3 : n3 ≤ 1000 := (by rw [← h3.ulen]; exact Nat.le_trans hn3 (by omega)); have HO := Lib.hid (And.intro h3 (HM.out.on hb3)); clear hb3 h3))
            | (go_at_call 111; go_must ((refine (add_any A2 A3 n2 n3 c2 c3 (v * 10) dg _ (by exact .of_limbs HO.out.2 hc2) (by exact .of_limbs HO.out.1 hc3) (by omega) (by omega)).mono ?_); rintro e w4 ⟨A4, n4, c4, rfl, h4, hc4, hb4⟩; have HF := Lib.hid (And.intro h4 hb4); clear hb4 h4)))
          all_goals
            go_wp2_with fail
            go_roundw
            case rel =>
              have hlen : n4 ≤ k + 1 := by
                have h1 := HF.out.1.ulen
                have h2 := nl_ten HD.out (by rw [← HL.out]; omega)
                rw [HV.out] at h2
                have : n4 = nl (v * 10 + dg) := h1.symm
                omega
              have hB : Below wr.heap.size wr w4 := (HB2.out.trans (HB3.out.mono HB2.out.size)).trans (HF.out.2.mono (Nat.le_trans HB2.out.size HB3.out.size))
              exact ⟨k + 1, A4, n4, c4, by omega, by go_num, rfl, by rw [HV.out]; exact HF.out.1, hc4, hlen, HD, HS.out.2.on hB, hbel.trans (hB.mono hbel.size)⟩
            case measure => simp [intOf]; omega
      · obtain rfl : k = s.size := by omega
        have ht : s.data.toList.take s.size = s.data.toList := List.take_of_length_le (by rw [← HL.out]; omega)
        have hok : digOk s.data.toList = true := digOk_iff.2 ⟨by rw [← HL.out]; omega, HH.out, by have := hd.out; rwa [ht] at this⟩
        have HE := Lib.hid (natE_ok HNL.out hok)
        have HA := Lib.hid hA
        have HT := Lib.hid ht
        clear hA hT ht hok
        go_wp2
        go_ret2
        rw [natV, if_pos HE.out, HE.out]
        have := HA.out
        rw [HT.out] at this
        exact ⟨_, _, _, rfl, this, hc, hbel⟩
end Go.Proofs.YtjiccijfbpkliaaGreatDoor
