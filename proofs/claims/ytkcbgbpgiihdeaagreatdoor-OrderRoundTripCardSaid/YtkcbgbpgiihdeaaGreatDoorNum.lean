/-
  R35.number and order.item return the number and the item that a text denotes. Conditions: the world holds an int in internal/bytealg.MaxLen; texts shorter than 4294967281 bytes.
-/
import Derived.Test.YtkcbgbpgiihdeaaGreatDoorRefs2
import Derived.Test.YtkcbgbpgiihdeaaGreatDoorText
import Derived.Test.YtkcbgbpgiihdeaaGreatDoorShelf
import Derived.WalkSpells
namespace Go.Proofs.YtkcbgbpgiihdeaaGreatDoor
open Go.RowKit
open Go.Lib hiding intOf

/-- What the library's own variables hold, as far as the contracts of the shelf ask. -/
def Std (w : World) : Prop := (∃ m, w.cell? ⟨0, 0, none⟩ = some (.int .i64 m)) ∧ 0 < w.heap.size ∧ 1 < w.heap.size ∧ TabIs Tryz.prog w "internal/strconv.uint64pow10" .u64 pow10Tab
theorem Std.drewN {w : World} (h : Std w) (k : Nat) : Std (w.drewN k) := h

theorem numOk_no_empty {l : List UInt8} (h : l.length = 0) : numOk l = false := by simp [numOk, h]
theorem numOk_no_long {l : List UInt8} (h : 18 < l.length) : numOk l = false := by simp [numOk]; omega
theorem numOk_no_zero {l : List UInt8} (h : 1 < l.length) (h0 : l[0]? = some 48) : numOk l = false := by simp [numOk, h0]; omega
theorem numOk_no_dig {l : List UInt8} (h : l.all isDig = false) : numOk l = false := by simp [numOk, h]
theorem numOk_yes {l : List UInt8} (h1 : 1 ≤ l.length) (h2 : l.length ≤ 18) (h3 : l.length ≤ 1 ∨ l[0]? ≠ some 48) (h : l.all isDig = true) : numOk l = true := by
  simp only [numOk, h, Bool.and_eq_true, decide_eq_true_eq, Bool.or_eq_true, bne_iff_ne]
  exact ⟨⟨h1, h2⟩, h3, trivial⟩
theorem byte_48 {b : UInt8} (h : ((b.toNat : Int) == 48) = true) : b = 48 := by
  have : b.toNat = 48 := by have := beq_iff_eq.1 h; omega
  exact UInt8.toNat_inj.1 this
theorem byte_not {b : UInt8} {n : Nat} (hn : n < 256) (h : ¬ b.toNat = n) : b ≠ UInt8.ofNat n := by
  rintro rfl
  apply h
  simp [UInt8.toNat_ofNat']
  omega

/-- The number, 0 if there is none. -/
def numV (l : List UInt8) : Int := if numOk l = true then num l else 0
theorem numV_no {l : List UInt8} (h : numOk l = false) : numV l = 0 := by simp [numV, h]
theorem numV_yes {l : List UInt8} (h : numOk l = true) : numV l = num l := by simp [numV, h]
theorem ret_ib {a b : Int} {p q : Bool} (h : a = b) (k : p = q) : Ending.returned (.tuple #[.int .i64 a, .bool p]) = .returned (.tuple #[.int .i64 b, .bool q]) := by rw [h, k]

set_option maxHeartbeats 800000 in
theorem number_any (s : ByteArray) (w : World) (hs : s.size ≤ 1000000) :
    Calls Tryz.prog 36 #[.string s] w fun e w' => e = .returned (.tuple #[.int .i64 (numV s.data.toList), .bool (numOk s.data.toList)]) ∧ w = w' := by
  have HL := Lib.hid (size_eq s)
  by_cases h0 : s.size = 0
  · obtain ⟨e1, e2⟩ := empty_of s h0
    have HN := Lib.hid (numOk_no_empty (l := s.data.toList) (by rw [← HL.out]; exact h0))
    clear h0
    go_enter Tryz.func36, Tryz.ntmps36
    go_wp2
    go_ret2
    exact ⟨ret_ib (numV_no HN.out).symm HN.out.symm, rfl⟩
  obtain ⟨e1, e2⟩ := full_of s (by omega)
  by_cases h18 : 18 < s.size
  · have HN := Lib.hid (numOk_no_long (l := s.data.toList) (by rw [← HL.out]; exact h18))
    go_enter Tryz.func36, Tryz.ntmps36
    go_wp2
    go_ret2
    exact ⟨ret_ib (numV_no HN.out).symm HN.out.symm, rfl⟩
  have hpos : 0 < s.size := by omega
  obtain ⟨b, hb⟩ : ∃ b, s[0] = b := ⟨_, rfl⟩
  have hb0 := at_data s 0 hpos
  rw [hb] at hb0
  have HB := Lib.hid hb0
  clear hb0 h0
  by_cases hz : 1 < s.size ∧ ((b.toNat : Int) == 48) = true
  · obtain ⟨hz1, hz2⟩ := hz
    have HN := Lib.hid (numOk_no_zero (l := s.data.toList) (by rw [← HL.out]; exact hz1) (by rw [HB.out, byte_48 hz2]))
    go_enter Tryz.func36, Tryz.ntmps36
    go_wp2
    go_ret2
    exact ⟨ret_ib (numV_no HN.out).symm HN.out.symm, rfl⟩
  have HZ : Hid (s.data.toList.length ≤ 1 ∨ s.data.toList[0]? ≠ some 48) := by
    rw [← HL.out, HB.out]
    by_cases h1 : 1 < s.size
    · refine .inr fun e => hz ⟨h1, ?_⟩
      injection e with e
      subst e
      rfl
    · exact .inl (by omega)
  have hzz : ¬ 1 < s.size ∨ (1 < s.size ∧ ((b.toNat : Int) == 48) = false) := by
    by_cases h1 : 1 < s.size
    · refine .inr ⟨h1, ?_⟩
      cases hq : ((b.toNat : Int) == 48)
      · rfl
      · exact absurd ⟨h1, hq⟩ hz
    · exact .inl h1
  clear hz
  rcases hzz with h1 | ⟨h1, hz2⟩
  all_goals
    go_enter Tryz.func36, Tryz.ntmps36
    go_wp2
    go_loop [4, 5] (fun t i => ∃ k : Nat, k ≤ s.size ∧ i = .int .i64 k ∧ t = .int .i64 (num (s.data.toList.take k)) ∧ Hid ((s.data.toList.take k).all isDig = true)) (fun _ i => s.size - (intOf i).toNat)
    case atStart => exact ⟨0, Nat.zero_le _, rfl, rfl, by simp [Hid]⟩
    case round =>
      obtain ⟨k, hk, rfl, rfl, hd⟩ := hrel
      by_cases hlt : k < s.size
      · obtain ⟨hT0, hT1⟩ := num_small k s.data.toList hd.out (by rw [← HL.out]; exact hk) (by omega)
        obtain ⟨c, hc⟩ : ∃ c, s[k] = c := ⟨_, rfl⟩
        have hck := at_data s k hlt
        rw [hc] at hck
        have HC := Lib.hid hck
        have HS := Lib.hid (num_succ hck)
        clear hck
        have hc2 := c.toNat_lt
        generalize num (s.data.toList.take k) = T at *
        by_cases hlo : c.toNat < 48
        · have HN := Lib.hid (numOk_no_dig (digs_not HC.out (isDig_false.2 (.inl hlo))))
          have hlo' : (c.toNat : Int) < 48 := by omega
          go_wp2
          go_ret2
          exact ⟨ret_ib (numV_no HN.out).symm HN.out.symm, rfl⟩
        · have hlo' : ¬ (c.toNat : Int) < 48 := by omega
          by_cases hhi : 57 < c.toNat
          · have HN := Lib.hid (numOk_no_dig (digs_not HC.out (isDig_false.2 (.inr hhi))))
            have hhi' : (57 : Int) < (c.toNat : Int) := by omega
            go_wp2
            go_ret2
            exact ⟨ret_ib (numV_no HN.out).symm HN.out.symm, rfl⟩
          · have hhi' : ¬ (57 : Int) < (c.toNat : Int) := by omega
            have HD := Lib.hid (digs_succ hd.out HC.out (isDig_true.2 ⟨by omega, by omega⟩))
            go_wp2
            go_round
            case rel => exact ⟨k + 1, by omega, by go_num, by rw [HS.out], HD⟩
            case measure => simp [intOf]; omega
      · obtain rfl : k = s.size := by omega
        have ht : s.data.toList.take s.size = s.data.toList := List.take_of_length_le (by rw [← HL.out]; omega)
        rw [ht] at hd
        have HN := Lib.hid (numOk_yes (l := s.data.toList) (by rw [← HL.out]; omega) (by rw [← HL.out]; omega) HZ.out hd.out)
        have HT := Lib.hid ht
        clear ht
        go_wp2
        go_ret2
        exact ⟨ret_ib (by rw [numV_yes HN.out, HT.out]) HN.out.symm, rfl⟩
end Go.Proofs.YtkcbgbpgiihdeaaGreatDoor
