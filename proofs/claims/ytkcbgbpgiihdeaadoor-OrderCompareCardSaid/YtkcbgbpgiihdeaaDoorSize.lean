/-
  chart.isSize says whether a text has the form of a size. Conditions: a text of at most 1,000,000 bytes.
-/
import Derived.Test.YtkcbgbpgiihdeaaDoorParse
namespace Go.Proofs.YtkcbgbpgiihdeaaDoor
open Go.RowKit
open Go.Lib hiding intOf

def isUp (b : UInt8) : Bool := decide (65 ≤ b.toNat) && decide (b.toNat ≤ 90)
def isSz (b : UInt8) : Bool := isUp b || isDig b
/-- The form of a size. -/
def szOk (l : List UInt8) : Bool := (decide (1 ≤ l.length) && decide (l.length ≤ 8)) && l.all isSz
theorem isUp_true {b : UInt8} : isUp b = true ↔ 65 ≤ b.toNat ∧ b.toNat ≤ 90 := by simp [isUp]
theorem isSz_cases (b : UInt8) : (isSz b = true ∧ ((65 ≤ b.toNat ∧ b.toNat ≤ 90) ∨ (48 ≤ b.toNat ∧ b.toNat ≤ 57))) ∨ (isSz b = false ∧ (b.toNat < 48 ∨ (57 < b.toNat ∧ b.toNat < 65) ∨ 90 < b.toNat)) := by
  by_cases h : (65 ≤ b.toNat ∧ b.toNat ≤ 90) ∨ (48 ≤ b.toNat ∧ b.toNat ≤ 57)
  · refine .inl ⟨?_, h⟩
    simp only [isSz, Bool.or_eq_true, isUp_true, isDig_true]
    exact h
  · refine .inr ⟨?_, by omega⟩
    cases hq : isSz b
    · rfl
    · simp only [isSz, Bool.or_eq_true, isUp_true, isDig_true] at hq
      exact absurd hq h
theorem szs_succ {l : List UInt8} {k : Nat} {b : UInt8} (h : (l.take k).all isSz = true) (hb : l[k]? = some b) (hd : isSz b = true) : (l.take (k + 1)).all isSz = true := by
  rw [List.take_add_one, hb, List.all_append, h]
  simp [hd]
theorem szs_not {l : List UInt8} {k : Nat} {b : UInt8} (hb : l[k]? = some b) (hd : isSz b = false) : szOk l = false := by
  cases ha : l.all isSz
  · simp [szOk, ha]
  · rw [List.all_eq_true] at ha
    have := ha b (List.mem_of_getElem? hb)
    rw [hd] at this
    cases this

set_option maxHeartbeats 1600000 in
theorem csize_any (s : ByteArray) (w : World) (hs : s.size ≤ 1000000) :
    Calls Tryd.prog 41 #[.string s] w fun e w' => e = .returned (.bool (szOk s.data.toList)) ∧ w = w' := by
  have HL := Lib.hid (size_eq s)
  go_enter Tryd.func41, Tryd.ntmps41
  go_wp2
  go_loop [8] (fun i => ∃ k : Nat, k ≤ s.size ∧ i = .int .i64 k ∧ Hid ((s.data.toList.take k).all isSz = true)) (fun i => s.size - (intOf i).toNat)
  case atStart => exact ⟨0, Nat.zero_le _, rfl, by simp [Hid]⟩
  case round =>
    obtain ⟨k, hk, rfl, hd⟩ := hrel
    by_cases hlt : k < s.size
    · obtain ⟨c, hc⟩ : ∃ c, s[k] = c := ⟨_, rfl⟩
      have hck := at_data s k hlt
      rw [hc] at hck
      have HC := Lib.hid hck
      clear hck
      rcases isSz_cases c with ⟨hz, hq⟩ | ⟨hz, hq⟩
      · have HD := Lib.hid (szs_succ hd.out HC.out hz)
        clear hz
        rcases hq with ⟨h1, h2⟩ | ⟨h1, h2⟩
        · have a1 : (65 : Int) ≤ (c.toNat : Int) := by omega
          have a2 : (c.toNat : Int) ≤ 90 := by omega
          have a3 : (48 : Int) ≤ (c.toNat : Int) := by omega
          have a4 : ¬ (c.toNat : Int) ≤ 57 := by omega
          go_wp2
          go_round
          case rel => exact ⟨k + 1, by omega, by go_num, HD⟩
          case measure => simp [intOf]; omega
        · have a1 : ¬ (65 : Int) ≤ (c.toNat : Int) := by omega
          have a3 : (48 : Int) ≤ (c.toNat : Int) := by omega
          have a4 : (c.toNat : Int) ≤ 57 := by omega
          go_wp2
          go_round
          case rel => exact ⟨k + 1, by omega, by go_num, HD⟩
          case measure => simp [intOf]; omega
      · have HN := Lib.hid (szs_not HC.out hz)
        clear hz
        rcases hq with h1 | ⟨h1, h2⟩ | h1
        · have a1 : ¬ (65 : Int) ≤ (c.toNat : Int) := by omega
          have a3 : ¬ (48 : Int) ≤ (c.toNat : Int) := by omega
          go_wp2
          go_ret
          exact ⟨ret_bool HN.out.symm, rfl⟩
        · have a1 : ¬ (65 : Int) ≤ (c.toNat : Int) := by omega
          have a3 : (48 : Int) ≤ (c.toNat : Int) := by omega
          have a4 : ¬ (c.toNat : Int) ≤ 57 := by omega
          go_wp2
          go_ret
          exact ⟨ret_bool HN.out.symm, rfl⟩
        · have a1 : (65 : Int) ≤ (c.toNat : Int) := by omega
          have a2 : ¬ (c.toNat : Int) ≤ 90 := by omega
          have a3 : (48 : Int) ≤ (c.toNat : Int) := by omega
          have a4 : ¬ (c.toNat : Int) ≤ 57 := by omega
          go_wp2
          go_ret
          exact ⟨ret_bool HN.out.symm, rfl⟩
    · obtain rfl : k = s.size := by omega
      have hd' := hd.out
      rw [List.take_of_length_le (by rw [← HL.out]; omega)] at hd'
      have HN : Hid (szOk s.data.toList = (decide (1 ≤ s.size) && decide (s.size ≤ 8))) := by
        rw [szOk, hd', ← HL.out, Bool.and_true]
        exact rfl
      clear hd'
      by_cases h1 : 1 ≤ s.size
      · by_cases h8 : s.size ≤ 8
        · go_wp2
          go_ret
          exact ⟨ret_bool (by rw [HN.out, Bool.eq_iff_iff]; simp; omega), rfl⟩
        · go_wp2
          go_ret
          exact ⟨ret_bool (by rw [HN.out, Bool.eq_iff_iff]; simp; omega), rfl⟩
      · go_wp2
        go_ret
        exact ⟨ret_bool (by rw [HN.out, Bool.eq_iff_iff]; simp; omega), rfl⟩

end Go.Proofs.YtkcbgbpgiihdeaaDoor
