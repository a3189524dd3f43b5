/-
  order.item returns the item that a text denotes, or says that it denotes none. Conditions: Std; texts of at most 1,000,000 bytes.
-/
import Derived.Test.YtkcbgbpgiihdeaaDoorNum
namespace Go.Proofs.YtkcbgbpgiihdeaaDoor
open Go.RowKit
open Go.Lib hiding intOf

theorem cutS (s p d : ByteArray) (f : Bool) (w : World) (hw : Std w) (hs : s.size ≤ 1000000) (h : cut s.data.toList [32] = (p.data.toList, d.data.toList, f)) :
    Calls Tryd.prog 22 #[.string s, .string ⟨#[32]⟩] w fun e w' => e = .returned (.tuple #[.string p, .string d, .bool f]) ∧ ∃ n, w' = w.drewN n := by
  obtain ⟨⟨m, hm⟩, _⟩ := hw
  refine (Tryd.strings_Cut s ⟨#[32]⟩ m w (by omega) hm).mono fun e w' ⟨he, hn⟩ => ⟨?_, hn⟩
  rw [he]
  have e1 : (⟨#[32]⟩ : ByteArray).data.toList = [32] := rfl
  rw [e1, h, mk_data, mk_data]

set_option maxHeartbeats 800000 in
theorem item_yes (s p d : ByteArray) (w : World) (hw : Std w) (hs : s.size ≤ 1000000) (h : cut s.data.toList [32] = (p.data.toList, d.data.toList, true)) (hp : 0 < p.size) (hn : numOk d.data.toList = true) :
    Calls Tryd.prog 16 #[.string s] w fun e w' => e = .returned (.tuple #[.string p, .int .i64 (num d.data.toList), .bool true]) ∧ ∃ n, w' = w.drewN n := by
  have HC := Lib.hid h; clear h
  have HW := Lib.hid hw; clear hw
  have HL := Lib.hid (size_eq d)
  obtain ⟨p1, p2⟩ := full_of p hp
  have hn' := hn
  simp only [numOk, Bool.and_eq_true, decide_eq_true_eq, Bool.or_eq_true, bne_iff_ne] at hn'
  obtain ⟨⟨n1, n2⟩, n3, n4⟩ := hn'
  rw [← HL.out] at n1 n2 n3
  have ND := Lib.hid n4
  clear n4 hn
  obtain ⟨d1, d2⟩ := full_of d n1
  obtain ⟨b, hb⟩ : ∃ b, d[0] = b := ⟨_, rfl⟩
  have hb0 := at_data d 0 n1
  rw [hb] at hb0
  have hzz : ((b.toNat : Int) == 48) = false ∨ (((b.toNat : Int) == 48) = true ∧ d.size ≤ 1) := by
    cases hq : ((b.toNat : Int) == 48)
    · exact .inl rfl
    · refine .inr ⟨rfl, ?_⟩
      rcases n3 with h | h
      · exact h
      · rw [hb0, byte_48 hq] at h
        exact absurd rfl h
  clear n3 hb0
  rcases hzz with hz | ⟨hz, hz1⟩
  all_goals
    go_enter Tryd.func16, Tryd.ntmps16
    go_wp2_with (go_at_call 22; refine (cutS s p d true _ HW.out hs HC.out).mono ?_; rintro e w' ⟨rfl, nq, rfl⟩)
    go_loop [8, 43] (fun t i => ∃ k : Nat, k ≤ d.size ∧ i = .int .i64 k ∧ t = .int .i64 (num (d.data.toList.take k)) ∧ Hid ((d.data.toList.take k).all isDig = true)) (fun _ i => d.size - (intOf i).toNat)
    case atStart => exact ⟨0, Nat.zero_le _, rfl, rfl, by simp [Hid]⟩
    case round =>
      obtain ⟨k, hk, rfl, rfl, hd⟩ := hrel
      by_cases hlt : k < d.size
      · obtain ⟨hT0, hT1⟩ := num_small k d.data.toList hd.out (by rw [← HL.out]; exact hk) (by omega)
        obtain ⟨c, hc⟩ : ∃ c, d[k] = c := ⟨_, rfl⟩
        have hck := at_data d k hlt
        rw [hc] at hck
        have hdg := isDig_true.1 ((List.all_eq_true.1 ND.out) c (List.mem_of_getElem? hck))
        have HD := Lib.hid (digs_succ hd.out hck (isDig_true.2 hdg))
        have HS := Lib.hid (num_succ hck)
        clear hck
        generalize num (d.data.toList.take k) = T at *
        have hlo' : ¬ (c.toNat : Int) < 48 := by omega
        have hhi' : ¬ (57 : Int) < (c.toNat : Int) := by omega
        go_wp2
        go_round
        case rel => exact ⟨k + 1, by omega, by go_num, by rw [HS.out], HD⟩
        case measure => simp [intOf]; omega
      · obtain rfl : k = d.size := by omega
        have ht : d.data.toList.take d.size = d.data.toList := List.take_of_length_le (by rw [← HL.out]; omega)
        have HT := Lib.hid ht
        clear ht
        go_wp2
        go_ret3
        exact ⟨by rw [HT.out]; rfl, _, rfl⟩

set_option maxHeartbeats 1600000 in
theorem item_no (s : ByteArray) (w : World) (hw : Std w) (hs : s.size ≤ 1000000) (h : itemOk s.data.toList = false) :
    Calls Tryd.prog 16 #[.string s] w fun e w' => e = .returned (.tuple #[.string ⟨#[]⟩, .int .i64 0, .bool false]) ∧ ∃ n, w' = w.drewN n := by
  obtain ⟨p, d, f, hc⟩ : ∃ (p d : ByteArray) (f : Bool), cut s.data.toList [32] = (p.data.toList, d.data.toList, f) := ⟨⟨(cut s.data.toList [32]).1.toArray⟩, ⟨(cut s.data.toList [32]).2.1.toArray⟩, (cut s.data.toList [32]).2.2, by simp⟩
  rw [itemOk, hc] at h
  have HC := Lib.hid hc; clear hc
  have HW := Lib.hid hw; clear hw
  have HL := Lib.hid (size_eq d)
  simp only [← size_eq] at h
  cases f
  · clear h
    go_enter Tryd.func16, Tryd.ntmps16
    go_wp2_with (go_at_call 22; refine (cutS s p d false _ HW.out hs HC.out).mono ?_; rintro e w' ⟨rfl, nq, rfl⟩)
    go_ret3
    exact ⟨rfl, _, rfl⟩
  by_cases hp : p.size = 0
  · obtain ⟨p1, p2⟩ := empty_of p hp
    clear h hp
    go_enter Tryd.func16, Tryd.ntmps16
    go_wp2_with (go_at_call 22; refine (cutS s p d true _ HW.out hs HC.out).mono ?_; rintro e w' ⟨rfl, nq, rfl⟩)
    go_ret3
    exact ⟨rfl, _, rfl⟩
  obtain ⟨p1, p2⟩ := full_of p (by omega)
  have hN : numOk d.data.toList = false := by
    simp only [Bool.true_and] at h
    rwa [decide_eq_true (by omega), Bool.true_and] at h
  clear h
  by_cases h0 : d.size = 0
  · obtain ⟨d1, d2⟩ := empty_of d h0
    clear h0 hN
    go_enter Tryd.func16, Tryd.ntmps16
    go_wp2_with (go_at_call 22; refine (cutS s p d true _ HW.out hs HC.out).mono ?_; rintro e w' ⟨rfl, nq, rfl⟩)
    go_ret3
    exact ⟨rfl, _, rfl⟩
  obtain ⟨d1, d2⟩ := full_of d (by omega)
  by_cases h18 : 18 < d.size
  · clear hN
    go_enter Tryd.func16, Tryd.ntmps16
    go_wp2_with (go_at_call 22; refine (cutS s p d true _ HW.out hs HC.out).mono ?_; rintro e w' ⟨rfl, nq, rfl⟩)
    go_ret3
    exact ⟨rfl, _, rfl⟩
  have hpos : 0 < d.size := by omega
  obtain ⟨b, hb⟩ : ∃ b, d[0] = b := ⟨_, rfl⟩
  have hb0 := at_data d 0 hpos
  rw [hb] at hb0
  by_cases hz : ((b.toNat : Int) == 48) = true ∧ 1 < d.size
  · obtain ⟨hz1, hz2⟩ := hz
    clear hN hb0
    go_enter Tryd.func16, Tryd.ntmps16
    go_wp2_with (go_at_call 22; refine (cutS s p d true _ HW.out hs HC.out).mono ?_; rintro e w' ⟨rfl, nq, rfl⟩)
    go_ret3
    exact ⟨rfl, _, rfl⟩
  have HD : Hid (d.data.toList.all isDig = false) := by
    cases ha : d.data.toList.all isDig
    · exact rfl
    · exfalso
      rw [numOk_yes (by rw [← HL.out]; omega) (by rw [← HL.out]; omega) ?_ ha] at hN
      · cases hN
      · rw [← HL.out, hb0]
        by_cases h1 : 1 < d.size
        · refine .inr fun e => hz ⟨?_, h1⟩
          injection e with e
          subst e
          rfl
        · exact .inl (by omega)
  clear hN hb0
  have hzz : ((b.toNat : Int) == 48) = false ∨ (((b.toNat : Int) == 48) = true ∧ ¬ 1 < d.size) := by
    cases hq : ((b.toNat : Int) == 48)
    · exact .inl rfl
    · exact .inr ⟨rfl, fun h1 => hz ⟨hq, h1⟩⟩
  clear hz
  rcases hzz with hz | ⟨hz, hz1⟩
  all_goals
    go_enter Tryd.func16, Tryd.ntmps16
    go_wp2_with (go_at_call 22; refine (cutS s p d true _ HW.out hs HC.out).mono ?_; rintro e w' ⟨rfl, nq, rfl⟩)
    go_loop [8, 43] (fun t i => ∃ k : Nat, k ≤ d.size ∧ i = .int .i64 k ∧ t = .int .i64 (num (d.data.toList.take k)) ∧ Hid ((d.data.toList.take k).all isDig = true)) (fun _ i => d.size - (intOf i).toNat)
    case atStart => exact ⟨0, Nat.zero_le _, rfl, rfl, by simp [Hid]⟩
    case round =>
      obtain ⟨k, hk, rfl, rfl, hd⟩ := hrel
      by_cases hlt : k < d.size
      · obtain ⟨hT0, hT1⟩ := num_small k d.data.toList hd.out (by rw [← HL.out]; exact hk) (by omega)
        obtain ⟨c, hc⟩ : ∃ c, d[k] = c := ⟨_, rfl⟩
        have hck := at_data d k hlt
        rw [hc] at hck
        have HCk := Lib.hid hck
        have HS := Lib.hid (num_succ hck)
        clear hck
        have hc2 := c.toNat_lt
        generalize num (d.data.toList.take k) = T at *
        by_cases hlo : c.toNat < 48
        · have hlo' : (c.toNat : Int) < 48 := by omega
          go_wp2
          go_ret3
          exact ⟨rfl, _, rfl⟩
        · have hlo' : ¬ (c.toNat : Int) < 48 := by omega
          by_cases hhi : 57 < c.toNat
          · have hhi' : (57 : Int) < (c.toNat : Int) := by omega
            go_wp2
            go_ret3
            exact ⟨rfl, _, rfl⟩
          · have hhi' : ¬ (57 : Int) < (c.toNat : Int) := by omega
            have HDk := Lib.hid (digs_succ hd.out HCk.out (isDig_true.2 ⟨by omega, by omega⟩))
            go_wp2
            go_round
            case rel => exact ⟨k + 1, by omega, by go_num, by rw [HS.out], HDk⟩
            case measure => simp [intOf]; omega
      · exfalso
        obtain rfl : k = d.size := by omega
        have hd' := hd.out
        rw [List.take_of_length_le (by rw [← HL.out]; omega), HD.out] at hd'
        cases hd'
end Go.Proofs.YtkcbgbpgiihdeaaDoor
