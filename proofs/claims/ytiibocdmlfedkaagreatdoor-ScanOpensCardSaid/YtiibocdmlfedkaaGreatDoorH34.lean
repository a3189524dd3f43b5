/- Parts of the proof. -/
import Derived.Test.YtiibocdmlfedkaaGreatDoorH09
import Derived.Test.YtiibocdmlfedkaaGreatDoorH17
import Derived.Test.YtiibocdmlfedkaaGreatDoorH29
namespace Go.Proofs.YtiibocdmlfedkaaGreatDoor
section
open Go.RowKit
open Go.Lib hiding intOf
theorem beq_95 (b : UInt8) : (b == 95) = decide (b.toNat = 95) := by
 rw [Bool.eq_iff_iff, beq_iff_eq, decide_eq_true_iff]
 exact ⟨fun e => by rw [e]; rfl, fun e => UInt8.toNat_inj.1 e⟩
theorem nameB_nat (first : Bool) (b : UInt8) : nameB first b = ((decide (97 ≤ b.toNat) && decide (b.toNat ≤ 122)) || (!first && (decide (b.toNat = 95) || (decide (48 ≤ b.toNat) && decide (b.toNat ≤ 57))))) := by
 rw [← beq_95]
 rfl
theorem byte_seven (b : UInt8) : b.toNat < 48 ∨ (48 ≤ b.toNat ∧ b.toNat ≤ 57) ∨ (57 < b.toNat ∧ b.toNat < 95) ∨ b.toNat = 95 ∨ b.toNat = 96 ∨ (97 ≤ b.toNat ∧ b.toNat ≤ 122) ∨ 122 < b.toNat := by omega
set_option maxRecDepth 100000 in
set_option maxHeartbeats 3200000 in
theorem oname_any (s : ByteArray) (w : World) (hs : s.size ≤ 9223372036854775807) :
  Calls Tryz.prog 112 #[.string s] w fun e w' => e = .returned (.bool (nameOk s.data.toList)) ∧ w = w' := by
 have HL := Lib.hid (size_eq s)
 by_cases hbad : s.size = 0 ∨ 24 < s.size ∨ s.data.toList = [109, 105, 110] ∨ s.data.toList = [109, 97, 120]
 ·have HE : Hid (nameOk s.data.toList = false) := by
   cases h : nameOk s.data.toList
   ·rfl
   ·obtain ⟨h1, h2, h3, h4, _⟩ := nameOk_iff.1 h
    rw [← HL.out] at h1 h2
    rcases hbad with h | h | h | h
    ·omega
    ·omega
    ·exact absurd h h3
    ·exact absurd h h4
  by_cases h1 : s.size = 0
  ·obtain ⟨e1, e2⟩ := empty_of s h1
   clear hbad h1
   go_enter Tryz.func112, Tryz.ntmps112
   go_wp2
   go_ret
   exact ⟨by rw [HE.out]; rfl, rfl⟩
  obtain ⟨e1, e2⟩ := full_of s (by omega)
  by_cases h2 : 24 < s.size
  ·have h2' : decide ((24 : Int) < (s.size : Int)) = true := by simp; omega
   clear hbad
   go_enter Tryz.func112, Tryz.ntmps112
   go_wp2
   go_ret
   exact ⟨by rw [HE.out]; rfl, rfl⟩
  have h2' : decide ((24 : Int) < (s.size : Int)) = false := by simp; omega
  by_cases h3 : s.data.toList = [109, 105, 110]
  ·have h3' : (s.toList == [109, 105, 110]) = true := by rw [toList_data, h3]; rfl
   clear hbad h3
   go_enter Tryz.func112, Tryz.ntmps112
   go_wp2
   go_ret
   exact ⟨by rw [HE.out]; rfl, rfl⟩
  have h3' := ne_min h3
  have h4 : s.data.toList = [109, 97, 120] := by
   rcases hbad with h | h | h | h
   ·exact absurd h h1
   ·exact absurd h h2
   ·exact absurd h h3
   ·exact h
  have h4' : (s.toList == [109, 97, 120]) = true := by rw [toList_data, h4]; rfl
  clear hbad h3 h4
  go_enter Tryz.func112, Tryz.ntmps112
  go_wp2
  go_ret
  exact ⟨by rw [HE.out]; rfl, rfl⟩
 ·have h1 : ¬ s.size = 0 := fun h => hbad (.inl h)
  have h2 : ¬ 24 < s.size := fun h => hbad (.inr (.inl h))
  have h3 := ne_min (s := s) fun h => hbad (.inr (.inr (.inl h)))
  have h4 := ne_max (s := s) fun h => hbad (.inr (.inr (.inr h)))
  have HB := Lib.hid hbad
  obtain ⟨e1, e2⟩ := full_of s (by omega)
  have h2' : decide ((24 : Int) < (s.size : Int)) = false := by simp; omega
  clear hbad
  go_enter Tryz.func112, Tryz.ntmps112
  go_wp2
  clear e1 e2 h2' h3 h4
  go_loop [3, 4, 5, 23] (fun _ _ _ i => ∃ k : Nat, k ≤ s.size ∧ i = .int .i64 (k : Int) ∧ Hid (nameUp s.data.toList k)) (fun _ _ _ i => s.size - (intOf i).toNat)
  case atStart => exact ⟨0, Nat.zero_le _, rfl, fun j b hj => by omega⟩
  case round =>
   obtain ⟨k, hk, rfl, hup⟩ := hrel
   by_cases hlt : k < s.size
   ·obtain ⟨b, hb⟩ : ∃ b, s[k] = b := ⟨_, rfl⟩
    have hbk := at_data s k hlt
    rw [hb] at hbk
    have HB' := Lib.hid hbk
    clear hbk
    by_cases hk0 : k = 0
    ·subst hk0
     rcases byte_seven b with h | ⟨h, h'⟩ | ⟨h, h'⟩ | h | h | ⟨h, h'⟩ | h
     ·have d1 : decide ((97 : Int) ≤ (b.toNat : Int)) = false := by simp; omega
      have d2 : decide ((b.toNat : Int) ≤ 122) = true := by simp; omega
      have d3 : decide ((48 : Int) ≤ (b.toNat : Int)) = false := by simp; omega
      have d4 : decide ((b.toNat : Int) ≤ 57) = true := by simp; omega
      have d5 : ((b.toNat : Int) == 95) = false := by simp; omega
      have HN : Hid (nameB (decide (0 = 0)) b = false) := by rw [Hid, nameB_nat]; simp; omega
      have HE : Hid (nameOk s.data.toList = false) := nameOk_no HB'.out HN.out
      clear h
      go_wp2
      go_ret
      exact ⟨by rw [HE.out]; rfl, rfl⟩
     ·have d1 : decide ((97 : Int) ≤ (b.toNat : Int)) = false := by simp; omega
      have d2 : decide ((b.toNat : Int) ≤ 122) = true := by simp; omega
      have d3 : decide ((48 : Int) ≤ (b.toNat : Int)) = true := by simp; omega
      have d4 : decide ((b.toNat : Int) ≤ 57) = true := by simp; omega
      have d5 : ((b.toNat : Int) == 95) = false := by simp; omega
      have HN : Hid (nameB (decide (0 = 0)) b = false) := by rw [Hid, nameB_nat]; simp; omega
      have HE : Hid (nameOk s.data.toList = false) := nameOk_no HB'.out HN.out
      clear h h'
      go_wp2
      go_ret
      exact ⟨by rw [HE.out]; rfl, rfl⟩
     ·have d1 : decide ((97 : Int) ≤ (b.toNat : Int)) = false := by simp; omega
      have d2 : decide ((b.toNat : Int) ≤ 122) = true := by simp; omega
      have d3 : decide ((48 : Int) ≤ (b.toNat : Int)) = true := by simp; omega
      have d4 : decide ((b.toNat : Int) ≤ 57) = false := by simp; omega
      have d5 : ((b.toNat : Int) == 95) = false := by simp; omega
      have HN : Hid (nameB (decide (0 = 0)) b = false) := by rw [Hid, nameB_nat]; simp; omega
      have HE : Hid (nameOk s.data.toList = false) := nameOk_no HB'.out HN.out
      clear h h'
      go_wp2
      go_ret
      exact ⟨by rw [HE.out]; rfl, rfl⟩
     ·have d1 : decide ((97 : Int) ≤ (b.toNat : Int)) = false := by simp; omega
      have d2 : decide ((b.toNat : Int) ≤ 122) = true := by simp; omega
      have d3 : decide ((48 : Int) ≤ (b.toNat : Int)) = true := by simp; omega
      have d4 : decide ((b.toNat : Int) ≤ 57) = false := by simp; omega
      have d5 : ((b.toNat : Int) == 95) = true := by simp; omega
      have HN : Hid (nameB (decide (0 = 0)) b = false) := by rw [Hid, nameB_nat]; simp; omega
      have HE : Hid (nameOk s.data.toList = false) := nameOk_no HB'.out HN.out
      clear h
      go_wp2
      go_ret
      exact ⟨by rw [HE.out]; rfl, rfl⟩
     ·have d1 : decide ((97 : Int) ≤ (b.toNat : Int)) = false := by simp; omega
      have d2 : decide ((b.toNat : Int) ≤ 122) = true := by simp; omega
      have d3 : decide ((48 : Int) ≤ (b.toNat : Int)) = true := by simp; omega
      have d4 : decide ((b.toNat : Int) ≤ 57) = false := by simp; omega
      have d5 : ((b.toNat : Int) == 95) = false := by simp; omega
      have HN : Hid (nameB (decide (0 = 0)) b = false) := by rw [Hid, nameB_nat]; simp; omega
      have HE : Hid (nameOk s.data.toList = false) := nameOk_no HB'.out HN.out
      clear h
      go_wp2
      go_ret
      exact ⟨by rw [HE.out]; rfl, rfl⟩
     ·have d1 : decide ((97 : Int) ≤ (b.toNat : Int)) = true := by simp; omega
      have d2 : decide ((b.toNat : Int) ≤ 122) = true := by simp; omega
      have d3 : decide ((48 : Int) ≤ (b.toNat : Int)) = true := by simp; omega
      have d4 : decide ((b.toNat : Int) ≤ 57) = false := by simp; omega
      have d5 : ((b.toNat : Int) == 95) = false := by simp; omega
      have HN : Hid (nameB (decide (0 = 0)) b = true) := by rw [Hid, nameB_nat]; simp; omega
      clear h h'
      go_wp2
      go_round
      case rel => exact ⟨0 + 1, by omega, by go_num, nameUp_succ hup.out HB'.out HN.out⟩
      case measure => simp [intOf]; omega
     ·have d1 : decide ((97 : Int) ≤ (b.toNat : Int)) = true := by simp; omega
      have d2 : decide ((b.toNat : Int) ≤ 122) = false := by simp; omega
      have d3 : decide ((48 : Int) ≤ (b.toNat : Int)) = true := by simp; omega
      have d4 : decide ((b.toNat : Int) ≤ 57) = false := by simp; omega
      have d5 : ((b.toNat : Int) == 95) = false := by simp; omega
      have HN : Hid (nameB (decide (0 = 0)) b = false) := by rw [Hid, nameB_nat]; simp; omega
      have HE : Hid (nameOk s.data.toList = false) := nameOk_no HB'.out HN.out
      clear h
      go_wp2
      go_ret
      exact ⟨by rw [HE.out]; rfl, rfl⟩
    ·have hk1 : ((k : Int) == 0) = false := by rw [beq_eq_false_iff_ne]; omega
     rcases byte_seven b with h | ⟨h, h'⟩ | ⟨h, h'⟩ | h | h | ⟨h, h'⟩ | h
     ·have d1 : decide ((97 : Int) ≤ (b.toNat : Int)) = false := by simp; omega
      have d2 : decide ((b.toNat : Int) ≤ 122) = true := by simp; omega
      have d3 : decide ((48 : Int) ≤ (b.toNat : Int)) = false := by simp; omega
      have d4 : decide ((b.toNat : Int) ≤ 57) = true := by simp; omega
      have d5 : ((b.toNat : Int) == 95) = false := by simp; omega
      have HN : Hid (nameB (decide (k = 0)) b = false) := by rw [Hid, nameB_nat]; simp [hk0]; omega
      have HE : Hid (nameOk s.data.toList = false) := nameOk_no HB'.out HN.out
      clear h hk0
      go_wp2
      go_ret
      exact ⟨by rw [HE.out]; rfl, rfl⟩
     ·have d1 : decide ((97 : Int) ≤ (b.toNat : Int)) = false := by simp; omega
      have d2 : decide ((b.toNat : Int) ≤ 122) = true := by simp; omega
      have d3 : decide ((48 : Int) ≤ (b.toNat : Int)) = true := by simp; omega
      have d4 : decide ((b.toNat : Int) ≤ 57) = true := by simp; omega
      have d5 : ((b.toNat : Int) == 95) = false := by simp; omega
      have HN : Hid (nameB (decide (k = 0)) b = true) := by rw [Hid, nameB_nat]; simp [hk0]; omega
      clear h h' hk0
      go_wp2
      go_round
      case rel => exact ⟨k + 1, by omega, by go_num, nameUp_succ hup.out HB'.out HN.out⟩
      case measure => simp [intOf]; omega
     ·have d1 : decide ((97 : Int) ≤ (b.toNat : Int)) = false := by simp; omega
      have d2 : decide ((b.toNat : Int) ≤ 122) = true := by simp; omega
      have d3 : decide ((48 : Int) ≤ (b.toNat : Int)) = true := by simp; omega
      have d4 : decide ((b.toNat : Int) ≤ 57) = false := by simp; omega
      have d5 : ((b.toNat : Int) == 95) = false := by simp; omega
      have HN : Hid (nameB (decide (k = 0)) b = false) := by rw [Hid, nameB_nat]; simp [hk0]; omega
      have HE : Hid (nameOk s.data.toList = false) := nameOk_no HB'.out HN.out
      clear h h' hk0
      go_wp2
      go_ret
      exact ⟨by rw [HE.out]; rfl, rfl⟩
     ·have d1 : decide ((97 : Int) ≤ (b.toNat : Int)) = false := by simp; omega
      have d2 : decide ((b.toNat : Int) ≤ 122) = true := by simp; omega
      have d3 : decide ((48 : Int) ≤ (b.toNat : Int)) = true := by simp; omega
      have d4 : decide ((b.toNat : Int) ≤ 57) = false := by simp; omega
      have d5 : ((b.toNat : Int) == 95) = true := by simp; omega
      have HN : Hid (nameB (decide (k = 0)) b = true) := by rw [Hid, nameB_nat]; simp [hk0]; omega
      clear h hk0
      go_wp2
      go_round
      case rel => exact ⟨k + 1, by omega, by go_num, nameUp_succ hup.out HB'.out HN.out⟩
      case measure => simp [intOf]; omega
     ·have d1 : decide ((97 : Int) ≤ (b.toNat : Int)) = false := by simp; omega
      have d2 : decide ((b.toNat : Int) ≤ 122) = true := by simp; omega
      have d3 : decide ((48 : Int) ≤ (b.toNat : Int)) = true := by simp; omega
      have d4 : decide ((b.toNat : Int) ≤ 57) = false := by simp; omega
      have d5 : ((b.toNat : Int) == 95) = false := by simp; omega
      have HN : Hid (nameB (decide (k = 0)) b = false) := by rw [Hid, nameB_nat]; simp [hk0]; omega
      have HE : Hid (nameOk s.data.toList = false) := nameOk_no HB'.out HN.out
      clear h hk0
      go_wp2
      go_ret
      exact ⟨by rw [HE.out]; rfl, rfl⟩
     ·have d1 : decide ((97 : Int) ≤ (b.toNat : Int)) = true := by simp; omega
      have d2 : decide ((b.toNat : Int) ≤ 122) = true := by simp; omega
      have d3 : decide ((48 : Int) ≤ (b.toNat : Int)) = true := by simp; omega
      have d4 : decide ((b.toNat : Int) ≤ 57) = false := by simp; omega
      have d5 : ((b.toNat : Int) == 95) = false := by simp; omega
      have HN : Hid (nameB (decide (k = 0)) b = true) := by rw [Hid, nameB_nat]; simp [hk0]; omega
      clear h h' hk0
      go_wp2
      go_round
      case rel => exact ⟨k + 1, by omega, by go_num, nameUp_succ hup.out HB'.out HN.out⟩
      case measure => simp [intOf]; omega
     ·have d1 : decide ((97 : Int) ≤ (b.toNat : Int)) = true := by simp; omega
      have d2 : decide ((b.toNat : Int) ≤ 122) = false := by simp; omega
      have d3 : decide ((48 : Int) ≤ (b.toNat : Int)) = true := by simp; omega
      have d4 : decide ((b.toNat : Int) ≤ 57) = false := by simp; omega
      have d5 : ((b.toNat : Int) == 95) = false := by simp; omega
      have HN : Hid (nameB (decide (k = 0)) b = false) := by rw [Hid, nameB_nat]; simp [hk0]; omega
      have HE : Hid (nameOk s.data.toList = false) := nameOk_no HB'.out HN.out
      clear h hk0
      go_wp2
      go_ret
      exact ⟨by rw [HE.out]; rfl, rfl⟩
   ·obtain rfl : k = s.size := by omega
    have HE : Hid (nameOk s.data.toList = true) := by
     refine nameOk_iff.2 ⟨by rw [← HL.out]; omega, by rw [← HL.out]; omega, fun h => HB.out (.inr (.inr (.inl h))), fun h => HB.out (.inr (.inr (.inr h))), ?_⟩
     rw [← HL.out]
     exact hup.out
    go_wp2
    go_ret
    exact ⟨by rw [HE.out]; rfl, rfl⟩
theorem areIdx_any (A : Option Addr) (n c m : Nat) (l : List Int) (w : World) {B : Nat} (ha : Sl w B A n (ints l)) (hn : n ≤ 1000000) :
  Calls Tryz.prog 113 #[.slice A n c, .int .i64 (m : Int)] w fun e w' => e = .returned (.bool (idxB m l)) ∧ w = w' := by
 have HA := Lib.hid ha
 have HL := Lib.hid ha.ilen
 clear ha
 go_enter Tryz.func113, Tryz.ntmps113
 go_wp2
 go_loop [6, 9] (fun _ i => ∃ k : Nat, k ≤ n ∧ i = .int .i64 (k : Int) ∧ Hid (∀ (j : Nat) (x : Int), j < k → l[j]? = some x → 0 ≤ x ∧ x < (m : Int))) (fun _ i => n - (intOf i).toNat)
 case atStart => exact ⟨0, Nat.zero_le _, rfl, fun j b hj => by omega⟩
 case round =>
  obtain ⟨k, hk, rfl, hall⟩ := hrel
  by_cases hlt : k < n
  ·obtain ⟨b, off, x, rfl, hbw, hx, c0⟩ := HA.out.int_ hlt
   have HX := Lib.hid hx
   have i1 : (0 : Int) ≤ (k : Int) := by omega
   have i2 : (k : Int) < (n : Int) := by omega
   clear hx
   by_cases hin : 0 ≤ x ∧ x < (m : Int)
   ·have HE : Hid (∀ (j : Nat) (x : Int), j < k + 1 → l[j]? = some x → 0 ≤ x ∧ x < (m : Int)) := fun j x' hj hx' => by
     by_cases e : j = k
     ·subst e
      rw [HX.out] at hx'
      rw [← Option.some.inj hx']
      exact hin
     ·exact hall.out j x' (by omega) hx'
    obtain ⟨q1, q2⟩ := hin
    have q3 : ¬ x < 0 := by omega
    have q4 : ¬ (m : Int) ≤ x := by omega
    go_wp2
    go_round
    case rel => exact ⟨k + 1, by omega, by go_num, HE⟩
    case measure => simp [intOf]; omega
   ·have HE : Hid (idxB m l = false) := idx_no HX.out (by omega)
    by_cases q : x < 0
    ·clear hin
     go_wp2
     go_ret
     exact ⟨by rw [HE.out]; rfl, rfl⟩
    ·have q2 : (m : Int) ≤ x := by omega
     clear hin
     go_wp2
     go_ret
     exact ⟨by rw [HE.out]; rfl, rfl⟩
  ·obtain rfl : n = k := by omega
   have HE : Hid (idxB m l = true) := idx_yes fun j x hx => hall.out j x (by have := (List.getElem?_eq_some_iff.1 hx).1; rw [HL.out] at this; exact this) hx
   go_wp2
   go_ret
   exact ⟨by rw [HE.out]; rfl, rfl⟩
theorem zero_bool2 (w : World) : (zeroValue 4).run Tryz.prog w = .ok (.bool false) w := by kernel_rfl
set_option maxRecDepth 100000 in
set_option maxHeartbeats 3200000 in
theorem repeats_any (A : Option Addr) (n c : Nat) (l : List Int) (w : World) (ha : Sl w w.heap.size A n (ints l)) (hn : n ≤ 1000000) :
  Calls Tryz.prog 114 #[.slice A n c] w fun e w' => e = .returned (.bool (twiceB l)) ∧ Below w.heap.size w w' := by
 have HA := Lib.hid ha
 have HL := Lib.hid ha.ilen
 have hmm := @run_makeMap Tryz.prog
 have uK := Tryz.underlying179
 clear ha
 go_enter Tryz.func114, Tryz.ntmps114
 go_wp2
 clear hmm
 go_loopw [5, 9] (fun _ i wr => ∃ k : Nat, k ≤ n ∧ i = .int .i64 (k : Int) ∧ Hid (∀ (i : Nat) (x : Int), i < k → l[i]? = some x → x ∉ l.take i) ∧ SetM (Value.int .i64) wr w.heap.size (l.take k) ∧ Below w.heap.size w wr) (fun _ i _ => n - (intOf i).toNat)
 case atStart => exact ⟨0, Nat.zero_le _, rfl, (fun j b hj => by omega), SetM.made _ _, (Below.refl _ _).alloc (Nat.le_refl _) _⟩
 case round =>
  obtain ⟨k, hk, rfl, hall, hset, hbel⟩ := hrel
  by_cases hlt : k < n
  ·obtain ⟨b, off, x, rfl, hbw, hx, c0⟩ := (HA.out.on hbel).int_ hlt
   have HX := Lib.hid hx
   have i1 : (0 : Int) ≤ (k : Int) := by omega
   have i2 : (k : Int) < (n : Int) := by omega
   obtain ⟨m, hm, hso⟩ := hset
   have HM := Lib.hid (And.intro hm hso)
   have HB := Lib.hid hbel
   have HG : Hid ((mget m x).getD (.bool false) = .bool (decide (x ∈ l.take k))) := hso.get x
   clear hx hm hso hbel
   by_cases hin : x ∈ l.take k
   ·have HE : Hid (twiceB l = true) := dup_yes HX.out hin
    have HD : Hid ((mget m x).getD (.bool false) = .bool true) := by rw [Hid, HG.out, decide_eq_true hin]
    clear hin
    go_wp2_with (at_lookup; refine wpl_lookup (by rfl) _ _ _ _ (by rfl) (key_int Tryz.underlying3) uK (zero_bool2 _) (by rfl) HM.out.1 x (by rfl) ?_; simp only [HD.out])
    go_ret
    exact ⟨by rw [HE.out]; rfl, HB.out⟩
   ·have HD : Hid ((mget m x).getD (.bool false) = .bool false) := by rw [Hid, HG.out, decide_eq_false hin]
    have HE : Hid (∀ (i : Nat) (x : Int), i < k + 1 → l[i]? = some x → x ∉ l.take i) := fun i x' hi hx' => by
     by_cases e : i = k
     ·subst e
      rw [HX.out] at hx'
      rw [← Option.some.inj hx']
      exact hin
     ·exact hall.out i x' (by omega) hx'
    clear hin
    go_wp2_with (first
     | (at_lookup; refine wpl_lookup (by rfl) _ _ _ _ (by rfl) (key_int Tryz.underlying3) uK (zero_bool2 _) (by rfl) HM.out.1 x (by rfl) ?_; simp only [HD.out])
     | (at_mapUpdate; refine wpl_update (by rfl) _ _ _ _ (by rfl) (key_int Tryz.underlying3) uK (by rfl) HM.out.1 x (by rfl) _ (by rfl) ?_; intro w1 hm1 hg1))
    go_roundw
    case rel =>
     refine ⟨k + 1, by omega, by go_num, HE, ⟨_, hm1, ?_⟩, below_own HB.out hg1 HB.out.size (fun g e => by injection e with e; omega)⟩
     have := HM.out.2.add x
     rw [List.take_add_one, HX.out]
     exact this
    case measure => simp [intOf]; omega
  ·obtain rfl : n = k := by omega
   have HE : Hid (twiceB l = false) := dup_no fun i x hx => hall.out i x (by have := (List.getElem?_eq_some_iff.1 hx).1; rw [HL.out] at this; exact this) hx
   have HB := Lib.hid hbel
   clear hset hbel
   go_wp2
   go_ret
   exact ⟨by rw [HE.out]; rfl, HB.out⟩
end
end Go.Proofs.YtiibocdmlfedkaaGreatDoor
