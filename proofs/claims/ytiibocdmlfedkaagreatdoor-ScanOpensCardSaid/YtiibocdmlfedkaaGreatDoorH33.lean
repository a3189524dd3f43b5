/- Parts of the proof. -/
import Derived.Test.YtiibocdmlfedkaaGreatDoorH04
import Derived.Test.YtiibocdmlfedkaaGreatDoorH09
import Derived.Test.YtiibocdmlfedkaaGreatDoorH29
namespace Go.Proofs.YtiibocdmlfedkaaGreatDoor
section
open Go.RowKit
open Go.Lib hiding intOf
set_option maxRecDepth 100000 in
set_option maxHeartbeats 6400000 in
theorem fewO_any (O : Option Addr) (o oc : Nat) (l : List POp) (w : World) (h : Recs 5 opG w O o l) :
  Calls Tryz.prog 16 #[.slice O o oc] w fun e w' => e = .returned (.bool (fewO l)) ∧ w' = w := by
 have HA := Lib.hid h
 have HLN := Lib.hid h.len
 clear h
 go_enter Tryz.func16, Tryz.ntmps16
 go_wp2_with fail
 go_loop [3] (fun i => ∃ k : Nat, k ≤ o ∧ k ≤ 20 ∧ i = .int .i64 (k : Int) ∧ Hid (∀ (j : Nat) (x : POp), j < k → l[j]? = some x → opL x = true)) (fun i => o - (intOf i).toNat)
 case atStart => exact ⟨0, Nat.zero_le _, Nat.zero_le _, rfl, fun j x hj => by omega⟩
 case round =>
  obtain ⟨k, hk, hk2, rfl, hall⟩ := hrel
  by_cases hlt : k < o
  ·by_cases h20 : k < 20
   ·obtain ⟨b, off, x, B, an, ac, C, un, uc, rfl, hbw, hx, c0, c1, c2, c3, c4, s1, s2, s3, s4⟩ := op_at HA.out hlt
    have HXX := Lib.hid hx
    have HLL := Lib.hid (And.intro s1.ilen s3.ilen)
    obtain ⟨m, hm⟩ : ∃ m, x.name.size = m := ⟨_, rfl⟩
    have HM := Lib.hid hm
    have i1 : (0 : Int) ≤ (k : Int) := by omega
    have i2 : (k : Int) < (o : Int) := by omega
    have i3 : (k : Int) < 20 := by omega
    clear hx s1 s3
    by_cases a1 : 60 < m
    ·have HE : Hid (fewO l = false) := by
      unfold fewO
      rw [Hid, all_no HXX.out (by unfold opL; rw [HM.out, decide_eq_false (by omega)]; rfl), Bool.and_false]
     go_wp2_with fail
     go_ret
     exact ⟨by rw [HE.out]; rfl, rfl⟩
    by_cases a2 : 30 < an
    ·have HE : Hid (fewO l = false) := by
      unfold fewO
      rw [Hid, all_no HXX.out (by unfold opL; rw [HLL.out.1, decide_eq_false (p := an ≤ 30) (by omega), Bool.false_and, Bool.and_false]), Bool.and_false]
     go_wp2_with fail
     go_ret
     exact ⟨by rw [HE.out]; rfl, rfl⟩
    by_cases a3 : 30 < un
    ·have HE : Hid (fewO l = false) := by
      unfold fewO
      rw [Hid, all_no HXX.out (by unfold opL; rw [HLL.out.2, decide_eq_false (p := un ≤ 30) (by omega), Bool.and_false, Bool.and_false]), Bool.and_false]
     go_wp2_with fail
     go_ret
     exact ⟨by rw [HE.out]; rfl, rfl⟩
    have HE : Hid (∀ (j : Nat) (x : POp), j < k + 1 → l[j]? = some x → opL x = true) := fun j y hj hy => by
     by_cases e : j = k
     ·subst e
      rw [HXX.out] at hy
      rw [← Option.some.inj hy]
      unfold opL
      rw [HM.out, HLL.out.1, HLL.out.2, decide_eq_true (by omega), decide_eq_true (by omega), decide_eq_true (by omega)]
      rfl
     ·exact hall.out j y (by omega) hy
    go_wp2_with fail
    go_round
    case rel => exact ⟨k + 1, by omega, by omega, by go_num, HE⟩
    case measure => simp [intOf]; omega
   ·have HE : Hid (fewO l = false) := by
     unfold fewO
     rw [Hid, HLN.out, decide_eq_false (by omega), Bool.false_and]
    have i3 : ¬ (k : Int) < 20 := by omega
    have i2 : (k : Int) < (o : Int) := by omega
    have i4 : ¬ (o : Int) ≤ 20 := by omega
    go_wp2_with fail
    go_ret
    exact ⟨by rw [HE.out]; rfl, rfl⟩
  ·obtain rfl : o = k := by omega
   have HE : Hid (fewO l = true) := by
    unfold fewO
    rw [Hid, HLN.out, decide_eq_true hk2, Bool.true_and]
    exact all_yes fun j x hx => hall.out j x (by rw [← HLN.out]; exact (List.getElem?_eq_some_iff.1 hx).1) hx
   have i4 : (o : Int) ≤ 20 := by omega
   go_wp2_with fail
   go_ret
   exact ⟨by rw [HE.out]; rfl, rfl⟩
set_option maxRecDepth 100000 in
set_option maxHeartbeats 6400000 in
theorem fewW_any (O : Option Addr) (o oc : Nat) (l : List PWorker) (w : World) (h : Recs 2 workerG w O o l) :
  Calls Tryz.prog 17 #[.slice O o oc] w fun e w' => e = .returned (.bool (fewW l)) ∧ w' = w := by
 have HA := Lib.hid h
 have HLN := Lib.hid h.len
 clear h
 go_enter Tryz.func17, Tryz.ntmps17
 go_wp2_with fail
 go_loop [3] (fun i => ∃ k : Nat, k ≤ o ∧ k ≤ 20 ∧ i = .int .i64 (k : Int) ∧ Hid (∀ (j : Nat) (x : PWorker), j < k → l[j]? = some x → workerL x = true)) (fun i => o - (intOf i).toNat)
 case atStart => exact ⟨0, Nat.zero_le _, Nat.zero_le _, rfl, fun j x hj => by omega⟩
 case round =>
  obtain ⟨k, hk, hk2, rfl, hall⟩ := hrel
  by_cases hlt : k < o
  ·by_cases h20 : k < 20
   ·obtain ⟨b, off, x, B, an, ac, rfl, hbw, hx, c0, c1, s1, s2⟩ := worker_at HA.out hlt
    have HXX := Lib.hid hx
    have HLL := Lib.hid s1.ilen
    obtain ⟨m, hm⟩ : ∃ m, x.name.size = m := ⟨_, rfl⟩
    have HM := Lib.hid hm
    have i1 : (0 : Int) ≤ (k : Int) := by omega
    have i2 : (k : Int) < (o : Int) := by omega
    have i3 : (k : Int) < 20 := by omega
    clear hx s1
    by_cases a1 : 60 < m
    ·have HE : Hid (fewW l = false) := by
      unfold fewW
      rw [Hid, all_no HXX.out (by unfold workerL; rw [HM.out, decide_eq_false (by omega)]; rfl), Bool.and_false]
     go_wp2_with fail
     go_ret
     exact ⟨by rw [HE.out]; rfl, rfl⟩
    by_cases a2 : 20 < an
    ·have HE : Hid (fewW l = false) := by
      unfold fewW
      rw [Hid, all_no HXX.out (by unfold workerL; rw [HLL.out, decide_eq_false (p := an ≤ 20) (by omega), Bool.and_false]), Bool.and_false]
     go_wp2_with fail
     go_ret
     exact ⟨by rw [HE.out]; rfl, rfl⟩
    have HE : Hid (∀ (j : Nat) (x : PWorker), j < k + 1 → l[j]? = some x → workerL x = true) := fun j y hj hy => by
     by_cases e : j = k
     ·subst e
      rw [HXX.out] at hy
      rw [← Option.some.inj hy]
      unfold workerL
      rw [HM.out, HLL.out, decide_eq_true (by omega), decide_eq_true (by omega)]
      rfl
     ·exact hall.out j y (by omega) hy
    go_wp2_with fail
    go_round
    case rel => exact ⟨k + 1, by omega, by omega, by go_num, HE⟩
    case measure => simp [intOf]; omega
   ·have HE : Hid (fewW l = false) := by
     unfold fewW
     rw [Hid, HLN.out, decide_eq_false (by omega), Bool.false_and]
    have i3 : ¬ (k : Int) < 20 := by omega
    have i2 : (k : Int) < (o : Int) := by omega
    have i4 : ¬ (o : Int) ≤ 20 := by omega
    go_wp2_with fail
    go_ret
    exact ⟨by rw [HE.out]; rfl, rfl⟩
  ·obtain rfl : o = k := by omega
   have HE : Hid (fewW l = true) := by
    unfold fewW
    rw [Hid, HLN.out, decide_eq_true hk2, Bool.true_and]
    exact all_yes fun j x hx => hall.out j x (by rw [← HLN.out]; exact (List.getElem?_eq_some_iff.1 hx).1) hx
   have i4 : (o : Int) ≤ 20 := by omega
   go_wp2_with fail
   go_ret
   exact ⟨by rw [HE.out]; rfl, rfl⟩
end
end Go.Proofs.YtiibocdmlfedkaaGreatDoor
