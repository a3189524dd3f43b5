/-
  Several texts in one: operation.Order. Conditions: short operations.
-/
import Derived.Test.YtbgkdlfpmbnakaaGreatDoorG39

/- operation.Order. Conditions: short operations. -/
namespace Go.Proofs.YtbgkdlfpmbnakaaGreatDoor
open Go.RowKit
open Go.Lib hiding intOf

set_option maxRecDepth 100000 in
set_option maxHeartbeats 3200000 in
theorem order_any (L : Option Addr) (n c : Nat) (l : List POp) (w : World) (hl : Recs 5 opG w L n l) (hc : n ≤ c) (hs : ∀ o ∈ l, OpS o) :
    Calls Tryz.prog 26 #[.slice L n c] w (RetLst l none w) := by
  have HC := Lib.hid (checkList_none L n c l w hl hc hs)
  clear hl hs
  go_enter Tryz.func26, Tryz.ntmps26
  go_wp2_with fail
  refine HC.out.mono ?_
  rintro e w1 ⟨hb1, hor⟩
  have HB1 := Lib.hid hb1
  rcases hor with ⟨hne, rfl⟩ | ⟨hz, A7, c7, rfl, ho7⟩
  · have HNE := Lib.hid hne
    clear hb1 hne
    go_wp2_with fail
    refine bodyPost_ret (results_tmp2 rfl _ _ _) rfl ?_
    exact ⟨HB1.out, .inl ⟨HNE.out, rfl⟩⟩
  · have HZ := Lib.hid hz
    have HO := Lib.hid ho7
    clear hb1 hz ho7
    go_wp2_with fail
    refine bodyPost_ret (results_tmp2 rfl _ _ _) rfl ?_
    exact ⟨HB1.out, .inr ⟨HZ.out, A7, c7, rfl, HO.out⟩⟩
end Go.Proofs.YtbgkdlfpmbnakaaGreatDoor
