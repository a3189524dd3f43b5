/- Parts of the proof. -/
import Derived.Test.YtiibocdmlfedkaaGreatDoorH30
import Derived.Test.YtiibocdmlfedkaaGreatDoorH33
import Derived.Test.YtiibocdmlfedkaaGreatDoorH35
namespace Go.Proofs.YtiibocdmlfedkaaGreatDoor
section
open Go.RowKit
open Go.Lib hiding intOf
theorem pieceL_eq {p : PPiece} {a b c d : Nat} (h1 : p.edges.length = a) (h2 : p.corners.length = b) (h3 : p.widths.length = c) (h4 : p.notches.length = d) :
  pieceL p = (decide (a ≤ 20) && (decide (b ≤ 20) && (decide (c ≤ 20) && (decide (d ≤ 20) && (p.edges.all edgeL && decide (linesTo p.edges a ≤ 80)))))) := by
 unfold pieceL
 rw [h1, h2, h3, h4]
set_option maxRecDepth 100000 in
set_option maxHeartbeats 6400000 in
theorem pieceLight_any (p : PPiece) (E : Option Addr) (en ec : Nat) (N : Option Addr) (nn nc : Nat) (C : Option Addr) (cn cc : Nat) (D : Option Addr) (dn dc : Nat) (w : World)
  (h1 : Recs 2 edgeG w E en p.edges) (h2 : p.notches.length = nn) (h3 : p.corners.length = cn) (h4 : p.widths.length = dn) :
  Calls Tryz.prog 29 #[.agg #[.string p.name, .slice E en ec, .int .i64 p.grain, .slice N nn nc, .slice C cn cc, .slice D dn dc, .bool p.match_], .int .i64 80] w fun e w' => e = .returned (.bool (pieceL p)) ∧ Below w.heap.size w w' := by
 have HB : Hid (Below w.heap.size w (w.alloc (.cells #[.string p.name, .slice E en ec, .int .i64 p.grain, .slice N nn nc, .slice C cn cc, .slice D dn dc, .bool p.match_] 67))) := (Below.refl _ _).alloc (Nat.le_refl _) _
 have HA := Lib.hid h1
 have HQ := Lib.hid (pieceL_eq h1.len h3 h4 h2)
 have HLN := Lib.hid h1.len
 obtain ⟨R, hR⟩ : ∃ R, pieceL p = R := ⟨_, rfl⟩
 rw [hR] at HQ ⊢
 clear h1 h2 h3 h4 hR
 by_cases a1 : 20 < en
 ·have HE : Hid (R = false) := by rw [Hid, HQ.out, decide_eq_false (by omega), Bool.false_and]
  go_enter Tryz.func29, Tryz.ntmps29
  go_wp2
  go_ret
  exact ⟨by rw [HE.out]; rfl, HB.out⟩
 by_cases a2 : 20 < cn
 ·have HE : Hid (R = false) := by rw [Hid, HQ.out, decide_eq_false (p := cn ≤ 20) (by omega), Bool.false_and, Bool.and_false]
  go_enter Tryz.func29, Tryz.ntmps29
  go_wp2
  go_ret
  exact ⟨by rw [HE.out]; rfl, HB.out⟩
 by_cases a3 : 20 < dn
 ·have HE : Hid (R = false) := by rw [Hid, HQ.out, decide_eq_false (p := dn ≤ 20) (by omega), Bool.false_and, Bool.and_false, Bool.and_false]
  go_enter Tryz.func29, Tryz.ntmps29
  go_wp2
  go_ret
  exact ⟨by rw [HE.out]; rfl, HB.out⟩
 by_cases a4 : 20 < nn
 ·have HE : Hid (R = false) := by rw [Hid, HQ.out, decide_eq_false (p := nn ≤ 20) (by omega), Bool.false_and, Bool.and_false, Bool.and_false, Bool.and_false]
  go_enter Tryz.func29, Tryz.ntmps29
  go_wp2
  go_ret
  exact ⟨by rw [HE.out]; rfl, HB.out⟩
 have HQ2 : Hid (R = (p.edges.all edgeL && decide (linesTo p.edges en ≤ 80))) := by
  rw [Hid, HQ.out, decide_eq_true (by omega), decide_eq_true (by omega), decide_eq_true (by omega), decide_eq_true (by omega)]
  rfl
 clear HQ
 go_enter Tryz.func29, Tryz.ntmps29
 go_wp2
 go_loop [5, 6] (fun n i => ∃ k m : Nat, k ≤ en ∧ m ≤ 80 * k ∧ n = .int .i64 (m : Int) ∧ i = .int .i64 (k : Int) ∧ Hid (linesTo p.edges k = m) ∧ Hid (∀ (j : Nat) (x : PEdge), j < k → p.edges[j]? = some x → edgeL x = true)) (fun _ i => en - (intOf i).toNat)
 case atStart => exact ⟨0, 0, Nat.zero_le _, Nat.zero_le _, rfl, rfl, rfl, fun j x hj => by omega⟩
 case round =>
  obtain ⟨k, m, hk, hm, rfl, rfl, hl, hall⟩ := hrel
  by_cases hlt : k < en
  ·obtain ⟨b, off, x, B, ln, lc, rfl, hbw, hx, c0, c1, s1, s2⟩ := edge_at HA.out hlt
   replace c0 := (HB.out.cell (p := ⟨b, off + k * 2, none⟩) hbw).trans c0
   replace c1 := (HB.out.cell (p := ⟨b, off + k * 2 + 1, none⟩) hbw).trans c1
   have HXX := Lib.hid hx
   have HLL := Lib.hid s1.len
   obtain ⟨q, hq⟩ : ∃ m, x.name.size = m := ⟨_, rfl⟩
   have HM := Lib.hid hq
   have i1 : (0 : Int) ≤ (k : Int) := by omega
   have i2 : (k : Int) < (en : Int) := by omega
   clear hx s1
   by_cases e1 : 80 < ln
   ·have HE : Hid (R = false) := by
     rw [Hid, HQ2.out, all_no HXX.out (by unfold edgeL; rw [HLL.out, decide_eq_false (by omega)]; rfl), Bool.false_and]
    go_wp2_with fail
    go_ret
    exact ⟨by rw [HE.out]; rfl, HB.out⟩
   by_cases e2 : 100 < q
   ·have HE : Hid (R = false) := by
     rw [Hid, HQ2.out, all_no HXX.out (by unfold edgeL; rw [HM.out, decide_eq_false (p := q ≤ 100) (by omega), Bool.and_false]), Bool.false_and]
    go_wp2_with fail
    go_ret
    exact ⟨by rw [HE.out]; rfl, HB.out⟩
   have HE : Hid (∀ (j : Nat) (x : PEdge), j < k + 1 → p.edges[j]? = some x → edgeL x = true) := fun j y hj hy => by
    by_cases e : j = k
    ·subst e
     rw [HXX.out] at hy
     rw [← Option.some.inj hy]
     unfold edgeL
     rw [HM.out, HLL.out, decide_eq_true (by omega), decide_eq_true (by omega)]
     rfl
    ·exact hall.out j y (by omega) hy
   have HS : Hid (linesTo p.edges (k + 1) = m + ln) := by rw [Hid, lines_at HXX.out, hl.out, HLL.out]
   go_wp2_with fail
   go_round
   case rel => exact ⟨k + 1, m + ln, by omega, by omega, by go_num, by go_num, HS, HE⟩
   case measure => simp [intOf]; omega
  ·obtain rfl : en = k := by omega
   have HE : Hid (R = decide (m ≤ 80)) := by
    rw [Hid, HQ2.out, hl.out, all_yes (fun j x hx => hall.out j x (by rw [← HLN.out]; exact (List.getElem?_eq_some_iff.1 hx).1) hx), Bool.true_and]
   by_cases a5 : m ≤ 80
   ·have HF : Hid (R = true) := by rw [Hid, HE.out, decide_eq_true a5]
    go_wp2_with fail
    go_ret
    exact ⟨by rw [HF.out]; simp; omega, HB.out⟩
   ·have HF : Hid (R = false) := by rw [Hid, HE.out, decide_eq_false a5]
    go_wp2_with fail
    go_ret
    exact ⟨by rw [HF.out]; simp; omega, HB.out⟩
end
end Go.Proofs.YtiibocdmlfedkaaGreatDoor
