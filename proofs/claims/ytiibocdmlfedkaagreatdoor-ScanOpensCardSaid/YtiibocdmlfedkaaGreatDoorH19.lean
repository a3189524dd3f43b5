/- Parts of the proof. -/
import Derived.Shelf.Abstract
import Derived.Test.YtiibocdmlfedkaaGreatDoorH18
namespace Go.Proofs.YtiibocdmlfedkaaGreatDoor
section
open Go.RowKit
theorem eqIn_spot (x y : Pt) (w : World) : (Op.equalIn 10000 74 (.agg #[.int .i64 x.1, .int .i64 x.2]) (.agg #[.int .i64 y.1, .int .i64 y.2])).run Tryz.prog w = .ok (decide (x = y)) w := by
 have u3 := Tryz.underlying3
 have a3 := Tryz.isAgg3
 have z3 := Tryz.sizeOf3
 have hS : Tryz.prog.underlying 74 = some (.struct (Tryz.prog.fieldsOf 74)) := by kernel_rfl
 have hp : Tryz.prog.stoodInHeld 74 = false := by kernel_rfl
 rw [show (10000 : Nat) = 9999 + 1 from rfl, run_equalIn_agg w 9999 _ _ _ hS hp]
 simp only [Program.fieldsOf, Tryz.underlying74]
 go_simp
 obtain ⟨a, b⟩ := x
 obtain ⟨c, d⟩ := y
 by_cases h1 : a = c <;> by_cases h2 : b = d <;> simp [h1, h2]
theorem Below.alo {X W : World} (h : Below X.heap.size X W) (o : Obj) : Below X.heap.size X (W.alloc o) := h.alloc h.size o
theorem below_then {a w wd w1 : World} (hu : Below a.heap.size a w) (hv : Below wd.heap.size wd w1) (h : wd.heap = w.heap ∧ wd.os = w.os ∧ wd.tape = w.tape ∧ wd.output = w.output := by exact ⟨rfl, rfl, rfl, rfl⟩) : Below a.heap.size a w1 := by
 obtain ⟨h1, h2, h3, h4⟩ := h
 refine ⟨hv.os.trans (h2.trans hu.os), hv.tape.trans (h3.trans hu.tape), hv.output.trans (h4.trans hu.output), ?_, fun i hi => ?_⟩
 ·have := hv.size
  rw [h1] at this
  exact Nat.le_trans hu.size this
 ·have := hv.block i (by rw [h1]; exact Nat.lt_of_lt_of_le hi hu.size)
  rw [h1] at this
  exact this.trans (hu.block i hi)
section
variable (p : Pt) (w : World)
theorem box_spot : Below w.heap.size w (w.alloc (.cells #[.int .i64 p.1, .int .i64 p.2] 74)) := (Below.refl _ _).alloc (Nat.le_refl _) _
theorem pl_outside : Calls Tryz.prog 188 #[.agg #[.int .i64 p.1, .int .i64 p.2]] w fun e w' => e = .returned (.bool (outB p)) ∧ Below w.heap.size w w' := by
 have HB := Lib.hid (box_spot p w)
 obtain ⟨x, y⟩ := p
 simp only at HB ⊢
 by_cases h1 : x < -1048576
 ·go_enter Tryz.func188, Tryz.ntmps188
  go_wp2
  go_ret
  exact ⟨by simp [outB, h1], HB.out⟩
 ·by_cases h2 : 1048576 < x
  ·go_enter Tryz.func188, Tryz.ntmps188
   go_wp2
   go_ret
   exact ⟨by simp [outB, h2], HB.out⟩
  ·by_cases h3 : y < -1048576
   ·go_enter Tryz.func188, Tryz.ntmps188
    go_wp2
    go_ret
    exact ⟨by simp [outB, h3], HB.out⟩
   ·have HE : Hid (outB (x, y) = decide (1048576 < y)) := by
     unfold outB
     simp only
     rw [decide_eq_false h1, decide_eq_false h2, decide_eq_false h3]
     rfl
    go_enter Tryz.func188, Tryz.ntmps188
    go_wp2
    go_ret
    exact ⟨by rw [HE.out]; rfl, HB.out⟩
theorem pg_outside : Calls Tryz.prog 189 #[.agg #[.int .i64 p.1, .int .i64 p.2]] w fun e w' => e = .returned (.bool (outB p)) ∧ Below w.heap.size w w' := by
 have HB := Lib.hid (box_spot p w)
 obtain ⟨x, y⟩ := p
 simp only at HB ⊢
 by_cases h1 : x < -1048576
 ·go_enter Tryz.func189, Tryz.ntmps189
  go_wp2
  go_ret
  exact ⟨by simp [outB, h1], HB.out⟩
 ·by_cases h2 : 1048576 < x
  ·go_enter Tryz.func189, Tryz.ntmps189
   go_wp2
   go_ret
   exact ⟨by simp [outB, h2], HB.out⟩
  ·by_cases h3 : y < -1048576
   ·go_enter Tryz.func189, Tryz.ntmps189
    go_wp2
    go_ret
    exact ⟨by simp [outB, h3], HB.out⟩
   ·have HE : Hid (outB (x, y) = decide (1048576 < y)) := by
     unfold outB
     simp only
     rw [decide_eq_false h1, decide_eq_false h2, decide_eq_false h3]
     rfl
    go_enter Tryz.func189, Tryz.ntmps189
    go_wp2
    go_ret
    exact ⟨by rw [HE.out]; rfl, HB.out⟩
end
structure PredP (g : Nat) (f : Pt → Bool) : Prop where
 calls : ∀ (p : Pt) (w : World), Calls Tryz.prog g #[.agg #[.int .i64 p.1, .int .i64 p.2]] w fun e w' => e = .returned (.bool (f p)) ∧ Below w.heap.size w w'
 enters : ∀ args w, (callFunc g args).run Tryz.prog w = .ok (.enter g args) w
theorem pl_pred : PredP 188 outB := ⟨pl_outside, enters_of Tryz.func188 (by kernel_rfl) rfl⟩
theorem pg_pred : PredP 189 outB := ⟨pg_outside, enters_of Tryz.func189 (by kernel_rfl) rfl⟩
def RetIdx (f : Pt → Bool) (ps : List Pt) (w : World) (e : Ending) (w' : World) : Prop := ∃ z : Int, e = .returned (.int .i64 z) ∧ decide (0 ≤ z) = ps.any f ∧ Below w.heap.size w w'
set_option maxRecDepth 100000 in
set_option maxHeartbeats 1600000 in
theorem indexF_any (g : Nat) (f : Pt → Bool) (hp : PredP g f) (A : Option Addr) (n c : Nat) (ps : List Pt) (w : World) (ha : Recs 2 spotG w A n ps) (hn : n ≤ 1000000) :
  Calls Tryz.prog 210 #[.slice A n c, .func (.func g) #[] #[]] w (RetIdx f ps w) := by
 have eg := hp.enters
 have HP := Lib.hid hp
 have HA := Lib.hid ha
 have HL := Lib.hid ha.len
 clear hp ha
 go_enter Tryz.func210, Tryz.ntmps210
 go_wp2
 go_loopw [8] (fun i wr => ∃ k : Nat, k ≤ n ∧ i = .int .i64 (k : Int) ∧ Hid (∀ (j : Nat) (p : Pt), j < k → ps[j]? = some p → f p = false) ∧ Below w.heap.size w wr) (fun i _ => n - (intOf i).toNat)
 case atStart => exact ⟨0, Nat.zero_le _, rfl, (fun j p h => by omega), Below.refl _ _⟩
 case round =>
  obtain ⟨k, hk, rfl, hall, hbel⟩ := hrel
  by_cases hlt : k < n
  ·obtain ⟨b, off, p, rfl, hbw, hpp, c0, c1⟩ := spot_at (HA.out.on spot_mono hbel) hlt
   have HPP := Lib.hid hpp
   have HB := Lib.hid hbel
   have hc := HP.out.calls p wr
   have i1 : (0 : Int) ≤ (k : Int) := by omega
   have i2 : (k : Int) < (n : Int) := by omega
   clear hpp hbel
   cases hq : f p
   ·have HE : Hid (∀ (j : Nat) (p : Pt), j < k + 1 → ps[j]? = some p → f p = false) := fun j p' hj hp' => by
     by_cases e : j = k
     ·subst e
      rw [HPP.out] at hp'
      rw [← Option.some.inj hp']
      exact hq
     ·exact hall.out j p' (by omega) hp'
    rw [hq] at hc
    have HC := Lib.hid hc
    clear hc hq
    go_wp2_with (go_at_fn g; refine HC.out.mono ?_; rintro e w' ⟨rfl, hb'⟩)
    go_roundw
    case rel => exact ⟨k + 1, by omega, by go_num, HE, HB.out.trans (hb'.mono HB.out.size)⟩
    case measure => simp [intOf]; omega
   ·have HE : Hid (ps.any f = true) := List.any_eq_true.2 ⟨p, List.mem_of_getElem? HPP.out, hq⟩
    rw [hq] at hc
    have HC := Lib.hid hc
    clear hc hq
    go_wp2_with (go_at_fn g; refine HC.out.mono ?_; rintro e w' ⟨rfl, hb'⟩)
    go_ret
    exact ⟨k, rfl, by rw [HE.out]; simp, HB.out.trans (hb'.mono HB.out.size)⟩
  ·obtain rfl : n = k := by omega
   have HE : Hid (ps.any f = false) := by
    rw [Hid, List.any_eq_false]
    intro p hp
    obtain ⟨j, hj⟩ := List.getElem?_of_mem hp
    have := hall.out j p (by have := (List.getElem?_eq_some_iff.1 hj).1; rw [HL.out] at this; exact this) hj
    simp [this]
   have HB := Lib.hid hbel
   clear hall hbel
   go_wp2
   go_ret
   exact ⟨-1, rfl, by rw [HE.out]; rfl, HB.out⟩
theorem containsF_any (g : Nat) (f : Pt → Bool) (hp : PredP g f) (A : Option Addr) (n c : Nat) (ps : List Pt) (w : World) (ha : Recs 2 spotG w A n ps) (hn : n ≤ 1000000) :
  Calls Tryz.prog 187 #[.slice A n c, .func (.func g) #[] #[]] w fun e w' => e = .returned (.bool (ps.any f)) ∧ Below w.heap.size w w' := by
 have H1 := Lib.hid (indexF_any g f hp A n c ps w ha hn)
 clear hp ha
 go_enter Tryz.func187, Tryz.ntmps187
 go_wp2_with (go_at_call 210; refine H1.out.mono ?_; rintro e w' ⟨z, rfl, hz, hb⟩; have HZ := Lib.hid hz; have HB := Lib.hid hb; clear hz hb)
 go_ret
 exact ⟨by rw [← HZ.out]; rfl, HB.out⟩
end
section
open Go.RowKit
open Go.Lib hiding intOf
theorem capdig_false {b : UInt8} (h : isCapDig b = false) : b.toNat < 48 ∨ (57 < b.toNat ∧ b.toNat < 65) ∨ 90 < b.toNat := by
 unfold isCapDig at h
 simp only [Bool.or_eq_false_iff, Bool.and_eq_false_iff, decide_eq_false_iff_not] at h
 omega
theorem capdig_true {b : UInt8} (h : isCapDig b = true) : (65 ≤ b.toNat ∧ b.toNat ≤ 90) ∨ (48 ≤ b.toNat ∧ b.toNat ≤ 57) := by
 unfold isCapDig at h
 simp only [Bool.or_eq_true, Bool.and_eq_true, decide_eq_true_iff] at h
 exact h
set_option maxRecDepth 100000 in
set_option maxHeartbeats 1600000 in
theorem isSize_any (s : ByteArray) (w : World) (hs : s.size ≤ 9223372036854775807) :
  Calls Tryz.prog 154 #[.string s] w fun e w' => e = .returned (.bool (sizeOk s.data.toList)) ∧ w = w' := by
 go_enter Tryz.func154, Tryz.ntmps154
 go_wp2
 go_loop [8] (fun i => ∃ k : Nat, k ≤ s.size ∧ i = .int .i64 k ∧ Hid ((s.data.toList.take k).all isCapDig = true)) (fun i => s.size - (intOf i).toNat)
 case atStart => exact ⟨0, Nat.zero_le _, rfl, by rw [Hid]; simp⟩
 case round =>
  obtain ⟨k, hk, rfl, hall⟩ := hrel
  by_cases hlt : k < s.size
  ·obtain ⟨b, hb⟩ : ∃ b, s[k] = b := ⟨_, rfl⟩
   have hat := at_data s k hlt
   rw [hb] at hat
   have HB := Lib.hid hat
   clear hat
   cases hd : isCapDig b
   ·have HE := Lib.hid (sizeOk_no HB.out hd)
    rcases capdig_false hd with h | ⟨h, h'⟩ | h
    ·have q65 : decide ((65 : Int) ≤ (b.toNat : Int)) = false := by simp; omega
     have q90 : decide ((b.toNat : Int) ≤ 90) = true := by simp; omega
     have q48 : decide ((48 : Int) ≤ (b.toNat : Int)) = false := by simp; omega
     have q57 : decide ((b.toNat : Int) ≤ 57) = true := by simp; omega
     clear hd
     go_wp2
     go_ret
     exact ⟨by rw [HE.out]; rfl, rfl⟩
    ·have q65 : decide ((65 : Int) ≤ (b.toNat : Int)) = false := by simp; omega
     have q90 : decide ((b.toNat : Int) ≤ 90) = true := by simp; omega
     have q48 : decide ((48 : Int) ≤ (b.toNat : Int)) = true := by simp; omega
     have q57 : decide ((b.toNat : Int) ≤ 57) = false := by simp; omega
     clear hd
     go_wp2
     go_ret
     exact ⟨by rw [HE.out]; rfl, rfl⟩
    ·have q65 : decide ((65 : Int) ≤ (b.toNat : Int)) = true := by simp; omega
     have q90 : decide ((b.toNat : Int) ≤ 90) = false := by simp; omega
     have q48 : decide ((48 : Int) ≤ (b.toNat : Int)) = true := by simp; omega
     have q57 : decide ((b.toNat : Int) ≤ 57) = false := by simp; omega
     clear hd
     go_wp2
     go_ret
     exact ⟨by rw [HE.out]; rfl, rfl⟩
   ·have HE := Lib.hid (all_take_succ hall.out HB.out hd)
    rcases capdig_true hd with ⟨h1, h2⟩ | ⟨h1, h2⟩
    ·have q65 : decide ((65 : Int) ≤ (b.toNat : Int)) = true := by simp; omega
     have q90 : decide ((b.toNat : Int) ≤ 90) = true := by simp; omega
     have q48 : decide ((48 : Int) ≤ (b.toNat : Int)) = true := by simp; omega
     have q57 : decide ((b.toNat : Int) ≤ 57) = false := by simp; omega
     clear hd
     go_wp2
     go_round
     case rel => exact ⟨k + 1, by omega, by go_num, HE⟩
     case measure => simp [intOf]; omega
    ·have q65 : decide ((65 : Int) ≤ (b.toNat : Int)) = false := by simp; omega
     have q90 : decide ((b.toNat : Int) ≤ 90) = true := by simp; omega
     have q48 : decide ((48 : Int) ≤ (b.toNat : Int)) = true := by simp; omega
     have q57 : decide ((b.toNat : Int) ≤ 57) = true := by simp; omega
     clear hd
     go_wp2
     go_round
     case rel => exact ⟨k + 1, by omega, by go_num, HE⟩
     case measure => simp [intOf]; omega
  ·obtain rfl : k = s.size := by omega
   have ha := hall.out
   rw [show s.data.toList.take s.size = s.data.toList from List.take_of_length_le (Nat.le_refl _)] at ha
   have HA := Lib.hid ha
   have hl : s.data.toList.length = s.size := rfl
   have HL := Lib.hid hl
   clear ha hall hl
   by_cases h1 : 1 ≤ s.size
   ·have q1 : decide ((1 : Int) ≤ (s.size : Int)) = true := by simp; omega
    by_cases h2 : s.size ≤ 8
    ·have q8 : decide ((s.size : Int) ≤ 8) = true := by simp; omega
     have HE : Hid (sizeOk s.data.toList = true) := sizeOk_iff.2 ⟨by rw [HL.out]; exact h1, by rw [HL.out]; exact h2, HA.out⟩
     go_wp2
     go_ret
     exact ⟨by rw [HE.out]; rfl, rfl⟩
    ·have q8 : decide ((s.size : Int) ≤ 8) = false := by simp; omega
     have HE : Hid (sizeOk s.data.toList = false) := by
      cases hq : sizeOk s.data.toList
      ·rfl
      ·exact absurd (sizeOk_iff.1 hq).2.1 (by rw [HL.out]; exact h2)
     go_wp2
     go_ret
     exact ⟨by rw [HE.out]; rfl, rfl⟩
   ·have q1 : decide ((1 : Int) ≤ (s.size : Int)) = false := by simp; omega
    have HE : Hid (sizeOk s.data.toList = false) := by
     cases hq : sizeOk s.data.toList
     ·rfl
     ·exact absurd (sizeOk_iff.1 hq).1 (by rw [HL.out]; exact h1)
    go_wp2
    go_ret
    exact ⟨by rw [HE.out]; rfl, rfl⟩
theorem isIndex_any (S : Option Addr) (n c : Nat) (bs : Int) (R : Option Addr) (m d : Nat) (i : Int) (w : World) :
  Calls Tryz.prog 158 #[.agg #[.slice S n c, .int .i64 bs, .slice R m d], .int .i64 i] w fun e w' => e = .returned (.bool (decide (0 ≤ i) && decide (i < (n : Int)))) ∧ Below w.heap.size w w' := by
 have HB : Hid (Below w.heap.size w (w.alloc (.cells #[.slice S n c, .int .i64 bs, .slice R m d] 196))) := (Below.refl _ _).alloc (Nat.le_refl _) _
 by_cases h0 : 0 ≤ i
 ·by_cases h1 : i < (n : Int)
  ·go_enter Tryz.func158, Tryz.ntmps158
   go_wp2
   go_ret
   exact ⟨by simp [h0, h1], HB.out⟩
  ·go_enter Tryz.func158, Tryz.ntmps158
   go_wp2
   go_ret
   exact ⟨by simp [h1], HB.out⟩
 ·have HD : Hid ((decide (0 ≤ i) && decide (i < (n : Int))) = false) := by rw [Hid, Bool.and_eq_false_iff]; left; simp; omega
  go_enter Tryz.func158, Tryz.ntmps158
  go_wp2
  go_ret
  exact ⟨by rw [HD.out]; rfl, HB.out⟩
def Found (rs : List PRow) (x : ByteArray) (z : Int) : Prop :=
 (z = -1 ∧ ∀ (j : Nat) (r : PRow), rs[j]? = some r → r.name ≠ x) ∨ ∃ (k : Nat) (r : PRow), z = (k : Int) ∧ rs[k]? = some r ∧ r.name = x ∧ ∀ (j : Nat) (r' : PRow), j < k → rs[j]? = some r' → r'.name ≠ x
def RetFound (rs : List PRow) (x : ByteArray) (w : World) (e : Ending) (w' : World) : Prop := ∃ z : Int, e = .returned (.int .i64 z) ∧ Found rs x z ∧ Below w.heap.size w w'
theorem toList_ne {a b : ByteArray} (h : a ≠ b) : (a.toList == b.toList) = false := by
 rw [toList_data, toList_data]
 simp only [beq_eq_false_iff_ne, ne_eq]
 intro e
 exact h (eq_of_data e)
theorem closure_any (nm x : ByteArray) (u1 u2 u3 u4 : Value) (B : Nat) (w : World) (hB : B < w.heap.size) (hc : w.cell? ⟨B, 0, none⟩ = some (.string x)) :
  Calls Tryz.prog 186 #[.agg #[.string nm, u1, u2, u3, u4], .pointer (some ⟨B, 0, none⟩)] w fun e w' => e = .returned (.bool (decide (nm = x))) ∧ Below w.heap.size w w' := by
 have hne : ¬ B = w.heap.size := by omega
 have HB : Hid (Below w.heap.size w (w.alloc (.cells #[.string nm, u1, u2, u3, u4] 226))) := (Below.refl _ _).alloc (Nat.le_refl _) _
 by_cases h : nm = x
 ·subst h
  have hq : (nm.toList == nm.toList) = true := by simp
  go_enter Tryz.func186, Tryz.ntmps186
  go_wp2
  go_ret
  exact ⟨by simp, HB.out⟩
 ·have hq := toList_ne h
  have HD : Hid (decide (nm = x) = false) := by rw [Hid]; simpa using h
  clear h
  go_enter Tryz.func186, Tryz.ntmps186
  go_wp2
  go_ret
  exact ⟨by rw [HD.out]; rfl, HB.out⟩
set_option maxRecDepth 100000 in
set_option maxHeartbeats 1600000 in
theorem indexFunc_any (A : Option Addr) (n c k0 : Nat) (rs : List PRow) (x : ByteArray) (B : Nat) (w : World) (ha : RowsA w A n k0 rs) (hn : n ≤ 1000000) (hB : B < w.heap.size) (hc : w.cell? ⟨B, 0, none⟩ = some (.string x)) :
  Calls Tryz.prog 185 #[.slice A n c, .func (.func 186) #[] #[.pointer (some ⟨B, 0, none⟩)]] w (RetFound rs x w) := by
 have eg : ∀ args w, (callFunc 186 args).run Tryz.prog w = .ok (.enter 186 args) w := enters_of Tryz.func186 (by kernel_rfl) rfl
 have HL := Lib.hid ha.len
 have HA := Lib.hid ha
 have HC := Lib.hid hc
 clear ha hc
 go_enter Tryz.func185, Tryz.ntmps185
 go_wp2
 go_loopw [8] (fun i wr => ∃ k : Nat, k ≤ n ∧ i = .int .i64 (k : Int) ∧ Hid (∀ (j : Nat) (r' : PRow), j < k → rs[j]? = some r' → r'.name ≠ x) ∧ Below w.heap.size w wr) (fun i _ => n - (intOf i).toNat)
 case atStart => exact ⟨0, Nat.zero_le _, rfl, (fun j r h => by omega), Below.refl _ _⟩
 case round =>
  obtain ⟨k, hk, rfl, hno, hbel⟩ := hrel
  by_cases hlt : k < n
  ·obtain ⟨b, off, r, neg, C, m, c1, D, l, d, S, sn, sc, rfl, hbw, hr, g0, g1, g2, g3, g4, _, _, _⟩ := (HA.out.on hbel).at_ hlt
   have i1 : (0 : Int) ≤ (k : Int) := by omega
   have i2 : (k : Int) < (n : Int) := by omega
   have HP := Lib.hid (closure_any r.name x (.bool neg) (.slice C m c1) (.slice D l d) (.slice S sn sc) B wr (Nat.lt_of_lt_of_le hB hbel.size) ((hbel.cell (p := ⟨B, 0, none⟩) hB).trans HC.out))
   have HR := Lib.hid hr
   clear hr
   by_cases he : r.name = x
   ·have hd : decide (r.name = x) = true := by simpa using he
    rw [hd] at HP
    have HE := Lib.hid he
    clear hd he
    go_wp2_with fail
    refine HP.out.mono ?_
    rintro e w1 ⟨rfl, hb1⟩
    go_wp2_with fail
    go_ret
    exact ⟨(k : Int), rfl, .inr ⟨k, r, rfl, HR.out, HE.out, hno.out⟩, hbel.trans (hb1.mono hbel.size)⟩
   ·have hd : decide (r.name = x) = false := by simpa using he
    rw [hd] at HP
    have HE : Hid (∀ (j : Nat) (r' : PRow), j < k + 1 → rs[j]? = some r' → r'.name ≠ x) := fun j r' hj hr' => by
     by_cases e : j = k
     ·subst e
      rw [HR.out] at hr'
      rw [← Option.some.inj hr']
      exact he
     ·exact hno.out j r' (by omega) hr'
    clear hd he
    go_wp2_with fail
    refine HP.out.mono ?_
    rintro e w1 ⟨rfl, hb1⟩
    go_wp2_with fail
    go_roundw
    case rel => exact ⟨k + 1, by omega, by go_num, HE, hbel.trans (hb1.mono hbel.size)⟩
    case measure => simp [intOf]; omega
  ·go_wp2_with fail
   go_ret
   exact ⟨-1, rfl, .inl ⟨rfl, fun j r hr => hno.out j r (by have := (List.getElem?_eq_some_iff.1 hr).1; rw [HL.out] at this; omega) hr⟩, hbel⟩
theorem find_any (A : Option Addr) (n c k0 : Nat) (rs : List PRow) (x : ByteArray) (w : World) (ha : RowsA w A n k0 rs) (hn : n ≤ 1000000) :
  Calls Tryz.prog 157 #[.slice A n c, .string x] w (RetFound rs x w) := by
 have hB : Below w.heap.size w (w.alloc (.cells #[.string x] 9)) := (Below.refl _ _).alloc (Nat.le_refl _) _
 have H := Lib.hid (indexFunc_any A n c k0 rs x w.heap.size _ (ha.on hB) hn (by simp) (cell_one w (.string x) 9))
 have HB := Lib.hid hB
 clear ha hB
 go_enter Tryz.func157, Tryz.ntmps157
 go_wp2_with fail
 refine H.out.mono ?_
 rintro e w1 ⟨z, rfl, hz, hb1⟩
 have HZ := Lib.hid hz
 clear hz
 go_wp2_with fail
 go_ret
 exact ⟨z, rfl, HZ.out, HB.out.trans (hb1.mono HB.out.size)⟩
end
end Go.Proofs.YtiibocdmlfedkaaGreatDoor
