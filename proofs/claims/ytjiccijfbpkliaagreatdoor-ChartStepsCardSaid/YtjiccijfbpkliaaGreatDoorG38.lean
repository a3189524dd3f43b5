/-
  Several texts in one: Values, changes and columns of a chart without an error, and comparing equal numbers. Nothing here walks the program. The law ChartTelescopes returns true. Conditions: Std; the chart's data lie in memory. A chart's box while its rows are appended. Nothing here walks the program. Rows that grow step by step in a region that draws. Nothing here walks the program. Charts with scaled numbers, and with another base size: their errors, values and columns. No program in sight. The law ChartBases returns true. Conditions: Std; the chart's data lie in memory.
-/
import Derived.Test.YtjiccijfbpkliaaGreatDoorG19
import Derived.Test.YtjiccijfbpkliaaGreatDoorG29
import Derived.Test.YtjiccijfbpkliaaGreatDoorG33

/- Values, changes and columns of a chart without an error, and comparing equal numbers. Nothing here walks the program. -/
namespace Go.Proofs.YtjiccijfbpkliaaGreatDoor
open Go.RowKit
open Go.Lib hiding intOf

/-- A number in normal form comes back, with no error. -/
def RetH (q : Rat) (w : World) (e : Ending) (w' : World) : Prop :=
  ∃ A n c B m d, e = .returned (.tuple #[.agg #[.bool (ineg q.num), .slice A n c, .slice B m d], .int .i64 0]) ∧ (QH.mk q A n c B m d).Ok w' ∧ Below w.heap.size w w'
theorem found_at {ch : PChart} {j : Nat} {r : PRow} (h : onceB ch.names = true) (hr : ch.rows[j]? = some r) : Found ch.rows r.name (j : Int) := by
  refine .inr ⟨j, r, rfl, hr, rfl, fun i r' hi hr' e => ?_⟩
  have h1 := onceB_iff.1 h j r.name (name_at hr)
  refine h1 (List.mem_of_getElem? (i := i) ?_)
  rw [List.getElem?_take, if_pos hi, name_at hr', e]
section
variable {S R : Option Addr} {n c m d k : Nat} {ch : PChart} {j : Nat} {r : PRow} {w : World}
theorem value_ok (i : Int) (h : ChkA w S n c R m d k ch) (hk2 : k ≤ 400) (h0 : chkP ch = 0) (hr : ch.rows[j]? = some r) (hi : isIdx ch i = true) {q : Rat} (hq : valueP ch r i.toNat = q) :
    Calls Tryz.prog 17 #[.agg #[.slice S n c, .int .i64 ch.base, .slice R m d], .int .i64 i, .string r.name] w (RetH q w) := by
  refine (Value_any S n c R m d k ch i r.name w h hk2).mono fun e w' ⟨z, hz, hret⟩ => ?_
  obtain rfl : z = (j : Int) := hz.uniq (found_at (chk_zero h0).2.2.2.2.1 hr)
  have hE : valErr ch i (j : Int) = 0 := by
    unfold valErr
    rw [if_neg (by simp [h0]), if_neg (by simp [hi]), if_neg (by omega)]
  have hV : valOf ch i (j : Int) = q := by
    unfold valOf
    rw [Int.toNat_natCast, hr]
    exact hq
  obtain ⟨A, n', c', B, m', d', he, h1, h2, h3, h4, hb⟩ := hret.1 hE
  rw [hV] at he h1 h3
  exact ⟨A, n', c', B, m', d', he, ⟨h1, h2, h3, h4⟩, hb⟩
theorem change_ok (a b : Int) (h : ChkA w S n c R m d k ch) (hk2 : k ≤ 400) (h0 : chkP ch = 0) (hr : ch.rows[j]? = some r) (ha : isIdx ch a = true) (hb : isIdx ch b = true) {q : Rat} (hq : chg r.steps a.toNat b.toNat = q) :
    Calls Tryz.prog 23 #[.agg #[.slice S n c, .int .i64 ch.base, .slice R m d], .int .i64 a, .int .i64 b, .string r.name] w (RetH q w) := by
  refine (Change_any S n c R m d k ch a b r.name w h hk2).mono fun e w' ⟨z, hz, hret⟩ => ?_
  obtain rfl : z = (j : Int) := hz.uniq (found_at (chk_zero h0).2.2.2.2.1 hr)
  have hE : chgErr ch a b (j : Int) = 0 := by
    unfold chgErr
    rw [if_neg (by simp [h0]), if_neg (by simp [ha, hb]), if_neg (by omega)]
  have hV : chgOf ch a b (j : Int) = q := by
    unfold chgOf
    rw [Int.toNat_natCast, hr]
    exact hq
  obtain ⟨A, n', c', B, m', d', he, h1, h2, h3, h4, hb⟩ := hret.1 hE
  rw [hV] at he h1 h3
  exact ⟨A, n', c', B, m', d', he, ⟨h1, h2, h3, h4⟩, hb⟩
/-- A column comes back, with no error. -/
def RetM (ms : List (ByteArray × Rat)) (N : Nat) (w : World) (e : Ending) (w' : World) : Prop :=
  ∃ A c, e = .returned (.tuple #[.slice A N c, .int .i64 0]) ∧ N ≤ c ∧ MeasA w' A N ms ∧ Below w.heap.size w w'
theorem column_ok (i : Int) (h : ChkA w S n c R m d k ch) (hk2 : k ≤ 400) (h0 : chkP ch = 0) (hi : isIdx ch i = true) {ms : List (ByteArray × Rat)} (hm : colOf ch i = ms) :
    Calls Tryz.prog 19 #[.agg #[.slice S n c, .int .i64 ch.base, .slice R m d], .int .i64 i] w (RetM ms m w) := by
  refine (Column_any S n c R m d k ch i w h hk2).mono fun e w' ⟨A, n', c', he, hc, hme, hb⟩ => ?_
  have hE : colErr ch i = 0 := by
    unfold colErr
    rw [if_neg (by simp [h0]), if_neg (by simp [hi])]
  rw [if_pos hE, hm] at hme
  rw [hE] at he
  have hn : n' = m := by
    rw [← hme.len, ← hm, colOf, List.length_map]
    exact h.rlen
  subst hn
  exact ⟨A, c', he, hc, hme, hb⟩
theorem col_at {i : Int} {j : Nat} {r : PRow} (hr : ch.rows[j]? = some r) : (colOf ch i)[j]? = some (r.name, valueP ch r i.toNat) := by
  rw [colOf, List.getElem?_map, hr]
  rfl
theorem val_step (i : Nat) : valueP ch r (i + 1) - valueP ch r i = r.steps.getD (i + 1) 0 := by
  unfold valueP
  rw [chg_succ]
  grind
theorem cmp_eq {v u : Value} {j k : Nat} {p q : Rat} (ha : RatA w v j p) (hb : RatA w u k q) (hpq : p = q) (hj : 1 ≤ j) (hk : 1 ≤ k) (hj2 : j ≤ 100000) (hk2 : k ≤ 100000) :
    Calls Tryz.prog 32 #[v, u] w fun e w' => e = .returned (.int .i64 0) ∧ Below w.heap.size w w' := by
  refine (rcmp_any v u j k p q w ha hb hj hk hj2 hk2).mono fun e w' ⟨c, he, hc, hb⟩ => ?_
  obtain rfl := hc.2 hpq
  exact ⟨he, hb⟩
theorem kzero_true {v : Value} {k : Nat} {q : Rat} (ha : RatA w v k q) (hq : q = 0) (hk2 : k ≤ 100000) :
    Calls Tryz.prog 36 #[v] w fun e w' => e = .returned (.bool true) ∧ Below w.heap.size w w' := by
  refine (kzero_any v k q w ha hk2).mono fun e w' ⟨he, hb⟩ => ⟨?_, hb⟩
  rw [he, hq]
  rfl
theorem qk_sub {p q : Rat} {j k : Nat} (h1 : qk p j) (h2 : qk q k) : qk (p - q) (j + k + 1) := by
  rw [Rat.sub_eq_add_neg]
  exact qk_add h1 (qk_neg h2)
theorem isIdx_of {i : Int} (hn : ch.sizes.length = n) (h0 : 0 ≤ i) (h1 : i < (n : Int)) : isIdx ch i = true := isIdx_iff.2 ⟨h0, by omega⟩
/-- The bounds on the numbers of a chart without an error. -/
theorem row_val (hk : 1 ≤ k) (hk2 : k ≤ 20) (hq : ∀ r ∈ ch.rows, qk r.base k ∧ ∀ q ∈ r.steps, qk q k) (h0 : chkP ch = 0) (hr : ch.rows[j]? = some r) {i : Int} (hi : isIdx ch i = true) : qk (valueP ch r i.toNat) 2000 := by
  have hi := isIdx_iff.1 hi
  obtain ⟨h1, _, _, _, _, b0, b1⟩ := chk_zero h0
  have hm := List.mem_of_getElem? hr
  exact val_small hk hk2 (hq r hm).1 (hq r hm).2 (by omega) (by omega)
theorem row_chg (hk : 1 ≤ k) (hk2 : k ≤ 20) (hq : ∀ r ∈ ch.rows, qk r.base k ∧ ∀ q ∈ r.steps, qk q k) (h0 : chkP ch = 0) (hr : ch.rows[j]? = some r) {a b : Int} (ha : isIdx ch a = true) (hb : isIdx ch b = true) : qk (chg r.steps a.toNat b.toNat) 2000 := by
  have ha := isIdx_iff.1 ha
  have hb := isIdx_iff.1 hb
  obtain ⟨h1, _⟩ := chk_zero h0
  have hm := List.mem_of_getElem? hr
  exact (chg_small hk hk2 (hq r hm).2 (by omega) (by omega)).mono (by omega)
/-- The change is the difference of the values. -/
theorem val_diff (a b : Nat) : valueP ch r b - valueP ch r a = chg r.steps a b := by
  unfold valueP chg
  grind
theorem val_base : valueP ch r ch.base.toNat = r.base := by
  unfold valueP
  rw [chg_self]
  grind
end
end Go.Proofs.YtjiccijfbpkliaaGreatDoor

/- The law ChartTelescopes returns true. Conditions: Std; the chart's data lie in memory. -/
namespace Go.Proofs.YtjiccijfbpkliaaGreatDoor
open Go.RowKit
open Go.Lib hiding intOf

theorem six3_keep {w w' : World} {g1 g2 g3 g4 g5 g6 : Nat} {t : TypeId} {a1 b1 c1 a2 b2 c2 a3 b3 c3 a4 b4 c4 a5 b5 c5 a6 b6 c6 : Value}
    (h : Blk w g1 t #[a1, b1, c1] ∧ Blk w g2 t #[a2, b2, c2] ∧ Blk w g3 t #[a3, b3, c3] ∧ Blk w g4 t #[a4, b4, c4] ∧ Blk w g5 t #[a5, b5, c5] ∧ Blk w g6 t #[a6, b6, c6]) (hb : Below w.heap.size w w') :
    w'.cell? ⟨g1, 0, none⟩ = some a1 ∧ w'.cell? ⟨g1, 1, none⟩ = some b1 ∧ w'.cell? ⟨g1, 2, none⟩ = some c1 ∧ w'.cell? ⟨g2, 0, none⟩ = some a2 ∧ w'.cell? ⟨g2, 1, none⟩ = some b2 ∧ w'.cell? ⟨g2, 2, none⟩ = some c2 ∧ w'.cell? ⟨g3, 0, none⟩ = some a3 ∧ w'.cell? ⟨g3, 1, none⟩ = some b3 ∧ w'.cell? ⟨g3, 2, none⟩ = some c3 ∧
    w'.cell? ⟨g4, 0, none⟩ = some a4 ∧ w'.cell? ⟨g4, 1, none⟩ = some b4 ∧ w'.cell? ⟨g4, 2, none⟩ = some c4 ∧ w'.cell? ⟨g5, 0, none⟩ = some a5 ∧ w'.cell? ⟨g5, 1, none⟩ = some b5 ∧ w'.cell? ⟨g5, 2, none⟩ = some c5 ∧ w'.cell? ⟨g6, 0, none⟩ = some a6 ∧ w'.cell? ⟨g6, 1, none⟩ = some b6 ∧ w'.cell? ⟨g6, 2, none⟩ = some c6 := by
  obtain ⟨h1, h2, h3, h4, h5, h6⟩ := h
  exact ⟨(h1.below hb).c rfl, (h1.below hb).c rfl, (h1.below hb).c rfl, (h2.below hb).c rfl, (h2.below hb).c rfl, (h2.below hb).c rfl, (h3.below hb).c rfl, (h3.below hb).c rfl, (h3.below hb).c rfl, (h4.below hb).c rfl, (h4.below hb).c rfl, (h4.below hb).c rfl, (h5.below hb).c rfl, (h5.below hb).c rfl, (h5.below hb).c rfl, (h6.below hb).c rfl, (h6.below hb).c rfl, (h6.below hb).c rfl⟩

set_option maxRecDepth 100000 in
set_option maxHeartbeats 6400000 in
theorem chartTelescopes_walk (S : Option Addr) (n c : Nat) (R : Option Addr) (m d k : Nat) (ch : PChart) (fr to_ via : Int) (w : World) (hw : Std w) (h : LgtA w S n c R m d k ch) :
    Calls Tryz.prog 11 #[.agg #[.slice S n c, .int .i64 ch.base, .slice R m d], .agg #[.int .i64 fr, .int .i64 to_], .int .i64 via] w (RetLaw w) := by
  have hB : Below w.heap.size w ((w.alloc (.cells #[.slice S n c, .int .i64 ch.base, .slice R m d] 25)).alloc (.cells #[.int .i64 fr, .int .i64 to_] 46)) := Below.alo (Below.alo (Below.refl _ _) _) _
  have HX := Lib.hid ((Blk.new w 25 #[.slice S n c, .int .i64 ch.base, .slice R m d]).alloc (.cells #[.int .i64 fr, .int .i64 to_] 46))
  have HY : Hid (Blk ((w.alloc (.cells #[.slice S n c, .int .i64 ch.base, .slice R m d] 25)).alloc (.cells #[.int .i64 fr, .int .i64 to_] 46)) (w.heap.size + 1) 46 #[.int .i64 fr, .int .i64 to_]) := Blk.new' _ _ _ (by simp)
  have HL := Lib.hid (light_any S n c R m d k 4 ch _ (h.on hB) (by omega) (by omega))
  have HB := Lib.hid hB
  have HW := Lib.hid hw
  clear hB h hw
  go_enter Tryz.func11, Tryz.ntmps11
  go_wp2_with fail
  go_fit HL.out
  rintro e w1 ⟨bb, rfl, hA, hiff, hb1⟩
  clear hiff
  have HB1 := Lib.hid (HB.out.trans (hb1.mono HB.out.size))
  cases bb
  · have HE := Lib.hid (example_any _ (HW.out.below HB1.out))
    clear hA hb1
    go_wp2_with fail
    go_fit HE.out
    rintro e w2 ⟨rfl, hb2⟩
    go_wp2_with fail
    go_ret
    exact ⟨rfl, HB1.out.trans (hb2.mono HB1.out.size)⟩
  have hA0 := (hA rfl).1
  have hqs := hA0.lies.2.qks hA0.one
  have HA1 := Lib.hid (hA0.on hb1)
  have X1 := HX.out.below hb1
  have HX1 := Lib.hid X1
  have HY1 := Lib.hid (HY.out.below hb1)
  obtain ⟨x0, x1, x2⟩ := three X1
  have HQS := Lib.hid hqs
  have HSL := Lib.hid hA0.slen
  obtain ⟨E, hE⟩ : ∃ E, chkP ch = E := ⟨_, rfl⟩
  have HCk := hcheck_any S n c R m d 4 ch w1 HA1.out
  rw [hE] at HCk
  have HCk := Lib.hid HCk
  have HEE := Lib.hid hE
  clear hA hA0 hqs hb1 X1 HX HY hE
  go_wp2_with fail
  go_fit HCk.out
  rintro e w2 ⟨rfl, hb2⟩
  have HB2 := Lib.hid (HB1.out.trans (hb2.mono HB1.out.size))
  have HE := Lib.hid (example_any _ (HW.out.below HB2.out))
  have X2 := HX1.out.below hb2
  have Y2 := HY1.out.below hb2
  have HX2 := Lib.hid X2
  have HY2 := Lib.hid Y2
  have HA2 := Lib.hid (HA1.out.on hb2)
  obtain ⟨x0, x1, x2⟩ := three X2
  have y0 := Y2.c (i := 0) rfl
  have y1 := Y2.c (i := 1) rfl
  clear hb2 X2 Y2 HX1 HY1 HA1 HCk
  by_cases hE0 : E ≠ 0
  · have hE1 : (E != 0) = true := by simpa using hE0
    go_wp2_with fail
    go_fit HE.out
    rintro e w3 ⟨rfl, hb3⟩
    go_wp2_with fail
    go_ret
    exact ⟨rfl, HB2.out.trans (hb3.mono HB2.out.size)⟩
  have hE0 : E = 0 := by omega
  subst hE0
  by_cases g0 : fr < 0
  · go_wp2_with fail
    go_fit HE.out
    rintro e w3 ⟨rfl, hb3⟩
    go_wp2_with fail
    go_ret
    exact ⟨rfl, HB2.out.trans (hb3.mono HB2.out.size)⟩
  by_cases g1 : (n : Int) ≤ fr
  · go_wp2_with fail
    go_fit HE.out
    rintro e w3 ⟨rfl, hb3⟩
    go_wp2_with fail
    go_ret
    exact ⟨rfl, HB2.out.trans (hb3.mono HB2.out.size)⟩
  by_cases g2 : to_ < 0
  · go_wp2_with fail
    go_fit HE.out
    rintro e w3 ⟨rfl, hb3⟩
    go_wp2_with fail
    go_ret
    exact ⟨rfl, HB2.out.trans (hb3.mono HB2.out.size)⟩
  by_cases g3 : (n : Int) ≤ to_
  · go_wp2_with fail
    go_fit HE.out
    rintro e w3 ⟨rfl, hb3⟩
    go_wp2_with fail
    go_ret
    exact ⟨rfl, HB2.out.trans (hb3.mono HB2.out.size)⟩
  by_cases g4 : via < 0
  · go_wp2_with fail
    go_fit HE.out
    rintro e w3 ⟨rfl, hb3⟩
    go_wp2_with fail
    go_ret
    exact ⟨rfl, HB2.out.trans (hb3.mono HB2.out.size)⟩
  by_cases g5 : (n : Int) ≤ via
  · go_wp2_with fail
    go_fit HE.out
    rintro e w3 ⟨rfl, hb3⟩
    go_wp2_with fail
    go_ret
    exact ⟨rfl, HB2.out.trans (hb3.mono HB2.out.size)⟩
  have HI : Hid (isIdx ch fr = true ∧ isIdx ch to_ = true ∧ isIdx ch via = true) := ⟨isIdx_of HSL.out (by omega) (by omega), isIdx_of HSL.out (by omega) (by omega), isIdx_of HSL.out (by omega) (by omega)⟩
  have m1 := HA2.out.lenr
  clear HE
  go_wp2_with fail
  go_loopw [70] (fun s wr => ∃ j : Nat, j ≤ m ∧ s = .int .i64 (j : Int) ∧ Below w2.heap.size w2 wr) (fun s _ => m - (intOf s).toNat)
  case atStart => exact ⟨0, Nat.zero_le _, rfl, Below.refl _ _⟩
  case round =>
    obtain ⟨j, hj, rfl, hbel⟩ := hrel
    clear x0 x1 x2 y0 y1
    by_cases hlt : j < m
    · obtain ⟨b, off, r, neg, C, cm, cc, D, dl, dd, T, sn, sc, rfl, hr, f0, f1, f2, f3, f4, hra, hbw⟩ := (HA2.out.lies.2.on hbel).row hlt
      have HR := Lib.hid hr
      obtain ⟨qa, hqa⟩ : ∃ q, valueP ch r fr.toNat = q := ⟨_, rfl⟩
      obtain ⟨qb, hqb⟩ : ∃ q, valueP ch r to_.toNat = q := ⟨_, rfl⟩
      obtain ⟨qd, hqd⟩ : ∃ q, chg r.steps fr.toNat to_.toNat = q := ⟨_, rfl⟩
      obtain ⟨qu, hqu⟩ : ∃ q, chg r.steps fr.toNat via.toNat = q := ⟨_, rfl⟩
      obtain ⟨qv, hqv⟩ : ∃ q, chg r.steps via.toNat to_.toNat = q := ⟨_, rfl⟩
      obtain ⟨qs, hqs⟩ : ∃ q, chg r.steps via.toNat via.toNat = q := ⟨_, rfl⟩
      have HQ := Lib.hid (And.intro hqa (And.intro hqb (And.intro hqd (And.intro hqu (And.intro hqv hqs)))))
      have HK : Hid (qk qa 2000 ∧ qk qb 2000 ∧ qk qd 2000 ∧ qk qu 2000 ∧ qk qv 2000 ∧ qk qs 2000) := by
        obtain ⟨i1, i2, i3⟩ := HI.out
        rw [Hid, ← hqa, ← hqb, ← hqd, ← hqu, ← hqv, ← hqs]
        exact ⟨row_val (by omega) (by omega) HQS.out HEE.out hr i1, row_val (by omega) (by omega) HQS.out HEE.out hr i2, row_chg (by omega) (by omega) HQS.out HEE.out hr i1 i2, row_chg (by omega) (by omega) HQS.out HEE.out hr i1 i3, row_chg (by omega) (by omega) HQS.out HEE.out hr i3 i2, row_chg (by omega) (by omega) HQS.out HEE.out hr i3 i3⟩
      have HT : Hid (qd = qb - qa ∧ qd = qu + qv ∧ qs = 0) := by
        rw [Hid, ← hqa, ← hqb, ← hqd, ← hqu, ← hqv, ← hqs]
        exact ⟨(val_diff _ _).symm, (chg_add _ _ _ _).symm, chg_self _ _⟩
      have HRO := Lib.hid (And.intro hbel (And.intro f0 hbw))
      obtain ⟨x0, x1, x2⟩ := three (HX2.out.below hbel)
      have y0 := (HY2.out.below hbel).c (i := 0) rfl
      have y1 := (HY2.out.below hbel).c (i := 1) rfl
      have i1 : (0 : Int) ≤ (j : Int) := by omega
      have i2 : (j : Int) < (m : Int) := by omega
      have hal := (Below.refl wr.heap.size wr).alloc (Nat.le_refl _) (.cells #[.string r.name, .bool neg, .slice C cm cc, .slice D dl dd, .slice T sn sc] 57)
      have HL0 := Lib.hid (hbel.trans (hal.mono hbel.size))
      have HZ := Lib.hid (Blk.new wr 57 #[.string r.name, .bool neg, .slice C cm cc, .slice D dl dd, .slice T sn sc])
      have hxl := (HX2.out.below hbel).lt
      have hyl := (HY2.out.below hbel).lt
      have H1 := Lib.hid (value_ok fr (HA2.out.on HL0.out) (by omega) HEE.out HR.out HI.out.1 HQ.out.1)
      clear hr hqa hqb hqd hqu hqv hqs hra hbel hal
      go_wp2_with fail
      go_fit H1.out
      rintro e w3 ⟨A1, n1, c1, B1, m1, d1, rfl, hok, hb⟩
      have hal := (Below.refl w3.heap.size w3).alloc (Nat.le_refl _) (.cells #[.bool (ineg qa.num), .slice A1 n1 c1, .slice B1 m1 d1] 36)
      have hbb := hb.trans (hal.mono hb.size)
      have HL1 := Lib.hid (HL0.out.trans (hbb.mono HL0.out.size))
      have HK1 := Lib.hid (Blk.new w3 36 #[.bool (ineg qa.num), .slice A1 n1 c1, .slice B1 m1 d1])
      have HO1 := Lib.hid (hok.on hal)
      have HZ := Lib.hid (HZ.out.below hbb)
      obtain ⟨x0, x1, x2⟩ := three (HX2.out.below HL1.out)
      have y0 := (HY2.out.below HL1.out).c (i := 0) rfl
      have y1 := (HY2.out.below HL1.out).c (i := 1) rfl
      have z0 := HZ.out.c (i := 0) rfl
      have H2 := Lib.hid (value_ok to_ (HA2.out.on HL1.out) (by omega) HEE.out HR.out HI.out.2.1 HQ.out.2.1)
      clear hok hb hal hbb
      go_wp2_with fail
      go_fit H2.out
      rintro e w4 ⟨A2, n2, c2, B2, m2, d2, rfl, hok, hb⟩
      have hal := (Below.refl w4.heap.size w4).alloc (Nat.le_refl _) (.cells #[.bool (ineg qb.num), .slice A2 n2 c2, .slice B2 m2 d2] 36)
      have hbb := hb.trans (hal.mono hb.size)
      have HL2 := Lib.hid (HL1.out.trans (hbb.mono HL1.out.size))
      have HK2 := Lib.hid (Blk.new w4 36 #[.bool (ineg qb.num), .slice A2 n2 c2, .slice B2 m2 d2])
      have HO2 := Lib.hid (hok.on hal)
      have HK1 := Lib.hid (HK1.out.below hbb)
      have HO1 := Lib.hid (HO1.out.on hbb)
      have HZ := Lib.hid (HZ.out.below hbb)
      obtain ⟨x0, x1, x2⟩ := three (HX2.out.below HL2.out)
      have y0 := (HY2.out.below HL2.out).c (i := 0) rfl
      have y1 := (HY2.out.below HL2.out).c (i := 1) rfl
      have z0 := HZ.out.c (i := 0) rfl
      have H3 := Lib.hid (change_ok fr to_ (HA2.out.on HL2.out) (by omega) HEE.out HR.out HI.out.1 HI.out.2.1 HQ.out.2.2.1)
      clear hok hb hal hbb
      go_wp2_with fail
      go_fit H3.out
      rintro e w5 ⟨A3, n3, c3, B3, m3, d3, rfl, hok, hb⟩
      have hal := (Below.refl w5.heap.size w5).alloc (Nat.le_refl _) (.cells #[.bool (ineg qd.num), .slice A3 n3 c3, .slice B3 m3 d3] 36)
      have hbb := hb.trans (hal.mono hb.size)
      have HL3 := Lib.hid (HL2.out.trans (hbb.mono HL2.out.size))
      have HK3 := Lib.hid (Blk.new w5 36 #[.bool (ineg qd.num), .slice A3 n3 c3, .slice B3 m3 d3])
      have HO3 := Lib.hid (hok.on hal)
      have HK1 := Lib.hid (HK1.out.below hbb)
      have HO1 := Lib.hid (HO1.out.on hbb)
      have HK2 := Lib.hid (HK2.out.below hbb)
      have HO2 := Lib.hid (HO2.out.on hbb)
      have HZ := Lib.hid (HZ.out.below hbb)
      obtain ⟨x0, x1, x2⟩ := three (HX2.out.below HL3.out)
      have y0 := (HY2.out.below HL3.out).c (i := 0) rfl
      have y1 := (HY2.out.below HL3.out).c (i := 1) rfl
      have z0 := HZ.out.c (i := 0) rfl
      have H4 := Lib.hid (change_ok fr via (HA2.out.on HL3.out) (by omega) HEE.out HR.out HI.out.1 HI.out.2.2 HQ.out.2.2.2.1)
      clear hok hb hal hbb
      go_wp2_with fail
      go_fit H4.out
      rintro e w6 ⟨A4, n4, c4, B4, m4, d4, rfl, hok, hb⟩
      have hal := (Below.refl w6.heap.size w6).alloc (Nat.le_refl _) (.cells #[.bool (ineg qu.num), .slice A4 n4 c4, .slice B4 m4 d4] 36)
      have hbb := hb.trans (hal.mono hb.size)
      have HL4 := Lib.hid (HL3.out.trans (hbb.mono HL3.out.size))
      have HK4 := Lib.hid (Blk.new w6 36 #[.bool (ineg qu.num), .slice A4 n4 c4, .slice B4 m4 d4])
      have HO4 := Lib.hid (hok.on hal)
      have HK1 := Lib.hid (HK1.out.below hbb)
      have HO1 := Lib.hid (HO1.out.on hbb)
      have HK2 := Lib.hid (HK2.out.below hbb)
      have HO2 := Lib.hid (HO2.out.on hbb)
      have HK3 := Lib.hid (HK3.out.below hbb)
      have HO3 := Lib.hid (HO3.out.on hbb)
      have HZ := Lib.hid (HZ.out.below hbb)
      obtain ⟨x0, x1, x2⟩ := three (HX2.out.below HL4.out)
      have y0 := (HY2.out.below HL4.out).c (i := 0) rfl
      have y1 := (HY2.out.below HL4.out).c (i := 1) rfl
      have z0 := HZ.out.c (i := 0) rfl
      have H5 := Lib.hid (change_ok via to_ (HA2.out.on HL4.out) (by omega) HEE.out HR.out HI.out.2.2 HI.out.2.1 HQ.out.2.2.2.2.1)
      clear hok hb hal hbb
      go_wp2_with fail
      go_fit H5.out
      rintro e w7 ⟨A5, n5, c5, B5, m5, d5, rfl, hok, hb⟩
      have hal := (Below.refl w7.heap.size w7).alloc (Nat.le_refl _) (.cells #[.bool (ineg qv.num), .slice A5 n5 c5, .slice B5 m5 d5] 36)
      have hbb := hb.trans (hal.mono hb.size)
      have HL5 := Lib.hid (HL4.out.trans (hbb.mono HL4.out.size))
      have HK5 := Lib.hid (Blk.new w7 36 #[.bool (ineg qv.num), .slice A5 n5 c5, .slice B5 m5 d5])
      have HO5 := Lib.hid (hok.on hal)
      have HK1 := Lib.hid (HK1.out.below hbb)
      have HO1 := Lib.hid (HO1.out.on hbb)
      have HK2 := Lib.hid (HK2.out.below hbb)
      have HO2 := Lib.hid (HO2.out.on hbb)
      have HK3 := Lib.hid (HK3.out.below hbb)
      have HO3 := Lib.hid (HO3.out.on hbb)
      have HK4 := Lib.hid (HK4.out.below hbb)
      have HO4 := Lib.hid (HO4.out.on hbb)
      have HZ := Lib.hid (HZ.out.below hbb)
      obtain ⟨x0, x1, x2⟩ := three (HX2.out.below HL5.out)
      have y0 := (HY2.out.below HL5.out).c (i := 0) rfl
      have y1 := (HY2.out.below HL5.out).c (i := 1) rfl
      have z0 := HZ.out.c (i := 0) rfl
      have H6 := Lib.hid (change_ok via via (HA2.out.on HL5.out) (by omega) HEE.out HR.out HI.out.2.2 HI.out.2.2 HQ.out.2.2.2.2.2)
      clear hok hb hal hbb
      go_wp2_with fail
      go_fit H6.out
      rintro e w8 ⟨A6, n6, c6, B6, m6, d6, rfl, hok, hb⟩
      have hal := (Below.refl w8.heap.size w8).alloc (Nat.le_refl _) (.cells #[.bool (ineg qs.num), .slice A6 n6 c6, .slice B6 m6 d6] 36)
      have hbb := hb.trans (hal.mono hb.size)
      have HL6 := Lib.hid (HL5.out.trans (hbb.mono HL5.out.size))
      have HK6 := Lib.hid (Blk.new w8 36 #[.bool (ineg qs.num), .slice A6 n6 c6, .slice B6 m6 d6])
      have HO6 := Lib.hid (hok.on hal)
      have HK1 := Lib.hid (HK1.out.below hbb)
      have HO1 := Lib.hid (HO1.out.on hbb)
      have HK2 := Lib.hid (HK2.out.below hbb)
      have HO2 := Lib.hid (HO2.out.on hbb)
      have HK3 := Lib.hid (HK3.out.below hbb)
      have HO3 := Lib.hid (HO3.out.on hbb)
      have HK4 := Lib.hid (HK4.out.below hbb)
      have HO4 := Lib.hid (HO4.out.on hbb)
      have HK5 := Lib.hid (HK5.out.below hbb)
      have HO5 := Lib.hid (HO5.out.on hbb)
      clear hok hb hal hbb
      have HKK := Lib.hid (And.intro HK3.out (And.intro HK2.out (And.intro HK1.out (And.intro HK4.out (And.intro HK5.out HK6.out)))))
      clear x0 x1 x2 y0 y1 f0 f1 f2 f3 f4 HK1 HK2 HK3 HK4 HK5 HK6
      go_wp2_with fail
      go_region_held3 (fun w' => w'.cell? ⟨w5.heap.size, 0, none⟩ = some (.bool (ineg qd.num)) ∧ w'.cell? ⟨w5.heap.size, 1, none⟩ = some (.slice A3 n3 c3) ∧ w'.cell? ⟨w5.heap.size, 2, none⟩ = some (.slice B3 m3 d3) ∧ w'.cell? ⟨w4.heap.size, 0, none⟩ = some (.bool (ineg qb.num)) ∧ w'.cell? ⟨w4.heap.size, 1, none⟩ = some (.slice A2 n2 c2) ∧ w'.cell? ⟨w4.heap.size, 2, none⟩ = some (.slice B2 m2 d2) ∧ w'.cell? ⟨w3.heap.size, 0, none⟩ = some (.bool (ineg qa.num)) ∧ w'.cell? ⟨w3.heap.size, 1, none⟩ = some (.slice A1 n1 c1) ∧ w'.cell? ⟨w3.heap.size, 2, none⟩ = some (.slice B1 m1 d1) ∧ w'.cell? ⟨w6.heap.size, 0, none⟩ = some (.bool (ineg qu.num)) ∧ w'.cell? ⟨w6.heap.size, 1, none⟩ = some (.slice A4 n4 c4) ∧ w'.cell? ⟨w6.heap.size, 2, none⟩ = some (.slice B4 m4 d4) ∧ w'.cell? ⟨w7.heap.size, 0, none⟩ = some (.bool (ineg qv.num)) ∧ w'.cell? ⟨w7.heap.size, 1, none⟩ = some (.slice A5 n5 c5) ∧ w'.cell? ⟨w7.heap.size, 2, none⟩ = some (.slice B5 m5 d5) ∧ w'.cell? ⟨w8.heap.size, 0, none⟩ = some (.bool (ineg qs.num)) ∧ w'.cell? ⟨w8.heap.size, 1, none⟩ = some (.slice A6 n6 c6) ∧ w'.cell? ⟨w8.heap.size, 2, none⟩ = some (.slice B6 m6 d6))
        ((refine six3_keep HKK.out ?_; repeat (first | (with_reducible exact Below.refl _ _) | (with_reducible exact hu5) | (with_reducible exact hu4) | (with_reducible exact hu3) | (with_reducible exact hu2) | (with_reducible exact hu1) | (with_reducible refine Below.drew ?_))))
        (first
         | (go_at_call 34; go_must ((go_fit (rsub_any _ _ 2000 2000 qb qa _ (((HO2.out.toA HK.out.2.1).on (by repeat (first | (with_reducible exact Below.refl _ _) | (with_reducible refine Below.drew ?_))))) (((HO1.out.toA HK.out.1).on (by repeat (first | (with_reducible exact Below.refl _ _) | (with_reducible refine Below.drew ?_))))) (by omega) (by omega) (by omega) (by omega))); rintro e u1 ⟨A7, n7, c7, B7, m7, d7, rfl, r1, r2, r3, r4, hv⟩; have hu1 : Below (w8.alloc (.cells #[.bool (ineg qs.num), .slice A6 n6 c6, .slice B6 m6 d6] 36)).heap.size (w8.alloc (.cells #[.bool (ineg qs.num), .slice A6 n6 c6, .slice B6 m6 d6] 36)) u1 := ⟨hv.os, hv.tape, hv.output, hv.size, hv.block⟩; have HS1 := Lib.hid (RatA.of r1 r2 r3 r4 ((qk_sub HK.out.2.1 HK.out.1))); clear r1 r3 hv))
         | (go_at_call 32; go_must (first | ((go_fit (cmp_eq (HO3.out.toA HK.out.2.2.1 |>.on hu1) HS1.out HT.out.1 (by omega) (by omega) (by omega) (by omega))); rintro e u2 ⟨rfl, hv⟩; have hu2 := hu1.trans (hv.mono hu1.size); clear hv HS1) | ((go_fit (cmp_eq (HO3.out.toA HK.out.2.2.1 |>.on hu3) HS2.out HT.out.2.1 (by omega) (by omega) (by omega) (by omega))); rintro e u4 ⟨rfl, hv⟩; have hu4 := hu3.trans (hv.mono hu3.size); clear hv)))
         | (go_at_call 35; go_must ((go_fit (radd_any _ _ 2000 2000 qu qv _ (HO4.out.toA HK.out.2.2.2.1 |>.on hu2) (HO5.out.toA HK.out.2.2.2.2.1 |>.on hu2) (by omega) (by omega) (by omega) (by omega))); rintro e u3 ⟨A8, n8, c8, B8, m8, d8, rfl, r1, r2, r3, r4, hv⟩; have hu3 := hu2.trans (hv.mono hu2.size); have HS2 := Lib.hid (RatA.of r1 r2 r3 r4 (qk_add HK.out.2.2.2.1 HK.out.2.2.2.2.1)); clear r1 r3 hv))
         | (go_at_call 36; go_must ((go_fit (kzero_true (HO6.out.toA HK.out.2.2.2.2.2 |>.on hu4) HT.out.2.2 (by omega))); rintro e u5 ⟨rfl, hv⟩; have hu5 := hu4.trans (hv.mono hu4.size); clear hv)))
      go_wp2_with fail
      go_roundw
      case rel => exact ⟨j + 1, by omega, by go_num, HL6.out.trans (hu5.mono HL6.out.size)⟩
      case measure => simp [intOf]; omega
    · obtain rfl : j = m := by omega
      have HBF := Lib.hid (HB2.out.trans (hbel.mono HB2.out.size))
      have HE := Lib.hid (example_any _ (HW.out.below HBF.out))
      clear hbel
      go_wp2_with fail
      go_fit HE.out
      rintro e w3 ⟨rfl, hb3⟩
      go_wp2_with fail
      go_ret
      exact ⟨rfl, HBF.out.trans (hb3.mono HBF.out.size)⟩
end Go.Proofs.YtjiccijfbpkliaaGreatDoor

/- A chart's box while its rows are appended. Nothing here walks the program. -/
namespace Go.Proofs.YtjiccijfbpkliaaGreatDoor
open Go.RowKit
open Go.Lib hiding intOf

/-- The chart's box cb: sizes and base are there, and the rows rs. -/
def bxRel (S : Option Addr) (n c : Nat) (bs : Int) (rs : List PRow) (base cb : Nat) (w : World) : Prop :=
  ∃ v, Blk w cb 25 #[.slice S n c, .int .i64 bs, v] ∧ rowsRel rs base v w ∧ base ≤ w.heap.size ∧ cb < base
section
variable {S : Option Addr} {n c : Nat} {bs : Int} {rs : List PRow} {base cb : Nat} {w w' : World}
theorem bxRel.below (h : bxRel S n c bs rs base cb w) (hb : Below w.heap.size w w') : bxRel S n c bs rs base cb w' := by
  obtain ⟨v, h1, h4, h5, h6⟩ := h
  exact ⟨v, h1.below hb, h4.below hb, Nat.le_trans h5 hb.size, h6⟩
/-- A row is appended. -/
theorem bxRel.more {v v' : Value} {hs : List RH} (x : RH) (hblk : Blk w cb 25 #[.slice S n c, .int .i64 bs, v]) (hbw : base ≤ w.heap.size) (hcb : cb < base)
    (h1 : hs.map (·.r) = rs) (hown : OwnN w base 57 5 v hs.length (hs.flatMap RH.cells)) (h3 : ∀ h ∈ hs, h.Ok w ∧ (0 < h.n → ∀ g off, h.S = some ⟨g, off, none⟩ → v.ownBlock ≠ some g)) (hx : x.Ok w) (hne : 0 < x.n → ∀ g off, x.S = some ⟨g, off, none⟩ → v.ownBlock ≠ some g)
    (ho : OwnN w' base 57 5 v' (hs.length + 1) (hs.flatMap RH.cells ++ x.cells)) (hg : w.grownBy w' v.ownBlock) (hn : ∀ g, v'.ownBlock = some g → v.ownBlock = some g ∨ w.heap.size ≤ g) : bxRel S n c bs (rs ++ [x.r]) base cb (w'.setCell ⟨cb, 2, none⟩ v') := by
  have hcn : some cb ≠ v.ownBlock := fun e => by have := (hown.1.lt cb e.symm).1; omega
  have hb' := hblk.grown hg hcn
  obtain ⟨u1, u2, u3⟩ := own_slice hown
  have hr := rowsRel.more x h1 hown h3 hx hne ho hg hn
  have hg2 := grown_set (grown_refl w' (some cb)) 2 v'
  refine ⟨v', hb'.set_ 2 v', hr.gro hg2 hb' (by decide) (NoU.blk hb' ?_) (NoB.blk hb' ?_), ?_, hcb⟩
  · intro u hu y e
    subst e
    simp at hu
    exact u1 y hu.symm
  · intro u hu y e
    subst e
    simp at hu
    exact u2 y hu.symm
  · have := hg.size
    simp [World.setCell]
    omega
theorem bxRel.done (h : bxRel S n c bs rs base cb w) : ∃ R d, Blk w cb 25 #[.slice S n c, .int .i64 bs, .slice R rs.length d] ∧ RowsN w R rs.length rs ∧ rs.length ≤ d := by
  obtain ⟨v, h1, h4, h5, h6⟩ := h
  obtain ⟨R, d, rfl, h7, h8⟩ := h4.done
  exact ⟨R, d, h1, h8, h7⟩
end

/-! ### rows whose steps lie in older memory -/
def basRel (k : Nat) (w0 : World) (rs : List PRow) (base : Nat) (v : Value) (w : World) : Prop :=
  ∃ hs : List RH, hs.map (·.r) = rs ∧ OwnN w base 57 5 v hs.length (hs.flatMap RH.cells) ∧ ∀ h ∈ hs, h.x.q = h.r.base ∧ Safe w v.ownBlock h.x.Ok ∧ RatsA w0 h.S h.n k h.r.steps ∧ h.n ≤ h.c
section
variable {k : Nat} {w0 : World} {rs : List PRow} {base : Nat} {v v' : Value} {w w' : World}
theorem basRel.nil : basRel k w0 [] base (.slice none 0 0) w := ⟨[], rfl, OwnN.nil _ _ _ _, fun t h => by cases h⟩
theorem basRel.below (h : basRel k w0 rs base v w) (hb : Below w.heap.size w w') : basRel k w0 rs base v w' := by
  obtain ⟨ts, h1, h2, h3⟩ := h
  exact ⟨ts, h1, h2.below hb, fun t ht => ⟨(h3 t ht).1, (h3 t ht).2.1.below hb, (h3 t ht).2.2⟩⟩
theorem basRel.more {hs : List RH} (x : RH) (h1 : hs.map (·.r) = rs) (hown : OwnN w base 57 5 v hs.length (hs.flatMap RH.cells)) (h3 : ∀ h ∈ hs, h.x.q = h.r.base ∧ Safe w v.ownBlock h.x.Ok ∧ RatsA w0 h.S h.n k h.r.steps ∧ h.n ≤ h.c)
    (hx : x.x.q = x.r.base ∧ x.x.Ok w ∧ RatsA w0 x.S x.n k x.r.steps ∧ x.n ≤ x.c)
    (ho : OwnN w' base 57 5 v' (hs.length + 1) (hs.flatMap RH.cells ++ x.cells)) (hg : w.grownBy w' v.ownBlock) (hn : ∀ g, v'.ownBlock = some g → v.ownBlock = some g ∨ w.heap.size ≤ g) : basRel k w0 (rs ++ [x.r]) base v' w' := by
  refine ⟨hs ++ [x], by simp [h1], ?_, fun t ht => ?_⟩
  · rw [List.flatMap_append, List.length_append]
    simpa using ho
  · rcases List.mem_append.1 ht with h | h
    · exact ⟨(h3 t h).1, (h3 t h).2.1.next hg hn, (h3 t h).2.2⟩
    · obtain rfl : t = x := by simpa using h
      exact ⟨hx.1, (hx.2.1.safe hown.2).next hg hn, hx.2.2⟩
theorem basRel.gro {rb : Nat} {t : TypeId} {cs : Array Value} (h : basRel k w0 rs base v w) (hg : w.grownBy w' (some rb)) (hb : Blk w rb t cs) (hne : t ≠ 57) (hN : NoU w rb) : basRel k w0 rs base v w' := by
  obtain ⟨ts, h1, h2, h3⟩ := h
  have ho := h2.gro hg hb hne
  exact ⟨ts, h1, ho, fun x hx => ⟨(h3 x hx).1, ((h3 x hx).2.1.out.gro hg hN).safe ho.2, (h3 x hx).2.2⟩⟩
theorem basRel.done {K : Nat} (h : basRel k w0 rs base v w) (hw : Below w0.heap.size w0 w) (hk : k ≤ K) (hq : ∀ r ∈ rs, qk r.base K) : ∃ A c, v = .slice A rs.length c ∧ rs.length ≤ c ∧ RowsA w A rs.length K rs := by
  obtain ⟨ts, h1, h3, h4⟩ := h
  have hl : ts.length = rs.length := by rw [← h1, List.length_map]
  have main : ∀ (g : Nat), (∀ j u, (ts.flatMap RH.cells)[j]? = some u → w.cell? ⟨g, 0 + j, none⟩ = some u) → ∀ j r, rs[j]? = some r →
    ∃ neg B m c C l d S sn sc, w.cell? ⟨g, 0 + j * 5, none⟩ = some (.string r.name) ∧ w.cell? ⟨g, 0 + j * 5 + 1, none⟩ = some (.bool neg) ∧ w.cell? ⟨g, 0 + j * 5 + 2, none⟩ = some (.slice B m c) ∧ w.cell? ⟨g, 0 + j * 5 + 3, none⟩ = some (.slice C l d) ∧ w.cell? ⟨g, 0 + j * 5 + 4, none⟩ = some (.slice S sn sc) ∧
      RatA w (.agg #[.bool neg, .slice B m c, .slice C l d]) K r.base ∧ RatsA w S sn K r.steps ∧ sn ≤ sc := by
    intro g hc j r hr
    rw [← h1, List.getElem?_map, Option.map_eq_some_iff] at hr
    obtain ⟨t, ht, rfl⟩ := hr
    have hm := List.mem_of_getElem? ht
    obtain ⟨e1, e2, e3, e4⟩ := h4 t hm
    have hc' : ∀ i u, i < 5 → (t.cells)[i]? = some u → w.cell? ⟨g, 0 + (j * 5 + i), none⟩ = some u := fun i u hi hu => hc _ u ((flat_at RH.len ht i hi).trans hu)
    have hqk : qk t.x.q K := by rw [e1]; exact hq _ (by rw [← h1]; exact List.mem_map_of_mem hm)
    refine ⟨_, _, _, _, _, _, _, _, _, _, hc' 0 _ (by omega) rfl, hc' 1 _ (by omega) rfl, hc' 2 _ (by omega) rfl, hc' 3 _ (by omega) rfl, hc' 4 _ (by omega) rfl, ?_, (e3.on hw).mono hk, e4⟩
    have := e2.out.toA hqk
    rw [e1] at this ⊢
    exact this
  rw [hl] at h3
  rcases h3.1.2 with ⟨rfl, h0⟩ | ⟨g, cap, cur, rfl, hbg, hgc, hnc, hcm, hcs, htake⟩
  · exact ⟨none, 0, by rw [h0], by omega, rfl, fun h => absurd h (by omega)⟩
  · refine ⟨_, cap, rfl, hnc, rfl, fun _ => ⟨g, 0, rfl, (h3.1.lt g rfl).2, main g fun j u hu => ?_⟩⟩
    have hc := h3.1.cells (g := g) rfl j u hu
    rw [Go.WideShapes.add_plain] at hc
    rw [Nat.zero_add]
    simpa using hc
end
/-- The chart's box cb, where the rows' steps lie in older memory. -/
def bbRel (k : Nat) (w0 : World) (S : Option Addr) (n c : Nat) (bs : Int) (rs : List PRow) (base cb : Nat) (w : World) : Prop :=
  ∃ v, Blk w cb 25 #[.slice S n c, .int .i64 bs, v] ∧ basRel k w0 rs base v w ∧ base ≤ w.heap.size ∧ cb < base
section
variable {k : Nat} {w0 : World} {S : Option Addr} {n c : Nat} {bs : Int} {rs : List PRow} {base cb : Nat} {w w' : World}
theorem bbRel.below (h : bbRel k w0 S n c bs rs base cb w) (hb : Below w.heap.size w w') : bbRel k w0 S n c bs rs base cb w' := by
  obtain ⟨v, h1, h4, h5, h6⟩ := h
  exact ⟨v, h1.below hb, h4.below hb, Nat.le_trans h5 hb.size, h6⟩
theorem bbRel.more {v v' : Value} {hs : List RH} (x : RH) (hblk : Blk w cb 25 #[.slice S n c, .int .i64 bs, v]) (hbw : base ≤ w.heap.size) (hcb : cb < base)
    (h1 : hs.map (·.r) = rs) (hown : OwnN w base 57 5 v hs.length (hs.flatMap RH.cells)) (h3 : ∀ h ∈ hs, h.x.q = h.r.base ∧ Safe w v.ownBlock h.x.Ok ∧ RatsA w0 h.S h.n k h.r.steps ∧ h.n ≤ h.c)
    (hx : x.x.q = x.r.base ∧ x.x.Ok w ∧ RatsA w0 x.S x.n k x.r.steps ∧ x.n ≤ x.c)
    (ho : OwnN w' base 57 5 v' (hs.length + 1) (hs.flatMap RH.cells ++ x.cells)) (hg : w.grownBy w' v.ownBlock) (hn : ∀ g, v'.ownBlock = some g → v.ownBlock = some g ∨ w.heap.size ≤ g) : bbRel k w0 S n c bs (rs ++ [x.r]) base cb (w'.setCell ⟨cb, 2, none⟩ v') := by
  have hcn : some cb ≠ v.ownBlock := fun e => by have := (hown.1.lt cb e.symm).1; omega
  have hb' := hblk.grown hg hcn
  obtain ⟨u1, u2, u3⟩ := own_slice hown
  have hr := basRel.more x h1 hown h3 hx ho hg hn
  have hg2 := grown_set (grown_refl w' (some cb)) 2 v'
  refine ⟨v', hb'.set_ 2 v', hr.gro hg2 hb' (by decide) (NoU.blk hb' ?_), ?_, hcb⟩
  · intro u hu y e
    subst e
    simp at hu
    exact u1 y hu.symm
  · have := hg.size
    simp [World.setCell]
    omega
theorem bbRel.done {K : Nat} (h : bbRel k w0 S n c bs rs base cb w) (hw : Below w0.heap.size w0 w) (hk : k ≤ K) (hq : ∀ r ∈ rs, qk r.base K) : ∃ R d, Blk w cb 25 #[.slice S n c, .int .i64 bs, .slice R rs.length d] ∧ RowsA w R rs.length K rs ∧ rs.length ≤ d := by
  obtain ⟨v, h1, h4, h5, h6⟩ := h
  obtain ⟨R, d, rfl, h7, h8⟩ := h4.done hw hk hq
  exact ⟨R, d, h1, h8, h7⟩
end
end Go.Proofs.YtjiccijfbpkliaaGreatDoor

/- Rows that grow step by step in a region that draws. Nothing here walks the program. -/
namespace Go.Proofs.YtjiccijfbpkliaaGreatDoor
open Go.RowKit
open Go.Lib hiding intOf

/-- A row without steps yet. -/
theorem row_begin {w : World} {rb base : Nat} {nm : ByteArray} {q : Rat} {A B : Option Addr} {n c m d : Nat} (h1 : Blk w rb 57 #[.string nm, .bool (ineg q.num), .slice A n c, .slice B m d, .slice none 0 0])
    (s1 : Sl w w.heap.size A n (u32s (limbs q.num.natAbs))) (e1 : n ≤ c) (s2 : Sl w w.heap.size B m (u32s (limbs q.den))) (e2 : m ≤ d) : rowRel nm ⟨q, A, n, c, B, m, d⟩ True [] base rb w :=
  ⟨_, h1, fun _ => ⟨s1, e1, s2, e2⟩, stepsRel.nil _ _, fun y e => by cases e⟩
theorem old_cell {w w' : World} {base : Nat} {e : TypeId} {size n : Nat} {v : Value} {xs : List Value} (ho : w.ownsRow base e size v n xs) (hbw : base ≤ w.heap.size) (hg : w.grownBy w' v.ownBlock) {b : Nat} (hb : b < base) (o : Nat) : w'.cell? ⟨b, o, none⟩ = w.cell? ⟨b, o, none⟩ :=
  World.cell?_of_block (a := ⟨b, o, none⟩) (hg.block b (by omega) (own_ne ho hb))
theorem keep5 {w w' : World} {g b o0 o1 o2 o3 o4 : Nat} {v0 v1 v2 v3 v4 : Value} (h : g < w.heap.size ∧ b < w.heap.size ∧ w.cell? ⟨g, o0, none⟩ = some v0 ∧ w.cell? ⟨b, o1, none⟩ = some v1 ∧ w.cell? ⟨b, o2, none⟩ = some v2 ∧ w.cell? ⟨b, o3, none⟩ = some v3 ∧ w.cell? ⟨b, o4, none⟩ = some v4) (hb : Below w.heap.size w w') :
    w'.cell? ⟨g, o0, none⟩ = some v0 ∧ w'.cell? ⟨b, o1, none⟩ = some v1 ∧ w'.cell? ⟨b, o2, none⟩ = some v2 ∧ w'.cell? ⟨b, o3, none⟩ = some v3 ∧ w'.cell? ⟨b, o4, none⟩ = some v4 := by
  obtain ⟨hg, hb', h0, h1, h2, h3, h4⟩ := h
  exact ⟨(hb.cell (p := ⟨g, o0, none⟩) hg).trans h0, (hb.cell (p := ⟨b, o1, none⟩) hb').trans h1, (hb.cell (p := ⟨b, o2, none⟩) hb').trans h2, (hb.cell (p := ⟨b, o3, none⟩) hb').trans h3, (hb.cell (p := ⟨b, o4, none⟩) hb').trans h4⟩
theorem keepS {w w' : World} {g b b2 o0 o1 o2 : Nat} {v0 v1 v2 v3 v4 : Value} (h : g < w.heap.size ∧ b < w.heap.size ∧ b2 < w.heap.size ∧ w.cell? ⟨g, o0, none⟩ = some v0 ∧ w.cell? ⟨b, o1, none⟩ = some v1 ∧ w.cell? ⟨b2, o2, none⟩ = some v2 ∧ w.cell? ⟨b2, o2 + 1, none⟩ = some v3 ∧ w.cell? ⟨b2, o2 + 2, none⟩ = some v4) (hb : Below w.heap.size w w') :
    w'.cell? ⟨g, o0, none⟩ = some v0 ∧ w'.cell? ⟨b, o1, none⟩ = some v1 ∧ w'.cell? ⟨b2, o2, none⟩ = some v2 ∧ w'.cell? ⟨b2, o2 + 1, none⟩ = some v3 ∧ w'.cell? ⟨b2, o2 + 2, none⟩ = some v4 := by
  obtain ⟨hg, hb', hb2, h0, h1, h2, h3, h4⟩ := h
  exact ⟨(hb.cell (p := ⟨g, o0, none⟩) hg).trans h0, (hb.cell (p := ⟨b, o1, none⟩) hb').trans h1, (hb.cell (p := ⟨b2, o2, none⟩) hb2).trans h2, (hb.cell (p := ⟨b2, o2 + 1, none⟩) hb2).trans h3, (hb.cell (p := ⟨b2, o2 + 2, none⟩) hb2).trans h4⟩
theorem six_of {w : World} {g g' : Nat} {t t' : TypeId} {a0 a1 a2 b0 b1 b2 : Value} (h : Blk w g t #[a0, a1, a2]) (h' : Blk w g' t' #[b0, b1, b2]) : w.cell? ⟨g, 0, none⟩ = some a0 ∧ w.cell? ⟨g, 1, none⟩ = some a1 ∧ w.cell? ⟨g, 2, none⟩ = some a2 ∧ w.cell? ⟨g', 0, none⟩ = some b0 ∧ w.cell? ⟨g', 1, none⟩ = some b1 ∧ w.cell? ⟨g', 2, none⟩ = some b2 :=
  ⟨h.c rfl, h.c rfl, h.c rfl, h'.c rfl, h'.c rfl, h'.c rfl⟩
/-- A ratio is appended, in a region that draws. -/
theorem step_ratio {w : World} {ops : Array Oper} {o : Oper} {a : Act} {K : Act → World → Prop} {Q : Exit → Act → World → Prop} {E : Prop} (hgd : o.guard = none) (s x : Operand)
    (ho : o.op = Op.call { callee := Callee.builtin Builtin.append, args := #[s, x], argTypes := #[55, 55] })
    (base n : Nat) (v : Value) (l : List Value) (hs : a.eval s = v) (hown : OwnN w base 36 3 v n l)
    (g : Nat) (hx : a.eval x = .slice (some ⟨g, 0, none⟩) 1 1) (t : QH) {ty : TypeId} (hc : Blk w g ty t.cells.toArray) (hn : n ≤ 1000000) (hbase : base ≤ w.heap.size)
    (h : ∀ v' w', OwnN w' base 36 3 v' (n + 1) (l ++ t.cells) → w.grownBy w' v.ownBlock → (∀ g, v'.ownBlock = some g → v.ownBlock = some g ∨ w.heap.size ≤ g) → K (a.put o.dst v') w') :
    if Region.wanted o (yielded ops a.tmps) = true then Oper.wp Tryz.prog o a w K Q else E := by
  have hw : Region.wanted o (yielded ops a.tmps) = true := by simp [Region.wanted, hgd]
  rw [if_pos hw]
  obtain ⟨i0, hi, hz0, hz1, hz2⟩ := info_parts ratio_info
  obtain ⟨v', w', hr, h2, h3, h4⟩ := run_append_ownN (P := Tryz.prog) w base 55 o.type 36 i0 _ 3 56 Tryz.underlying55 hi hz0 hz1 hz2 rfl (by decide) (by simp [Value.cells]) v n l hown ⟨g, 0, none⟩ 1 t.cells rfl
    (fun j u hu => by
      rw [Go.WideShapes.add_plain]
      exact hc.c (by simpa using hu))
    (fun u hu => by
      simp only [QH.cells, List.mem_cons, List.mem_nil_iff, or_false] at hu
      rcases hu with rfl | rfl | rfl <;> rfl)
    (fun u hu => by
      simp only [QH.cells, List.mem_cons, List.mem_nil_iff, or_false] at hu
      rcases hu with rfl | rfl | rfl <;> simp) (by unfold maxLen; omega) (by omega) hbase
  unfold Oper.wp execOp
  simp only [ho, resolve, invoke, builtin, Sem.run_bind, Sem.run_pure, Result.andThen_ok, List.map_toArray, List.map_cons, List.map_nil, hs, hx, hr]
  exact h v' w' h2 h3 h4
theorem take_snoc {α : Type} {l : List α} {i : Nat} {x : α} (h : l[i]? = some x) : l.take i ++ [x] = l.take (i + 1) := by
  rw [List.take_add_one, h]
  rfl
end Go.Proofs.YtjiccijfbpkliaaGreatDoor

/- Charts with scaled numbers, and with another base size: their errors, values and columns. No program in sight. -/
namespace Go.Proofs.YtjiccijfbpkliaaGreatDoor
open Go.RowKit

theorem chk_like {ch ch' : PChart} (h : chkP ch = 0) (hs : ch'.sizes = ch.sizes) (hn : ch'.names = ch.names) (hr : ∀ (i : Nat) (r : PRow), ch'.rows[i]? = some r → rowOk ch.sizes.length r = true) (hb : isIdx ch ch'.base = true) : chkP ch' = 0 := by
  obtain ⟨h1, h2, h3, h4, h5, _, _⟩ := chk_zero h
  have hl : ch'.rows.length = ch.rows.length := by
    have := congrArg List.length hn
    simpa [PChart.names] using this
  refine chk_ok (by rw [hs, hl]; omega) ?_ (by rw [hs]; exact h4) (by rw [hn]; exact h5) ?_
  · obtain ⟨r1, r2, _⟩ := right_iff.1 h3
    refine right_iff.2 ⟨by rw [hs]; exact r1, fun i s hi => r2 i s (by rw [← hs]; exact hi), fun i r hi => ?_⟩
    rw [hs]
    exact hr i r hi
  · have := isIdx_iff.1 hb
    exact isIdx_iff.2 ⟨this.1, by rw [hs]; exact this.2⟩

/-! ### scaled -/
def scaleRow (q : Rat) (r : PRow) : PRow := ⟨r.name, r.base * q, r.steps.map (· * q)⟩
def scaleP (q : Rat) (ch : PChart) : PChart := ⟨ch.sizes, ch.base, ch.rows.map (scaleRow q)⟩
theorem scale_getD (q : Rat) (s : List Rat) (j : Nat) : (s.map (· * q)).getD j 0 = s.getD j 0 * q := by
  rw [List.getD_eq_getElem?_getD, List.getD_eq_getElem?_getD, List.getElem?_map]
  cases s[j]? with
  | none => simp [Rat.zero_mul]
  | some x => rfl
theorem scale_pre (q : Rat) (s : List Rat) (j : Nat) : pre (s.map (· * q)) j = pre s j * q := by
  induction j with
  | zero => simp [pre, Rat.zero_mul]
  | succ j ih =>
    rw [pre, ih, scale_getD, pre]
    grind
theorem scale_chg (q : Rat) (s : List Rat) (a b : Nat) : chg (s.map (· * q)) a b = chg s a b * q := by
  unfold chg
  rw [scale_pre, scale_pre]
  grind
theorem scale_ok {n : Nat} {q : Rat} {r : PRow} (h : rowOk n r = true) : rowOk n (scaleRow q r) = true := by
  obtain ⟨h1, h2, h3⟩ := rowOk_iff.1 h
  refine rowOk_iff.2 ⟨h1, by simp [scaleRow, h2], ?_⟩
  rw [scaleRow, scale_getD, h3, Rat.zero_mul]
theorem scale_chk {ch : PChart} (q : Rat) (h : chkP ch = 0) : chkP (scaleP q ch) = 0 := by
  obtain ⟨_, _, h3, _, _, b0, b1⟩ := chk_zero h
  refine chk_like h rfl ?_ (fun i r hi => ?_) (isIdx_iff.2 ⟨b0, b1⟩)
  · simp [PChart.names, scaleP, scaleRow]
  · simp only [scaleP, List.getElem?_map, Option.map_eq_some_iff] at hi
    obtain ⟨r0, h0, rfl⟩ := hi
    exact scale_ok ((right_iff.1 h3).2.2 i r0 h0)
theorem scale_col (q : Rat) (ch : PChart) (i : Int) : colOf (scaleP q ch) i = (colOf ch i).map fun p => (p.1, p.2 * q) := by
  unfold colOf
  simp only [scaleP, List.map_map]
  refine List.map_congr_left fun r _ => ?_
  simp only [Function.comp, scaleRow]
  rw [scale_chg]
  congr 1
  grind

/-! ### another base size -/
def baseRow (b : Int) (ch : PChart) (r : PRow) : PRow := ⟨r.name, valueP ch r b.toNat, r.steps⟩
def baseP (b : Int) (ch : PChart) : PChart := ⟨ch.sizes, b, ch.rows.map (baseRow b ch)⟩
theorem base_chk {ch : PChart} {b : Int} (h : chkP ch = 0) (hb : isIdx ch b = true) : chkP (baseP b ch) = 0 := by
  obtain ⟨_, _, h3, _, _, _, _⟩ := chk_zero h
  refine chk_like h rfl ?_ (fun i r hi => ?_) hb
  · simp [PChart.names, baseP, baseRow]
  · simp only [baseP, List.getElem?_map, Option.map_eq_some_iff] at hi
    obtain ⟨r0, h0, rfl⟩ := hi
    obtain ⟨h1, h2, h3⟩ := rowOk_iff.1 ((right_iff.1 h3).2.2 i r0 h0)
    exact rowOk_iff.2 ⟨h1, h2, h3⟩
theorem base_col (ch : PChart) (b i : Int) : colOf (baseP b ch) i = colOf ch i := by
  unfold colOf
  simp only [baseP, List.map_map]
  refine List.map_congr_left fun r _ => ?_
  simp only [Function.comp, baseRow, valueP]
  congr 1
  have := chg_add r.steps ch.base.toNat b.toNat i.toNat
  grind
end Go.Proofs.YtjiccijfbpkliaaGreatDoor

/- The law ChartBases returns true. Conditions: Std; the chart's data lie in memory. -/
namespace Go.Proofs.YtjiccijfbpkliaaGreatDoor
open Go.RowKit
open Go.Lib hiding intOf

theorem val_200 {ch : PChart} {r : PRow} {j : Nat} {i : Int} (hq : ∀ r ∈ ch.rows, qk r.base 4 ∧ ∀ q ∈ r.steps, qk q 4) (h0 : chkP ch = 0) (hr : ch.rows[j]? = some r) (hi : isIdx ch i = true) : qk (valueP ch r i.toNat) 200 := by
  have hi := isIdx_iff.1 hi
  obtain ⟨h1, _, _, _, _, b0, b1⟩ := chk_zero h0
  have hm := List.mem_of_getElem? hr
  have h2 := qk_chg (k := 4) (by omega) (fun j q hq' => (hq r hm).2 q (List.mem_of_getElem? hq')) ch.base.toNat i.toNat
  unfold valueP
  refine (qk_add (hq r hm).1 h2).mono ?_
  have h3 : (4 + 1) * (i.toNat + 1) ≤ 5 * 12 := Nat.mul_le_mul (by omega) (by omega)
  have h4 : (4 + 1) * (ch.base.toNat + 1) ≤ 5 * 12 := Nat.mul_le_mul (by omega) (by omega)
  omega
theorem base_fit {ch : PChart} {b : Int} (hq : ∀ r ∈ ch.rows, qk r.base 4 ∧ ∀ q ∈ r.steps, qk q 4) (h0 : chkP ch = 0) (hb : isIdx ch b = true) : ∀ r ∈ (baseP b ch).rows, qk r.base 200 := by
  intro r hr
  obtain ⟨r0, hm, rfl⟩ := List.mem_map.1 hr
  obtain ⟨j, hj⟩ := List.getElem?_of_mem hm
  exact val_200 hq h0 hj hb
theorem base_snoc {ch : PChart} {b : Int} {j : Nat} {r : PRow} (h : ch.rows[j]? = some r) : (ch.rows.take j).map (baseRow b ch) ++ [baseRow b ch r] = (ch.rows.take (j + 1)).map (baseRow b ch) := by
  rw [List.take_add_one, h]
  simp

set_option maxRecDepth 100000 in
set_option maxHeartbeats 6400000 in
theorem chartBases_walk (S : Option Addr) (n c : Nat) (R : Option Addr) (m d k : Nat) (ch : PChart) (bs : Int) (w : World) (hw : Std w) (h : LgtA w S n c R m d k ch) :
    Calls Tryz.prog 8 #[.agg #[.slice S n c, .int .i64 ch.base, .slice R m d], .int .i64 bs] w (RetLaw w) := by
  have hB : Below w.heap.size w (w.alloc (.cells #[.slice S n c, .int .i64 ch.base, .slice R m d] 25)) := Below.alo (Below.refl _ _) _
  have HX := Lib.hid (Blk.new w 25 #[.slice S n c, .int .i64 ch.base, .slice R m d])
  have HL := Lib.hid (light_any S n c R m d k 4 ch _ (h.on hB) (by omega) (by omega))
  have HB := Lib.hid hB
  have HW := Lib.hid hw
  clear hB h hw
  go_enter Tryz.func8, Tryz.ntmps8
  go_wp2_with fail
  go_fit HL.out
  rintro e w1 ⟨bb, rfl, hA, hiff, hb1⟩
  clear hiff
  have HB1 := Lib.hid (HB.out.trans (hb1.mono HB.out.size))
  cases bb
  · have HE := Lib.hid (example_any _ (HW.out.below HB1.out))
    clear hA hb1
    go_wp2_with fail
    go_fit HE.out
    rintro e w2 ⟨rfl, hb2⟩
    go_wp2_with fail
    go_ret
    exact ⟨rfl, HB1.out.trans (hb2.mono HB1.out.size)⟩
  have hA0 := (hA rfl).1
  have hqs := hA0.lies.2.qks hA0.one
  have HA1 := Lib.hid (hA0.on hb1)
  have X1 := HX.out.below hb1
  have HX1 := Lib.hid X1
  obtain ⟨x0, x1, x2⟩ := three X1
  have HQS := Lib.hid hqs
  have HSL := Lib.hid hA0.slen
  have HRL := Lib.hid hA0.rlen
  obtain ⟨E, hE⟩ : ∃ E, chkP ch = E := ⟨_, rfl⟩
  have HCk := hcheck_any S n c R m d 4 ch w1 HA1.out
  rw [hE] at HCk
  have HCk := Lib.hid HCk
  have HEE := Lib.hid hE
  clear hA hA0 hqs hb1 X1 HX hE
  go_wp2_with fail
  go_fit HCk.out
  rintro e w2 ⟨rfl, hb2⟩
  have HB2 := Lib.hid (HB1.out.trans (hb2.mono HB1.out.size))
  have HE := Lib.hid (example_any _ (HW.out.below HB2.out))
  have X2 := HX1.out.below hb2
  have HX2 := Lib.hid X2
  have HA2 := Lib.hid (HA1.out.on hb2)
  obtain ⟨x0, x1, x2⟩ := three X2
  clear hb2 X2 HX1 HA1 HCk
  by_cases hE0 : E ≠ 0
  · have hE1 : (E != 0) = true := by simpa using hE0
    go_wp2_with fail
    go_fit HE.out
    rintro e w3 ⟨rfl, hb3⟩
    go_wp2_with fail
    go_ret
    exact ⟨rfl, HB2.out.trans (hb3.mono HB2.out.size)⟩
  have hE0 : E = 0 := by omega
  subst hE0
  by_cases g0 : bs < 0
  · go_wp2_with fail
    go_fit HE.out
    rintro e w3 ⟨rfl, hb3⟩
    go_wp2_with fail
    go_ret
    exact ⟨rfl, HB2.out.trans (hb3.mono HB2.out.size)⟩
  by_cases g1 : (n : Int) ≤ bs
  · go_wp2_with fail
    go_fit HE.out
    rintro e w3 ⟨rfl, hb3⟩
    go_wp2_with fail
    go_ret
    exact ⟨rfl, HB2.out.trans (hb3.mono HB2.out.size)⟩
  have HIB : Hid (isIdx ch bs = true) := isIdx_of HSL.out (by omega) (by omega)
  have m1 := HA2.out.lenr
  have n1 := HA2.out.len
  have hal := (Below.refl w2.heap.size w2).alloc (Nat.le_refl _) (.cells #[.slice S n c, .int .i64 bs, .slice none 0 0] 25)
  have HAL := Lib.hid hal
  have HD := Lib.hid (Blk.new w2 25 #[.slice S n c, .int .i64 bs, .slice none 0 0])
  obtain ⟨xx0, xx1, xx2⟩ := three (HX2.out.below hal)
  have hxl := HX2.out.lt
  clear hal HE
  go_wp2_with fail
  go_loopw [42] (fun s wr => ∃ j : Nat, j ≤ m ∧ s = .int .i64 (j : Int) ∧ bbRel 4 w2 S n c bs ((ch.rows.take j).map (baseRow bs ch)) (w2.heap.size + 1) w2.heap.size wr ∧ Below w2.heap.size w2 wr) (fun s _ => m - (intOf s).toNat)
  case atStart => exact ⟨0, Nat.zero_le _, rfl, ⟨_, HD.out, basRel.nil, by simp, by omega⟩, HAL.out⟩
  case round =>
    obtain ⟨j, hj, rfl, hbx, hbel⟩ := hrel
    clear x0 x1 x2 xx0 xx1 xx2 HD HAL hxl
    by_cases hlt : j < m
    · obtain ⟨b, off, r, neg, C, cm, cc, D, dl, dd, T, sn, sc, rfl, hbw, hr, f0', f1', f2', f3', f4', hba, hsa, hsc⟩ := HA2.out.lies.2.at_ hlt
      have f0 := (hbel.cell (p := ⟨b, off + j * 5, none⟩) hbw).trans f0'
      have f1 := (hbel.cell (p := ⟨b, off + j * 5 + 1, none⟩) hbw).trans f1'
      have f2 := (hbel.cell (p := ⟨b, off + j * 5 + 2, none⟩) hbw).trans f2'
      have f3 := (hbel.cell (p := ⟨b, off + j * 5 + 3, none⟩) hbw).trans f3'
      have f4 := (hbel.cell (p := ⟨b, off + j * 5 + 4, none⟩) hbw).trans f4'
      have HR := Lib.hid hr
      have HSA := Lib.hid (And.intro hsa hsc)
      obtain ⟨qv, hqv⟩ : ∃ q, valueP ch r bs.toNat = q := ⟨_, rfl⟩
      have HQV := Lib.hid hqv
      obtain ⟨v6, hbk, ⟨hs, r1, r2, r3⟩, hbase, hcb⟩ := hbx
      have hK : hs.length = j := by
        have := congrArg List.length r1
        simp only [List.length_map, List.length_take, HRL.out] at this
        omega
      have HKK := Lib.hid hK
      rw [hK] at r2
      obtain ⟨A6, c6, hv6⟩ := own_form r2.1
      subst hv6
      have HN6 : Hid (∀ g, g < w2.heap.size + 1 → some g ≠ (Value.slice A6 j c6).ownBlock) := fun g hg => own_ne r2.1 hg
      have HRW := Lib.hid (And.intro r1 (And.intro r2 r3))
      have HBK6 := Lib.hid hbk
      have HBE := Lib.hid hbel
      have hws := hbel.size
      have hal := (Below.refl wr.heap.size wr).alloc (Nat.le_refl _) (.cells #[.string r.name, .bool neg, .slice C cm cc, .slice D dl dd, .slice T sn sc] 57)
      have HRa := Lib.hid hal
      have HLa := Lib.hid (hbel.trans (hal.mono hbel.size))
      have HZ := Lib.hid (Blk.new wr 57 #[.string r.name, .bool neg, .slice C cm cc, .slice D dl dd, .slice T sn sc])
      have HV := Lib.hid (value_ok bs (HA2.out.on HLa.out) (by omega) HEE.out HR.out HIB.out HQV.out)
      obtain ⟨x0, x1, x2⟩ := three (HX2.out.below hbel)
      have hxl := (HX2.out.below hbel).lt
      have i1 : (0 : Int) ≤ (j : Int) := by omega
      have i2 : (j : Int) < (m : Int) := by omega
      clear hr hqv hba hsa hbk hbel hK r1 r2 r3 hal f0' f1' f2' f3' f4'
      go_wp2_with fail
      go_fit HV.out
      rintro e w4 ⟨A4, n4, c4, B4, m4, d4, rfl, hok, hb⟩
      have hal := (Below.refl w4.heap.size w4).alloc (Nat.le_refl _) (.cells #[.bool (ineg qv.num), .slice A4 n4 c4, .slice B4 m4 d4] 36)
      have hbb := hb.trans (hal.mono hb.size)
      have HL4 := Lib.hid (HRa.out.trans (hbb.mono HRa.out.size))
      have HO4 := Lib.hid (hok.on hal)
      have HB6 := Lib.hid (Below.alo HL4.out (.cells #[.string r.name, .bool (ineg qv.num), .slice A4 n4 c4, .slice B4 m4 d4, .slice T sn sc] 57))
      have Z4 := HZ.out.below hbb
      have V4 := Blk.new w4 36 #[.bool (ineg qv.num), .slice A4 n4 c4, .slice B4 m4 d4]
      have z0 := Z4.c (i := 0) rfl
      have z4 := Z4.c (i := 4) rfl
      have v0 := V4.c (i := 0) rfl
      have v1 := V4.c (i := 1) rfl
      have v2 := V4.c (i := 2) rfl
      have k2 := (HBK6.out.below HL4.out).c (i := 2) rfl
      have hkl := (HBK6.out.below HL4.out).lt
      have HTK := Lib.hid (base_snoc (b := bs) HR.out)
      clear hok hb hal hbb Z4 V4 HV x0 x1 x2 f0 f1 f2 f3 f4
      go_wp2_with (at_builtin; go_must ((refine append_row rfl (.tmp 57) (.tmp 64) rfl (w2.heap.size + 1) j _ _ rfl (HRW.out.2.1.below HB6.out) (w4.heap.size + 1) rfl ⟨baseRow bs ch r, ⟨qv, A4, n4, c4, B4, m4, d4⟩, T, sn, sc⟩ (by exact Blk.new' _ _ _ (by simp)) (by omega) (by have := HB6.out.size; omega) ?_); intro v5 w7 ho5 hg5 hn5; obtain ⟨A7, c7, hv5⟩ := own_form ho5.1; subst hv5; have X7 := (HBK6.out.below HB6.out).grown hg5 (HN6.out _ (by omega)); have t2 := X7.c (i := 2) rfl; have zz2 := X7.frozen 2; clear X7))
      go_roundw
      case rel =>
        have hm := bbRel.more (k := 4) (w0 := w2) (base := w2.heap.size + 1) (cb := w2.heap.size) ⟨baseRow bs ch r, ⟨qv, A4, n4, c4, B4, m4, d4⟩, T, sn, sc⟩ (HBK6.out.below HB6.out) (Nat.le_trans hbase HB6.out.size) hcb HRW.out.1 (by rw [HKK.out]; exact HRW.out.2.1.below HB6.out) (fun t ht => ⟨(HRW.out.2.2 t ht).1, (HRW.out.2.2 t ht).2.1.below HB6.out, (HRW.out.2.2 t ht).2.2⟩) ⟨HQV.out.symm, HO4.out.on ((Below.refl _ _).alloc (Nat.le_refl _) _), HSA.out.1, HSA.out.2⟩ (by rw [HKK.out]; exact ho5) hg5 hn5
        rw [HTK.out] at hm
        refine ⟨j + 1, by omega, by go_num, hm, ?_⟩
        exact ((HBE.out.trans (HB6.out.mono HBE.out.size)).grown hg5 (Nat.le_trans HBE.out.size HB6.out.size) fun g e => by have := ((HRW.out.2.1.below HB6.out).1.lt _ e).1; omega).setCell (p := ⟨w2.heap.size, 2, none⟩) (by simp) _
      case measure => simp [intOf]; omega
    · obtain rfl : j = m := by omega
      obtain ⟨w4, rfl⟩ : ∃ w4 : World, w4 = wr := ⟨_, rfl⟩
      have hall : (ch.rows.take j).map (baseRow bs ch) = (baseP bs ch).rows := by rw [List.take_of_length_le (by rw [HRL.out]; omega)]; rfl
      rw [hall] at hbx
      obtain ⟨R2, d2, hblk, hrn, hd2⟩ := hbx.done (K := 200) hbel (by omega) (base_fit HQS.out HEE.out HIB.out)
      have hlen : (baseP bs ch).rows.length = j := by rw [baseP, List.length_map]; exact HRL.out
      rw [hlen] at hblk hrn hd2
      have HDA : Hid (ChkA w4 S n c R2 j d2 200 (baseP bs ch)) := ⟨⟨HA2.out.lies.1.on hbel, hrn⟩, HA2.out.cap, hd2, HA2.out.len, HA2.out.lenr, by omega, by omega, HA2.out.sz, fun i r hi => by
        simp only [baseP, List.getElem?_map, Option.map_eq_some_iff] at hi
        obtain ⟨r0, h0, rfl⟩ := hi
        exact HA2.out.nm i r0 h0⟩
      have HCD := Lib.hid (base_chk HEE.out HIB.out)
      have HD4 := Lib.hid hblk
      have HB4 := Lib.hid (HB2.out.trans (hbel.mono HB2.out.size))
      have HL4 := Lib.hid hbel
      obtain ⟨x0, x1, x2⟩ := three (HX2.out.below hbel)
      clear hbx hblk hrn hd2 hall hlen hbel
      go_wp2_with fail
      go_loopw [71] (fun s wr => ∃ i : Nat, i ≤ n ∧ s = .int .i64 (i : Int) ∧ Below w4.heap.size w4 wr) (fun s _ => n - (intOf s).toNat)
      case atStart => exact ⟨0, Nat.zero_le _, rfl, Below.refl _ _⟩
      case round =>
        obtain ⟨i, hi, rfl, hbel⟩ := hrel
        clear x0 x1 x2
        have HLo := Lib.hid (HL4.out.trans (hbel.mono HL4.out.size))
        by_cases hlt : i < n
        · have HI : Hid (isIdx ch (i : Int) = true) := isIdx_of HSL.out (by omega) (by omega)
          obtain ⟨ms, hms⟩ : ∃ ms, colOf ch (i : Int) = ms := ⟨_, rfl⟩
          have HC := Lib.hid (column_ok (i : Int) (HA2.out.on HLo.out) (by omega) HEE.out HI.out hms)
          have HMQ : Hid (∀ (t : Nat) (p : ByteArray × Rat), ms[t]? = some p → qk p.2 100000) := fun t p hp => by
            rw [← hms, colOf, List.getElem?_map, Option.map_eq_some_iff] at hp
            obtain ⟨r, hr, rfl⟩ := hp
            exact (row_val (by omega) (by omega) HQS.out HEE.out hr HI.out).mono (by omega)
          have HMS2 : Hid (colOf (baseP bs ch) (i : Int) = ms) := (base_col ch bs i).trans hms
          obtain ⟨x0, x1, x2⟩ := three (HX2.out.below HLo.out)
          have HBE := Lib.hid hbel
          clear hms hbel
          go_wp2_with fail
          go_fit HC.out
          rintro e w5 ⟨A5, c5, rfl, hc5, hme5, hb5⟩
          have HM5 := Lib.hid (HBE.out.trans (hb5.mono HBE.out.size))
          have HME5 := Lib.hid hme5
          have HC2 := Lib.hid (column_ok (i : Int) (HDA.out.on HM5.out) (by omega) HCD.out HI.out HMS2.out)
          obtain ⟨x0, x1, x2⟩ := three (HD4.out.below HM5.out)
          clear hb5 hme5 HC
          go_wp2_with fail
          go_fit HC2.out
          rintro e w6 ⟨A6, c6, rfl, hc6, hme6, hb6⟩
          have HM6 := Lib.hid (HM5.out.trans (hb6.mono HM5.out.size))
          have HSa := Lib.hid (samem_true A5 j c5 A6 c6 ms w6 (HME5.out.on hb6) hme6 HMQ.out (by omega))
          clear hb6 hme6 HC2 x0 x1 x2
          go_wp2_with fail
          go_fit HSa.out
          rintro e w7 ⟨rfl, hb7⟩
          have HM7 := Lib.hid (HM6.out.trans (hb7.mono HM6.out.size))
          clear hb7
          go_wp2_with fail
          go_roundw
          case rel => exact ⟨i + 1, by omega, by go_num, HM7.out⟩
          case measure => simp [intOf]; omega
        · obtain rfl : i = n := by omega
          have HBF := Lib.hid (HB4.out.trans (hbel.mono HB4.out.size))
          have HE := Lib.hid (example_any _ (HW.out.below HBF.out))
          clear hbel
          go_wp2_with fail
          go_fit HE.out
          rintro e w5 ⟨rfl, hb5⟩
          go_wp2_with fail
          go_ret
          exact ⟨rfl, HBF.out.trans (hb5.mono HBF.out.size)⟩
end Go.Proofs.YtjiccijfbpkliaaGreatDoor
