/-
  Several texts in one: chart.Value, Change. Conditions: those of Check, numbers of at most 100 limbs. (Printed by gen_chg2.py.) chart.Change. Conditions: those of Check, numbers of at most 100 limbs. (Printed by gen_chg2.py.)
-/
import Derived.Deep.DeepFit
import Derived.Test.YtjiccijfbpkliaaGreatDoorG19
import Derived.Test.YtjiccijfbpkliaaGreatDoorG23

/- chart.Value, Change. Conditions: those of Check, numbers of at most 100 limbs. (Printed by gen_chg2.py.) -/
namespace Go.Proofs.YtjiccijfbpkliaaGreatDoor
open Go.RowKit

theorem Found.uniq {rs : List PRow} {x : ByteArray} {y z : Int} (h : Found rs x y) (h' : Found rs x z) : y = z := by
  rcases h with ⟨rfl, h⟩ | ⟨i, r, rfl, hi, e, hl⟩
  · rcases h' with ⟨rfl, _⟩ | ⟨j, r', rfl, hj, e', _⟩
    · rfl
    · exact absurd e' (h j r' hj)
  · rcases h' with ⟨rfl, h'⟩ | ⟨j, r', rfl, hj, e', hl'⟩
    · exact absurd e (h' i r hi)
    · rcases Nat.lt_trichotomy i j with hlt | rfl | hgt
      · exact absurd e (hl' i r hlt hi)
      · rfl
      · exact absurd e' (hl j r' hgt hj)
theorem Found.ex (rs : List PRow) (x : ByteArray) : ∃ z, Found rs x z := by
  induction rs with
  | nil => exact ⟨-1, .inl ⟨rfl, fun j r h => by simp at h⟩⟩
  | cons r rs ih =>
    by_cases hr : r.name = x
    · exact ⟨0, .inr ⟨0, r, rfl, rfl, hr, fun j r' hj => by omega⟩⟩
    · obtain ⟨z, hz⟩ := ih
      rcases hz with ⟨rfl, h⟩ | ⟨i, r1, rfl, hi, e, hl⟩
      · refine ⟨-1, .inl ⟨rfl, fun j r' hj => ?_⟩⟩
        cases j with
        | zero => obtain rfl : r = r' := by simpa using hj
                  exact hr
        | succ j => exact h j r' (by simpa using hj)
      · refine ⟨((i + 1 : Nat) : Int), .inr ⟨i + 1, r1, rfl, by simpa using hi, e, fun j r' hj hr' => ?_⟩⟩
        cases j with
        | zero => obtain rfl : r = r' := by simpa using hr'
                  exact hr
        | succ j => exact hl j r' (by omega) (by simpa using hr')
/-- The error of Value. -/
def valErr (ch : PChart) (size : Int) (z : Int) : Int := if chkP ch ≠ 0 then chkP ch else if isIdx ch size = false then 3 else if z < 0 then 6 else 0
def valOf (ch : PChart) (size : Int) (z : Int) : Rat := match ch.rows[z.toNat]? with | some r => valueP ch r size.toNat | none => 0
def RetVal (ch : PChart) (size : Int) (x : ByteArray) (w : World) (e : Ending) (w' : World) : Prop := ∃ z, Found ch.rows x z ∧ RetQE (valErr ch size z) (valOf ch size z) w e w'
/-- The error of Change. -/
def chgErr (ch : PChart) (a b : Int) (z : Int) : Int := if chkP ch ≠ 0 then chkP ch else if isIdx ch a = false ∨ isIdx ch b = false then 3 else if z < 0 then 6 else 0
def chgOf (ch : PChart) (a b : Int) (z : Int) : Rat := match ch.rows[z.toNat]? with | some r => chg r.steps a.toNat b.toNat | none => 0
def RetChg (ch : PChart) (a b : Int) (x : ByteArray) (w : World) (e : Ending) (w' : World) : Prop := ∃ z, Found ch.rows x z ∧ RetQE (chgErr ch a b z) (chgOf ch a b z) w e w'
theorem idx_iff {ch : PChart} {n : Nat} {i : Int} (h : ch.sizes.length = n) : isIdx ch i = (decide (0 ≤ i) && decide (i < (n : Int))) := by rw [isIdx, h]
theorem row_len {ch : PChart} {j : Nat} {r : PRow} (h : ch.right = true) (hr : ch.rows[j]? = some r) : r.steps.length = ch.sizes.length := (rowOk_iff.1 ((right_iff.1 h).2.2 j r hr)).2.1
theorem RowsA.row {w : World} {A : Option Addr} {n k : Nat} {rs : List PRow} (h : RowsA w A n k rs) {j : Nat} (hj : j < n) : ∃ b off r neg B m c C l d S sn sc, A = some ⟨b, off, none⟩ ∧ rs[j]? = some r ∧ w.cell? ⟨b, off + j * 5, none⟩ = some (.string r.name) ∧ w.cell? ⟨b, off + j * 5 + 1, none⟩ = some (.bool neg) ∧ w.cell? ⟨b, off + j * 5 + 2, none⟩ = some (.slice B m c) ∧ w.cell? ⟨b, off + j * 5 + 3, none⟩ = some (.slice C l d) ∧ w.cell? ⟨b, off + j * 5 + 4, none⟩ = some (.slice S sn sc) ∧
      RowA w (.agg #[.string r.name, .bool neg, .slice B m c, .slice C l d, .slice S sn sc]) k r ∧ b < w.heap.size := by
  obtain ⟨b, off, r, neg, B, m, c, C, l, d, S, sn, sc, e, hlt, hr, h0, h1, h2, h3, h4, h5, h6, h7⟩ := h.at_ hj
  exact ⟨b, off, r, neg, B, m, c, C, l, d, S, sn, sc, e, hr, h0, h1, h2, h3, h4, ⟨neg, B, m, c, C, l, d, S, sn, sc, rfl, h5, h6, h7⟩, hlt⟩


set_option maxRecDepth 100000 in
set_option maxHeartbeats 6400000 in
theorem Value_any (S : Option Addr) (n c : Nat) (R : Option Addr) (m d k : Nat) (ch : PChart) (size : Int) (x : ByteArray) (w : World) (h : ChkA w S n c R m d k ch) (hk2 : k ≤ 400) :
    Calls Tryz.prog 17 #[.agg #[.slice S n c, .int .i64 ch.base, .slice R m d], .int .i64 size, .string x] w (RetVal ch size x w) := by
  obtain ⟨z0, hz0⟩ := Found.ex ch.rows x
  have hsl := h.slen
  have hrl := h.rlen
  have hB : Below w.heap.size w ((w.alloc (.cells #[.slice S n c, .int .i64 ch.base, .slice R m d] 25)).alloc (.cells #[.bool false, .slice none 0 0, .slice none 0 0] 36)) := ((Below.refl _ _).alloc (Nat.le_refl _) _).alloc (by simp) _
  have X0 : Blk ((w.alloc (.cells #[.slice S n c, .int .i64 ch.base, .slice R m d] 25)).alloc (.cells #[.bool false, .slice none 0 0, .slice none 0 0] 36)) w.heap.size 25 #[.slice S n c, .int .i64 ch.base, .slice R m d] := (Blk.new w _ _).alloc _
  have Y0 : Blk ((w.alloc (.cells #[.slice S n c, .int .i64 ch.base, .slice R m d] 25)).alloc (.cells #[.bool false, .slice none 0 0, .slice none 0 0] 36)) (w.heap.size + 1) 36 #[.bool false, .slice none 0 0, .slice none 0 0] := Blk.new' _ _ _ (by simp)
  have HA := Lib.hid h
  have HC := fun W (hb : Below w.heap.size w W) => check_any S n c R m d k ch W (h.on hb)
  obtain ⟨E, hE⟩ : ∃ E, chkP ch = E := ⟨_, rfl⟩
  simp only [hE] at HC
  have HC := Lib.hid HC
  have HE := Lib.hid hE
  have HZ0 := Lib.hid hz0
  have HL := Lib.hid (And.intro hsl hrl)
  have n1 := h.len
  have m1 := h.lenr
  clear h hsl hrl hE hz0
  go_enter Tryz.func17, Tryz.ntmps17
  go_wp2_with fail
  refine (HC.out _ hB).mono ?_
  rintro e w1 ⟨rfl, hb1⟩
  have X1 := X0.below hb1
  have Y1 := Y0.below hb1
  have B1 := hB.trans (hb1.mono hB.size)
  obtain ⟨x0, x1, x2⟩ := three X1
  obtain ⟨k0, k1, k2⟩ := three Y1
  have y0 := Y1.frozen 0
  have y1 := Y1.frozen 1
  have y2 := Y1.frozen 2
  clear X0 Y0 hB hb1
  by_cases hE0 : E = 0
  · subst hE0
    have hck := chk_zero HE.out
    have HCK := Lib.hid hck
    have HI := isIndex_any S n c ch.base R m d size w1
    rw [← idx_iff HL.out.1] at HI
    clear hck
    cases hq : isIdx ch size
    · have HV : Hid (valErr ch size z0 = 3) := by rw [Hid, valErr, HE.out, if_neg (by simp), if_pos hq]
      rw [hq] at HI
      have HI := Lib.hid HI
      have HX1 := Lib.hid X1
      have HY1 := Lib.hid Y1
      clear hq X1 Y1
      go_wp2_with fail
      refine HI.out.mono ?_
      rintro e w2 ⟨rfl, hb2⟩
      have Y2 := HY1.out.below hb2
      obtain ⟨k0, k1, k2⟩ := three Y2
      have y0 := Y2.frozen 0
      have y1 := Y2.frozen 1
      have y2 := Y2.frozen 2
      clear Y2
      go_wp2_with fail
      refine bodyPost_ret (v := .tuple #[.agg #[.bool false, .slice none 0 0, .slice none 0 0], .int .i64 3]) (by simp [results, Tryz.results17, go_sem, k0, k1, k2]) rfl ?_
      refine ⟨z0, HZ0.out, ?_⟩
      rw [HV.out]
      exact RetQE.bad (by omega) (below3 (B1.trans (hb2.mono B1.size)) (by omega) _ _ _)
    · have hqi := isIdx_iff.1 hq
      obtain ⟨sz, rfl⟩ : ∃ sz : Nat, size = (sz : Int) := ⟨size.toNat, by omega⟩
      have HV : Hid (∀ z, valErr ch (sz : Int) z = if z < 0 then 6 else 0) := fun z => by rw [valErr, HE.out, if_neg (by simp), if_neg (by rw [hq]; simp)]
      rw [hq] at HI
      have HI := Lib.hid HI
      have HX1 := Lib.hid X1
      have HY1 := Lib.hid Y1
      clear hq X1 Y1 k0 k1 k2 y0 y1 y2
      go_wp2_with fail
      refine HI.out.mono ?_
      rintro e w2 ⟨rfl, hb2⟩
      have X2 := HX1.out.below hb2
      have Y2 := HY1.out.below hb2
      have B2 := B1.trans (hb2.mono B1.size)
      obtain ⟨x0, x1, x2⟩ := three X2
      have HF := Lib.hid (find_any R m d k ch.rows x w2 (HA.out.lies.2.on B2) (by omega))
      clear B1 hb2
      go_wp2_with fail
      refine HF.out.mono ?_
      rintro e w3 ⟨z, rfl, hz, hb3⟩
      have X3 := X2.below hb3
      have Y3 := Y2.below hb3
      have B3 := B2.trans (hb3.mono B2.size)
      obtain ⟨x0, x1, x2⟩ := three X3
      obtain ⟨k0, k1, k2⟩ := three Y3
      have y0 := Y3.frozen 0
      have y1 := Y3.frozen 1
      have y2 := Y3.frozen 2
      have HZ := Lib.hid hz
      clear X2 Y2 B2 hb3
      rcases Int.lt_or_le z 0 with hz1 | hz1
      · clear hz
        have HB3 := Lib.hid B3
        clear X3 Y3 B3
        go_wp2_with fail
        refine bodyPost_ret (v := .tuple #[.agg #[.bool false, .slice none 0 0, .slice none 0 0], .int .i64 6]) (by simp [results, Tryz.results17, go_sem, k0, k1, k2]) rfl ?_
        refine ⟨z, HZ.out, ?_⟩
        rw [HV.out, if_pos hz1]
        exact RetQE.bad (by omega) (below3 HB3.out (by omega) _ _ _)
      · rcases hz with ⟨rfl, _⟩ | ⟨j, r, rfl, hr, hnm, hls⟩
        · omega
        clear hnm hls
        have hjm : j < m := by have := (List.getElem?_eq_some_iff.1 hr).1; rw [HL.out.2] at this; exact this
        obtain ⟨b, off, r', neg, C, cm, cc, D, dl, dd, T, sn, sc, rfl, hr', g0, g1, g2, g3, g4, hra, hbw⟩ := (HA.out.lies.2.on B3).row hjm
        obtain rfl : r = r' := by rw [hr] at hr'; exact Option.some.inj hr'
        have hrn : r.steps.length = n := by rw [row_len HCK.out.2.2.1 hr]; exact HL.out.1
        have hb0 := HCK.out.2.2.2.2.2.1
        have hb1 := HCK.out.2.2.2.2.2.2
        rw [HL.out.1] at hb1
        have hVO : valOf ch (sz : Int) (j : Int) = r.base + chg r.steps ch.base.toNat sz := by rw [valOf, Int.toNat_natCast, hr, Int.toNat_natCast]; rfl
        have hn12 := HCK.out.1
        rw [HL.out.1] at hn12
        have hqi2 := hqi.2
        rw [HL.out.1] at hqi2
        have HVA := fun W (hb : Below w3.heap.size w3 W) => value_any' S n c (some ⟨b, off, none⟩) m d ch.base.toNat (.agg #[.string r.name, .bool neg, .slice C cm cc, .slice D dl dd, .slice T sn sc]) k r sz W (hra.on hb) HA.out.one hk2 (by omega) (by omega) (by omega)
        rw [Int.toNat_of_nonneg hb0, ← hVO] at HVA
        generalize hqq : valOf ch (sz : Int) (j : Int) = q at HVA
        have HQ0 := Lib.hid hqq
        have HVA := Lib.hid HVA
        have HB3 := Lib.hid B3
        have HX3 := Lib.hid X3
        have HY3 := Lib.hid Y3
        have i1 : (0 : Int) ≤ (j : Int) := by omega
        have i2 : (j : Int) < (m : Int) := by omega
        have hxl := X3.lt
        have hyl := Y3.lt
        have nn1 : ¬ w.heap.size + 1 = w.heap.size := by omega
        have nn2 : ¬ w.heap.size = w.heap.size + 1 := by omega
        have nb1 : ¬ b = w.heap.size + 1 := by
          obtain ⟨b', off', e', hlt', _⟩ := HA.out.lies.2.2 (by omega)
          injection e' with e'
          injection e' with e' _
          omega
        have nb2 : ¬ w.heap.size + 1 = b := fun e => nb1 e.symm
        clear hr hr' hra B3 X3 Y3 hVO hrn hqq
        go_wp2_with fail
        go_region_held3 (fun w' => w'.cell? ⟨w.heap.size, 0, none⟩ = some (.slice S n c) ∧ w'.cell? ⟨w.heap.size, 1, none⟩ = some (.int .i64 ch.base) ∧ w'.cell? ⟨w.heap.size, 2, none⟩ = some (.slice (some ⟨b, off, none⟩) m d) ∧ w'.cell? ⟨b, off + j * 5, none⟩ = some (.string r.name) ∧ w'.cell? ⟨b, off + j * 5 + 1, none⟩ = some (.bool neg) ∧ w'.cell? ⟨b, off + j * 5 + 2, none⟩ = some (.slice C cm cc) ∧ w'.cell? ⟨b, off + j * 5 + 3, none⟩ = some (.slice D dl dd) ∧ w'.cell? ⟨b, off + j * 5 + 4, none⟩ = some (.slice T sn sc))
          (go_keep)
          ((go_at_call 45; go_must ((go_fit (HVA.out w3.drew (Below.refl _ _).drew)); rintro e w4 ⟨A4, n4, c4, B4, m4, d4, rfl, r5, r6, r7, r8, hb4⟩; have HB4 := Lib.hid (show Below w3.heap.size w3 w4 from ⟨hb4.os, hb4.tape, hb4.output, hb4.size, hb4.block⟩); obtain ⟨hcl, hfr⟩ := bcell HB4.out; have Z4 := HY3.out.below HB4.out; have HF := Lib.hid (rat_end r5 r6 r7 r8 Z4 (by simp) (HB3.out.trans (HB4.out.mono HB3.out.size)) (by omega)); have k0 := Z4.c (i := 0) rfl; have k1 := Z4.c (i := 1) rfl; have k2 := Z4.c (i := 2) rfl; have y0 := Z4.frozen 0; have y1 := Z4.frozen 1; have y2 := Z4.frozen 2; clear r5 r7 Z4 hb4)))
        go_wp2_with fail
        refine bodyPost_ret (v := .tuple #[.agg #[.bool (ineg q.num), .slice A4 n4 c4, .slice B4 m4 d4], .int .i64 0]) (by simp [results, Tryz.results17, go_sem, k0, k1, k2]) rfl ?_
        refine ⟨(j : Int), HZ.out, ?_⟩
        rw [HV.out, if_neg (by omega), HQ0.out]
        exact RetQE.good (RetQ0.of HF.out)
  · have hE1 : (E != 0) = true := by simpa using hE0
    have HV : Hid (valErr ch size z0 = E) := by rw [Hid, valErr, HE.out, if_pos hE0]
    have HB1 := Lib.hid B1
    clear X1 Y1 B1
    go_wp2_with fail
    refine bodyPost_ret (v := .tuple #[.agg #[.bool false, .slice none 0 0, .slice none 0 0], .int .i64 E]) (by simp [results, Tryz.results17, go_sem, k0, k1, k2]) rfl ?_
    refine ⟨z0, HZ0.out, ?_⟩
    rw [HV.out]
    exact RetQE.bad hE0 (below3 HB1.out (by omega) _ _ _)
end Go.Proofs.YtjiccijfbpkliaaGreatDoor

/- chart.Change. Conditions: those of Check, numbers of at most 100 limbs. (Printed by gen_chg2.py.) -/
namespace Go.Proofs.YtjiccijfbpkliaaGreatDoor
open Go.RowKit

set_option maxRecDepth 100000 in
set_option maxHeartbeats 6400000 in
theorem Change_any (S : Option Addr) (n c : Nat) (R : Option Addr) (m d k : Nat) (ch : PChart) (fr to_ : Int) (x : ByteArray) (w : World) (h : ChkA w S n c R m d k ch) (hk2 : k ≤ 400) :
    Calls Tryz.prog 23 #[.agg #[.slice S n c, .int .i64 ch.base, .slice R m d], .int .i64 fr, .int .i64 to_, .string x] w (RetChg ch fr to_ x w) := by
  obtain ⟨z0, hz0⟩ := Found.ex ch.rows x
  have hsl := h.slen
  have hrl := h.rlen
  have hB : Below w.heap.size w ((w.alloc (.cells #[.slice S n c, .int .i64 ch.base, .slice R m d] 25)).alloc (.cells #[.bool false, .slice none 0 0, .slice none 0 0] 36)) := ((Below.refl _ _).alloc (Nat.le_refl _) _).alloc (by simp) _
  have X0 : Blk ((w.alloc (.cells #[.slice S n c, .int .i64 ch.base, .slice R m d] 25)).alloc (.cells #[.bool false, .slice none 0 0, .slice none 0 0] 36)) w.heap.size 25 #[.slice S n c, .int .i64 ch.base, .slice R m d] := (Blk.new w _ _).alloc _
  have Y0 : Blk ((w.alloc (.cells #[.slice S n c, .int .i64 ch.base, .slice R m d] 25)).alloc (.cells #[.bool false, .slice none 0 0, .slice none 0 0] 36)) (w.heap.size + 1) 36 #[.bool false, .slice none 0 0, .slice none 0 0] := Blk.new' _ _ _ (by simp)
  have HA := Lib.hid h
  have HC := fun W (hb : Below w.heap.size w W) => check_any S n c R m d k ch W (h.on hb)
  obtain ⟨E, hE⟩ : ∃ E, chkP ch = E := ⟨_, rfl⟩
  simp only [hE] at HC
  have HC := Lib.hid HC
  have HE := Lib.hid hE
  have HZ0 := Lib.hid hz0
  have HL := Lib.hid (And.intro hsl hrl)
  have n1 := h.len
  have m1 := h.lenr
  clear h hsl hrl hE hz0
  go_enter Tryz.func23, Tryz.ntmps23
  go_wp2_with fail
  refine (HC.out _ hB).mono ?_
  rintro e w1 ⟨rfl, hb1⟩
  have X1 := X0.below hb1
  have Y1 := Y0.below hb1
  have B1 := hB.trans (hb1.mono hB.size)
  obtain ⟨x0, x1, x2⟩ := three X1
  obtain ⟨k0, k1, k2⟩ := three Y1
  have y0 := Y1.frozen 0
  have y1 := Y1.frozen 1
  have y2 := Y1.frozen 2
  clear X0 Y0 hB hb1
  by_cases hE0 : E = 0
  · subst hE0
    have hck := chk_zero HE.out
    have HCK := Lib.hid hck
    have HI := isIndex_any S n c ch.base R m d fr w1
    rw [← idx_iff HL.out.1] at HI
    clear hck
    cases hq : isIdx ch fr
    · have HV : Hid (chgErr ch fr to_ z0 = 3) := by rw [Hid, chgErr, HE.out, if_neg (by simp), if_pos (.inl hq)]
      rw [hq] at HI
      have HI := Lib.hid HI
      have HX1 := Lib.hid X1
      have HY1 := Lib.hid Y1
      clear hq X1 Y1
      go_wp2_with fail
      refine HI.out.mono ?_
      rintro e w2 ⟨rfl, hb2⟩
      have Y2 := HY1.out.below hb2
      obtain ⟨k0, k1, k2⟩ := three Y2
      have y0 := Y2.frozen 0
      have y1 := Y2.frozen 1
      have y2 := Y2.frozen 2
      clear Y2
      go_wp2_with fail
      refine bodyPost_ret (v := .tuple #[.agg #[.bool false, .slice none 0 0, .slice none 0 0], .int .i64 3]) (by simp [results, Tryz.results23, go_sem, k0, k1, k2]) rfl ?_
      refine ⟨z0, HZ0.out, ?_⟩
      rw [HV.out]
      exact RetQE.bad (by omega) (below3 (B1.trans (hb2.mono B1.size)) (by omega) _ _ _)
    rw [hq] at HI
    have HQ1 := Lib.hid hq
    have HI := Lib.hid HI
    have HX1 := Lib.hid X1
    have HY1 := Lib.hid Y1
    clear hq X1 Y1 k0 k1 k2 y0 y1 y2
    go_wp2_with fail
    refine HI.out.mono ?_
    rintro e w0 ⟨rfl, hb0⟩
    have HJ := isIndex_any S n c ch.base R m d to_ w0
    rw [← idx_iff HL.out.1] at HJ
    have X1 := HX1.out.below hb0
    have Y1 := HY1.out.below hb0
    have B0 := B1.trans (hb0.mono B1.size)
    obtain ⟨x0', x1', x2'⟩ := three X1
    clear B1 HX1 HY1 hb0 HI
    cases hq : isIdx ch to_
    · have HV : Hid (chgErr ch fr to_ z0 = 3) := by rw [Hid, chgErr, HE.out, if_neg (by simp), if_pos (.inr hq)]
      rw [hq] at HJ
      have HJ := Lib.hid HJ
      have HY1 := Lib.hid Y1
      clear hq X1 Y1
      go_wp2_with fail
      refine HJ.out.mono ?_
      rintro e w2 ⟨rfl, hb2⟩
      have Y2 := HY1.out.below hb2
      obtain ⟨k0, k1, k2⟩ := three Y2
      have y0 := Y2.frozen 0
      have y1 := Y2.frozen 1
      have y2 := Y2.frozen 2
      clear Y2
      go_wp2_with fail
      refine bodyPost_ret (v := .tuple #[.agg #[.bool false, .slice none 0 0, .slice none 0 0], .int .i64 3]) (by simp [results, Tryz.results23, go_sem, k0, k1, k2]) rfl ?_
      refine ⟨z0, HZ0.out, ?_⟩
      rw [HV.out]
      exact RetQE.bad (by omega) (below3 (B0.trans (hb2.mono B0.size)) (by omega) _ _ _)
    · have hqi := isIdx_iff.1 HQ1.out
      have hqj := isIdx_iff.1 hq
      have HV : Hid (∀ z, chgErr ch fr to_ z = if z < 0 then 6 else 0) := fun z => by rw [chgErr, HE.out, if_neg (by simp), if_neg (by rw [hq, HQ1.out]; simp)]
      obtain ⟨sa, rfl⟩ : ∃ sa : Nat, fr = (sa : Int) := ⟨fr.toNat, by omega⟩
      obtain ⟨sb, rfl⟩ : ∃ sb : Nat, to_ = (sb : Int) := ⟨to_.toNat, by omega⟩
      rw [hq] at HJ
      have HI := Lib.hid HJ
      have HX1 := Lib.hid X1
      have HY1 := Lib.hid Y1
      have B1 := B0
      clear hq X1 Y1 B0 HJ
      go_wp2_with fail
      refine HI.out.mono ?_
      rintro e w2 ⟨rfl, hb2⟩
      have X2 := HX1.out.below hb2
      have Y2 := HY1.out.below hb2
      have B2 := B1.trans (hb2.mono B1.size)
      obtain ⟨x0, x1, x2⟩ := three X2
      have HF := Lib.hid (find_any R m d k ch.rows x w2 (HA.out.lies.2.on B2) (by omega))
      clear B1 hb2
      go_wp2_with fail
      refine HF.out.mono ?_
      rintro e w3 ⟨z, rfl, hz, hb3⟩
      have X3 := X2.below hb3
      have Y3 := Y2.below hb3
      have B3 := B2.trans (hb3.mono B2.size)
      obtain ⟨x0, x1, x2⟩ := three X3
      obtain ⟨k0, k1, k2⟩ := three Y3
      have y0 := Y3.frozen 0
      have y1 := Y3.frozen 1
      have y2 := Y3.frozen 2
      have HZ := Lib.hid hz
      clear X2 Y2 B2 hb3
      rcases Int.lt_or_le z 0 with hz1 | hz1
      · clear hz
        have HB3 := Lib.hid B3
        clear X3 Y3 B3
        go_wp2_with fail
        refine bodyPost_ret (v := .tuple #[.agg #[.bool false, .slice none 0 0, .slice none 0 0], .int .i64 6]) (by simp [results, Tryz.results23, go_sem, k0, k1, k2]) rfl ?_
        refine ⟨z, HZ.out, ?_⟩
        rw [HV.out, if_pos hz1]
        exact RetQE.bad (by omega) (below3 HB3.out (by omega) _ _ _)
      · rcases hz with ⟨rfl, _⟩ | ⟨j, r, rfl, hr, hnm, hls⟩
        · omega
        clear hnm hls
        have hjm : j < m := by have := (List.getElem?_eq_some_iff.1 hr).1; rw [HL.out.2] at this; exact this
        obtain ⟨b, off, r', neg, C, cm, cc, D, dl, dd, T, sn, sc, rfl, hr', g0, g1, g2, g3, g4, hra, hbw⟩ := (HA.out.lies.2.on B3).row hjm
        obtain rfl : r = r' := by rw [hr] at hr'; exact Option.some.inj hr'
        have hrn : r.steps.length = n := by rw [row_len HCK.out.2.2.1 hr]; exact HL.out.1
        have hb0 := HCK.out.2.2.2.2.2.1
        have hb1 := HCK.out.2.2.2.2.2.2
        rw [HL.out.1] at hb1
        have hVO : chgOf ch (sa : Int) (sb : Int) (j : Int) = chg r.steps sa sb := by rw [chgOf, Int.toNat_natCast, hr, Int.toNat_natCast, Int.toNat_natCast]
        have hqi2 := hqi.2
        have hqj2 := hqj.2
        rw [HL.out.1] at hqi2 hqj2
        have HVA := change_any (.agg #[.string r.name, .bool neg, .slice C cm cc, .slice D dl dd, .slice T sn sc]) k r sa sb w3 hra HA.out.one hk2 (by omega) (by omega) (by have := HCK.out.1; rw [HL.out.1] at this; omega)
        rw [← hVO] at HVA
        generalize hqq : chgOf ch (sa : Int) (sb : Int) (j : Int) = q at HVA
        have HQ0 := Lib.hid hqq
        have HVA := Lib.hid HVA
        have HB3 := Lib.hid B3
        have HX3 := Lib.hid X3
        have HY3 := Lib.hid Y3
        have i1 : (0 : Int) ≤ (j : Int) := by omega
        have i2 : (j : Int) < (m : Int) := by omega
        have hxl := X3.lt
        have hyl := Y3.lt
        have nn1 : ¬ w.heap.size + 1 = w.heap.size := by omega
        have nn2 : ¬ w.heap.size = w.heap.size + 1 := by omega
        have nb1 : ¬ b = w.heap.size + 1 := by
          obtain ⟨b', off', e', hlt', _⟩ := HA.out.lies.2.2 (by omega)
          injection e' with e'
          injection e' with e' _
          omega
        have nb2 : ¬ w.heap.size + 1 = b := fun e => nb1 e.symm
        clear hr hr' hra B3 X3 Y3 hVO hrn hqq
        go_wp2_with fail
        go_fit HVA.out
        rintro e w4 ⟨A4, n4, c4, B4, m4, d4, rfl, r5, r6, r7, r8, hb4⟩
        have HB4 := Lib.hid hb4
        have Z4 := HY3.out.below HB4.out
        have HF := Lib.hid (rat_end r5 r6 r7 r8 Z4 (by simp) (HB3.out.trans (HB4.out.mono HB3.out.size)) (by omega))
        have k0 := Z4.c (i := 0) rfl
        have k1 := Z4.c (i := 1) rfl
        have k2 := Z4.c (i := 2) rfl
        have y0 := Z4.frozen 0
        have y1 := Z4.frozen 1
        have y2 := Z4.frozen 2
        clear r5 r7 Z4 hb4
        go_wp2_with fail
        refine bodyPost_ret (v := .tuple #[.agg #[.bool (ineg q.num), .slice A4 n4 c4, .slice B4 m4 d4], .int .i64 0]) (by simp [results, Tryz.results23, go_sem, k0, k1, k2]) rfl ?_
        refine ⟨(j : Int), HZ.out, ?_⟩
        rw [HV.out, if_neg (by omega), HQ0.out]
        exact RetQE.good (RetQ0.of HF.out)
  · have hE1 : (E != 0) = true := by simpa using hE0
    have HV : Hid (chgErr ch fr to_ z0 = E) := by rw [Hid, chgErr, HE.out, if_pos hE0]
    have HB1 := Lib.hid B1
    clear X1 Y1 B1
    go_wp2_with fail
    refine bodyPost_ret (v := .tuple #[.agg #[.bool false, .slice none 0 0, .slice none 0 0], .int .i64 E]) (by simp [results, Tryz.results23, go_sem, k0, k1, k2]) rfl ?_
    refine ⟨z0, HZ0.out, ?_⟩
    rw [HV.out]
    exact RetQE.bad hE0 (below3 HB1.out (by omega) _ _ _)
end Go.Proofs.YtjiccijfbpkliaaGreatDoor
