/- Parts of the proof. -/
import Derived.Test.YtiibocdmlfedkaaGreatDoorH55
import Derived.Test.YtiibocdmlfedkaaGreatDoorH56
namespace Go.Proofs.YtiibocdmlfedkaaGreatDoor
section
open Go.RowKit
open Go.Lib hiding intOf
theorem outB_in (p : Pt) : (!outB p) = (decide (-1048576 ≤ p.1) && (decide (p.1 ≤ 1048576) && (decide (-1048576 ≤ p.2) && decide (p.2 ≤ 1048576)))) := by
 rw [Bool.eq_iff_iff]
 simp [outB]
set_option maxRecDepth 100000 in
set_option maxHeartbeats 1600000 in
theorem rwithin_any (p : Pt) (w : World) : Calls Tryz.prog 204 #[.agg #[.int .i64 p.1, .int .i64 p.2], .int .i64 1048576] w fun e w' => e = .returned (.bool (!outB p)) ∧ Below w.heap.size w w' := by
 have HB := Lib.hid (box_spot p w)
 have HO := outB_in p
 obtain ⟨x, y⟩ := p
 simp only at HB HO ⊢
 obtain ⟨r, hr⟩ : ∃ r, (!outB (x, y)) = r := ⟨_, rfl⟩
 rw [hr] at HO ⊢
 have HO2 := Lib.hid HO
 clear hr HO
 by_cases h1 : -1048576 ≤ x
 ·by_cases h2 : x ≤ 1048576
  ·by_cases h3 : -1048576 ≤ y
   ·have HE : Hid (r = decide (y ≤ 1048576)) := by rw [Hid, HO2.out, decide_eq_true h1, decide_eq_true h2, decide_eq_true h3]; rfl
    go_enter Tryz.func204, Tryz.ntmps204
    go_wp2
    go_ret
    exact ⟨by rw [HE.out]; rfl, HB.out⟩
   ·have HE : Hid (r = false) := by rw [Hid, HO2.out, decide_eq_true h1, decide_eq_true h2, decide_eq_false h3]; rfl
    go_enter Tryz.func204, Tryz.ntmps204
    go_wp2
    go_ret
    exact ⟨by rw [HE.out]; rfl, HB.out⟩
  ·have HE : Hid (r = false) := by rw [Hid, HO2.out, decide_eq_true h1, decide_eq_false h2]; rfl
   go_enter Tryz.func204, Tryz.ntmps204
   go_wp2
   go_ret
   exact ⟨by rw [HE.out]; rfl, HB.out⟩
 ·have HE : Hid (r = false) := by rw [Hid, HO2.out, decide_eq_false h1]; rfl
  go_enter Tryz.func204, Tryz.ntmps204
  go_wp2
  go_ret
  exact ⟨by rw [HE.out]; rfl, HB.out⟩
set_option maxRecDepth 100000 in
set_option maxHeartbeats 3200000 in
theorem rpg_check (A : Option Addr) (n c : Nat) (ps : List Pt) (w : World) (ha : Recs 2 spotG w A n ps) (hn : n ≤ 1000000) :
  Calls Tryz.prog 178 #[.slice A n c] w fun e w' => e = .returned (.int .i64 (polygonE ps)) ∧ Below w.heap.size w w' := by
 have HA := Lib.hid ha
 have HL := Lib.hid ha.len
 clear ha
 by_cases h40 : 40 < n
 ·have HE : Hid (polygonE ps = 5) := gon_long (by rw [HL.out]; exact h40)
  go_enter Tryz.func178, Tryz.ntmps178
  go_wp2
  go_ret
  exact ⟨by rw [HE.out]; rfl, Below.refl _ _⟩
 by_cases h2 : n < 3
 ·have HE : Hid (polygonE ps = 11) := gon_few (by rw [HL.out]; exact h40) (by rw [HL.out]; exact h2)
  go_enter Tryz.func178, Tryz.ntmps178
  go_wp2
  go_ret
  exact ⟨by rw [HE.out]; rfl, Below.refl _ _⟩
 have HP := Lib.hid (And.intro (show ¬ 40 < ps.length by rw [HL.out]; exact h40) (show ¬ ps.length < 3 by rw [HL.out]; exact h2))
 go_enter Tryz.func178, Tryz.ntmps178
 go_wp2_with fail
 go_loopw [3] (fun i wr => ∃ k : Nat, k ≤ n ∧ i = .int .i64 (k : Int) ∧ Hid (∀ (j : Nat) (p : Pt), j < k → ps[j]? = some p → outB p = false) ∧ Hid (Below w.heap.size w wr)) (fun i _ => n - (intOf i).toNat)
 case atStart => exact ⟨0, Nat.zero_le _, rfl, (fun j p h => by omega), Below.refl _ _⟩
 case round =>
  obtain ⟨k, hk, rfl, hall, HB⟩ := hrel
  by_cases hlt : k < n
  ·obtain ⟨b, off, p, rfl, hbw, hp, c0, c1⟩ := spot_at (HA.out.on spot_mono HB.out) hlt
   have HPP := Lib.hid hp
   have HW := fun W => rwithin_any p W
   obtain ⟨o, ho⟩ : ∃ o, outB p = o := ⟨_, rfl⟩
   simp only [ho] at HW
   have HW := Lib.hid HW
   have HO := Lib.hid ho
   have i1 : (0 : Int) ≤ (k : Int) := by omega
   have i2 : (k : Int) < (n : Int) := by omega
   clear hp ho
   cases o
   ·have HZ : Hid (∀ (j : Nat) (p : Pt), j < k + 1 → ps[j]? = some p → outB p = false) := fun j p' hj hp' => by
     by_cases e : j = k
     ·subst e
      rw [HPP.out] at hp'
      rw [← Option.some.inj hp']
      exact HO.out
     ·exact hall.out j p' (by omega) hp'
    go_wp2_with (go_at_call 204; refine (HW.out _).mono ?_; rintro e w1 ⟨rfl, hb1⟩; have HB1 := Lib.hid (HB.out.trans (hb1.mono HB.out.size)); clear hb1)
    go_roundw
    case rel => exact ⟨k + 1, by omega, by go_num, HZ, HB1⟩
    case measure => simp [intOf]; omega
   ·have HE : Hid (polygonE ps = 3) := gon_out HP.out.1 HP.out.2 (out_at HPP.out HO.out)
    go_wp2_with (go_at_call 204; refine (HW.out _).mono ?_; rintro e w1 ⟨rfl, hb1⟩; have HB1 := Lib.hid (HB.out.trans (hb1.mono HB.out.size)); clear hb1)
    go_ret
    exact ⟨by rw [HE.out]; rfl, HB1.out⟩
  ·obtain rfl : n = k := by omega
   have ho : ps.any outB = false := out_first.2 fun j p hp => hall.out j p (by have := (List.getElem?_eq_some_iff.1 hp).1; rw [HL.out] at this; omega) hp
   have hg : ∀ p ∈ ps, inG p := fun p hp => by
    rw [← inG_iff]
    obtain ⟨j, hj⟩ := List.getElem?_of_mem hp
    exact out_first.1 ho j p hj
   have HS := Lib.hid (rsimple_any A n c ps wr (HA.out.on spot_mono HB.out) (by omega) (by omega) hg)
   have HO := Lib.hid ho
   obtain ⟨s, hs⟩ : ∃ s, simpleP ps = s := ⟨_, rfl⟩
   rw [hs] at HS
   have HSS := Lib.hid hs
   clear ho hg hs hall
   cases s
   ·have HE : Hid (polygonE ps = 11) := gon_cross HP.out.1 HP.out.2 HO.out HSS.out
    go_wp2_with (go_at_call 205; refine HS.out.mono ?_; rintro e w1 ⟨rfl, hb1⟩; have HB1 := Lib.hid (HB.out.trans (hb1.mono HB.out.size)); clear hb1)
    go_ret
    exact ⟨by rw [HE.out]; rfl, HB1.out⟩
   ·have HE : Hid (polygonE ps = 0) := gon_ok HP.out.1 HP.out.2 HO.out HSS.out
    go_wp2_with (go_at_call 205; refine HS.out.mono ?_; rintro e w1 ⟨rfl, hb1⟩; have HB1 := Lib.hid (HB.out.trans (hb1.mono HB.out.size)); clear hb1)
    go_ret
    exact ⟨by rw [HE.out]; rfl, HB1.out⟩
set_option maxRecDepth 100000 in
set_option maxHeartbeats 1600000 in
theorem rnamed_any (A : Option Addr) (n c i : Nat) (s : ByteArray) (l : List PEdge) (w : World) (ha : Recs 2 edgeG w A n l) (hi : i ≤ n) (hn : n ≤ 1000000) :
  Calls Tryz.prog 176 #[.slice A n c, .int .i64 (i : Int), .string s] w fun e w' => e = .returned (.bool (hasName s ((l.take i).map (·.name)))) ∧ w = w' := by
 have HA := Lib.hid ha
 clear ha
 obtain ⟨r, hr⟩ : ∃ r, hasName s ((l.take i).map (·.name)) = r := ⟨_, rfl⟩
 rw [hr]
 have HR := Lib.hid hr
 clear hr
 go_enter Tryz.func176, Tryz.ntmps176
 go_wp2
 go_loop [7] (fun v => ∃ k : Nat, k ≤ i ∧ v = .int .i64 (k : Int) ∧ Hid (∀ (j : Nat) (y : PEdge), j < k → l[j]? = some y → y.name ≠ s)) (fun v => i - (intOf v).toNat)
 case atStart => exact ⟨0, Nat.zero_le _, rfl, fun j y h => by omega⟩
 case round =>
  obtain ⟨k, hk, rfl, hne⟩ := hrel
  by_cases hlt : k < i
  ·obtain ⟨b, off, x, B, ln, lc, rfl, hbw, hx, c0, c1, hline, hlc⟩ := edge_at HA.out (j := k) (by omega)
   have HX := Lib.hid hx
   have i1 : (0 : Int) ≤ (k : Int) := by omega
   have i2 : (k : Int) < (i : Int) := by omega
   have i3 : (k : Int) < (n : Int) := by omega
   clear hx hline hlc
   by_cases he : x.name = s
   ·have HE : Hid (r = true) := by
     rw [Hid, ← HR.out]
     have := hasName_yes (f := fun e : PEdge => e.name) (x := x) hlt HX.out rfl
     rwa [he] at this
    have he' : (x.name.toList == s.toList) = true := by rw [he]; simp
    clear he
    go_wp2
    go_ret
    exact ⟨by rw [HE.out]; rfl, rfl⟩
   ·have HZ : Hid (∀ (j : Nat) (y : PEdge), j < k + 1 → l[j]? = some y → y.name ≠ s) := fun j y hj hy => by
     by_cases e : j = k
     ·subst e
      rw [HX.out] at hy
      rw [← Option.some.inj hy]
      exact he
     ·exact hne.out j y (by omega) hy
    have he' := toList_ne he
    clear he
    go_wp2
    go_round
    case rel => exact ⟨k + 1, by omega, by go_num, HZ⟩
    case measure => simp [intOf]; omega
  ·obtain rfl : k = i := by omega
   have HE : Hid (r = false) := HR.out.symm.trans (hasName_no hne.out)
   go_wp2
   go_ret
   exact ⟨by rw [HE.out]; rfl, rfl⟩
set_option maxRecDepth 100000 in
set_option maxHeartbeats 3200000 in
theorem rvertices_any (A : Option Addr) (n c : Nat) (l : List PEdge) (w : World) (ha : Recs 2 edgeG w A n l) (hn : n ≤ 1000) (hl : ∀ e ∈ l, 2 ≤ e.line.length ∧ e.line.length ≤ 1000) :
  Calls Tryz.prog 179 #[.slice A n c] w (RetSp (verticesP l) w) := by
 have HA := Lib.hid ha
 have HL := Lib.hid ha.len
 have HG := Lib.hid hl
 clear ha hl
 go_enter Tryz.func179, Tryz.ntmps179
 go_wp2
 go_loopw [3, 4, 5] (fun v i _ wr => ∃ k m : Nat, k ≤ n ∧ i = .int .i64 (k : Int) ∧ m ≤ k * 1000 ∧ m = (verticesP (l.take k)).length ∧ wr.ownsRow w.heap.size 74 2 v m ((verticesP (l.take k)).flatMap spC) ∧ Below w.heap.size w wr) (fun _ i _ _ => n - (intOf i).toNat)
 case atStart => exact ⟨0, 0, Nat.zero_le _, rfl, by omega, rfl, World.ownsRow_nil _ _ _ _, Below.refl _ _⟩
 case round =>
  obtain ⟨k, m, hk, rfl, hm, hme, hown, hbel⟩ := hrel
  have HB := Lib.hid hbel
  have HM := Lib.hid hme
  by_cases hlt : k < n
  ·obtain ⟨b, off, x, B, ln, lc, rfl, hbw, hx, c0, c1, hline, hlc⟩ := edge_at (HA.out.on edge_mono hbel) hlt
   have HX := Lib.hid hx
   have hll := hline.len
   obtain ⟨g1, g2⟩ := HG.out x (List.mem_of_getElem? hx)
   rw [hll] at g1 g2
   have HN := Lib.hid (show x.line.dropLast.length = ln - 1 by rw [List.length_dropLast, hll])
   have hbox : Below wr.heap.size wr wr := Below.refl _ _
   have hsub : Recs 2 spotG wr B (ln - 1) x.line.dropLast := by
    have := hline.take (i := ln - 1) (by omega)
    rw [List.dropLast_eq_take, hll]
    exact this
   obtain ⟨b2, off2, rfl, hb2, hcell⟩ := recs_flat hsub (by omega)
   have HV := Lib.hid (verts_take hx)
   have HO := Lib.hid (own_below hown hbox)
   have HC := Lib.hid (fun j u hu => (hbox.cell (p := ⟨b2, off2 + j, none⟩) hb2).trans (hcell j u hu))
   have HBX := Lib.hid hbox
   have HHL := Lib.hid hll
   have i1 : (0 : Int) ≤ (k : Int) := by omega
   have i2 : (k : Int) < (n : Int) := by omega
   have i3 : (ln : Int) - 1 ≤ (lc : Int) := by omega
   have i4 : (0 : Int) ≤ (ln : Int) - 1 := by omega
   have i5 : ((ln : Int) - 1).toNat = ln - 1 := by omega
   have i6 : (0 : Int) < (ln : Int) := by omega
   have hsz := hbel.size
   clear hx hline hll hsub hcell hown hbel hme hbox
   go_wp2_with (at_builtin; refine wpl_own (by rfl) _ _ 65 (by rfl) w.heap.size 74 (.agg #[.int .i64 0, .int .i64 0]) 2 16 Tryz.underlying65 spot_info (by rfl) (by decide) _ m _ (by rfl) HO.out ⟨b2, off2, none⟩ (ln - 1) lc (x.line.dropLast.flatMap spC) (by rfl) (by rw [flat_len spC_len, HN.out]) (fun j u hu => by rw [Go.WideShapes.add_plain]; exact HC.out j u hu) (fun u hu => by obtain ⟨p, _, hp⟩ := List.mem_flatMap.1 hu; simp only [spC, List.mem_cons, List.not_mem_nil, or_false] at hp; rcases hp with rfl | rfl <;> rfl) (by unfold maxLen; omega) (by omega) (by first | omega | (simp; omega)) ?_; intro v1 w1 ho1 hg1 hn1)
   go_roundw
   case rel =>
    refine ⟨k + 1, m + (ln - 1), by omega, by go_num, by omega, by rw [HV.out, List.length_append, ← HM.out, HN.out], ?_, below_own (HB.out.trans (HBX.out.mono HB.out.size)) hg1 (by first | omega | (simp; omega)) (fun g e => (HO.out.lt g e).1)⟩
    rw [HV.out, List.flatMap_append]
    exact ho1
   case measure => simp [intOf]; omega
  ·obtain rfl : n = k := by omega
   rw [List.take_of_length_le (by rw [HL.out]; exact Nat.le_refl _)] at hown hme
   obtain ⟨B, d, rfl, hr, hd⟩ := own_recs (G := spotG) (g := fun p => p) spC_len hown hme.symm (fun t _ => rfl)
   rw [List.map_id'] at hr
   have HR := Lib.hid hr
   clear hr hown hbel hme
   go_wp2
   go_ret
   exact ⟨B, m, d, rfl, HR.out, hd, HB.out⟩
set_option maxRecDepth 100000 in
set_option maxHeartbeats 6400000 in
theorem routline_any (A : Option Addr) (n c : Nat) (l : List PEdge) (w : World) (ha : Recs 2 edgeG w A n l) (hs : EdgesS l) :
  Calls Tryz.prog 145 #[.slice A n c] w fun e w' => e = .returned (.int .i64 (outlineE l)) ∧ Below w.heap.size w w' := by
 have HA := Lib.hid ha
 have HL := Lib.hid ha.len
 have HS := Lib.hid hs
 have hn : n ≤ 1000 := by rw [← HL.out]; exact hs.len
 clear ha hs
 by_cases h16 : 16 < n
 ·have HE : Hid (outlineE l = 5) := line_long (by rw [HL.out]; exact h16)
  go_enter Tryz.func145, Tryz.ntmps145
  go_wp2
  go_ret
  exact ⟨by rw [HE.out]; rfl, Below.refl _ _⟩
 by_cases h2 : n < 2
 ·have HE : Hid (outlineE l = 11) := line_few (by rw [HL.out]; exact h16) (by rw [HL.out]; exact h2)
  go_enter Tryz.func145, Tryz.ntmps145
  go_wp2
  go_ret
  exact ⟨by rw [HE.out]; rfl, Below.refl _ _⟩
 have HP := Lib.hid (And.intro (show ¬ 16 < l.length by rw [HL.out]; exact h16) (show ¬ l.length < 2 by rw [HL.out]; exact h2))
 go_enter Tryz.func145, Tryz.ntmps145
 go_wp2_with fail
 go_loopw [3, 4] (fun i _ wr => ∃ k : Nat, k ≤ n ∧ i = .int .i64 (k : Int) ∧ Hid (∀ j, j < k → edgeE l j = 0) ∧ Hid (Below w.heap.size w wr)) (fun i _ _ => n - (intOf i).toNat)
 case atStart => exact ⟨0, Nat.zero_le _, rfl, (fun j hj => by omega), Below.refl _ _⟩
 case round =>
  obtain ⟨k, hk, rfl, hz, HB⟩ := hrel
  by_cases hlt : k < n
  ·have hed := HA.out.on edge_mono HB.out
   obtain ⟨b, off, x, B, ln, lc, rfl, hbw, hx, c0, c1, hline, hlc⟩ := edge_at hed hlt
   have HX := Lib.hid hx
   obtain ⟨g1, g2⟩ := HS.out.ed x (List.mem_of_getElem? hx)
   have hll : ln ≤ 1000 := by rw [← hline.len]; exact g2
   have HN := fun W => rname_any x.name W (by omega)
   have HM := rnamed_any (some ⟨b, off, none⟩) n c k x.name l wr hed (by omega) (by omega)
   have HPC := rpl_check B ln lc x.line wr hline (by omega)
   have i1 : (0 : Int) ≤ (k : Int) := by omega
   have i2 : (k : Int) < (n : Int) := by omega
   obtain ⟨nm, hnm⟩ : ∃ b, nameOk x.name.data.toList = b := ⟨_, rfl⟩
   obtain ⟨hh, hhh⟩ : ∃ b, hasName x.name ((l.take k).map (·.name)) = b := ⟨_, rfl⟩
   obtain ⟨E, hE⟩ : ∃ E, polylineE x.line = E := ⟨_, rfl⟩
   rw [hhh] at HM
   rw [hE] at HPC
   simp only [hnm] at HN
   have HN := Lib.hid HN
   have HM := Lib.hid HM
   have HPC := Lib.hid HPC
   have HNM := Lib.hid hnm
   have HHH := Lib.hid hhh
   have HEE := Lib.hid hE
   clear hx hline hlc hed hnm hhh hE
   cases nm
   ·have HE : Hid (outlineE l = 1) := line_edge HP.out.1 HP.out.2 (i := k) (by rw [HL.out]; exact hlt) hz.out (edge_name HX.out HNM.out) (by decide)
    go_wp2_with (go_at_call 87; refine (HN.out _).mono ?_; rintro e w1 ⟨rfl, rfl⟩)
    go_ret
    exact ⟨by rw [HE.out]; rfl, HB.out⟩
   cases hh
   ·have HE0 : Hid (edgeE l k = E) := by rw [Hid, edge_line HX.out HNM.out HHH.out, HEE.out]
    by_cases h0 : E = 0
    ·have HZ : Hid (∀ j', j' < k + 1 → edgeE l j' = 0) := fun j' hj' => by
      by_cases e : j' = k
      ·rw [e, HE0.out, h0]
      ·exact hz.out j' (by omega)
     subst h0
     go_wp2_with (first | (go_at_call 87; refine (HN.out _).mono ?_; rintro e w1 ⟨rfl, rfl⟩) | (go_at_call 176; refine HM.out.mono ?_; rintro e w1 ⟨rfl, rfl⟩) | (go_at_call 177; refine HPC.out.mono ?_; rintro e w3 ⟨rfl, hb3⟩; have HB3 := Lib.hid (HB.out.trans (hb3.mono HB.out.size)); clear hb3))
     go_roundw
     case rel => exact ⟨k + 1, by omega, by go_num, HZ, HB3⟩
     case measure => simp [intOf]; omega
    ·have HE : Hid (outlineE l = E) := line_edge HP.out.1 HP.out.2 (i := k) (by rw [HL.out]; exact hlt) hz.out HE0.out h0
     have h0' : (E != 0) = true := by simpa using h0
     clear h0
     go_wp2_with (first | (go_at_call 87; refine (HN.out _).mono ?_; rintro e w1 ⟨rfl, rfl⟩) | (go_at_call 176; refine HM.out.mono ?_; rintro e w1 ⟨rfl, rfl⟩) | (go_at_call 177; refine HPC.out.mono ?_; rintro e w3 ⟨rfl, hb3⟩; have HB3 := Lib.hid (HB.out.trans (hb3.mono HB.out.size)); clear hb3))
     go_ret
     exact ⟨by rw [HE.out]; rfl, HB3.out⟩
   ·have HE : Hid (outlineE l = 7) := line_edge HP.out.1 HP.out.2 (i := k) (by rw [HL.out]; exact hlt) hz.out (edge_twice HX.out HNM.out HHH.out) (by decide)
    go_wp2_with (first | (go_at_call 87; refine (HN.out _).mono ?_; rintro e w1 ⟨rfl, rfl⟩) | (go_at_call 176; refine HM.out.mono ?_; rintro e w1 ⟨rfl, rfl⟩))
    go_ret
    exact ⟨by rw [HE.out]; rfl, HB.out⟩
  ·obtain rfl : n = k := by omega
   have HZ : Hid (∀ j, j < l.length → edgeE l j = 0) := fun j hj => hz.out j (by rw [HL.out] at hj; exact hj)
   obtain ⟨wo, rfl⟩ : ∃ wo : World, wo = wr := ⟨_, rfl⟩
   clear hz hk
   go_wp2_with fail
   go_loopw [5, 6, 7] (fun i _ _ wr => ∃ k : Nat, k ≤ n ∧ i = .int .i64 (k : Int) ∧ Hid (∀ j, j < k → joinAt l j = true) ∧ Hid (Below wo.heap.size wo wr)) (fun i _ _ _ => n - (intOf i).toNat)
   case atStart => exact ⟨0, Nat.zero_le _, rfl, (fun j hj => by omega), Below.refl _ _⟩
   case round =>
    obtain ⟨k, hk, rfl, hj, HBO⟩ := hrel
    have HB2 := Lib.hid (HB.out.trans (HBO.out.mono HB.out.size))
    by_cases hlt : k < n
    ·have hed := HA.out.on edge_mono HB2.out
     obtain ⟨b, off, x, B, ln, lc, rfl, hbw, hx, c0, c1, hline, hlc⟩ := edge_at hed hlt
     obtain ⟨m, hm⟩ : ∃ m, (k + 1) % n = m := ⟨_, rfl⟩
     have lm : m < n := by rw [← hm]; exact Nat.mod_lt _ (by omega)
     obtain ⟨y, B2, ly, lyc, hy, d0, d1, hline2, hlc2⟩ := edge_same hed rfl lm
     obtain ⟨q1, q2, _, _⟩ := poly_zero (edge_zero hx (HZ.out k (by rw [HL.out]; exact hlt)))
     obtain ⟨q3, q4, _, _⟩ := poly_zero (edge_zero hy (HZ.out m (by rw [HL.out]; exact lm)))
     rw [hline.len] at q1 q2
     rw [hline2.len] at q3 q4
     obtain ⟨b2, off2, p, rfl, hbw2, hp, e0, e1⟩ := spot_at hline (j := ln - 1) (by omega)
     obtain ⟨b3, off3, q, rfl, hbw3, hq, e2, e3⟩ := spot_at hline2 (j := 0) (by omega)
     rw [Nat.zero_mul, Nat.add_zero] at e2 e3
     have HJ : Hid (joinAt l k = decide (p = q)) := join_yes hx (by rw [HL.out]; exact hm) hy (by rw [List.getLast?_eq_getElem?, hline.len]; exact hp) (by rw [List.head?_eq_getElem?]; exact hq)
     have i1 : (0 : Int) ≤ (k : Int) := by omega
     have i2 : (k : Int) < (n : Int) := by omega
     have i3 : ((k : Int) + 1).tmod (n : Int) = (m : Int) := by rw [← hm]; rfl
     have i4 : (m : Int) < (n : Int) := by omega
     have i5 : IntKind.i64.wrap ((ln : Int) - 1) = (ln : Int) - 1 := IntWalk.i64_in _ (by omega)
     have i6 : (0 : Int) ≤ (ln : Int) - 1 := by omega
     have i7 : (ln : Int) - 1 < (ln : Int) := by omega
     have i8 : ((ln : Int) - 1).toNat = ln - 1 := by omega
     have i9 : (0 : Int) < (ly : Int) := by omega
     have i10 : 0 < ly := by omega
     have i11 : IntKind.i64.wrap ((k : Int) + 1) = (k : Int) + 1 := IntWalk.i64_in _ (by omega)
     have i15 : (1 : Int) ≤ (ln : Int) := by omega
     have i12 : ¬ n = 0 := by omega
     have i13 : ¬ (n : Int) = 0 := by omega
     have i14 : ((n : Int) == 0) = false := by simpa using i12
     have hqe := fun W => eqIn_spot p q W
     have HK := fun W => Lib.hid (fun (hb : Below wr.heap.size wr W) => And.intro (And.intro ((hb.cell (p := ⟨b2, off2 + (ln - 1) * 2, none⟩) hbw2).trans e0) ((hb.cell (p := ⟨b2, off2 + (ln - 1) * 2 + 1, none⟩) hbw2).trans e1)) (And.intro ((hb.cell (p := ⟨b3, off3, none⟩) hbw3).trans e2) ((hb.cell (p := ⟨b3, off3 + 1, none⟩) hbw3).trans e3)))
     clear hx hy hm hp hq hline hline2 hed q1 q3 e0 e1 e2 e3
     go_wp2_with fail
     go_quiet (fail)
     clear i3 i11
     obtain ⟨⟨e0, e1⟩, e2, e3⟩ := (HK _).out (below_drewN (Below.refl _ _) nq)
     by_cases e : p = q
     ·have HE : Hid (∀ j, j < k + 1 → joinAt l j = true) := fun j hj' => by
       by_cases ej : j = k
       ·rw [ej, HJ.out, decide_eq_true e]
       ·exact hj.out j (by omega)
      simp only [decide_eq_true e] at hqe
      clear e
      go_wp2_with fail
      go_region_held3 (fun w' => (w'.cell? ⟨b2, off2 + (ln - 1) * 2, none⟩ = some (.int .i64 p.1) ∧ w'.cell? ⟨b2, off2 + (ln - 1) * 2 + 1, none⟩ = some (.int .i64 p.2)) ∧ w'.cell? ⟨b3, off3, none⟩ = some (.int .i64 q.1) ∧ w'.cell? ⟨b3, off3 + 1, none⟩ = some (.int .i64 q.2))
       ((refine (HK _).out ?_; repeat (first | (with_reducible exact Below.refl _ _) | (with_reducible refine Below.drew ?_) | (with_reducible refine below_drewN ?_ _))))
       (fail)
      clear i5 i8 hqe
      go_wp2_with fail
      go_roundw
      case rel => exact ⟨k + 1, by omega, by go_num, HE, Lib.hid (by repeat (first | (with_reducible exact HBO.out) | (with_reducible refine Below.drew ?_) | (with_reducible refine below_drewN ?_ _)))⟩
      case measure => simp [intOf]; omega
     ·have HE : Hid (outlineE l = 11) := line_join HP.out.1 HP.out.2 HZ.out (i := k) (by rw [HL.out]; exact hlt) (by rw [HJ.out, decide_eq_false e])
      simp only [decide_eq_false e] at hqe
      clear e
      go_wp2_with fail
      go_region_held3 (fun w' => (w'.cell? ⟨b2, off2 + (ln - 1) * 2, none⟩ = some (.int .i64 p.1) ∧ w'.cell? ⟨b2, off2 + (ln - 1) * 2 + 1, none⟩ = some (.int .i64 p.2)) ∧ w'.cell? ⟨b3, off3, none⟩ = some (.int .i64 q.1) ∧ w'.cell? ⟨b3, off3 + 1, none⟩ = some (.int .i64 q.2))
       ((refine (HK _).out ?_; repeat (first | (with_reducible exact Below.refl _ _) | (with_reducible refine Below.drew ?_) | (with_reducible refine below_drewN ?_ _))))
       (fail)
      clear i5 i8 hqe
      go_wp2_with fail
      go_ret
      exact ⟨by rw [HE.out]; rfl, by repeat (first | (with_reducible exact HB2.out) | (with_reducible refine Below.drew ?_) | (with_reducible refine below_drewN ?_ _))⟩
    ·obtain rfl : n = k := by omega
     have hlines : ∀ e ∈ l, 2 ≤ e.line.length ∧ e.line.length ≤ 40 := fun e he => by
      obtain ⟨j, hje⟩ := List.getElem?_of_mem he
      obtain ⟨q1, q2, _, _⟩ := poly_zero (edge_zero hje (HZ.out j (List.getElem?_eq_some_iff.1 hje).1))
      exact ⟨q2, q1⟩
     have HV := Lib.hid (fun W (hb : Below w.heap.size w W) => rvertices_any A n c l W (HA.out.on edge_mono hb) hn (fun e he => ⟨(hlines e he).1, by have := (hlines e he).2; omega⟩))
     have HVL := Lib.hid (verts_len l (fun e he => (hlines e he).2))
     have HE : Hid (outlineE l = polygonE (verticesP l)) := line_poly HP.out.1 HP.out.2 HZ.out fun i hi => hj.out i (by rw [HL.out] at hi; exact hi)
     clear hj hlines
     go_wp2_with fail
     refine (HV.out _ HB2.out).mono ?_
     rintro e w1 ⟨A1, n1, c1, rfl, hr1, hc1, hb1⟩
     have hn1 : n1 ≤ 1000000 := by
      have := HVL.out
      rw [hr1.len, HL.out] at this
      omega
     have HPG := Lib.hid (rpg_check A1 n1 c1 _ w1 hr1 hn1)
     have HB3 := Lib.hid (HB2.out.trans (hb1.mono HB2.out.size))
     clear hr1 hb1
     go_wp2_with fail
     refine HPG.out.mono ?_
     rintro e w2 ⟨rfl, hb2⟩
     have HB4 := Lib.hid (HB3.out.trans (hb2.mono HB3.out.size))
     clear hb2
     go_wp2_with fail
     go_ret
     exact ⟨by rw [HE.out]; rfl, HB4.out⟩
end
section
open Go.RowKit
open Go.Lib hiding intOf
theorem growR.more2 {B j : Nat} {es : List PEdge} {v v' : Value} {w w' : World} {x : PEdge} {g n d : Nat} {ts : List EH} (hx : es[j]? = some x) (h1 : ts.map (fun t => t.1) = es.take j) (h3 : ∀ t ∈ ts, Stays w v.ownBlock (lineOk t))
  (hl : Recs 2 spotG w (some ⟨g, 0, none⟩) n x.line) (hd : n ≤ d) (hg : v.ownBlock ≠ some g) (ho : w'.ownsRow B 76 2 v' (j + 1) (ts.flatMap eC ++ eC (x, some ⟨g, 0, none⟩, n, d))) (hgr : w.grownBy w' v.ownBlock) (hv : v'.ownBlock = v.ownBlock ∨ v'.ownBlock = some w.heap.size) : growR B es (j + 1) v' w' := by
 have hr : v'.ownBlock = v.ownBlock ∨ ∀ g, v'.ownBlock = some g → w.heap.size ≤ g := by
  rcases hv with h | h
  ·exact .inl h
  ·exact .inr fun g e => by rw [h] at e; injection e with e; omega
 refine ⟨ts ++ [(x, some ⟨g, 0, none⟩, n, d)], ?_, ?_, fun t ht => ?_⟩
 ·rw [List.map_append, h1, List.take_add_one, hx]; rfl
 ·rw [List.flatMap_append]
  simpa using ho
 ·rcases List.mem_append.1 ht with ht | ht
  ·exact (h3 t ht).next hgr hr
  ·obtain rfl : t = (x, some ⟨g, 0, none⟩, n, d) := by simpa using ht
   refine Stays.next (fun w1 h1 => ⟨(Stays.recs spot_any hl (fun b o e => ?_)) w1 h1, hd⟩) hgr hr
   injection e with e
   injection e with e1 e2
   rw [← e1]
   exact hg
set_option maxRecDepth 100000 in
set_option maxHeartbeats 12800000 in
theorem rGraded_any (p : PPiece) (E : Option Addr) (en ec : Nat) (N : Option Addr) (nn nc : Nat) (C : Option Addr) (cn cc : Nat) (D : Option Addr) (dn dc : Nat) (w : World) (h : PcA w p E en ec N nn nc C cn cc D dn dc) :
  Calls Tryz.prog 117 #[.agg #[.string p.name, .slice E en ec, .int .i64 p.grain, .slice N nn nc, .slice C cn cc, .slice D dn dc, .bool p.match_], .int .i64 0] w (RetGr p w) := by
 have HA := Lib.hid h
 have HL := Lib.hid (And.intro h.eds.len h.cors.len)
 have e1 : en ≤ 1000 := by rw [← h.eds.len]; exact h.small.eds
 have e2 : cn ≤ 1000 := by rw [← h.cors.len]; exact h.small.cor
 have HW0 := Lib.hid (fun W => rwin_any 0 100 W (by omega) (by omega))
 have HBX : Hid (Below w.heap.size w (w.alloc (.cells #[.string p.name, .slice E en ec, .int .i64 p.grain, .slice N nn nc, .slice C cn cc, .slice D dn dc, .bool p.match_] 67))) := (Below.refl _ _).alloc (Nat.le_refl _) _
 have HX := Lib.hid (Blk.new w 67 #[.string p.name, .slice E en ec, .int .i64 p.grain, .slice N nn nc, .slice C cn cc, .slice D dn dc, .bool p.match_])
 clear h
 by_cases hln : cn = en
 ·have HLN : Hid (p.corners.length = p.edges.length) := by rw [Hid, HL.out.1, HL.out.2]; exact hln
  subst hln
  go_enter Tryz.func117, Tryz.ntmps117
  go_wp2_with (go_at_call 144; refine (HW0.out _).mono ?_; rintro e w1 ⟨rfl, rfl⟩)
  go_loopw [7] (fun i wr => ∃ k : Nat, k ≤ cn ∧ i = .int .i64 (k : Int) ∧ Hid (∀ (j : Nat) (s : Pt), j < k → p.corners[j]? = some s → shiftOut s = false) ∧ Below (w.alloc (.cells #[.string p.name, .slice E cn ec, .int .i64 p.grain, .slice N nn nc, .slice C cn cc, .slice D dn dc, .bool p.match_] 67)).heap.size (w.alloc (.cells #[.string p.name, .slice E cn ec, .int .i64 p.grain, .slice N nn nc, .slice C cn cc, .slice D dn dc, .bool p.match_] 67)) wr) (fun i _ => cn - (intOf i).toNat)
  case atStart => exact ⟨0, Nat.zero_le _, rfl, (fun j s hj => by omega), Below.refl _ _⟩
  case round =>
   obtain ⟨k, hk, rfl, hall, hbel⟩ := hrel
   have HB := Lib.hid (HBX.out.trans (hbel.mono HBX.out.size))
   have HBL := Lib.hid hbel
   by_cases hlt : k < cn
   ·obtain ⟨b, off, s, rfl, hbw, hs, c0, c1⟩ := spot_at (HA.out.cors.on spot_mono HB.out) hlt
    have HS := Lib.hid hs
    have HBS := Lib.hid (Below.refl wr.heap.size wr)
    obtain ⟨x0, x1, x2, x3, x4, x5, x6⟩ := seven (HX.out.below HBL.out)
    have HSE := Lib.hid (shift_eq s)
    have HW1 := Lib.hid (fun W => rwin_any s.1 1000 W (by omega) (by omega))
    have HW2 := Lib.hid (fun W => rwin_any s.2 1000 W (by omega) (by omega))
    have i1 : (0 : Int) ≤ (k : Int) := by omega
    have i2 : (k : Int) < (cn : Int) := by omega
    generalize (decide (-1000 ≤ s.1) && decide (s.1 ≤ 1000)) = b1 at *
    generalize (decide (-1000 ≤ s.2) && decide (s.2 ≤ 1000)) = b2 at *
    clear hs hbel
    cases b1
    ·have HE : Hid (gradedE p = 3) := graded_shift HLN.out HS.out (by rw [HSE.out]; rfl)
     go_wp2_with (go_at_call 144; (first | (with_reducible refine (HW1.out _).mono ?_) | (with_reducible refine (HW2.out _).mono ?_)); rintro e w1 ⟨rfl, rfl⟩)
     go_ret2
     exact ⟨none, 0, 0, by rw [HE.out]; rfl, (fun h => by rw [HE.out] at h; cases h), HB.out.trans (HBS.out.mono HB.out.size)⟩
    ·cases b2
     ·have HE : Hid (gradedE p = 3) := graded_shift HLN.out HS.out (by rw [HSE.out]; rfl)
      go_wp2_with (go_at_call 144; (first | (with_reducible refine (HW1.out _).mono ?_) | (with_reducible refine (HW2.out _).mono ?_)); rintro e w1 ⟨rfl, rfl⟩)
      go_ret2
      exact ⟨none, 0, 0, by rw [HE.out]; rfl, (fun h => by rw [HE.out] at h; cases h), HB.out.trans (HBS.out.mono HB.out.size)⟩
     ·have HE : Hid (∀ (j : Nat) (s : Pt), j < k + 1 → p.corners[j]? = some s → shiftOut s = false) := fun j s' hj hs' => by
       by_cases e : j = k
       ·subst e
        rw [HS.out] at hs'
        rw [← Option.some.inj hs', HSE.out]
        rfl
       ·exact hall.out j s' (by omega) hs'
      go_wp2_with (go_at_call 144; (first | (with_reducible refine (HW1.out _).mono ?_) | (with_reducible refine (HW2.out _).mono ?_)); rintro e w1 ⟨rfl, rfl⟩)
      go_roundw
      case rel => exact ⟨k + 1, by omega, by go_num, HE, HBL.out.trans (HBS.out.mono HBL.out.size)⟩
      case measure => simp [intOf]; omega
   ·obtain rfl : cn = k := by omega
    have HG : Hid (gradedE p = outlineE p.edges) := graded_line HLN.out fun j s hs => hall.out j s (by have := (List.getElem?_eq_some_iff.1 hs).1; rw [HL.out.2] at this; exact this) hs
    have HOC := routline_any E cn ec p.edges wr (HA.out.eds.on edge_mono HB.out) HA.out.edges
    obtain ⟨Z, hZ⟩ : ∃ Z, outlineE p.edges = Z := ⟨_, rfl⟩
    rw [hZ] at HOC
    have HOC := Lib.hid HOC
    have HZ := Lib.hid hZ
    obtain ⟨x0, x1, x2, x3, x4, x5, x6⟩ := seven (HX.out.below hbel)
    have HX1 := Lib.hid (HX.out.below hbel)
    clear hall hbel hZ
    by_cases h0 : Z = 0
    ·subst h0
     obtain ⟨z1, z2, z3⟩ := line_zero HZ.out
     rw [HL.out.1] at z1 z2
     have HLI := Lib.hid z3
     clear z3
     go_wp2_with (go_at_call 145; refine HOC.out.mono ?_; rintro e w1 ⟨rfl, hb1⟩; have HB1 := Lib.hid (HB.out.trans (hb1.mono HB.out.size)); obtain ⟨x0, x1, x2, x3, x4, x5, x6⟩ := seven (HX1.out.below hb1); have hb1' := hb1; clear hb1)
     have HG0 : Hid (gradedE p = 0) := by rw [Hid, HG.out, HZ.out]
     go_loopw [9, 10, 11, 12] (fun v i _ _ wr => ∃ k : Nat, k ≤ cn ∧ i = .int .i64 (k : Int) ∧ growR w1.heap.size p.edges k v wr ∧ Below w1.heap.size w1 wr) (fun _ i _ _ _ => cn - (intOf i).toNat)
     case atStart => exact ⟨0, Nat.zero_le _, rfl, growR.start _ _ _, Below.refl _ _⟩
     case round =>
      obtain ⟨k, hk, rfl, hgr, hbel⟩ := hrel
      have HB2 := Lib.hid (HB1.out.trans (hbel.mono HB1.out.size))
      have HBL2 := Lib.hid hbel
      by_cases hlt : k < cn
      ·obtain ⟨b, off, x, B, ln, lc, rfl, hbw0, hx, cc0, cc1, hline0, hlc⟩ := edge_at HA.out.eds hlt
       have HCB := Lib.hid (And.intro hbw0 (And.intro cc0 cc1))
       have hbw := Nat.lt_of_lt_of_le hbw0 HB2.out.size
       have c0 := (HB2.out.cell (p := ⟨b, off + k * 2, none⟩) hbw0).trans cc0
       have c1 := (HB2.out.cell (p := ⟨b, off + k * 2 + 1, none⟩) hbw0).trans cc1
       have hline := hline0.on spot_mono HB2.out
       clear cc0 cc1 hline0
       obtain ⟨q1, q2, q3, q4⟩ := poly_zero (HLI.out k x hx)
       rw [hline.len] at q1 q2
       have HXX := Lib.hid hx
       obtain ⟨m, hm⟩ : ∃ m, (k + 1) % cn = m := ⟨_, rfl⟩
       have lm : m < cn := by rw [← hm]; exact Nat.mod_lt _ (by omega)
       have hcr := HA.out.cors.on spot_mono HB2.out
       obtain ⟨bc, offc, pa, rfl, hbc1, hpa, e0, e1⟩ := spot_at hcr hlt
       obtain ⟨bc', offc', pb, heq, _, hpb, e2, e3⟩ := spot_at hcr lm
       injection heq with heq
       injection heq with eq1 eq2
       subst eq1
       subst eq2
       have HGE := Lib.hid (fun W (hb : Below wr.heap.size wr W) => rgr_zero x.name B ln lc x.line W (hline.on spot_mono hb) q2 (by omega) q3)
       have HCX := Lib.hid (And.intro hbw (And.intro c0 c1))
       have HXR := Lib.hid ((HX1.out.below hb1').below hbel)
       obtain ⟨x0, x1, x2, x3, x4, x5, x6⟩ := seven HXR.out
       have hxl := HXR.out.lt
       have HGR := Lib.hid hgr
       have HLO : Hid (∀ g, u9.ownBlock = some g → g < wr.heap.size ∧ w1.heap.size ≤ g) := fun g e => by
        obtain ⟨ts', t1', t2', t3'⟩ := hgr
        exact ⟨(t2'.lt _ e).2, (t2'.lt _ e).1⟩
       have HXW : Hid (w.heap.size < w1.heap.size) := (HX1.out.below hb1').lt
       obtain ⟨wm, rfl⟩ : ∃ v, v = wr := ⟨_, rfl⟩
       have i1 : (0 : Int) ≤ (k : Int) := by omega
       have i2 : (k : Int) < (cn : Int) := by omega
       have i3 : ((k : Int) + 1).tmod (cn : Int) = (m : Int) := by rw [← hm]; rfl
       have i4 : IntKind.i64.wrap ((k : Int) + 1) = (k : Int) + 1 := IntWalk.i64_in _ (by omega)
       have i5 : (m : Int) < (cn : Int) := by omega
       have i6 : IntKind.i64.wrap 0 = 0 := rfl
       have i8 : ¬ cn = 0 := by omega
       have i9 : ¬ (cn : Int) = 0 := by omega
       have i10 : ((cn : Int) == 0) = false := by simpa using i8
       have hkb : k ≤ 100000000 := by omega
       clear hx hm hpa hpb hline q3 q4 hgr hcr c0 c1 x0 x2 x3 x5 x6
       go_wp2_with fail
       go_cut [11, 12] (fun v11 v12 wc => ∃ g1 g2, v11 = .pointer (some ⟨g1, 0, none⟩) ∧ v12 = .pointer (some ⟨g2, 0, none⟩) ∧ (wm.heap.size ≤ g1 ∧ wm.heap.size ≤ g2) ∧ Blk wc g1 74 #[.int .i64 pa.1, .int .i64 pa.2] ∧ Blk wc g2 74 #[.int .i64 pb.1, .int .i64 pb.2] ∧ Below wm.heap.size wm wc)
       case first =>
        go_region
        all_goals
         go_wp2_with fail
         go_meet
         refine ⟨_, _, rfl, rfl, ⟨by simp, by simp⟩, Blk.below ?_ (Below.refl _ _).drew, Blk.below ?_ (Below.refl _ _).drew, Below.drew (((Below.refl _ _).alloc (Nat.le_refl _) _).alloc (by simp) _)⟩
         all_goals
          first
          | exact (Blk.new _ _ _).alloc _
          | exact Blk.new' _ _ _ (by simp)
       case rest =>
        obtain ⟨g1, g2, rfl, rfl, ⟨hg1, hg2⟩, hk1, hk2, hbc⟩ := hcut
        have HG1 := Lib.hid (And.intro hk1 hg1)
        have HG2 := Lib.hid (And.intro hk2 hg2)
        have HBC := Lib.hid hbc
        have HBW2 := Lib.hid (HBL2.out.trans (hbc.mono HBL2.out.size))
        have HXC := Lib.hid (HXR.out.below hbc)
        have HCW := Lib.hid (And.intro (Nat.lt_of_lt_of_le HCX.out.1 hbc.size) (And.intro ((hbc.cell (p := ⟨b, off + k * 2, none⟩) HCX.out.1).trans HCX.out.2.1) ((hbc.cell (p := ⟨b, off + k * 2 + 1, none⟩) HCX.out.1).trans HCX.out.2.2)))
        obtain ⟨ts, t1, t2, t3⟩ := HGR.out.below hbc
        have HT := Lib.hid (And.intro t1 (And.intro t2 t3))
        have HK := fun W => Lib.hid (fun (hb : Below wc.heap.size wc W) => And.intro (And.intro ((HXC.out.below hb).c (i := 1) rfl) (And.intro ((hb.cell (p := ⟨b, off + k * 2, none⟩) HCW.out.1).trans HCW.out.2.1) ((hb.cell (p := ⟨b, off + k * 2 + 1, none⟩) HCW.out.1).trans HCW.out.2.2))) (And.intro (And.intro ((HG1.out.1.below hb).c (i := 0) rfl) ((HG1.out.1.below hb).c (i := 1) rfl)) (And.intro ((HG2.out.1.below hb).c (i := 0) rfl) ((HG2.out.1.below hb).c (i := 1) rfl))))
        have hszc := HBC.out.size
        have hszw := HBW2.out.size
        have hq := Below.refl wc.heap.size wc
        clear hk1 hk2 hbc t1 t2 t3 x1 x4 e0 e1 e2 e3 i3 i4 hg1 hg2 hxl
        go_wp2_with fail
        go_region_held3 (fun w' => (w'.cell? ⟨w.heap.size, 1, none⟩ = some (.slice (some ⟨b, off, none⟩) cn ec) ∧ w'.cell? ⟨b, off + k * 2, none⟩ = some (.string x.name) ∧ w'.cell? ⟨b, off + k * 2 + 1, none⟩ = some (.slice B ln lc)) ∧ (w'.cell? ⟨g1, 0, none⟩ = some (.int .i64 pa.1) ∧ w'.cell? ⟨g1, 1, none⟩ = some (.int .i64 pa.2)) ∧ w'.cell? ⟨g2, 0, none⟩ = some (.int .i64 pb.1) ∧ w'.cell? ⟨g2, 1, none⟩ = some (.int .i64 pb.2))
         ((first | (exact HS5.out) | (refine (HK _).out ?_; repeat (first | (with_reducible exact Below.refl _ _) | (with_reducible exact hq) | (with_reducible refine Below.drew ?_) | (with_reducible refine Below.alo ?_ _)))))
         (first
          | (go_at_call 146; go_must ((refine (HGE.out _ (by first | (exact HBC.out.trans ((by repeat (first | (with_reducible exact Below.refl _ _) | (with_reducible refine Below.drew ?_)) : Below _ _ _).mono HBC.out.size)) | (repeat (first | (with_reducible exact HBC.out) | (with_reducible refine Below.drew ?_))))).mono ?_); rintro e w4 ⟨g4, d4, rfl, hge, hr, hd, hv⟩; have HGX := Lib.hid (Nat.le_trans hq.size hge); have HRR := Lib.hid (And.intro hr hd); replace hq := below_then hq hv; clear hge hr hd hv))
          | ((refine step_edge (by rfl) _ _ (by rfl) w1.heap.size k _ _ (by rfl) (own_below HT.out.2.1 (by exact Below.alo hq _)) w4.heap.size (by rfl) (x, some ⟨g4, 0, none⟩, ln, d4) (by exact Blk.new _ _ _) hkb (by exact Nat.le_trans hszw (Nat.le_trans hq.size (size_alo _ _))) ?_); intro v5 w5 ho5 hg5 hn5; have hba := Below.alo hq (.cells #[.string x.name, .slice (some ⟨g4, 0, none⟩) ln d4] 76); have HBE5 := Lib.hid (below_own (HBW2.out.trans (hba.mono HBW2.out.size)) hg5 (Nat.le_trans HBW2.out.size hba.size) (fun g e => (HLO.out g e).2)); have HX5 := Lib.hid ((HXC.out.below hba).grown hg5 (fun e => by have h1 := (HLO.out _ e.symm).2; have h2 := HXW.out; omega)); have HA5 := Lib.hid ((HG1.out.1.below hba).grown hg5 (fun e => by have h1 := (HLO.out _ e.symm).1; have h2 := HG1.out.2; omega)); have HB5 := Lib.hid ((HG2.out.1.below hba).grown hg5 (fun e => by have h1 := (HLO.out _ e.symm).1; have h2 := HG2.out.2; omega)); have HBF5 := Lib.hid (HB1.out.trans (HBE5.out.mono HB1.out.size)); have HS5 := Lib.hid (And.intro (And.intro (HX5.out.c (i := 1) rfl) (And.intro ((HBF5.out.cell (p := ⟨b, off + k * 2, none⟩) HCB.out.1).trans HCB.out.2.1) ((HBF5.out.cell (p := ⟨b, off + k * 2 + 1, none⟩) HCB.out.1).trans HCB.out.2.2))) (And.intro (And.intro (HA5.out.c (i := 0) rfl) (HA5.out.c (i := 1) rfl)) (And.intro (HB5.out.c (i := 0) rfl) (HB5.out.c (i := 1) rfl))))))
        all_goals
         go_wp2_with fail
         go_roundw
         case rel =>
          refine ⟨k + 1, by omega, by go_num, growR.more2 (g := g4) HXX.out HT.out.1 (fun t ht => (HT.out.2.2 t ht).below (Below.alo hq _)) (HRR.out.1.on spot_mono (Below.alo (Below.refl _ _) _)) HRR.out.2 (fun e => by have := (HLO.out _ e).1; have := HGX.out; omega) ho5 hg5 hn5, HBE5.out⟩
         case measure => simp [intOf]; omega
      ·obtain rfl : cn = k := by omega
       obtain ⟨A, c, rfl, hr, hc⟩ := hgr.done HL.out.1
       have HR := Lib.hid (And.intro hr hc)
       have HO2 := routline_any A cn c p.edges wr hr HA.out.edges
       rw [HZ.out] at HO2
       have HO2 := Lib.hid HO2
       clear hr hc hgr hbel x0 x1 x2 x3 x4 x5 x6
       go_wp2_with (go_at_call 145; refine HO2.out.mono ?_; rintro e w5 ⟨rfl, hb5⟩; have HB5 := Lib.hid (HB2.out.trans (hb5.mono HB2.out.size)); have HR5 := Lib.hid (HR.out.1.on edge_mono hb5); clear hb5)
       go_ret2
       exact ⟨A, cn, c, by rw [HG0.out]; rfl, fun _ => ⟨HR5.out, HR.out.2⟩, HB5.out⟩
    ·have h0' : (Z != 0) = true := by simpa using h0
     have HE : Hid (gradedE p = Z) := by rw [Hid, HG.out, HZ.out]
     have HN0 := Lib.hid h0
     clear h0
     go_wp2_with (go_at_call 145; refine HOC.out.mono ?_; rintro e w1 ⟨rfl, hb1⟩; have HB1 := Lib.hid (HB.out.trans (hb1.mono HB.out.size)); clear hb1)
     go_ret2
     exact ⟨none, 0, 0, by rw [HE.out]; rfl, (fun h => absurd (HE.out.symm.trans h) HN0.out), HB1.out⟩
 ·have HE : Hid (gradedE p = 1) := graded_len (by rw [HL.out.1, HL.out.2]; exact hln)
  have hln' : ((cn : Int) != (en : Int)) = true := by simp; omega
  go_enter Tryz.func117, Tryz.ntmps117
  go_wp2_with (go_at_call 144; refine (HW0.out _).mono ?_; rintro e w1 ⟨rfl, rfl⟩)
  go_ret2
  exact ⟨none, 0, 0, by rw [HE.out]; rfl, (fun h => by rw [HE.out] at h; cases h), HBX.out⟩
end
section
open Go.RowKit
open Go.Lib hiding intOf
set_option maxRecDepth 100000 in
set_option maxHeartbeats 3200000 in
theorem rshare_any (m n : Nat) (w : World) (hm : m ≤ n) (h1 : 1 ≤ n) (hn : n ≤ 1099511627776) :
  Calls Tryz.prog 182 #[.int .i64 (m : Int), .int .i64 (n : Int), .int .i64 (n : Int)] w fun e w' => e = .returned (.int .i64 (m : Int)) ∧ Below w.heap.size w w' := by
 have e1 : (n : Int).tdiv (n : Int) = 1 := Int.tdiv_self (by omega)
 have e2 : (n : Int).tmod (n : Int) = 0 := Int.tmod_self
 have e3 : (n : Int) / (n : Int) = 1 := Int.ediv_self (by omega)
 have e4 : (n : Int) % (n : Int) = 0 := Int.emod_self
 have i12 : ¬ n = 0 := by omega
 have i13 : ¬ (n : Int) = 0 := by omega
 have i14 : ((n : Int) == 0) = false := by simpa using i12
 have iw : IntKind.i64.wrap (m : Int) = (m : Int) := IntWalk.i64_in _ (by omega)
 have i1 : IntKind.i64.wrap 1 = 1 := rfl
 have i0 : IntKind.i64.wrap 0 = 0 := rfl
 have i9 : ¬ (n : Int) ≤ 0 := by omega
 go_enter Tryz.func182, Tryz.ntmps182
 go_wp2_with fail
 go_quiet (fail)
 clear e1 e2 e3 e4 i1
 go_wp2_with fail
 go_loopw [10, 11, 12] (fun q l i wr => ∃ j : Nat, j ≤ 41 ∧ q = .int .i64 0 ∧ l = .int .i64 0 ∧ i = .int .i64 ((j : Int) - 1) ∧ Hid (Below w.heap.size w wr)) (fun _ _ i _ => (intOf i + 1).toNat)
 case atStart => exact ⟨41, by omega, rfl, rfl, rfl, below_drewN (Below.refl _ _) _⟩
 case round =>
  obtain ⟨j, hj, rfl, rfl, rfl, HB⟩ := hrel
  cases j with
  | zero =>
   go_wp2
   go_ret
   exact ⟨rfl, HB.out⟩
  | succ j =>
   have j1 : ((j + 1 : Nat) : Int) - 1 = (j : Int) := by omega
   have hmin : min j 64 = j := by omega
   rw [j1]
   obtain ⟨q, hq⟩ : ∃ q : Nat, m / 2 ^ j = q := ⟨_, rfl⟩
   have hq1 : (m : Int) / 2 ^ j = (q : Int) := by rw [← hq, Int.natCast_ediv]; simp
   clear hq
   by_cases hp : q % 2 = 1
   ·have hp1 : ((q : Int) % 2) = 1 := by omega
    have hp2 : ((q : Int).tmod 2) = 1 := by rw [Int.tmod_eq_emod_of_nonneg (by omega)]; omega
    go_wp2
    go_roundw
    case rel => exact ⟨j, by omega, rfl, rfl, by go_num, HB⟩
    case measure => simp [intOf]
   ·have hp1 : ((q : Int) % 2) = 0 := by omega
    have hp2 : ((q : Int).tmod 2) = 0 := by rw [Int.tmod_eq_emod_of_nonneg (by omega)]; omega
    go_wp2
    go_roundw
    case rel => exact ⟨j, by omega, rfl, rfl, by go_num, HB⟩
    case measure => simp [intOf]
set_option maxRecDepth 100000 in
set_option maxHeartbeats 3200000 in
theorem rpartner_any (n : Nat) (a : Int) (w : World) (hn : n < 2199023255552) :
  Calls Tryz.prog 148 #[.int .i64 (n : Int), .int .i64 (n : Int), .bool false, .int .i64 a] w (RetPar n a w) := by
 by_cases h1 : n < 1
 ·have HB : Hid (badP n a) := .inl h1
  go_enter Tryz.func148, Tryz.ntmps148
  go_wp2
  go_ret2
  exact ⟨0, 3, rfl, fun _ => rfl, fun h => absurd HB.out h, Below.refl _ _⟩
 by_cases h2 : 1099511627776 < n
 ·have HB : Hid (badP n a) := .inr (.inl h2)
  go_enter Tryz.func148, Tryz.ntmps148
  go_wp2
  go_ret2
  exact ⟨0, 3, rfl, fun _ => rfl, fun h => absurd HB.out h, Below.refl _ _⟩
 by_cases h3 : a < 0
 ·have HB : Hid (badP n a) := .inr (.inr (.inl h3))
  go_enter Tryz.func148, Tryz.ntmps148
  go_wp2
  go_ret2
  exact ⟨0, 3, rfl, fun _ => rfl, fun h => absurd HB.out h, Below.refl _ _⟩
 by_cases h4 : (n : Int) < a
 ·have HB : Hid (badP n a) := .inr (.inr (.inr h4))
  go_enter Tryz.func148, Tryz.ntmps148
  go_wp2
  go_ret2
  exact ⟨0, 3, rfl, fun _ => rfl, fun h => absurd HB.out h, Below.refl _ _⟩
 have HB : Hid (¬ badP n a) := fun h => by
  rcases h with h | h | h | h
  ·exact h1 h
  ·exact h2 h
  ·exact h3 h
  ·exact h4 h
 obtain ⟨m, rfl⟩ : ∃ m : Nat, a = (m : Int) := ⟨a.toNat, by omega⟩
 have HS := Lib.hid (fun W => rshare_any m n W (by omega) (by omega) (by omega))
 go_enter Tryz.func148, Tryz.ntmps148
 go_wp2_with fail
 refine (HS.out _).mono ?_
 rintro e w1 ⟨rfl, hb1⟩
 have HB1 := Lib.hid hb1
 clear hb1
 go_wp2_with fail
 go_ret2
 exact ⟨_, 0, rfl, fun h => absurd h HB.out, fun _ => rfl, HB1.out⟩
set_option maxRecDepth 100000 in
set_option maxHeartbeats 12800000 in
theorem rplaced_any (p : PPiece) (E : Option Addr) (en ec : Nat) (N : Option Addr) (nn nc : Nat) (C : Option Addr) (cn cc : Nat) (D : Option Addr) (dn dc : Nat) (w : World) (h : PcA w p E en ec N nn nc C cn cc D dn dc) :
  Calls Tryz.prog 118 #[.agg #[.string p.name, .slice E en ec, .int .i64 p.grain, .slice N nn nc, .slice C cn cc, .slice D dn dc, .bool p.match_], .int .i64 0] w (RetPd p w) := by
 have HL := Lib.hid (And.intro h.eds.len h.nots.len)
 have e1 : en ≤ 1000 := by rw [← h.eds.len]; exact h.small.eds
 have e2 : nn ≤ 1000 := by rw [← h.nots.len]; exact h.small.not
 have HBX : Hid (Below w.heap.size w (w.alloc (.cells #[.string p.name, .slice E en ec, .int .i64 p.grain, .slice N nn nc, .slice C cn cc, .slice D dn dc, .bool p.match_] 67))) := (Below.refl _ _).alloc (Nat.le_refl _) _
 have HX := Lib.hid (Blk.new w 67 #[.string p.name, .slice E en ec, .int .i64 p.grain, .slice N nn nc, .slice C cn cc, .slice D dn dc, .bool p.match_])
 have HGR := Lib.hid (rGraded_any p E en ec N nn nc C cn cc D dn dc _ (h.on HBX.out))
 have HA := Lib.hid h
 clear h
 go_enter Tryz.func118, Tryz.ntmps118
 go_wp2_with fail
 refine HGR.out.mono ?_
 rintro e w1 ⟨A2, m2, c2, rfl, hgd, hb1⟩
 have HB1 := Lib.hid (HBX.out.trans (hb1.mono HBX.out.size))
 have HX1 := Lib.hid (HX.out.below hb1)
 obtain ⟨x0, x1, x2, x3, x4, x5, x6⟩ := seven HX1.out
 have HGD := Lib.hid hgd
 clear hb1 hgd
 obtain ⟨Z, hZ⟩ : ∃ Z, gradedE p = Z := ⟨_, rfl⟩
 rw [hZ]
 have HZ := Lib.hid hZ
 clear hZ
 by_cases h0 : Z = 0
 ·subst h0
  obtain ⟨hed, hec⟩ := HGD.out HZ.out
  obtain ⟨_, _, k1, k2, k3⟩ := graded_zero HZ.out
  have hml := hed.len
  rw [HL.out.1] at hml k1 k2
  subst hml
  have HE2 := Lib.hid hed
  have HLI := Lib.hid k3
  rename_i z1 z2
  clear z1 z2 hed k3
  by_cases h16 : 16 < nn
  ·have HE : Hid (placedE p = 5) := placed_long HZ.out (by rw [HL.out.2]; exact h16)
   go_wp2_with fail
   refine bodyPost_ret (results_tmp2 rfl _ _ _) rfl ?_
   exact ⟨none, 0, 0, by rw [HE.out]; rfl, HB1.out⟩
  ·have HN16 := Lib.hid (show ¬ 16 < p.notches.length by rw [HL.out.2]; exact h16)
   go_wp2_with fail
   go_loopw [8, 9, 10, 11, 12, 13, 14, 15, 16] (fun v i _ _ _ _ _ _ _ wr => ∃ (k : Nat) (zs : List Int), k ≤ nn ∧ i = .int .i64 (k : Int) ∧ Hid (∀ (j : Nat) (m : Int × Int), j < k → p.notches[j]? = some m → notchE p m = 0) ∧ wr.ownsRow w1.heap.size 3 1 v k (ints zs) ∧ Below w1.heap.size w1 wr) (fun _ i _ _ _ _ _ _ _ _ => nn - (intOf i).toNat)
   case atStart => exact ⟨0, [], Nat.zero_le _, rfl, (fun j m hj => by omega), World.ownsRow_nil _ _ _ _, Below.refl _ _⟩
   case round =>
    obtain ⟨k, zs, hk, rfl, hz, hown, hbel⟩ := hrel
    have HB := Lib.hid (HB1.out.trans (hbel.mono HB1.out.size))
    have HBL := Lib.hid hbel
    by_cases hlt : k < nn
    ·obtain ⟨b, off, q, rfl, hbw, hq, c0, c1⟩ := spot_at (HA.out.nots.on spot_mono HB.out) hlt
     obtain ⟨q1, q2⟩ := q
     simp only at c0 c1
     have HQ := Lib.hid hq
     have hbx : Below wr.heap.size wr (wr.alloc (.cells #[.int .i64 q1, .int .i64 q2] 213)) := (Below.refl _ _).alloc (Nat.le_refl _) _
     have HBN := Lib.hid hbx
     have HOW := Lib.hid (own_below hown hbx)
     have HLO : Hid (∀ g, u8.ownBlock = some g → g < wr.heap.size ∧ w1.heap.size ≤ g) := fun g e => ⟨(hown.lt _ e).2, (hown.lt _ e).1⟩
     obtain ⟨x0, x1, x2, x3, x4, x5, x6⟩ := seven (HX1.out.below hbel)
     have hxl := (HX1.out.below hbel).lt
     have hxl2 : w.heap.size < wr.heap.size + 1 := by omega
     have hsz := hbel.size
     have i1 : (0 : Int) ≤ (k : Int) := by omega
     have i2 : (k : Int) < (nn : Int) := by omega
     clear hq hown hbel hbx
     by_cases hout : q1 < 0 ∨ (en : Int) ≤ q1
     ·have HE : Hid (placedE p = 3) := placed_at HZ.out HN16.out HQ.out hz.out (notch_out (by rw [HL.out.1]; exact hout)) (by decide)
      by_cases hneg : q1 < 0
      ·clear hout
       go_wp2_with fail
       refine bodyPost_ret (results_tmp2 rfl _ _ _) rfl ?_
       exact ⟨none, 0, 0, by rw [HE.out]; rfl, HB.out.trans (HBN.out.mono HB.out.size)⟩
      ·have hge : (en : Int) ≤ q1 := by omega
       clear hout
       go_wp2_with fail
       refine bodyPost_ret (results_tmp2 rfl _ _ _) rfl ?_
       exact ⟨none, 0, 0, by rw [HE.out]; rfl, HB.out.trans (HBN.out.mono HB.out.size)⟩
     ·obtain ⟨k1, rfl⟩ : ∃ k1 : Nat, q1 = (k1 : Int) := ⟨q1.toNat, by omega⟩
      have hk1 : k1 < en := by omega
      obtain ⟨b2, off2, x, B, ln, lc, rfl, hbw2, hx, d0, d1, hline, hlc⟩ := edge_at (HA.out.eds.on edge_mono HB.out) hk1
      obtain ⟨b3, off3, x', B3, ln3, lc3, rfl, hbw3, hx', f0, f1, hline3, hlc3⟩ := edge_at (HE2.out.on edge_mono HBL.out) hk1
      rw [hx] at hx'
      obtain rfl := Option.some.inj hx'
      have hpz := HLI.out k1 x hx
      obtain ⟨g1, g2⟩ := bad_iff (n := ((k1 : Int), q2)) (p := p) rfl hx
      have HBA := Lib.hid (And.intro g1 g2)
      have hll1 : ln ≤ 1000 := by rw [← hline.len]; exact (HA.out.small.ed x (List.mem_of_getElem? hx)).ln
      have hll3 : ln3 ≤ 1000 := by rw [← hline3.len]; exact (HA.out.small.ed x (List.mem_of_getElem? hx)).ln
      have hlle := lengthP_le hpz
      have HL1 := Lib.hid (rlength_any B ln lc x.line _ (hline.on spot_mono HBN.out) (by omega))
      have HL3 := Lib.hid (fun W (hb : Below wr.heap.size wr W) => rlength_any B3 ln3 lc3 x.line W (hline3.on spot_mono hb) (by omega))
      have HP := Lib.hid (fun W => rpartner_any (lengthP x.line) q2 W (by omega))
      have HPZ := Lib.hid hpz
      have HKK := Lib.hid (fun W' (hb : Below (wr.alloc (.cells #[.int .i64 (k1 : Int), .int .i64 q2] 213)).heap.size (wr.alloc (.cells #[.int .i64 (k1 : Int), .int .i64 q2] 213)) W') => boxcell_keep (g := b3) (o := off3 + k1 * 2) (Blk.new wr 213 #[.int .i64 (k1 : Int), .int .i64 q2]) (Nat.lt_of_lt_of_le hbw3 HBN.out.size) ((HBN.out.cell (p := ⟨b3, off3 + k1 * 2, none⟩) hbw3).trans f0) ((HBN.out.cell (p := ⟨b3, off3 + k1 * 2 + 1, none⟩) hbw3).trans f1) hb)
      have j1 : (k1 : Int) < (en : Int) := by omega
      clear hx hx' hline hline3 hpz g1 g2 hout f0 f1 hlc3
      go_wp2_with fail
      refine HL1.out.mono ?_
      rintro e w2 hret
      obtain ⟨rfl, hv⟩ := len_ok hret HPZ.out
      have HQ2 := Lib.hid hv
      obtain ⟨p0, p1, p2, p3⟩ := HKK.out w2 hv
      clear hret hv
      go_wp2_with fail
      refine (HL3.out _ (HBN.out.trans (HQ2.out.mono HBN.out.size))).mono ?_
      rintro e w3 hret
      obtain ⟨rfl, hv⟩ := len_ok hret HPZ.out
      have HQ3 := Lib.hid (below_then HQ2.out hv)
      obtain ⟨p0, p1, p2, p3⟩ := HKK.out w3 HQ3.out
      clear hret hv
      go_wp2_with fail
      refine (HP.out _).mono ?_
      rintro e w4 ⟨z, kk, rfl, hbad, hgood, hv⟩
      have HQ4 := Lib.hid (below_then HQ3.out hv)
      have HBG := Lib.hid (And.intro hbad hgood)
      clear hbad hgood hv
      by_cases hb : badP (lengthP x.line) q2
      ·have hkk := HBG.out.1 hb
       subst hkk
       have HE : Hid (placedE p = 3) := placed_at HZ.out HN16.out HQ.out hz.out (HBA.out.1 hb) (by decide)
       clear hb
       go_wp2_with fail
       refine bodyPost_ret (results_tmp2 rfl _ _ _) rfl ?_
       exact ⟨none, 0, 0, by rw [HE.out]; rfl, HB.out.trans ((HBN.out.trans (HQ4.out.mono HBN.out.size)).mono HB.out.size)⟩
      ·have hkk := HBG.out.2 hb
       subst hkk
       have HZ2 : Hid (∀ (j : Nat) (m : Int × Int), j < k + 1 → p.notches[j]? = some m → notchE p m = 0) := fun j m hj hm => by
        by_cases e : j = k
        ·subst e
         rw [HQ.out] at hm
         rw [← Option.some.inj hm]
         exact HBA.out.2 hb
        ·exact hz.out j m (by omega) hm
       clear hb
       have b3' : k + 1 ≤ maxLen := by unfold maxLen; omega
       have b4' : (k + 1) * 8 ≤ 140737488355328 := by omega
       go_wp2_with (at_builtin; refine wpl_own (P := Tryz.prog) (by rfl) _ _ 23 (by rfl) w1.heap.size 3 (.int .i64 0) 1 8 Tryz.underlying23 int_info rfl (by decide) u8 k (ints zs) (by rfl) (own_below HOW.out (by exact Below.alo HQ4.out _)) ⟨w4.heap.size, 0, none⟩ 1 1 [.int .i64 z] (by rfl) (by rfl) (new_int w4 z) (int_one z) b3' b4' (by exact Nat.le_trans hsz (Nat.le_trans HBN.out.size (Nat.le_trans HQ4.out.size (size_alo _ _)))) ?_; intro v5 w5 ho5 hg5 hn5)
       go_roundw
       case rel =>
        refine ⟨k + 1, zs ++ [z], by omega, by go_num, HZ2, ?_, ?_⟩
        ·rw [show ints (zs ++ [z]) = ints zs ++ [.int .i64 z] by simp [ints]]
         exact ho5
        ·exact below_own (HBL.out.trans ((HBN.out.trans ((Below.alo HQ4.out _).mono HBN.out.size)).mono HBL.out.size)) hg5 (Nat.le_trans hsz (Nat.le_trans HBN.out.size (Nat.le_trans HQ4.out.size (size_alo _ _)))) (fun g e => (HLO.out g e).2)
       case measure => simp [intOf]; omega
    ·obtain rfl : k = nn := by omega
     have HE : Hid (placedE p = 0) := placed_ok HZ.out HN16.out fun i m hm => hz.out i m (by have := (List.getElem?_eq_some_iff.1 hm).1; rw [HL.out.2] at this; exact this) hm
     obtain ⟨Q, qc, rfl⟩ := own_form hown
     obtain ⟨x0, x1, x2, x3, x4, x5, x6⟩ := seven (HX1.out.below hbel)
     clear hz hown hbel
     go_wp2_with fail
     go_ret2
     exact ⟨_, _, _, by rw [HE.out]; rfl, HB.out⟩
 ·have h0' : (Z != 0) = true := by simpa using h0
  have HE : Hid (placedE p = Z) := placed_graded HZ.out h0
  clear h0
  go_wp2_with fail
  refine bodyPost_ret (results_tmp2 rfl _ _ _) rfl ?_
  exact ⟨none, 0, 0, by rw [HE.out]; rfl, HB1.out⟩
end
section
open Go.RowKit
open Go.Lib hiding intOf
set_option maxRecDepth 100000 in
set_option maxHeartbeats 12800000 in
theorem rpiece_any (A : Option Addr) (n c : Nat) (es : List PPiece) (p : PPiece) (E : Option Addr) (en ec : Nat) (N : Option Addr) (nn nc : Nat) (C : Option Addr) (cn cc : Nat) (D : Option Addr) (dn dc : Nat) (w : World) (he : Recs 7 pieceG w A n es) (hn : n ≤ 1000) (h : PcA w p E en ec N nn nc C cn cc D dn dc) :
  Calls Tryz.prog 85 #[.slice A n c, .agg #[.string p.name, .slice E en ec, .int .i64 p.grain, .slice N nn nc, .slice C cn cc, .slice D dn dc, .bool p.match_]] w fun e w' => e = .returned (.int .i64 (pieceE es p)) ∧ Below w.heap.size w w' := by
 have HBX : Hid (Below w.heap.size w (w.alloc (.cells #[.string p.name, .slice E en ec, .int .i64 p.grain, .slice N nn nc, .slice C cn cc, .slice D dn dc, .bool p.match_] 67))) := (Below.refl _ _).alloc (Nat.le_refl _) _
 have HX := Lib.hid (Blk.new w 67 #[.string p.name, .slice E en ec, .int .i64 p.grain, .slice N nn nc, .slice C cn cc, .slice D dn dc, .bool p.match_])
 have HA := Lib.hid h
 have HES := Lib.hid he
 have HL := Lib.hid he.len
 have HN := fun W => rname_any p.name W (by have := h.small.nm; omega)
 have HGR := Lib.hid (fun W (hb : Below w.heap.size w W) => rGraded_any p E en ec N nn nc C cn cc D dn dc W (h.on hb))
 have HWI := Lib.hid (fun W (hb : Below w.heap.size w W) => rwidths_any p E en ec N nn nc C cn cc D dn dc W (h.on hb))
 have HPL := Lib.hid (fun W (hb : Below w.heap.size w W) => rplaced_any p E en ec N nn nc C cn cc D dn dc W (h.on hb))
 clear h he
 cases hnm : nameOk p.name.data.toList
 ·have HE : Hid (pieceE es p = 1) := piece_name hnm
  simp only [hnm] at HN
  have HN := Lib.hid HN
  clear hnm
  go_enter Tryz.func85, Tryz.ntmps85
  go_wp2_with (go_at_call 87; refine (HN.out _).mono ?_; rintro e w1 ⟨rfl, rfl⟩; have HB1 := HBX)
  go_ret
  exact ⟨by rw [HE.out]; rfl, HB1.out⟩
 have HNM := Lib.hid hnm
 simp only [hnm] at HN
 have HN := Lib.hid HN
 clear hnm
 obtain ⟨G, hG⟩ : ∃ g, p.grain = g := ⟨_, rfl⟩
 have HGG := Lib.hid hG
 rw [hG] at HX HBX HGR HPL HWI ⊢
 clear hG
 by_cases hgr : G ≠ 1 ∧ G ≠ 2 ∧ G ≠ 4
 ·have HE : Hid (pieceE es p = 1) := piece_grain HNM.out (by rw [HGG.out]; exact hgr)
  obtain ⟨a1, a2, a3⟩ := hgr
  have b1 : (G != 1) = true := by simpa using a1
  have b2 : (G != 2) = true := by simpa using a2
  have b3 : (G != 4) = true := by simpa using a3
  clear a1 a2 a3
  go_enter Tryz.func85, Tryz.ntmps85
  go_wp2_with (go_at_call 87; refine (HN.out _).mono ?_; rintro e w1 ⟨rfl, rfl⟩; have HB1 := HBX)
  go_ret
  exact ⟨by rw [HE.out]; rfl, HB1.out⟩
 have HGN : Hid (¬ (p.grain ≠ 1 ∧ p.grain ≠ 2 ∧ p.grain ≠ 4)) := by rw [HGG.out]; exact hgr
 have hG3 : (G != 1) = false ∨ ((G != 1) = true ∧ (G != 2) = false) ∨ ((G != 1) = true ∧ (G != 2) = true ∧ (G != 4) = false) := by
  by_cases a1 : G = 1
  ·exact .inl (by simpa using a1)
  ·by_cases a2 : G = 2
   ·exact .inr (.inl ⟨by simpa using a1, by simpa using a2⟩)
   ·by_cases a3 : G = 4
    ·exact .inr (.inr ⟨by simpa using a1, by simpa using a2, by simpa using a3⟩)
    ·exact absurd ⟨a1, a2, a3⟩ hgr
 clear hgr
 rcases hG3 with b1 | ⟨b1, b2⟩ | ⟨b1, b2, b3⟩
 all_goals
  go_enter Tryz.func85, Tryz.ntmps85
  go_wp2_with (go_at_call 87; refine (HN.out _).mono ?_; rintro e w1 ⟨rfl, rfl⟩)
  go_loopw [5] (fun i wr => ∃ k : Nat, k ≤ n ∧ i = .int .i64 (k : Int) ∧ Hid (∀ (j : Nat) (y : PPiece), j < k → es[j]? = some y → y.name ≠ p.name) ∧ Below (w.alloc (.cells #[.string p.name, .slice E en ec, .int .i64 G, .slice N nn nc, .slice C cn cc, .slice D dn dc, .bool p.match_] 67)).heap.size (w.alloc (.cells #[.string p.name, .slice E en ec, .int .i64 G, .slice N nn nc, .slice C cn cc, .slice D dn dc, .bool p.match_] 67)) wr) (fun i _ => n - (intOf i).toNat)
  case atStart => exact ⟨0, Nat.zero_le _, rfl, (fun j y hj => by omega), Below.refl _ _⟩
  case round =>
   obtain ⟨k, hk, rfl, hne, hbel⟩ := hrel
   have HB := Lib.hid (HBX.out.trans (hbel.mono HBX.out.size))
   have HBL := Lib.hid hbel
   have hxl := (HX.out.below hbel).lt
   obtain ⟨x0, x1, x2, x3, x4, x5, x6⟩ := seven (HX.out.below hbel)
   by_cases hlt : k < n
   ·obtain ⟨b, off, y, A1, n1, c1, A2, n2, c2, A3, n3, c3, A4, n4, c4, rfl, hbw, hy, d0, d1, d2, d3, d4, d5, d6, r1, r2, r3, r4, r5, r6, r7, r8⟩ := piece_cells (HES.out.on piece_mono HB.out) hlt
    have HY := Lib.hid hy
    have i1 : (0 : Int) ≤ (k : Int) := by omega
    have i2 : (k : Int) < (n : Int) := by omega
    clear hy r1 r2 r3 r4 r5 r6 r7 r8 hbel
    by_cases hq : y.name = p.name
    ·have HE : Hid (pieceE es p = 7) := piece_twice HNM.out HGN.out (by
      have := hasName_yes (f := fun q : PPiece => q.name) (x := p) (i := n) hlt HY.out hq
      rw [List.take_of_length_le (by rw [HL.out]; exact Nat.le_refl _)] at this
      exact this)
     have hq' : (y.name.toList == p.name.toList) = true := by rw [hq]; simp
     clear hq
     go_wp2_with fail
     go_quiet (fail)
     go_wp2_with fail
     go_ret
     exact ⟨by rw [HE.out]; rfl, below_drewN HB.out _⟩
    ·have HE : Hid (∀ (j : Nat) (y : PPiece), j < k + 1 → es[j]? = some y → y.name ≠ p.name) := fun j y' hj hy' => by
      by_cases ej : j = k
      ·subst ej
       rw [HY.out] at hy'
       rw [← Option.some.inj hy']
       exact hq
      ·exact hne.out j y' (by omega) hy'
     have hq' := toList_ne hq
     clear hq
     go_wp2_with fail
     go_quiet (fail)
     go_wp2_with fail
     go_roundw
     case rel => exact ⟨k + 1, by omega, by go_num, HE, below_drewN HBL.out _⟩
     case measure => simp [intOf]; omega
   ·obtain rfl : k = n := by omega
    have HH : Hid (hasName p.name (es.map (·.name)) = false) := by
     have := hasName_no (f := fun q : PPiece => q.name) hne.out
     rw [List.take_of_length_le (by rw [HL.out]; exact Nat.le_refl _)] at this
     exact this
    have HX2 := Lib.hid (HX.out.below hbel)
    clear hne hbel hk hlt
    go_wp2_with fail
    refine (HGR.out _ HB.out).mono ?_
    rintro e w2 ⟨A2, m2, c2, rfl, hgd, hb2⟩
    have HB2 := Lib.hid (HB.out.trans (hb2.mono HB.out.size))
    have HX3 := Lib.hid (HX2.out.below hb2)
    clear hgd hb2 x0 x1 x2 x3 x4 x5 x6 hxl
    obtain ⟨x0, x1, x2, x3, x4, x5, x6⟩ := seven HX3.out
    obtain ⟨Q, hQ⟩ : ∃ q, gradedE p = q := ⟨_, rfl⟩
    rw [hQ]
    have HQ := Lib.hid hQ
    clear hQ
    by_cases h0 : Q = 0
    ·subst h0
     go_wp2_with fail
     refine (HPL.out _ HB2.out).mono ?_
     rintro e w3 ⟨A3, m3, c3, rfl, hb3⟩
     have HB3 := Lib.hid (HB2.out.trans (hb3.mono HB2.out.size))
     have HX4 := Lib.hid (HX3.out.below hb3)
     clear hb3 x0 x1 x2 x3 x4 x5 x6
     obtain ⟨x0, x1, x2, x3, x4, x5, x6⟩ := seven HX4.out
     obtain ⟨R, hR⟩ : ∃ q, placedE p = q := ⟨_, rfl⟩
     rw [hR]
     have HR := Lib.hid hR
     clear hR
     by_cases h1 : R = 0
     ·subst h1
      have HW : Hid (pieceE es p = widthsE p) := piece_widths HNM.out HGN.out HH.out HQ.out HR.out
      have HWD := Lib.hid (HWI.out _ HB3.out)
      go_wp2_with fail
      refine HWD.out.mono ?_
      rintro e w4 ⟨rfl, hb4⟩
      have HB4 := Lib.hid (HB3.out.trans (hb4.mono HB3.out.size))
      clear hb4
      go_wp2_with fail
      go_ret
      exact ⟨by rw [HW.out]; rfl, HB4.out⟩
     ·have h1' : (R != 0) = true := by simpa using h1
      have HE : Hid (pieceE es p = R) := piece_placed HNM.out HGN.out HH.out HQ.out HR.out h1
      clear h1
      go_wp2_with fail
      go_ret
      exact ⟨by rw [HE.out]; rfl, HB3.out⟩
    ·have h0' : (Q != 0) = true := by simpa using h0
     have HE : Hid (pieceE es p = Q) := piece_graded HNM.out HGN.out HH.out HQ.out h0
     clear h0
     go_wp2_with fail
     go_ret
     exact ⟨by rw [HE.out]; rfl, HB2.out⟩
set_option maxRecDepth 100000 in
set_option maxHeartbeats 12800000 in
theorem rjoined_any (s : PStyle) (Z : Option Addr) (z zc : Nat) (M : Option Addr) (m mc : Nat) (P : Option Addr) (p pc : Nat) (U : Option Addr) (u uc : Nat) (E : Option Addr) (e ec : Nat) (O : Option Addr) (o oc : Nat) (w : World) (h : StyleA w s Z z zc M m mc P p pc U u uc E e ec O o oc) (hs : StyleS s) :
  Calls Tryz.prog 86 #[.agg #[.string s.name, .slice Z z zc, .slice M m mc, .slice P p pc, .slice U u uc, .slice E e ec, .slice O o oc]] w fun e w' => e = .returned (.int .i64 (joinedE s)) ∧ Below w.heap.size w w' := by
 have HBX : Hid (Below w.heap.size w (w.alloc (.cells #[.string s.name, .slice Z z zc, .slice M m mc, .slice P p pc, .slice U u uc, .slice E e ec, .slice O o oc] 29))) := (Below.refl _ _).alloc (Nat.le_refl _) _
 have HX := Lib.hid (Blk.new w 29 #[.string s.name, .slice Z z zc, .slice M m mc, .slice P p pc, .slice U u uc, .slice E e ec, .slice O o oc])
 have HA := Lib.hid h
 have HL := Lib.hid (And.intro h.pieces.len (And.intro h.uses.len h.seams.len))
 have l1 : p ≤ 1000 := by rw [← h.pieces.len]; exact hs.pcs
 have l2 : u ≤ 1000 := by rw [← h.uses.len]; exact hs.us
 have l3 : e ≤ 1000 := by rw [← h.seams.len]; exact hs.sm
 clear h hs
 go_enter Tryz.func86, Tryz.ntmps86
 go_wp2_with fail
 go_loopw [3, 4] (fun i _ wr => ∃ k : Nat, k ≤ u ∧ i = .int .i64 (k : Int) ∧ Hid (∀ (j : Nat) (v : PUse), j < k → s.uses[j]? = some v → useE s v = 0) ∧ Below (w.alloc (.cells #[.string s.name, .slice Z z zc, .slice M m mc, .slice P p pc, .slice U u uc, .slice E e ec, .slice O o oc] 29)).heap.size (w.alloc (.cells #[.string s.name, .slice Z z zc, .slice M m mc, .slice P p pc, .slice U u uc, .slice E e ec, .slice O o oc] 29)) wr) (fun i _ _ => u - (intOf i).toNat)
 case atStart => exact ⟨0, Nat.zero_le _, rfl, (fun j v hj => by omega), Below.refl _ _⟩
 case round =>
  obtain ⟨j, hj, rfl, hz, hbel⟩ := hrel
  have HB3 := Lib.hid (HBX.out.trans (hbel.mono HBX.out.size))
  have HBL3 := Lib.hid hbel
  have HX3 := Lib.hid (HX.out.below hbel)
  have hxl := HX3.out.lt
  obtain ⟨x0, x1, x2, x3, x4, x5, x6⟩ := seven HX3.out
  by_cases hlt : j < u
  ·obtain ⟨b, off, v, rfl, hbw, hv, c0, c1, c2⟩ := use_at (HA.out.uses.on use_mono HB3.out) hlt
   have HV := Lib.hid hv
   have HBV : Hid (Below wr.heap.size wr (wr.alloc (.cells #[.int .i64 v.piece, .int .i64 v.count, .bool v.pair] 79))) := (Below.refl _ _).alloc (Nat.le_refl _) _
   have i1 : (0 : Int) ≤ (j : Int) := by omega
   have i2 : (j : Int) < (u : Int) := by omega
   have HUE := Lib.hid (use_ok (s := s) (v := v))
   rw [HL.out.1] at HUE
   clear hv hbel
   by_cases hbad : v.piece < 0 ∨ (p : Int) ≤ v.piece ∨ v.count < 1 ∨ 4 < v.count
   ·have HE : Hid (joinedE s = 3) := joined_use HV.out hz.out (by rw [HUE.out, if_pos hbad])
    by_cases g1 : v.piece < 0
    ·clear hbad
     go_wp2_with fail
     go_ret
     exact ⟨by rw [HE.out]; rfl, HB3.out.trans (HBV.out.mono HB3.out.size)⟩
    by_cases g2 : (p : Int) ≤ v.piece
    ·clear hbad
     go_wp2_with fail
     go_ret
     exact ⟨by rw [HE.out]; rfl, HB3.out.trans (HBV.out.mono HB3.out.size)⟩
    by_cases g3 : v.count < 1
    ·clear hbad
     go_wp2_with fail
     go_ret
     exact ⟨by rw [HE.out]; rfl, HB3.out.trans (HBV.out.mono HB3.out.size)⟩
    have g4 : 4 < v.count := by omega
    clear hbad
    go_wp2_with fail
    go_ret
    exact ⟨by rw [HE.out]; rfl, HB3.out.trans (HBV.out.mono HB3.out.size)⟩
   ·have HZ : Hid (∀ (i : Nat) (v : PUse), i < j + 1 → s.uses[i]? = some v → useE s v = 0) := fun i v' hi hv' => by
     by_cases ej : i = j
     ·subst ej
      rw [HV.out] at hv'
      rw [← Option.some.inj hv', HUE.out, if_neg hbad]
     ·exact hz.out i v' (by omega) hv'
    have g1 : ¬ v.piece < 0 := fun h => hbad (.inl h)
    have g2 : ¬ (p : Int) ≤ v.piece := fun h => hbad (.inr (.inl h))
    have g3 : ¬ v.count < 1 := fun h => hbad (.inr (.inr (.inl h)))
    have g4 : ¬ 4 < v.count := fun h => hbad (.inr (.inr (.inr h)))
    clear hbad
    go_wp2_with fail
    go_roundw
    case rel => exact ⟨j + 1, by omega, by go_num, HZ, HBL3.out.trans (HBV.out.mono HBL3.out.size)⟩
    case measure => simp [intOf]; omega
  ·obtain rfl : j = u := by omega
   have HU0 : Hid (∀ (i : Nat) (v : PUse), s.uses[i]? = some v → useE s v = 0) := fun i v hv => hz.out i v (by have := (List.getElem?_eq_some_iff.1 hv).1; rw [HL.out.2.1] at this; exact this) hv
   obtain ⟨wp, rfl⟩ : ∃ wp : World, wp = wr := ⟨_, rfl⟩
   clear hz hbel hj hlt
   go_wp2_with fail
   clear x0 x1 x2 x3 x4 x5 x6
   go_loopw [5, 6] (fun i _ wr => ∃ k : Nat, k ≤ e ∧ i = .int .i64 (k : Int) ∧ Hid (∀ (j : Nat) (v : PSeam), j < k → s.seams[j]? = some v → seamE s v = 0) ∧ Below wp.heap.size wp wr) (fun i _ _ => e - (intOf i).toNat)
   case atStart => exact ⟨0, Nat.zero_le _, rfl, (fun j v hj => by omega), Below.refl _ _⟩
   case round =>
    obtain ⟨i, hi, rfl, hz, hbel⟩ := hrel
    have HB4 := Lib.hid (HB3.out.trans (hbel.mono HB3.out.size))
    have HBL4 := Lib.hid hbel
    have HX4 := Lib.hid (HX3.out.below hbel)
    have hxl := HX4.out.lt
    obtain ⟨x0, x1, x2, x3, x4, x5, x6⟩ := seven HX4.out
    by_cases hlt : i < e
    ·obtain ⟨b, off, v, rfl, hbw, hv, c0, c1, c2, c3, c4, c5⟩ := seam_at (HA.out.seams.on seam_mono HB4.out) hlt
     have HV := Lib.hid hv
     have hbb : Below wr.heap.size wr (wr.alloc (.cells #[.int .i64 v.pa, .int .i64 v.ea, .int .i64 v.pb, .int .i64 v.eb, .bool v.rev, .int .i64 v.ease] 148)) := (Below.refl _ _).alloc (Nat.le_refl _) _
     have HBV := Lib.hid hbb
     have HX5 := Lib.hid (HX4.out.alloc (.cells #[.int .i64 v.pa, .int .i64 v.ea, .int .i64 v.pb, .int .i64 v.eb, .bool v.rev, .int .i64 v.ease] 148))
     have HY5 := Lib.hid (Blk.new wr 148 #[.int .i64 v.pa, .int .i64 v.ea, .int .i64 v.pb, .int .i64 v.eb, .bool v.rev, .int .i64 v.ease])
     have HI1 := Lib.hid (fun W (hb : Below (wr.alloc (.cells #[.int .i64 v.pa, .int .i64 v.ea, .int .i64 v.pb, .int .i64 v.eb, .bool v.rev, .int .i64 v.ease] 148)).heap.size (wr.alloc (.cells #[.int .i64 v.pa, .int .i64 v.ea, .int .i64 v.pb, .int .i64 v.eb, .bool v.rev, .int .i64 v.ease] 148)) W) => rinside_any s Z z zc M m mc P p pc U j uc (some ⟨b, off, none⟩) e ec O o oc v.pa v.ea W ((HA.out.on HB4.out).on (hbb.trans (hb.mono hbb.size))))
     have HI2 := Lib.hid (fun W (hb : Below (wr.alloc (.cells #[.int .i64 v.pa, .int .i64 v.ea, .int .i64 v.pb, .int .i64 v.eb, .bool v.rev, .int .i64 v.ease] 148)).heap.size (wr.alloc (.cells #[.int .i64 v.pa, .int .i64 v.ea, .int .i64 v.pb, .int .i64 v.eb, .bool v.rev, .int .i64 v.ease] 148)) W) => rinside_any s Z z zc M m mc P p pc U j uc (some ⟨b, off, none⟩) e ec O o oc v.pb v.eb W ((HA.out.on HB4.out).on (hbb.trans (hb.mono hbb.size))))
     have i1 : (0 : Int) ≤ (i : Int) := by omega
     have i2 : (i : Int) < (e : Int) := by omega
     have HSE := Lib.hid (seam_ok (s := s) (v := v))
     generalize isEdgeP s v.pa v.ea = b1 at *
     generalize isEdgeP s v.pb v.eb = b2 at *
     have hq := Lib.hid (Below.refl (wr.alloc (.cells #[.int .i64 v.pa, .int .i64 v.ea, .int .i64 v.pb, .int .i64 v.eb, .bool v.rev, .int .i64 v.ease] 148)).heap.size (wr.alloc (.cells #[.int .i64 v.pa, .int .i64 v.ea, .int .i64 v.pb, .int .i64 v.eb, .bool v.rev, .int .i64 v.ease] 148)))
     clear hv hbel hbb
     cases b1
     ·have HE : Hid (joinedE s = 3) := joined_seam HU0.out HV.out hz.out (by rw [HSE.out]; rfl) (by decide)
      go_wp2_with (go_at_call 120; (first | (with_reducible refine (HI1.out _ (by repeat (first | (with_reducible exact Below.refl _ _) | (with_reducible exact hq.out)))).mono ?_) | (with_reducible refine (HI2.out _ (by repeat (first | (with_reducible exact Below.refl _ _) | (with_reducible exact hq.out)))).mono ?_)); rintro e2 w2 ⟨rfl, hv⟩; replace hq := Lib.hid (below_then hq.out hv); clear hv; obtain ⟨x0, x1, x2, x3, x4, x5, x6⟩ := seven (HX5.out.below hq.out); obtain ⟨y0, y1, y2, y3, y4, y5⟩ := six_box (HY5.out.below hq.out))
      go_ret
      exact ⟨by rw [HE.out]; rfl, HB4.out.trans ((HBV.out.trans (hq.out.mono HBV.out.size)).mono HB4.out.size)⟩
     ·cases b2
      ·have HE : Hid (joinedE s = 3) := joined_seam HU0.out HV.out hz.out (by rw [HSE.out]; rfl) (by decide)
       go_wp2_with (go_at_call 120; (first | (with_reducible refine (HI1.out _ (by repeat (first | (with_reducible exact Below.refl _ _) | (with_reducible exact hq.out)))).mono ?_) | (with_reducible refine (HI2.out _ (by repeat (first | (with_reducible exact Below.refl _ _) | (with_reducible exact hq.out)))).mono ?_)); rintro e2 w2 ⟨rfl, hv⟩; replace hq := Lib.hid (below_then hq.out hv); clear hv; obtain ⟨x0, x1, x2, x3, x4, x5, x6⟩ := seven (HX5.out.below hq.out); obtain ⟨y0, y1, y2, y3, y4, y5⟩ := six_box (HY5.out.below hq.out))
       go_ret
       exact ⟨by rw [HE.out]; rfl, HB4.out.trans ((HBV.out.trans (hq.out.mono HBV.out.size)).mono HB4.out.size)⟩
      ·by_cases hea : v.ease < 0
       ·have HE : Hid (joinedE s = 1) := joined_seam HU0.out HV.out hz.out (by rw [HSE.out, if_neg (by simp), if_pos hea]) (by decide)
        go_wp2_with (go_at_call 120; (first | (with_reducible refine (HI1.out _ (by repeat (first | (with_reducible exact Below.refl _ _) | (with_reducible exact hq.out)))).mono ?_) | (with_reducible refine (HI2.out _ (by repeat (first | (with_reducible exact Below.refl _ _) | (with_reducible exact hq.out)))).mono ?_)); rintro e2 w2 ⟨rfl, hv⟩; replace hq := Lib.hid (below_then hq.out hv); clear hv; obtain ⟨x0, x1, x2, x3, x4, x5, x6⟩ := seven (HX5.out.below hq.out); obtain ⟨y0, y1, y2, y3, y4, y5⟩ := six_box (HY5.out.below hq.out))
        go_ret
        exact ⟨by rw [HE.out]; rfl, HB4.out.trans ((HBV.out.trans (hq.out.mono HBV.out.size)).mono HB4.out.size)⟩
       ·have HZ : Hid (∀ (j : Nat) (v : PSeam), j < i + 1 → s.seams[j]? = some v → seamE s v = 0) := fun j' v' hj' hv' => by
         by_cases ej : j' = i
         ·subst ej
          rw [HV.out] at hv'
          rw [← Option.some.inj hv', HSE.out, if_neg (by simp), if_neg hea]
         ·exact hz.out j' v' (by omega) hv'
        go_wp2_with (go_at_call 120; (first | (with_reducible refine (HI1.out _ (by repeat (first | (with_reducible exact Below.refl _ _) | (with_reducible exact hq.out)))).mono ?_) | (with_reducible refine (HI2.out _ (by repeat (first | (with_reducible exact Below.refl _ _) | (with_reducible exact hq.out)))).mono ?_)); rintro e2 w2 ⟨rfl, hv⟩; replace hq := Lib.hid (below_then hq.out hv); clear hv; obtain ⟨x0, x1, x2, x3, x4, x5, x6⟩ := seven (HX5.out.below hq.out); obtain ⟨y0, y1, y2, y3, y4, y5⟩ := six_box (HY5.out.below hq.out))
        go_roundw
        case rel => exact ⟨i + 1, by omega, by go_num, HZ, HBL4.out.trans ((HBV.out.trans (hq.out.mono HBV.out.size)).mono HBL4.out.size)⟩
        case measure => simp [intOf]; omega
    ·obtain rfl : i = e := by omega
     have HE : Hid (joinedE s = 0) := joined_ok HU0.out fun j v hv => hz.out j v (by have := (List.getElem?_eq_some_iff.1 hv).1; rw [HL.out.2.2] at this; exact this) hv
     clear hz hbel
     go_wp2_with fail
     go_ret
     exact ⟨by rw [HE.out]; rfl, HB4.out⟩
set_option maxRecDepth 100000 in
set_option maxHeartbeats 12800000 in
theorem rstyle_any (s : PStyle) (Z : Option Addr) (z zc : Nat) (M : Option Addr) (m mc : Nat) (P : Option Addr) (p pc : Nat) (U : Option Addr) (u uc : Nat) (E : Option Addr) (e ec : Nat) (O : Option Addr) (o oc : Nat) (w : World) (h : StyleA w s Z z zc M m mc P p pc U u uc E e ec O o oc) (hs : StyleS s) :
  Calls Tryz.prog 57 #[.agg #[.string s.name, .slice Z z zc, .slice M m mc, .slice P p pc, .slice U u uc, .slice E e ec, .slice O o oc]] w fun e w' => e = .returned (.int .i64 (styleE s)) ∧ Below w.heap.size w w' := by
 have HBX : Hid (Below w.heap.size w (w.alloc (.cells #[.string s.name, .slice Z z zc, .slice M m mc, .slice P p pc, .slice U u uc, .slice E e ec, .slice O o oc] 29))) := (Below.refl _ _).alloc (Nat.le_refl _) _
 have HX := Lib.hid (Blk.new w 29 #[.string s.name, .slice Z z zc, .slice M m mc, .slice P p pc, .slice U u uc, .slice E e ec, .slice O o oc])
 have HA := Lib.hid h
 have HS := Lib.hid hs
 have HL := Lib.hid (And.intro h.pieces.len h.mults.ilen)
 have l1 : p ≤ 1000 := by rw [← h.pieces.len]; exact hs.pcs
 have l2 : m ≤ 1000 := by rw [← h.mults.ilen]; exact hs.mul
 have l3 : z ≤ 1000 := by rw [← h.sizes.slen]; exact hs.szs
 have hpc := h.pcap
 have H1 := fun W (hb : Below w.heap.size w W) => rsized_any s Z z zc M m mc P p pc U u uc E e ec O o oc W (h.on hb) hs
 have H2 := fun W (hb : Below w.heap.size w W) => rtwice_any Z z zc s.sizes W (h.sizes.on hb) l3
 have H3 := fun W (hb : Below w.heap.size w W) => rlong_any s Z z zc M m mc P p pc U u uc E e ec O o oc W (h.on hb)
 have H4 := Lib.hid (fun W (hb : Below w.heap.size w W) => rjoined_any s Z z zc M m mc P p pc U u uc E e ec O o oc W (h.on hb) hs)
 obtain ⟨b1, hb1⟩ : ∃ b, sizedP s = b := ⟨_, rfl⟩
 obtain ⟨b2, hb2⟩ : ∃ b, onceB s.sizes = b := ⟨_, rfl⟩
 obtain ⟨b3, hb3⟩ : ∃ b, longP s = b := ⟨_, rfl⟩
 simp only [hb1] at H1
 simp only [hb2] at H2
 simp only [hb3] at H3
 have HQ1 := Lib.hid hb1
 have HQ2 := Lib.hid hb2
 have HQ3 := Lib.hid hb3
 have H1 := Lib.hid H1
 have H2 := Lib.hid H2
 have H3 := Lib.hid H3
 clear h hs hb1 hb2 hb3
 go_enter Tryz.func57, Tryz.ntmps57
 go_wp2_with fail
 refine (H1.out _ HBX.out).mono ?_
 rintro e1 w1 ⟨rfl, hv1⟩
 have HB1 := Lib.hid (HBX.out.trans (hv1.mono HBX.out.size))
 have HX1 := Lib.hid (HX.out.below hv1)
 obtain ⟨x0, x1, x2, x3, x4, x5, x6⟩ := seven HX1.out
 clear hv1
 cases b1
 ·have HE : Hid (styleE s = 1) := style_whole (whole_unsized HQ1.out) (by decide)
  go_wp2_with fail
  go_ret
  exact ⟨by rw [HE.out]; rfl, HB1.out⟩
 have HZ := Lib.hid (sized_yes HQ1.out)
 go_wp2_with fail
 refine (H2.out _ HB1.out).mono ?_
 rintro e2 w2 ⟨rfl, hv2⟩
 have HB2 := Lib.hid (HB1.out.trans (hv2.mono HB1.out.size))
 have HX2 := Lib.hid (HX1.out.below hv2)
 clear hv2 x0 x1 x2 x3 x4 x5 x6
 obtain ⟨x0, x1, x2, x3, x4, x5, x6⟩ := seven HX2.out
 cases b2
 ·have HE : Hid (styleE s = 7) := style_whole (whole_onceless HZ.out HQ2.out) (by decide)
  go_wp2_with fail
  go_ret
  exact ⟨by rw [HE.out]; rfl, HB2.out⟩
 go_wp2_with fail
 refine (H3.out _ HB2.out).mono ?_
 rintro e3 w3 ⟨rfl, hv3⟩
 have HB3 := Lib.hid (HB2.out.trans (hv3.mono HB2.out.size))
 have HX3 := Lib.hid (HX2.out.below hv3)
 clear hv3 x0 x1 x2 x3 x4 x5 x6
 obtain ⟨x0, x1, x2, x3, x4, x5, x6⟩ := seven HX3.out
 cases b3
 rotate_left
 ·have HE : Hid (styleE s = 5) := style_whole (whole_longer HZ.out HQ2.out HQ3.out) (by decide)
  go_wp2_with fail
  go_ret
  exact ⟨by rw [HE.out]; rfl, HB3.out⟩
 go_wp2_with fail
 go_loopw [3] (fun i wq => ∃ k : Nat, k ≤ m ∧ i = .int .i64 (k : Int) ∧ Hid (∀ (j : Nat) (x : Int), j < k → s.multiples[j]? = some x → -100 ≤ x ∧ x ≤ 100) ∧ w3 = wq) (fun i _ => m - (intOf i).toNat)
 case atStart => exact ⟨0, Nat.zero_le _, rfl, (fun j x hj => by omega), by trivial⟩
 case round =>
  obtain ⟨k, hk, rfl, hall, rfl⟩ := hrel
  by_cases hlt : k < m
  ·obtain ⟨b, off, x, rfl, hbw, hx, c0⟩ := (HA.out.mults.on HB3.out).int_ hlt
   have HXX := Lib.hid hx
   have i1 : (0 : Int) ≤ (k : Int) := by omega
   have i2 : (k : Int) < (m : Int) := by omega
   clear hx
   by_cases hin : -100 ≤ x ∧ x ≤ 100
   ·have HE : Hid (∀ (j : Nat) (x : Int), j < k + 1 → s.multiples[j]? = some x → -100 ≤ x ∧ x ≤ 100) := fun j x' hj hx' => by
     by_cases ej : j = k
     ·subst ej
      rw [HXX.out] at hx'
      rw [← Option.some.inj hx']
      exact hin
     ·exact hall.out j x' (by omega) hx'
    obtain ⟨q1, q2⟩ := hin
    have q3 : ¬ x < -100 := by omega
    have q4 : ¬ 100 < x := by omega
    go_wp2_with fail
    go_roundw
    case rel => exact ⟨k + 1, by omega, by go_num, HE, by trivial⟩
    case measure => simp [intOf]; omega
   ·have HE : Hid (styleE s = 3) := style_whole (whole_far HZ.out HQ2.out HQ3.out HXX.out (by omega)) (by decide)
    by_cases q : 100 < x
    ·clear hin
     go_wp2_with fail
     go_ret
     exact ⟨by rw [HE.out]; rfl, HB3.out⟩
    ·have q2 : x < -100 := by omega
     clear hin
     go_wp2_with fail
     go_ret
     exact ⟨by rw [HE.out]; rfl, HB3.out⟩
  ·obtain rfl : m = k := by omega
   have HW0 : Hid (wholeE s = 0) := whole_fine HZ.out HQ2.out HQ3.out fun j x hx => hall.out j x (by have := (List.getElem?_eq_some_iff.1 hx).1; rw [HL.out.2] at this; exact this) hx
   clear hall
   go_wp2_with fail
   clear x0 x1 x2 x3 x4 x5 x6
   go_loopw [4, 5] (fun i _ wr => ∃ k : Nat, k ≤ p ∧ i = .int .i64 (k : Int) ∧ Hid (∀ j, j < k → pieceAt s j = 0) ∧ Hid (Below w3.heap.size w3 wr)) (fun i _ _ => p - (intOf i).toNat)
   case atStart => exact ⟨0, Nat.zero_le _, rfl, (fun j hj => by omega), Below.refl _ _⟩
   case round =>
    obtain ⟨k, hk, rfl, hz, HBL⟩ := hrel
    have HB := Lib.hid (HB3.out.trans (HBL.out.mono HB3.out.size))
    have HX4 := Lib.hid (HX3.out.below HBL.out)
    obtain ⟨x0, x1, x2, x3, x4, x5, x6⟩ := seven HX4.out
    by_cases hlt : k < p
    ·have hpr := HA.out.pieces.on piece_mono HB.out
     obtain ⟨b, off, y, A1, n1, c1, A2, n2, c2, A3, n3, c3, A4, n4, c4, rfl, hbw, hy, d0, d1, d2, d3, d4, d5, d6, r1, r2, r3, r4, r5, r6, r7, r8⟩ := piece_cells hpr hlt
     have hpa : PcA wr y A1 n1 c1 A2 n2 c2 A3 n3 c3 A4 n4 c4 := ⟨r1, r2, r3, r4, r5, r6, r7, r8, HS.out.pc y (List.mem_of_getElem? hy)⟩
     have HCP := fun W (hb : Below wr.heap.size wr W) => rpiece_any (some ⟨b, off, none⟩) k pc (s.pieces.take k) y A1 n1 c1 A2 n2 c2 A3 n3 c3 A4 n4 c4 W ((hpr.take (i := k) (by omega)).on piece_mono hb) (by omega) (hpa.on hb)
     have HPE := piece_at hy
     obtain ⟨R, hR⟩ : ∃ R, pieceE (s.pieces.take k) y = R := ⟨_, rfl⟩
     simp only [hR] at HCP
     rw [hR] at HPE
     have HCP := Lib.hid HCP
     have HPE := Lib.hid HPE
     have HK := fun W => Lib.hid (fun (hb : Below wr.heap.size wr W) => And.intro ((HX4.out.below hb).c (i := 3) rfl) (And.intro ((hb.cell (p := ⟨b, off + k * 7, none⟩) hbw).trans d0) (And.intro ((hb.cell (p := ⟨b, off + k * 7 + 1, none⟩) hbw).trans d1) (And.intro ((hb.cell (p := ⟨b, off + k * 7 + 2, none⟩) hbw).trans d2) (And.intro ((hb.cell (p := ⟨b, off + k * 7 + 3, none⟩) hbw).trans d3) (And.intro ((hb.cell (p := ⟨b, off + k * 7 + 4, none⟩) hbw).trans d4) (And.intro ((hb.cell (p := ⟨b, off + k * 7 + 5, none⟩) hbw).trans d5) ((hb.cell (p := ⟨b, off + k * 7 + 6, none⟩) hbw).trans d6))))))))
     have i1 : (0 : Int) ≤ (k : Int) := by omega
     have i2 : (k : Int) < (p : Int) := by omega
     have i3 : (k : Int) ≤ (pc : Int) := by omega
     have i4 : k ≤ pc := by omega
     have hq := Below.refl wr.heap.size wr
     clear hy r1 r2 r3 r4 r5 r6 r7 r8 hR hpr hpa
     by_cases h0 : R = 0
     ·have HZZ : Hid (∀ j, j < k + 1 → pieceAt s j = 0) := fun j hj => by
       by_cases ej : j = k
       ·rw [ej, HPE.out, h0]
       ·exact hz.out j (by omega)
      subst h0
      go_wp2_with fail
      go_region_held3 (fun w' => w'.cell? ⟨w.heap.size, 3, none⟩ = some (.slice (some ⟨b, off, none⟩) p pc) ∧ w'.cell? ⟨b, off + k * 7, none⟩ = some (.string y.name) ∧ w'.cell? ⟨b, off + k * 7 + 1, none⟩ = some (.slice A1 n1 c1) ∧ w'.cell? ⟨b, off + k * 7 + 2, none⟩ = some (.int .i64 y.grain) ∧ w'.cell? ⟨b, off + k * 7 + 3, none⟩ = some (.slice A2 n2 c2) ∧ w'.cell? ⟨b, off + k * 7 + 4, none⟩ = some (.slice A3 n3 c3) ∧ w'.cell? ⟨b, off + k * 7 + 5, none⟩ = some (.slice A4 n4 c4) ∧ w'.cell? ⟨b, off + k * 7 + 6, none⟩ = some (.bool y.match_))
       ((refine (HK _).out ?_; repeat (first | (with_reducible exact Below.refl _ _) | (with_reducible exact hq) | (with_reducible refine Below.drew ?_))))
       ((go_at_call 85; go_must ((refine (HCP.out _ (by repeat (first | (with_reducible exact Below.refl _ _) | (with_reducible refine Below.drew ?_)))).mono ?_); rintro e2 w2 ⟨rfl, hv⟩; replace hq := below_then hq hv; clear hv)))
      go_wp2_with fail
      go_roundw
      case rel => exact ⟨k + 1, by omega, by go_num, HZZ, HBL.out.trans (hq.mono HBL.out.size)⟩
      case measure => simp [intOf]; omega
     ·have h0' : (R != 0) = true := by simpa using h0
      have HE : Hid (styleE s = R) := style_piece HW0.out (i := k) (by rw [HL.out.1]; exact hlt) hz.out HPE.out h0
      clear h0
      go_wp2_with fail
      go_region_held3 (fun w' => w'.cell? ⟨w.heap.size, 3, none⟩ = some (.slice (some ⟨b, off, none⟩) p pc) ∧ w'.cell? ⟨b, off + k * 7, none⟩ = some (.string y.name) ∧ w'.cell? ⟨b, off + k * 7 + 1, none⟩ = some (.slice A1 n1 c1) ∧ w'.cell? ⟨b, off + k * 7 + 2, none⟩ = some (.int .i64 y.grain) ∧ w'.cell? ⟨b, off + k * 7 + 3, none⟩ = some (.slice A2 n2 c2) ∧ w'.cell? ⟨b, off + k * 7 + 4, none⟩ = some (.slice A3 n3 c3) ∧ w'.cell? ⟨b, off + k * 7 + 5, none⟩ = some (.slice A4 n4 c4) ∧ w'.cell? ⟨b, off + k * 7 + 6, none⟩ = some (.bool y.match_))
       ((refine (HK _).out ?_; repeat (first | (with_reducible exact Below.refl _ _) | (with_reducible exact hq) | (with_reducible refine Below.drew ?_))))
       ((go_at_call 85; go_must ((refine (HCP.out _ (by repeat (first | (with_reducible exact Below.refl _ _) | (with_reducible refine Below.drew ?_)))).mono ?_); rintro e2 w2 ⟨rfl, hv⟩; replace hq := below_then hq hv; clear hv)))
      go_wp2_with fail
      go_ret
      exact ⟨by rw [HE.out]; rfl, HB.out.trans (hq.mono HB.out.size)⟩
    ·obtain rfl : k = p := by omega
     have HE : Hid (styleE s = joinedE s) := style_joined HW0.out (pieces_none fun j hj => hz.out j (by rw [HL.out.1] at hj; exact hj))
     have HJ := Lib.hid (H4.out _ HB.out)
     clear hz hlt hk
     go_wp2_with fail
     refine HJ.out.mono ?_
     rintro e4 w4 ⟨rfl, hv4⟩
     have HB4 := Lib.hid (HB.out.trans (hv4.mono HB.out.size))
     clear hv4
     go_wp2_with fail
     go_ret
     exact ⟨by rw [HE.out]; rfl, HB4.out⟩
end
section
open Go.RowKit
open Go.Lib hiding intOf
theorem ops_single {s : PStyle} (h : styleE s = 0) {e : Int} (h1 : singleE s.ops (some s.uses.length) = e) (h0 : e ≠ 0) : opsE s = e := ops_list h (list_single h1 h0) h0
theorem ops_cycle {s : PStyle} (h : styleE s = 0) (h1 : singleE s.ops (some s.uses.length) = 0) (h2 : (orderP s.ops).length < s.ops.length) : opsE s = 9 := ops_list h (by rw [list_order h1, if_pos h2]) (by decide)
theorem any_snoc {l : List POp} {k : Nat} {o : POp} (h : l[k]? = some o) (p : POp → Bool) : (l.take (k + 1)).any p = ((l.take k).any p || p o) := by
 rw [List.take_add_one, h, List.any_append]
 simp
set_option maxRecDepth 100000 in
set_option maxHeartbeats 12800000 in
theorem rops_any (s : PStyle) (Z : Option Addr) (z zc : Nat) (M : Option Addr) (m mc : Nat) (P : Option Addr) (p pc : Nat) (U : Option Addr) (u uc : Nat) (E : Option Addr) (e ec : Nat) (O : Option Addr) (o oc : Nat) (w : World) (h : StyleA w s Z z zc M m mc P p pc U u uc E e ec O o oc) (hs : StyleS s) :
  Calls Tryz.prog 39 #[.agg #[.string s.name, .slice Z z zc, .slice M m mc, .slice P p pc, .slice U u uc, .slice E e ec, .slice O o oc]] w fun e w' => e = .returned (.int .i64 (opsE s)) ∧ Below w.heap.size w w' := by
 have HBX : Hid (Below w.heap.size w (w.alloc (.cells #[.string s.name, .slice Z z zc, .slice M m mc, .slice P p pc, .slice U u uc, .slice E e ec, .slice O o oc] 29))) := (Below.refl _ _).alloc (Nat.le_refl _) _
 have HX := Lib.hid (Blk.new w 29 #[.string s.name, .slice Z z zc, .slice M m mc, .slice P p pc, .slice U u uc, .slice E e ec, .slice O o oc])
 have HA := Lib.hid h
 have HS := Lib.hid hs
 have HL := Lib.hid (And.intro h.ops.len h.uses.len)
 have l2 : u ≤ 1000 := by rw [← h.uses.len]; exact hs.us
 have HST := Lib.hid (rstyle_any s Z z zc M m mc P p pc U u uc E e ec O o oc _ (h.on HBX.out) hs)
 have HSI := Lib.hid (fun W (hb : Below w.heap.size w W) => rsingle_any O o oc u s.ops W (h.ops.on op_mono hb) hs.op l2)
 clear h hs
 obtain ⟨Q, hQ⟩ : ∃ q, styleE s = q := ⟨_, rfl⟩
 rw [hQ] at HST
 have HQ := Lib.hid hQ
 obtain ⟨T, hT⟩ : ∃ q, singleE s.ops (some u) = q := ⟨_, rfl⟩
 rw [hT] at HSI
 have HT : Hid (singleE s.ops (some s.uses.length) = T) := by rw [Hid, HL.out.2]; exact hT
 clear hQ hT
 go_enter Tryz.func39, Tryz.ntmps39
 go_wp2_with fail
 refine HST.out.mono ?_
 rintro e1 w1 ⟨rfl, hb1⟩
 have HB1 := Lib.hid (HBX.out.trans (hb1.mono HBX.out.size))
 have HX1 := Lib.hid (HX.out.below hb1)
 obtain ⟨x4, x6⟩ := seven' HX1.out
 clear hb1
 by_cases h0 : Q = 0
 ·subst h0
  go_wp2_with fail
  refine (HSI.out _ HB1.out).mono ?_
  rintro e2 w2 ⟨rfl, hb2⟩
  have HB2 := Lib.hid (HB1.out.trans (hb2.mono HB1.out.size))
  have HX2 := Lib.hid (HX1.out.below hb2)
  clear x4 x6 hb2
  obtain ⟨x4, x6⟩ := seven' HX2.out
  by_cases h1 : T = 0
  ·subst h1
   obtain ⟨z1, z2⟩ := single_zero HT.out
   rw [HL.out.1] at z1
   have HSO := Lib.hid (fun W (hb : Below w2.heap.size w2 W) => rsorted_any O o oc s.ops W ((HA.out.ops.on op_mono HB2.out).on op_mono hb) (by omega) HS.out.op (fun x hx a ha => by
    obtain ⟨i, hi⟩ := List.getElem?_of_mem hx
    obtain ⟨j, hj⟩ := List.getElem?_of_mem ha
    exact (idx_at (op_zero hi (z2 i (List.getElem?_eq_some_iff.1 hi).1)).2.1 hj).1))
   have HK := fun W => Lib.hid (fun (hb : Below w2.heap.size w2 W) => (HX2.out.below hb).c (i := 6) rfl)
   have hq := Below.refl w2.heap.size w2
   have o16 : o ≤ 16 := by omega
   clear z1 z2
   by_cases hcy : (orderP s.ops).length < o
   ·have HE : Hid (opsE s = 9) := ops_cycle HQ.out HT.out (by rw [HL.out.1]; exact hcy)
    obtain ⟨m9, hm9⟩ : ∃ m, (orderP s.ops).length = m := ⟨_, rfl⟩
    rw [hm9] at hcy
    unfold RetSo at HSO
    rw [hm9] at HSO
    have hcy' : (m9 : Int) < (o : Int) := by omega
    clear hm9
    go_wp2_with fail
    go_region_held3 (fun w' => w'.cell? ⟨w.heap.size, 6, none⟩ = some (.slice O o oc))
     ((refine (HK _).out ?_; repeat (first | (with_reducible exact Below.refl _ _) | (with_reducible exact hq) | (with_reducible refine Below.drew ?_))))
     ((go_at_call 59; go_must ((refine (HSO.out _ (by repeat (first | (with_reducible exact Below.refl _ _) | (with_reducible refine Below.drew ?_)))).mono ?_); rintro e w6 ⟨A6, c6, rfl, hv⟩; replace hq := below_then hq hv; clear hv)))
    go_wp2_with fail
    go_ret
    exact ⟨by rw [HE.out]; rfl, HB2.out.trans (hq.mono HB2.out.size)⟩
   ·have HLZ : Hid (listE s.ops (some s.uses.length) = 0) := by rw [Hid, list_order HT.out, if_neg (by rw [HL.out.1]; exact hcy)]
    obtain ⟨m9, hm9⟩ : ∃ m, (orderP s.ops).length = m := ⟨_, rfl⟩
    rw [hm9] at hcy
    unfold RetSo at HSO
    rw [hm9] at HSO
    have hcy' : ¬ (m9 : Int) < (o : Int) := by omega
    clear hm9
    go_wp2_with fail
    go_region_held3 (fun w' => w'.cell? ⟨w.heap.size, 6, none⟩ = some (.slice O o oc))
     ((refine (HK _).out ?_; repeat (first | (with_reducible exact Below.refl _ _) | (with_reducible exact hq) | (with_reducible refine Below.drew ?_))))
     ((go_at_call 59; go_must ((refine (HSO.out _ (by repeat (first | (with_reducible exact Below.refl _ _) | (with_reducible refine Below.drew ?_)))).mono ?_); rintro e w6 ⟨A6, c6, rfl, hv⟩; replace hq := below_then hq hv; clear hv)))
    have HB3 := Lib.hid (HB2.out.trans (hq.mono HB2.out.size))
    have HX3 := Lib.hid (HX2.out.below hq)
    clear x4 x6 hcy hcy' hq
    obtain ⟨x4, x6⟩ := seven' HX3.out
    go_wp2_with fail
    go_loopw [5, 6, 7] (fun i _ _ wr => ∃ k : Nat, k ≤ u ∧ i = .int .i64 (k : Int) ∧ Hid (∀ j, j < k → takenB s j = true) ∧ Hid (Below w.heap.size w wr) ∧ Hid (Blk wr w.heap.size 29 #[.string s.name, .slice Z z zc, .slice M m mc, .slice P p pc, .slice U u uc, .slice E e ec, .slice O o oc])) (fun i _ _ _ => u - (intOf i).toNat)
    case atStart => exact ⟨0, Nat.zero_le _, rfl, (fun j hj => by omega), HB3, HX3⟩
    case round =>
     obtain ⟨k, hk, rfl, htk, HB, HXr⟩ := hrel
     obtain ⟨x4, x6⟩ := seven' HXr.out
     have hxl := HXr.out.lt
     by_cases hlt : k < u
     ·obtain ⟨wo, rfl⟩ : ∃ v, v = wr := ⟨_, rfl⟩
      go_wp2_with fail
      go_loopw [6, 7] (fun tv i wx => ∃ (q : Nat) (c : Bool), q ≤ o ∧ tv = .bool c ∧ i = .int .i64 (q : Int) ∧ Hid (c = (s.ops.take q).any fun x => x.uses.contains (k : Int)) ∧ wo = wx) (fun _ i _ => o - (intOf i).toNat)
      case atStart => exact ⟨0, false, Nat.zero_le _, rfl, rfl, rfl, by trivial⟩
      case round =>
       obtain ⟨q, c, hq, rfl, rfl, hcc, rfl⟩ := hrel
       by_cases hqt : q < o
       ·obtain ⟨b, off, x, B, an, ac, C, un, uc2, rfl, hbw, hx, c0, c1, c2, c3, c4, s1, s2, s3, s4⟩ := op_at (HA.out.ops.on op_mono HB.out) hqt
        have ha2 : un ≤ 1000 := by rw [← s3.ilen]; exact (HS.out.op x (List.mem_of_getElem? hx)).us
        have hH := rhas_any (B := wo.heap.size) C un uc2 x.uses (k : Int) wo s3 (by omega)
        have HAS := Lib.hid (any_snoc hx (fun x => x.uses.contains (k : Int)))
        obtain ⟨t, ht⟩ : ∃ t, x.uses.contains (k : Int) = t := ⟨_, rfl⟩
        rw [ht] at hH
        have HHa := Lib.hid hH
        have HT2 := Lib.hid ht
        have j1 : (0 : Int) ≤ (q : Int) := by omega
        have j2 : (q : Int) < (o : Int) := by omega
        clear hx s1 s2 s3 s4 hH ht c0 c1 c2 c3
        cases c
        ·have HC : Hid (t = (s.ops.take (q + 1)).any fun x => x.uses.contains (k : Int)) := by rw [Hid, HAS.out, ← hcc.out, HT2.out]; rfl
         go_wp2_with (go_at_call 60; refine HHa.out.mono ?_; rintro e w1 ⟨rfl, rfl⟩)
         go_roundw
         case rel => exact ⟨q + 1, t, by omega, rfl, by go_num, HC, by trivial⟩
         case measure => simp [intOf]; omega
        ·have HC : Hid (true = (s.ops.take (q + 1)).any fun x => x.uses.contains (k : Int)) := by rw [Hid, HAS.out, ← hcc.out]; rfl
         go_wp2_with (go_at_call 60; refine HHa.out.mono ?_; rintro e w1 ⟨rfl, rfl⟩)
         go_roundw
         case rel => exact ⟨q + 1, true, by omega, rfl, by go_num, HC, by trivial⟩
         case measure => simp [intOf]; omega
       ·obtain rfl : q = o := by omega
        have HTK : Hid (takenB s k = c) := by
         rw [Hid, hcc.out, List.take_of_length_le (by rw [HL.out.1]; exact Nat.le_refl _)]
         rfl
        cases c
        ·have HE : Hid (opsE s = 20) := ops_gap HQ.out HLZ.out (by rw [HL.out.2]; exact hlt) HTK.out
         go_wp2_with fail
         go_ret
         exact ⟨by rw [HE.out]; rfl, HB.out⟩
        ·have HZ : Hid (∀ j, j < k + 1 → takenB s j = true) := fun j hj => by
          by_cases e : j = k
          ·rw [e]; exact HTK.out
          ·exact htk.out j (by omega)
         go_wp2_with fail
         go_roundw
         case rel => exact ⟨k + 1, by omega, by go_num, HZ, HB, HXr⟩
         case measure => simp [intOf]; omega
     ·obtain rfl : u = k := by omega
      have HE : Hid (opsE s = 0) := ops_ok HQ.out HLZ.out (fun j hj => htk.out j (by rw [← HL.out.2]; exact hj))
      go_wp2_with fail
      go_ret
      exact ⟨by rw [HE.out]; rfl, HB.out⟩
  ·have h1' : (T != 0) = true := by simpa using h1
   have HE : Hid (opsE s = T) := ops_single HQ.out HT.out h1
   clear h1
   go_wp2_with fail
   go_ret
   exact ⟨by rw [HE.out]; rfl, HB2.out⟩
 ·have h0' : (Q != 0) = true := by simpa using h0
  have HE : Hid (opsE s = Q) := ops_style HQ.out h0
  clear h0
  go_wp2_with fail
  go_ret
  exact ⟨by rw [HE.out]; rfl, HB1.out⟩
set_option maxRecDepth 100000 in
set_option maxHeartbeats 12800000 in
theorem rscan_any (s : PStyle) (Z : Option Addr) (z zc : Nat) (M : Option Addr) (m mc : Nat) (P : Option Addr) (p pc : Nat) (U : Option Addr) (u uc : Nat) (E : Option Addr) (e ec : Nat) (O : Option Addr) (o oc : Nat) (w : World) (h : StyleA w s Z z zc M m mc P p pc U u uc E e ec O o oc) (hs : StyleS s)
  (L : Option Addr) (n c : Nat) (bs : List PBundle) (hb : Recs 6 bundleG w L n bs) (W0 : Option Addr) (k c' : Nat) (ws : List PWorker) (hw : Recs 2 workerG w W0 k ws) (hc' : k ≤ c') (hws : ∀ x ∈ ws, WorkerS x) :
  Calls Tryz.prog 23 #[.agg #[.string s.name, .slice Z z zc, .slice M m mc, .slice P p pc, .slice U u uc, .slice E e ec, .slice O o oc], .slice L n c, .slice W0 k c'] w fun e w' => e = .returned (.int .i64 (scanE s bs ws)) ∧ Below w.heap.size w w' := by
 have HBX : Hid (Below w.heap.size w (w.alloc (.cells #[.string s.name, .slice Z z zc, .slice M m mc, .slice P p pc, .slice U u uc, .slice E e ec, .slice O o oc] 29))) := (Below.refl _ _).alloc (Nat.le_refl _) _
 have HLB := Lib.hid hb.len
 have HA := Lib.hid hb
 have HST := Lib.hid (rops_any s Z z zc M m mc P p pc U u uc E e ec O o oc _ (h.on HBX.out) hs)
 have HWK := Lib.hid (fun V (hv : Below w.heap.size w V) => rworkers_any W0 k c' ws V (hw.on worker_mono hv) hc' hws)
 clear h hs hb hw hws
 obtain ⟨Q, hQ⟩ : ∃ q, opsE s = q := ⟨_, rfl⟩
 rw [hQ] at HST
 have HQ := Lib.hid hQ
 clear hQ
 go_enter Tryz.func23, Tryz.ntmps23
 go_wp2_with fail
 refine HST.out.mono ?_
 rintro e1 w1 ⟨rfl, hb1⟩
 have HB1 := Lib.hid (HBX.out.trans (hb1.mono HBX.out.size))
 clear hb1
 by_cases h0 : Q = 0
 ·subst h0
  by_cases h60 : 60 < n
  ·have HE : Hid (scanE s bs ws = 5) := scan_long HQ.out (by rw [HLB.out]; exact h60)
   go_wp2_with fail
   go_ret
   exact ⟨by rw [HE.out]; rfl, HB1.out⟩
  ·have HN : Hid (¬ 60 < bs.length) := by rw [Hid, HLB.out]; exact h60
   go_wp2_with fail
   go_loopw [8, 9] (fun i _ wr => ∃ k : Nat, k ≤ n ∧ i = .int .i64 (k : Int) ∧ Hid (∀ j, j < k → bundleE bs j = 0) ∧ Hid (Below w.heap.size w wr)) (fun i _ _ => n - (intOf i).toNat)
   case atStart => exact ⟨0, Nat.zero_le _, rfl, (fun j hj => by omega), HB1⟩
   case round =>
    obtain ⟨r, hk, rfl, hz, HB⟩ := hrel
    by_cases hlt : r < n
    ·obtain ⟨b, off, x, rfl, hbw, hx, c0, c1, c2, c3, c4, c5, g1, g2⟩ := bundle_at HA.out hlt
     obtain ⟨F, hF⟩ : ∃ z, x.from_ = z := ⟨_, rfl⟩
     obtain ⟨T, hT⟩ : ∃ z, x.to_ = z := ⟨_, rfl⟩
     obtain ⟨t, ht⟩ : ∃ z, x.ticket = z := ⟨_, rfl⟩
     rw [hF] at c4 g1
     rw [hT] at c5 g2
     rw [ht] at c0
     replace c0 := (HB.out.cell (p := ⟨b, off + r * 6, none⟩) hbw).trans c0
     replace c1 := (HB.out.cell (p := ⟨b, off + r * 6 + 1, none⟩) hbw).trans c1
     replace c2 := (HB.out.cell (p := ⟨b, off + r * 6 + 2, none⟩) hbw).trans c2
     replace c3 := (HB.out.cell (p := ⟨b, off + r * 6 + 3, none⟩) hbw).trans c3
     replace c4 := (HB.out.cell (p := ⟨b, off + r * 6 + 4, none⟩) hbw).trans c4
     replace c5 := (HB.out.cell (p := ⟨b, off + r * 6 + 5, none⟩) hbw).trans c5
     have HXX := Lib.hid hx
     have HTT := Lib.hid ht
     have HBB := Lib.hid (HB.out.alloc HB.out.size (.cells #[.int .i64 t, .int .i64 x.garment, .int .i64 x.size, .int .i64 x.lot, .int .i64 F, .int .i64 T] 81))
     have HBU := fun W (hb : Below w.heap.size w W) => rbundle_any (some ⟨b, off, none⟩) n c r bs t W (HA.out.on bundle_mono hb) (by omega) (by omega)
     have i1 : (0 : Int) ≤ (r : Int) := by omega
     have i2 : (r : Int) < (n : Int) := by omega
     have HFT := Lib.hid (And.intro hF hT)
     obtain ⟨g3, g4⟩ := g1
     obtain ⟨g5, g6⟩ := g2
     obtain ⟨q, hq⟩ : ∃ q, decide (t ∈ (bs.take r).map (·.ticket)) = q := ⟨_, rfl⟩
     simp only [hq] at HBU
     have HBU := Lib.hid HBU
     have HQQ := Lib.hid hq
     clear hx ht hF hT hq
     by_cases hft : T ≤ F
     ·have HE : Hid (scanE s bs ws = 3) := scan_bundle HQ.out HN.out (by rw [HLB.out]; exact hlt) hz.out (bundle_range HXX.out (.inl (by rw [HFT.out.1, HFT.out.2]; exact hft))) (by decide)
      go_wp2_with fail
      go_ret
      exact ⟨by rw [HE.out]; rfl, HBB.out⟩
     ·have hsub : IntKind.u64.wrap (IntKind.u64.wrap T - IntKind.u64.wrap F) = T - F := by
       simp only [IntKind.wrap_u64]
       omega
      by_cases h40 : 40 < T - F
      ·have HE : Hid (scanE s bs ws = 3) := scan_bundle HQ.out HN.out (by rw [HLB.out]; exact hlt) hz.out (bundle_range HXX.out (.inr (by rw [HFT.out.1, HFT.out.2]; exact h40))) (by decide)
       go_wp2_with fail
       go_ret
       exact ⟨by rw [HE.out]; rfl, HBB.out⟩
      ·have HRG : Hid (¬ (x.to_ ≤ x.from_ ∨ 40 < x.to_ - x.from_)) := by rw [Hid, HFT.out.1, HFT.out.2]; omega
       cases q
       ·have HW0 : Hid (bundleE bs r = 0) := bundle_ok HXX.out HRG.out (by rw [HTT.out]; exact of_decide_eq_false HQQ.out)
        have HZ : Hid (∀ j, j < r + 1 → bundleE bs j = 0) := fun j hj => by
         by_cases e : j = r
         ·rw [e]; exact HW0.out
         ·exact hz.out j (by omega)
        go_wp2_with (go_at_call 27; refine (HBU.out _ HBB.out).mono ?_; rintro e w5 ⟨rfl, rfl⟩)
        go_roundw
        case rel => exact ⟨r + 1, by omega, by go_num, HZ, HBB⟩
        case measure => simp [intOf]; omega
       ·have HE : Hid (scanE s bs ws = 7) := scan_bundle HQ.out HN.out (by rw [HLB.out]; exact hlt) hz.out (bundle_twice HXX.out HRG.out (by rw [HTT.out]; exact of_decide_eq_true HQQ.out)) (by decide)
        go_wp2_with (go_at_call 27; refine (HBU.out _ HBB.out).mono ?_; rintro e w5 ⟨rfl, rfl⟩)
        go_ret
        exact ⟨by rw [HE.out]; rfl, HBB.out⟩
    ·obtain rfl : n = r := by omega
     have HE : Hid (scanE s bs ws = workersE ws) := scan_workers HQ.out HN.out (fun j hj => hz.out j (by rw [← HLB.out]; exact hj))
     have HWW := Lib.hid (HWK.out _ HB.out)
     go_wp2_with fail
     refine HWW.out.mono ?_
     rintro e2 w2 ⟨rfl, hb2⟩
     have HB2 := Lib.hid (HB.out.trans (hb2.mono HB.out.size))
     clear hb2
     go_wp2_with fail
     go_ret
     exact ⟨by rw [HE.out]; rfl, HB2.out⟩
 ·have h0' : (Q != 0) = true := by simpa using h0
  have HE : Hid (scanE s bs ws = Q) := scan_ops HQ.out h0
  clear h0
  go_wp2_with fail
  go_ret
  exact ⟨by rw [HE.out]; rfl, HB1.out⟩
end
section
open Go.RowKit
open Go.Lib hiding intOf
section
variable {W W' : World} {n m : Nat} {v u : Value} {l k : List Value}
theorem rkind {e : TypeId} {size base : Nat} (h : W.ownsRow base e size v n l) {g : Nat} (hg : v.ownBlock = some g) : ∃ cs : Array Value, W.heap[g]? = some (.cells cs e (0, 0)) := by
 rcases h.2 with ⟨rfl, _⟩ | ⟨b, cap, cur, rfl, _, hc, _⟩
 ·cases hg
 ·obtain rfl : b = g := Option.some.inj hg
  exact ⟨cur, hc⟩
theorem rkinds {e e' : TypeId} {size size' base base' : Nat} (h : W.ownsRow base e size v n l) (h' : W.ownsRow base' e' size' u m k) (hne : e ≠ e') (hg : W.grownBy W' v.ownBlock) : W'.ownsRow base' e' size' u m k := by
 refine h'.kept hg ?_
 cases hu : u.ownBlock with
 | none => exact .inl rfl
 | some b =>
  right
  intro hv
  obtain ⟨c1, h1⟩ := rkind h' hu
  obtain ⟨c2, h2⟩ := rkind h (by first | exact hv | exact hv.symm)
  rw [h1] at h2
  injection h2 with h2
  injection h2 with _ e2 _
  exact hne e2.symm
end
theorem seven_four {w W : World} {g b o : Nat} {t : TypeId} {a0 a1 a2 a3 a4 a5 a6 u0 u1 u2 u3 : Value} (h : Blk w g t #[a0, a1, a2, a3, a4, a5, a6]) (hb : b < w.heap.size) (c0 : w.cell? ⟨b, o, none⟩ = some u0) (c1 : w.cell? ⟨b, o + 1, none⟩ = some u1) (c2 : w.cell? ⟨b, o + 2, none⟩ = some u2) (c3 : w.cell? ⟨b, o + 3, none⟩ = some u3) (hW : Below w.heap.size w W) :
  (W.cell? ⟨g, 0, none⟩ = some a0 ∧ W.cell? ⟨g, 1, none⟩ = some a1 ∧ W.cell? ⟨g, 2, none⟩ = some a2 ∧ W.cell? ⟨g, 3, none⟩ = some a3 ∧ W.cell? ⟨g, 4, none⟩ = some a4 ∧ W.cell? ⟨g, 5, none⟩ = some a5 ∧ W.cell? ⟨g, 6, none⟩ = some a6) ∧ W.cell? ⟨b, o, none⟩ = some u0 ∧ W.cell? ⟨b, o + 1, none⟩ = some u1 ∧ W.cell? ⟨b, o + 2, none⟩ = some u2 ∧ W.cell? ⟨b, o + 3, none⟩ = some u3 :=
 ⟨seven (h.below hW), (hW.cell (p := ⟨b, o, none⟩) hb).trans c0, (hW.cell (p := ⟨b, o + 1, none⟩) hb).trans c1, (hW.cell (p := ⟨b, o + 2, none⟩) hb).trans c2, (hW.cell (p := ⟨b, o + 3, none⟩) hb).trans c3⟩
def RetRJ (s : PStyle) (bs : List PBundle) (ws : List PWorker) (xs : List PScan) (w : World) (e : Ending) (w' : World) : Prop := Below w.heap.size w w' ∧
 ((judgeErr s bs ws xs.length ≠ 0 ∧ e = .returned (.tuple #[.slice none 0 0, .int .i64 (judgeErr s bs ws xs.length)])) ∨
  (judgeErr s bs ws xs.length = 0 ∧ ∃ A c, e = .returned (.tuple #[.slice A xs.length c, .int .i64 0]) ∧ Sl w' w'.heap.size A xs.length (ints (judgeP s bs ws xs))))
theorem ints_add1 (ps : List Int) (p : Int) : ints (ps ++ [p]) = ints ps ++ [.int .i64 p] := by simp [ints]
set_option maxRecDepth 100000 in
set_option maxHeartbeats 12800000 in
theorem rJudge_any (F : FH) (s : PStyle) (bs : List PBundle) (ws : List PWorker) (X : Option Addr) (xc : Nat) (xs : List PScan) (w : World) (h : FloorA w s bs ws F) (hs : FloorS s ws) (hx : Recs 4 scanG w X xs.length xs) (hbn : F.n ≤ 1000) :
  Calls Tryz.prog 8 #[.agg #[.string s.name, .slice F.Z F.z F.zc, .slice F.M F.m F.mc, .slice F.P F.p F.pc, .slice F.U F.u F.uc, .slice F.E F.e F.ec, .slice F.O F.o F.oc], .slice F.L F.n F.c, .slice F.V F.k F.kc, .slice X xs.length xc] w (RetRJ s bs ws xs w) := by
 have HBX : Hid (Below w.heap.size w (w.alloc (.cells #[.string s.name, .slice F.Z F.z F.zc, .slice F.M F.m F.mc, .slice F.P F.p F.pc, .slice F.U F.u F.uc, .slice F.E F.e F.ec, .slice F.O F.o F.oc] 29))) := (Below.refl _ _).alloc (Nat.le_refl _) _
 have HX := Lib.hid (Blk.new w 29 #[.string s.name, .slice F.Z F.z F.zc, .slice F.M F.m F.mc, .slice F.P F.p F.pc, .slice F.U F.u F.uc, .slice F.E F.e F.ec, .slice F.O F.o F.oc])
 have h1 := h.on HBX.out
 have HC := Lib.hid (rscan_any s F.Z F.z F.zc F.M F.m F.mc F.P F.p F.pc F.U F.u F.uc F.E F.e F.ec F.O F.o F.oc _ h1.st hs.st F.L F.n F.c bs h1.bun F.V F.k F.kc ws h1.wor h1.wcap hs.wor)
 have HA := Lib.hid h
 have HSS := Lib.hid hs
 have HXS := Lib.hid hx
 obtain ⟨n, hn⟩ : ∃ n, xs.length = n := ⟨_, rfl⟩
 have HN := Lib.hid hn
 unfold RetRJ
 rw [hn] at HXS ⊢
 obtain ⟨Q, hQ⟩ : ∃ Q, scanE s bs ws = Q := ⟨_, rfl⟩
 rw [hQ] at HC
 have HQ := Lib.hid hQ
 clear h hs hx h1 hn hQ
 go_enter Tryz.func8, Tryz.ntmps8
 go_wp2_with fail
 refine HC.out.mono ?_
 rintro e1 w1 ⟨rfl, hb1⟩
 have HB1 := Lib.hid (HBX.out.trans (hb1.mono HBX.out.size))
 have HX1 := Lib.hid (HX.out.below hb1)
 clear hb1
 by_cases h0 : Q = 0
 rotate_left
 ·have HE := Lib.hid (jerr_bad (s := s) (bs := bs) (ws := ws) (n := n) (.inl (by rw [HQ.out]; exact h0)))
  have HE2 : Hid (judgeErr s bs ws n = Q) := by rw [Hid, HE.out.2, if_pos (by rw [HQ.out]; exact h0), HQ.out]
  have h0' : (Q != 0) = true := by simpa using h0
  clear h0
  go_wp2_with fail
  refine bodyPost_ret (results_tmp2 rfl _ _ _) rfl ?_
  exact ⟨HB1.out, .inl ⟨HE.out.1, by rw [HE2.out]; rfl⟩⟩
 subst h0
 by_cases h300 : 300 < n
 ·have HE := Lib.hid (jerr_bad (s := s) (bs := bs) (ws := ws) (n := n) (.inr h300))
  have HE2 : Hid (judgeErr s bs ws n = 5) := by rw [Hid, HE.out.2, if_neg (by simp [HQ.out])]
  go_wp2_with fail
  refine bodyPost_ret (results_tmp2 rfl _ _ _) rfl ?_
  exact ⟨HB1.out, .inl ⟨HE.out.1, by rw [HE2.out]; rfl⟩⟩
 have HE0 : Hid (judgeErr s bs ws n = 0) := jerr_ok HQ.out h300
 have HSZ1 := Lib.hid HB1.out.size
 go_wp2_with fail
 go_loopw [11, 12, 13, 14] (fun v p i _ wr => ∃ k : Nat, k ≤ n ∧ i = .int .i64 (k : Int) ∧ Hid (wr.ownsRow w1.heap.size 3 1 v k (ints (judgeP s bs ws (xs.take k)))) ∧ Hid (wr.ownsRow w1.heap.size 55 4 p (paidP s bs ws (xs.take k)).length ((paidP s bs ws (xs.take k)).flatMap sC)) ∧ Hid (Below w1.heap.size w1 wr)) (fun _ _ i _ _ => n - (intOf i).toNat)
 case atStart => exact ⟨0, Nat.zero_le _, rfl, (by rw [List.take_zero]; exact World.ownsRow_nil _ _ _ _), (by rw [List.take_zero]; exact World.ownsRow_nil _ _ _ _), Below.refl _ _⟩
 case round =>
  obtain ⟨k, hk, rfl, HO, HP, HB⟩ := hrel
  have HBV := Lib.hid (HB1.out.trans (HB.out.mono HB1.out.size))
  have HXV := Lib.hid (HX1.out.below HB.out)
  by_cases hlt : k < n
  ·obtain ⟨b, off, x, rfl, hbw, hx, c0, c1, c2, c3⟩ := scan_at HXS.out hlt
   have HJS := judge_snoc (s := s) (bs := bs) (ws := ws) hx
   have HPS := paid_snoc (s := s) (bs := bs) (ws := ws) hx
   have hpl : (paidP s bs ws (xs.take k)).length ≤ k := Nat.le_trans (paid_len _ _ _ _) (by rw [List.length_take]; omega)
   obtain ⟨ps, hps⟩ : ∃ l, paidP s bs ws (xs.take k) = l := ⟨_, rfl⟩
   obtain ⟨js, hjs⟩ : ∃ l, judgeP s bs ws (xs.take k) = l := ⟨_, rfl⟩
   rw [hps] at HP HPS HJS hpl
   rw [hjs] at HO HJS
   obtain ⟨A2, C2, hv2, hr2, hc2⟩ := own_scans HP.out rfl
   subst hv2
   obtain ⟨A1, C1, hv1⟩ := own_form HO.out
   subst hv1
   have HOU := fun W (hb : Below wr.heap.size wr W) => routcome_any F s bs ws A2 ps.length C2 ps x W (HA.out.on (HBV.out.trans (hb.mono HBV.out.size))) HSS.out (hr2.on scan_mono hb) (by omega) hbn
   obtain ⟨q, hq⟩ : ∃ q, outcomeP s bs ws ps x = q := ⟨_, rfl⟩
   rw [hq] at HJS HPS
   simp only [hq] at HOU
   have HJS := Lib.hid HJS
   have HPS := Lib.hid HPS
   have HOU := Lib.hid HOU
   have HCC := Lib.hid (And.intro hbw (And.intro c0 (And.intro c1 (And.intro c2 c3))))
   have hbl := Nat.lt_of_lt_of_le hbw HBV.out.size
   replace c0 := (HBV.out.cell (p := ⟨b, off + k * 4, none⟩) hbw).trans c0
   replace c1 := (HBV.out.cell (p := ⟨b, off + k * 4 + 1, none⟩) hbw).trans c1
   replace c2 := (HBV.out.cell (p := ⟨b, off + k * 4 + 2, none⟩) hbw).trans c2
   replace c3 := (HBV.out.cell (p := ⟨b, off + k * 4 + 3, none⟩) hbw).trans c3
   have HK := fun W => Lib.hid (fun (hb : Below wr.heap.size wr W) => seven_four (W := W) HXV.out hbl c0 c1 c2 c3 hb)
   have i1 : (0 : Int) ≤ (k : Int) := by omega
   have i2 : (k : Int) < (n : Int) := by omega
   have b3 : k + 1 ≤ maxLen := by unfold maxLen; omega
   have b4 : (k + 1) * 8 ≤ 140737488355328 := by omega
   have b5 : ps.length + 1 ≤ maxLen := by unfold maxLen; omega
   have b6 : (ps.length + 1) * 32 ≤ 140737488355328 := by omega
   have hu := Below.refl wr.heap.size wr
   clear hx hps hjs hr2 hc2 hq hpl c0 c1 c2 c3
   go_wp2_with fail
   obtain ⟨⟨x0, x1, x2, x3, x4, x5, x6⟩, c0, c1, c2, c3⟩ := (HK _).out hu
   go_region_held3 (fun w' => (w'.cell? ⟨w.heap.size, 0, none⟩ = some (.string s.name) ∧ w'.cell? ⟨w.heap.size, 1, none⟩ = some (.slice F.Z F.z F.zc) ∧ w'.cell? ⟨w.heap.size, 2, none⟩ = some (.slice F.M F.m F.mc) ∧ w'.cell? ⟨w.heap.size, 3, none⟩ = some (.slice F.P F.p F.pc) ∧ w'.cell? ⟨w.heap.size, 4, none⟩ = some (.slice F.U F.u F.uc) ∧ w'.cell? ⟨w.heap.size, 5, none⟩ = some (.slice F.E F.e F.ec) ∧ w'.cell? ⟨w.heap.size, 6, none⟩ = some (.slice F.O F.o F.oc)) ∧ w'.cell? ⟨b, off + k * 4, none⟩ = some (.int .i64 x.ticket) ∧ w'.cell? ⟨b, off + k * 4 + 1, none⟩ = some (.int .i64 x.op) ∧ w'.cell? ⟨b, off + k * 4 + 2, none⟩ = some (.int .i64 x.worker) ∧ w'.cell? ⟨b, off + k * 4 + 3, none⟩ = some (.int .i64 x.at_))
    ((refine (HK _).out ?_; repeat (first | (with_reducible exact Below.refl _ _) | (with_reducible exact hu) | (with_reducible refine Below.drew ?_))))
    ((go_at_call 24; go_must ((refine (HOU.out _ (by repeat (first | (with_reducible exact Below.refl _ _) | (with_reducible refine Below.drew ?_)))).mono ?_); rintro e w6 ⟨rfl, hv⟩; replace hu := below_then hu hv; clear hv)))
   clear x0 x1 x2 x3 x4 x5 x6 c0 c1 c2 c3
   obtain ⟨w6, hw6⟩ : ∃ v : World, Below wr.heap.size wr v := ⟨_, hu⟩
   clear hw6 w6
   have HU := Lib.hid hu
   have HB6 := Lib.hid (HB.out.trans (hu.mono HB.out.size))
   have HO6 := Lib.hid (own_below HO.out (below_then hu ((Below.refl _ _).alloc (Nat.le_refl _) (.cells #[.int .i64 q] 3))))
   have HP6 := Lib.hid (own_below HP.out (below_then hu ((Below.refl _ _).alloc (Nat.le_refl _) (.cells #[.int .i64 q] 3))))
   have HB6a := Lib.hid (HB.out.trans ((below_then hu ((Below.refl _ _).alloc (Nat.le_refl _) (.cells #[.int .i64 q] 3))).mono HB.out.size))
   clear hu
   by_cases hq1 : q = 1
   ·subst hq1
    rw [if_pos rfl] at HPS
    go_wp2_with (first
     | (at_builtin; refine wpl_own (P := Tryz.prog) (by rfl) _ _ 23 (by rfl) w1.heap.size 3 (.int .i64 0) 1 8 Tryz.underlying23 int_info rfl (by decide) (.slice A1 k C1) k (ints js) (by rfl) HO6.out _ 1 1 [.int .i64 1] (by rfl) (by rfl) (new_int _ 1) (int_one 1) b3 b4 HB6a.out.size ?_; intro v7 w7 ho7 hg7 hn7; have HB7 := Lib.hid (below_own HB6a.out hg7 HB6a.out.size (fun g e => (HO6.out.lt g e).1)); have HO7 := Lib.hid ho7; have HP7 := Lib.hid (rkinds HO6.out HP6.out (by decide) hg7); have HB7V := Lib.hid (HB1.out.trans (HB7.out.mono HB1.out.size)); have c0 := (HB7V.out.cell (p := ⟨b, off + k * 4, none⟩) HCC.out.1).trans HCC.out.2.1; have c1 := (HB7V.out.cell (p := ⟨b, off + k * 4 + 1, none⟩) HCC.out.1).trans HCC.out.2.2.1; have c2 := (HB7V.out.cell (p := ⟨b, off + k * 4 + 2, none⟩) HCC.out.1).trans HCC.out.2.2.2.1; have c3 := (HB7V.out.cell (p := ⟨b, off + k * 4 + 3, none⟩) HCC.out.1).trans HCC.out.2.2.2.2; have hbl7 := Nat.lt_of_lt_of_le HCC.out.1 HB7V.out.size; clear ho7 hg7 hn7)
     | (at_builtin; refine wpl_own (P := Tryz.prog) (by rfl) _ _ 34 (by rfl) w1.heap.size 55 (.agg #[.int .i64 0, .int .i64 0, .int .i64 0, .int .i64 0]) 4 32 Tryz.underlying34 scan_info rfl (by decide) (.slice A2 ps.length C2) ps.length (ps.flatMap sC) (by rfl) (own_below HP7.out ((Below.refl _ _).alloc (Nat.le_refl _) _)) _ 1 1 (sC x) (by rfl) (by rfl) (new_scan w7 x _) (sC_one x) b5 b6 (Nat.le_trans HB7.out.size (by simp)) ?_; intro v8 w8 ho8 hg8 hn8))
    go_roundw
    case rel =>
     have hbe8 := below_own (HB7.out.alloc HB7.out.size _) hg8 (Nat.le_trans HB7.out.size (by simp)) (fun g e => (HP7.out.lt g e).1)
     refine ⟨k + 1, by omega, by go_num, ?_, ?_, hbe8⟩
     ·rw [HJS.out, ints_add1]
      exact rkinds (own_below HP7.out ((Below.refl _ _).alloc (Nat.le_refl _) _)) (own_below HO7.out ((Below.refl _ _).alloc (Nat.le_refl _) _)) (by decide) hg8
     ·rw [HPS.out, List.length_append, List.flatMap_append]
      refine Lib.hid ?_
      simpa using ho8
    case measure => simp [intOf]; omega
   ·have hq1' : (q == 1) = false := by simpa using hq1
    rw [if_neg hq1] at HPS
    clear hq1
    go_wp2_with (at_builtin; refine wpl_own (P := Tryz.prog) (by rfl) _ _ 23 (by rfl) w1.heap.size 3 (.int .i64 0) 1 8 Tryz.underlying23 int_info rfl (by decide) (.slice A1 k C1) k (ints js) (by rfl) HO6.out _ 1 1 [.int .i64 q] (by rfl) (by rfl) (new_int _ q) (int_one q) b3 b4 HB6a.out.size ?_; intro v7 w7 ho7 hg7 hn7)
    go_roundw
    case rel =>
     refine ⟨k + 1, by omega, by go_num, ?_, ?_, below_own HB6a.out hg7 HB6a.out.size (fun g e => (HO6.out.lt g e).1)⟩
     ·rw [HJS.out, ints_add1]
      exact ho7
     ·rw [HPS.out]
      exact rkinds HO6.out HP6.out (by decide) hg7
    case measure => simp [intOf]; omega
  ·obtain rfl : n = k := by omega
   have HE : Hid (judgeP s bs ws (xs.take n) = judgeP s bs ws xs) := by rw [Hid, List.take_of_length_le (by rw [HN.out]; exact Nat.le_refl _)]
   rw [HE.out] at HO
   obtain ⟨A1, C1, hv1⟩ := own_form HO.out
   subst hv1
   have HSL := Lib.hid (Sl.of_own HO.out)
   go_wp2_with fail
   refine bodyPost_ret (results_tmp2 rfl _ _ _) rfl ?_
   exact ⟨HBV.out, .inr ⟨HE0.out, A1, C1, rfl, HSL.out⟩⟩
set_option maxRecDepth 100000 in
set_option maxHeartbeats 12800000 in
theorem rPaid_any (F : FH) (s : PStyle) (bs : List PBundle) (ws : List PWorker) (X : Option Addr) (xc : Nat) (xs : List PScan) (w : World) (h : FloorA w s bs ws F) (hs : FloorS s ws) (hx : Recs 4 scanG w X xs.length xs) (hbn : F.n ≤ 1000) :
  Calls Tryz.prog 10 #[.agg #[.string s.name, .slice F.Z F.z F.zc, .slice F.M F.m F.mc, .slice F.P F.p F.pc, .slice F.U F.u F.uc, .slice F.E F.e F.ec, .slice F.O F.o F.oc], .slice F.L F.n F.c, .slice F.V F.k F.kc, .slice X xs.length xc] w (RetPa s bs ws xs w) := by
 have HBX : Hid (Below w.heap.size w (w.alloc (.cells #[.string s.name, .slice F.Z F.z F.zc, .slice F.M F.m F.mc, .slice F.P F.p F.pc, .slice F.U F.u F.uc, .slice F.E F.e F.ec, .slice F.O F.o F.oc] 29))) := (Below.refl _ _).alloc (Nat.le_refl _) _
 have HJ := Lib.hid (rJudge_any F s bs ws X xc xs _ (h.on HBX.out) hs (hx.on scan_mono HBX.out) hbn)
 have HXS := Lib.hid hx
 obtain ⟨n, hn⟩ : ∃ n, xs.length = n := ⟨_, rfl⟩
 have HN := Lib.hid hn
 unfold RetRJ at HJ
 unfold RetPa
 rw [hn] at HJ HXS ⊢
 obtain ⟨R, hR⟩ : ∃ R, judgeErr s bs ws n = R := ⟨_, rfl⟩
 rw [hR] at HJ ⊢
 have HR := Lib.hid hR
 clear h hs hx hn hR
 go_enter Tryz.func10, Tryz.ntmps10
 go_wp2_with fail
 refine HJ.out.mono ?_
 rintro e1 w1 ⟨hb1, ⟨hne, rfl⟩ | ⟨hz, A7, c7, rfl, hsl⟩⟩
 ·have HB1 := Lib.hid (HBX.out.trans (hb1.mono HBX.out.size))
  have hne' : (R != 0) = true := by simpa using hne
  have HNE := Lib.hid hne
  clear hb1 hne
  go_wp2_with fail
  refine bodyPost_ret (results_tmp2 rfl _ _ _) rfl ?_
  exact ⟨HB1.out, .inl ⟨HNE.out, rfl⟩⟩
 ·subst hz
  have HB1 := Lib.hid (HBX.out.trans (hb1.mono HBX.out.size))
  have HSL := Lib.hid hsl
  obtain ⟨z1, z2⟩ := jerr_zero HR.out
  have HBW := Lib.hid HB1.out.size
  clear hb1 hsl z1
  go_wp2_with fail
  go_loopw [12, 13] (fun v i wr => ∃ k : Nat, k ≤ n ∧ i = .int .i64 (k : Int) ∧ Hid (wr.ownsRow w1.heap.size 55 4 v (paidP s bs ws (xs.take k)).length ((paidP s bs ws (xs.take k)).flatMap sC)) ∧ Hid (Below w1.heap.size w1 wr)) (fun _ i _ => n - (intOf i).toNat)
  case atStart => exact ⟨0, Nat.zero_le _, rfl, (by rw [List.take_zero]; exact World.ownsRow_nil _ _ _ _), Below.refl _ _⟩
  case round =>
   obtain ⟨k, hk, rfl, HO, HB⟩ := hrel
   obtain ⟨ps, hps⟩ : ∃ l, paidP s bs ws (xs.take k) = l := ⟨_, rfl⟩
   rw [hps] at HO
   obtain ⟨A1, C1, rfl⟩ := own_form HO.out
   have HPK := Lib.hid hps
   have HBV := Lib.hid (HB1.out.trans (HB.out.mono HB1.out.size))
   by_cases hlt : k < n
   ·obtain ⟨b, off, x, rfl, hbw, hx, c0, c1, c2, c3⟩ := scan_at HXS.out hlt
    replace c0 := (HBV.out.cell (p := ⟨b, off + k * 4, none⟩) hbw).trans c0
    replace c1 := (HBV.out.cell (p := ⟨b, off + k * 4 + 1, none⟩) hbw).trans c1
    replace c2 := (HBV.out.cell (p := ⟨b, off + k * 4 + 2, none⟩) hbw).trans c2
    replace c3 := (HBV.out.cell (p := ⟨b, off + k * 4 + 3, none⟩) hbw).trans c3
    have hja := judge_at (s := s) (bs := bs) (ws := ws) hx
    have HPS := Lib.hid (paid_snoc (s := s) (bs := bs) (ws := ws) hx)
    obtain ⟨b2, off2, Q, rfl, hbw2, hQ, d0⟩ := (HSL.out.on HB.out).int_ hlt
    rw [hja] at hQ
    have hQ := Option.some.inj hQ
    rw [hps] at HPS hQ
    have hpl : ps.length ≤ k := by rw [← hps]; exact Nat.le_trans (paid_len _ _ _ _) (by rw [List.length_take]; omega)
    rw [hQ] at HPS
    have hbl := HB.out.size
    have i1 : (0 : Int) ≤ (k : Int) := by omega
    have i2 : (k : Int) < (n : Int) := by omega
    clear hx hja hps hQ
    by_cases hq1 : Q = 1
    ·subst hq1
     have HBA : Hid (Below wr.heap.size wr (wr.alloc (.cells #[.int .i64 x.ticket, .int .i64 x.op, .int .i64 x.worker, .int .i64 x.at_] 55))) := (Below.refl _ _).alloc (Nat.le_refl _) _
     have HO2 := Lib.hid (own_below HO.out HBA.out)
     have HBZ : Hid (w1.heap.size ≤ (wr.alloc (.cells #[.int .i64 x.ticket, .int .i64 x.op, .int .i64 x.worker, .int .i64 x.at_] 55)).heap.size) := Nat.le_trans hbl HBA.out.size
     have b3' : ps.length + 1 ≤ maxLen := by unfold maxLen; omega
     have b4' : (ps.length + 1) * 32 ≤ 140737488355328 := by omega
     rw [if_pos rfl] at HPS
     go_wp2_with (at_builtin; refine wpl_own (P := Tryz.prog) (by rfl) _ _ 34 (by rfl) w1.heap.size 55 (.agg #[.int .i64 0, .int .i64 0, .int .i64 0, .int .i64 0]) 4 32 Tryz.underlying34 scan_info rfl (by decide) (.slice A1 ps.length C1) ps.length (ps.flatMap sC) (by rfl) HO2.out ⟨wr.heap.size, 0, none⟩ 1 1 (sC x) (by rfl) (by rfl) (new_scan wr x _) (sC_one x) b3' b4' HBZ.out ?_; intro v7 w7 ho7 hg7 hn7)
     go_roundw
     case rel =>
      refine ⟨k + 1, by omega, by go_num, ?_, below_own (HB.out.trans (HBA.out.mono HB.out.size)) hg7 HBZ.out (fun g e => (HO.out.lt g e).1)⟩
      rw [HPS.out, List.length_append, List.flatMap_append]
      refine Lib.hid ?_
      simpa using ho7
     case measure => simp [intOf]; omega
    ·have hq1' : (Q == 1) = false := by simpa using hq1
     rw [if_neg hq1] at HPS
     clear hq1
     go_wp2_with fail
     go_roundw
     case rel =>
      refine ⟨k + 1, by omega, by go_num, ?_, HB⟩
      rw [HPS.out]
      exact HO
     case measure => simp [intOf]; omega
   ·obtain rfl : n = k := by omega
    have HE : Hid (paidP s bs ws xs = ps) := by rw [Hid, ← HPK.out, ← HN.out, List.take_length]
    obtain ⟨A, c, hA, hr, hc⟩ := own_scans HO.out rfl
    injection hA with hA _ hC
    subst hA
    subst hC
    have HRR := Lib.hid (And.intro hr hc)
    clear hr hc hps
    go_wp2_with fail
    refine bodyPost_ret (results_tmp2 rfl _ _ _) rfl ?_
    rw [HE.out]
    exact ⟨HBV.out, A1, C1, rfl, HRR.out.1, HRR.out.2⟩
set_option maxRecDepth 100000 in
set_option maxHeartbeats 12800000 in
theorem rOpen_any (F : FH) (s : PStyle) (bs : List PBundle) (ws : List PWorker) (X : Option Addr) (xc : Nat) (xs : List PScan) (t : Int) (w : World) (h : FloorA w s bs ws F) (hs : FloorS s ws) (hx : Recs 4 scanG w X xs.length xs) (hbn : F.n ≤ 1000) :
  Calls Tryz.prog 14 #[.agg #[.string s.name, .slice F.Z F.z F.zc, .slice F.M F.m F.mc, .slice F.P F.p F.pc, .slice F.U F.u F.uc, .slice F.E F.e F.ec, .slice F.O F.o F.oc], .slice F.L F.n F.c, .slice F.V F.k F.kc, .slice X xs.length xc, .int .i64 t] w (RetOp s bs ws xs t w) := by
 have HBX : Hid (Below w.heap.size w (w.alloc (.cells #[.string s.name, .slice F.Z F.z F.zc, .slice F.M F.m F.mc, .slice F.P F.p F.pc, .slice F.U F.u F.uc, .slice F.E F.e F.ec, .slice F.O F.o F.oc] 29))) := (Below.refl _ _).alloc (Nat.le_refl _) _
 have HX0 := Lib.hid (Blk.new w 29 #[.string s.name, .slice F.Z F.z F.zc, .slice F.M F.m F.mc, .slice F.P F.p F.pc, .slice F.U F.u F.uc, .slice F.E F.e F.ec, .slice F.O F.o F.oc])
 have HJ := Lib.hid (rPaid_any F s bs ws X xc xs _ (h.on HBX.out) hs (hx.on scan_mono HBX.out) hbn)
 have hBU := fun W (hb : Below w.heap.size w W) => rbundle_any F.L F.n F.c F.n bs t W (h.bun.on bundle_mono hb) (Nat.le_refl _) (by omega)
 rw [List.take_of_length_le (by rw [h.bun.len]; exact Nat.le_refl _)] at hBU
 have HOL := Lib.hid h.st.ops.len
 have HPL := Lib.hid (paid_len s bs ws xs)
 unfold RetPa at HJ
 unfold RetOp
 obtain ⟨n, hn⟩ : ∃ n, xs.length = n := ⟨_, rfl⟩
 rw [hn] at HJ HPL ⊢
 obtain ⟨R, hR⟩ : ∃ R, judgeErr s bs ws n = R := ⟨_, rfl⟩
 rw [hR] at HJ
 have HR := Lib.hid hR
 obtain ⟨ps, hps⟩ : ∃ l, paidP s bs ws xs = l := ⟨_, rfl⟩
 rw [hps] at HJ HPL
 have HPS := Lib.hid hps
 obtain ⟨bu, hbu⟩ : ∃ b, decide (t ∈ bs.map (·.ticket)) = b := ⟨_, rfl⟩
 simp only [hbu] at hBU
 have HBU := Lib.hid hBU
 have HTT := Lib.hid hbu
 clear h hs hx hn hR hps hBU hbu
 go_enter Tryz.func14, Tryz.ntmps14
 go_wp2_with fail
 refine HJ.out.mono ?_
 rintro e1 w1 ⟨hb1, ⟨hne, rfl⟩ | ⟨hz, A7, c7, rfl, hrp, hcp⟩⟩
 ·have HB1 := Lib.hid (HBX.out.trans (hb1.mono HBX.out.size))
  have hne' : (R != 0) = true := by simpa using hne
  have HE : Hid (openErr s bs ws n t = R ∧ R ≠ 0) := ⟨by rw [oerr_bad (by rw [HR.out]; exact hne), HR.out], hne⟩
  clear hb1 hne
  go_wp2_with fail
  refine bodyPost_ret (results_tmp2 rfl _ _ _) rfl ?_
  exact ⟨HB1.out, .inl ⟨by rw [HE.out.1]; exact HE.out.2, by rw [HE.out.1]; rfl⟩⟩
 ·subst hz
  have HB1 := Lib.hid (HBX.out.trans (hb1.mono HBX.out.size))
  have HX1 := Lib.hid (HX0.out.below hb1)
  obtain ⟨z1, z2⟩ := jerr_zero HR.out
  have o16 : F.o ≤ 16 := by rw [← HOL.out]; exact (ops_idx z1).1
  have hpl : ps.length ≤ 300 := Nat.le_trans HPL.out z2
  have HRP := Lib.hid hrp
  clear hb1 hrp hcp z1
  cases bu
  ·have HOE : Hid (openErr s bs ws n t = 6) := oerr_no HR.out (of_decide_eq_false HTT.out)
   go_wp2_with (go_at_call 27; refine (HBU.out _ HB1.out).mono ?_; rintro e w2 ⟨rfl, rfl⟩)
   refine bodyPost_ret (results_tmp2 rfl _ _ _) rfl ?_
   exact ⟨HB1.out, .inl ⟨by rw [HOE.out]; decide, by rw [HOE.out]; rfl⟩⟩
  have HOE : Hid (openErr s bs ws n t = 0) := oerr_ok HR.out (of_decide_eq_true HTT.out)
  go_wp2_with (go_at_call 27; refine (HBU.out _ HB1.out).mono ?_; rintro e w2 ⟨rfl, rfl⟩)
  go_loopw [14, 15] (fun v i wr => ∃ k : Nat, k ≤ F.o ∧ i = .int .i64 (k : Int) ∧ Hid (wr.ownsRow w1.heap.size 3 1 v (openTo ps t k).length (ints (openTo ps t k))) ∧ Hid (Below w1.heap.size w1 wr)) (fun _ i _ => F.o - (intOf i).toNat)
  case atStart => exact ⟨0, Nat.zero_le _, rfl, World.ownsRow_nil _ _ _ _, Below.refl _ _⟩
  case round =>
   obtain ⟨k, hk, rfl, HO, HB⟩ := hrel
   have HBV := Lib.hid (HB1.out.trans (HB.out.mono HB1.out.size))
   have HXV := Lib.hid (HX1.out.below HB.out)
   have x6 := HXV.out.c (i := 6) rfl
   have hxl := HXV.out.lt
   obtain ⟨os, hos⟩ : ∃ l, openTo ps t k = l := ⟨_, rfl⟩
   rw [hos] at HO
   obtain ⟨A1, C1, rfl⟩ := own_form HO.out
   have HOK := Lib.hid hos
   have hol : os.length ≤ k := by rw [← hos]; exact openTo_len _ _ _
   by_cases hlt : k < F.o
   ·have hDN := rdone_any A7 ps.length c7 ps t (k : Int) wr (HRP.out.on scan_mono HB.out) (by omega)
    obtain ⟨D, hD⟩ : ∃ D, doneB ps t (k : Int) = D := ⟨_, rfl⟩
    rw [hD] at hDN
    have HDN := Lib.hid hDN
    have HDD := Lib.hid hD
    have j1 : (0 : Int) ≤ (k : Int) := by omega
    have j3 : (k : Int) < (F.o : Int) := by omega
    have hbl := HB.out.size
    clear hos hD hDN
    cases D
    ·have HBX2 : Hid (Below wr.heap.size wr (wr.alloc (.cells #[.int .i64 (k : Int)] 3))) := (Below.refl _ _).alloc (Nat.le_refl _) _
     have HO2 := Lib.hid (own_below HO.out HBX2.out)
     have HBZ : Hid (w1.heap.size ≤ (wr.alloc (.cells #[.int .i64 (k : Int)] 3)).heap.size) := Nat.le_trans hbl HBX2.out.size
     have b3' : os.length + 1 ≤ maxLen := by unfold maxLen; omega
     have b4' : (os.length + 1) * 8 ≤ 140737488355328 := by omega
     go_wp2_with (first | (go_at_call 28; refine HDN.out.mono ?_; rintro e w3 ⟨rfl, rfl⟩) | (at_builtin; refine wpl_own (P := Tryz.prog) (by rfl) _ _ 23 (by rfl) w1.heap.size 3 (.int .i64 0) 1 8 Tryz.underlying23 int_info rfl (by decide) (.slice A1 os.length C1) os.length (ints os) (by rfl) HO2.out ⟨wr.heap.size, 0, none⟩ 1 1 [.int .i64 (k : Int)] (by rfl) (by rfl) (new_int wr (k : Int)) (int_one (k : Int)) b3' b4' HBZ.out ?_; intro v7 w7 ho7 hg7 hn7))
     go_roundw
     case rel =>
      refine ⟨k + 1, by omega, by go_num, ?_, below_own (HB.out.trans (HBX2.out.mono HB.out.size)) hg7 HBZ.out (fun g e => (HO.out.lt g e).1)⟩
      rw [openTo_no HDD.out, HOK.out, List.length_append]
      refine Lib.hid ?_
      simpa [ints] using ho7
     case measure => simp [intOf]; omega
    ·go_wp2_with (go_at_call 28; refine HDN.out.mono ?_; rintro e w3 ⟨rfl, rfl⟩)
     go_roundw
     case rel =>
      refine ⟨k + 1, by omega, by go_num, ?_, HB⟩
      rw [openTo_yes HDD.out, HOK.out]
      exact HO
     case measure => simp [intOf]; omega
   ·obtain rfl : F.o = k := by omega
    have HE : Hid (openP s bs ws xs t = os) := by rw [Hid, ← openTo_all, HOL.out, HPS.out]; exact HOK.out
    have HSL := Lib.hid (Sl.of_own HO.out)
    clear hos
    go_wp2_with fail
    refine bodyPost_ret (results_tmp2 rfl _ _ _) rfl ?_
    rw [HE.out]
    exact ⟨HBV.out, .inr ⟨HOE.out, A1, C1, rfl, HSL.out⟩⟩
end
end Go.Proofs.YtiibocdmlfedkaaGreatDoor
