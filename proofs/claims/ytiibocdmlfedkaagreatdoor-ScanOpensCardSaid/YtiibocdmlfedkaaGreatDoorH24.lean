/- Parts of the proof. -/
import Derived.Test.YtiibocdmlfedkaaGreatDoorH09
import Derived.Test.YtiibocdmlfedkaaGreatDoorH23
namespace Go.Proofs.YtiibocdmlfedkaaGreatDoor
section
open Go.RowKit
open Go.Lib hiding intOf
theorem lname_any (s : ByteArray) (w : World) (hs : s.size ≤ 9223372036854775807) :
  Calls Tryz.prog 159 #[.string s] w fun e w' => e = .returned (.bool (nameOk s.data.toList)) ∧ Below w.heap.size w w' := by
 have HN := fun W => Check_name s W hs
 unfold nameNode at HN
 cases hn : nameOk s.data.toList
 all_goals
  simp only [hn] at HN
  have HN := Lib.hid HN
  clear hn
  go_enter Tryz.func159, Tryz.ntmps159
  go_wp2_with (go_at_call 54; refine (HN.out _).mono ?_; rintro e w' ⟨rfl, hb⟩)
  go_ret
  exact ⟨rfl, hb⟩
theorem sname_any (s : ByteArray) (w : World) (hs : s.size ≤ 9223372036854775807) :
  Calls Tryz.prog 107 #[.string s] w fun e w' => e = .returned (.bool (nameOk s.data.toList)) ∧ Below w.heap.size w w' := by
 have HN := fun W => Check_name s W hs
 unfold nameNode at HN
 cases hn : nameOk s.data.toList
 all_goals
  simp only [hn] at HN
  have HN := Lib.hid HN
  clear hn
  go_enter Tryz.func107, Tryz.ntmps107
  go_wp2_with (go_at_call 54; refine (HN.out _).mono ?_; rintro e w' ⟨rfl, hb⟩)
  go_ret
  exact ⟨rfl, hb⟩
def spC (p : Pt) : List Value := [.int .i64 p.1, .int .i64 p.2]
theorem spC_len (p : Pt) : (spC p).length = 2 := rfl
theorem spot_info : (Tryz.prog.info? 74).map (fun i => (i.zero, i.size, i.bytes)) = some (some (.agg #[.int .i64 0, .int .i64 0]), 2, 16) := by kernel_rfl
def RetSp (ps : List Pt) (w : World) (e : Ending) (w' : World) : Prop := ∃ A n c, e = .returned (.slice A n c) ∧ Recs 2 spotG w' A n ps ∧ n ≤ c ∧ Below w.heap.size w w'
theorem recs_flat {w : World} {A : Option Addr} {n : Nat} {ps : List Pt} (h : Recs 2 spotG w A n ps) (h0 : 0 < n) : ∃ b off, A = some ⟨b, off, none⟩ ∧ b < w.heap.size ∧ ∀ j u, (ps.flatMap spC)[j]? = some u → w.cell? ⟨b, off + j, none⟩ = some u := by
 obtain ⟨b, off, e, hlt, hc⟩ := h.2 h0
 refine ⟨b, off, e, hlt, fun j u hu => ?_⟩
 have hjl := (List.getElem?_eq_some_iff.1 hu).1
 rw [flat_len spC_len] at hjl
 have hp : ps[j / 2]? = some (ps[j / 2]'(by omega)) := List.getElem?_eq_getElem (by omega)
 obtain ⟨vs, hg, hv⟩ := hc _ _ hp
 have hsp : spC (ps[j / 2]'(by omega)) = vs := hg.symm
 have hlen : j % 2 < (spC (ps[j / 2]'(by omega))).length := by rw [spC_len]; omega
 have := flat_at spC_len hp (j % 2) _ (List.getElem?_eq_getElem hlen)
 rw [show j / 2 * 2 + j % 2 = j by omega, hu] at this
 have hv2 := hv (j % 2) u (by rw [← hsp, List.getElem?_eq_getElem hlen]; exact this.symm)
 rw [show off + j = off + j / 2 * 2 + j % 2 by omega]
 exact hv2
set_option maxRecDepth 100000 in
set_option maxHeartbeats 3200000 in
theorem vertices_any (A : Option Addr) (n c : Nat) (l : List PEdge) (w : World) (ha : Recs 2 edgeG w A n l) (hn : n ≤ 1000) (hl : ∀ e ∈ l, 2 ≤ e.line.length ∧ e.line.length ≤ 1000) :
  Calls Tryz.prog 162 #[.slice A n c] w (RetSp (verticesP l) w) := by
 have HA := Lib.hid ha
 have HL := Lib.hid ha.len
 have HG := Lib.hid hl
 clear ha hl
 go_enter Tryz.func162, Tryz.ntmps162
 go_wp2
 go_loopw [3, 8] (fun v i wr => ∃ k m : Nat, k ≤ n ∧ i = .int .i64 (k : Int) ∧ m ≤ k * 1000 ∧ m = (verticesP (l.take k)).length ∧ wr.ownsRow w.heap.size 74 2 v m ((verticesP (l.take k)).flatMap spC) ∧ Below w.heap.size w wr) (fun _ i _ => n - (intOf i).toNat)
 case atStart => exact ⟨0, 0, Nat.zero_le _, rfl, by omega, rfl, World.ownsRow_nil _ _ _ _, Below.refl _ _⟩
 case round =>
  obtain ⟨k, m, hk, rfl, hm, hme, hown, hbel⟩ := hrel
  have HB := Lib.hid hbel
  have HM := Lib.hid hme
  by_cases hlt : k < n
  ·obtain ⟨b, off, x, B, ln, lc, rfl, hbw, hx, c0, c1, hline, hlc⟩ := edge_at (HA.out.on edge_mono hbel) hlt
   have HX := Lib.hid hx
   have hll := hline.len
   obtain ⟨g1, g2⟩ := HG.out x (List.mem_of_getElem? hx)
   rw [hll] at g1 g2
   have HN := Lib.hid (show x.line.dropLast.length = ln - 1 by rw [List.length_dropLast, hll])
   have hbox : Below wr.heap.size wr (wr.alloc (.cells #[.string x.name, .slice B ln lc] 76)) := (Below.refl _ _).alloc (Nat.le_refl _) _
   have hsub : Recs 2 spotG wr B (ln - 1) x.line.dropLast := by
    have := hline.take (i := ln - 1) (by omega)
    rw [List.dropLast_eq_take, hll]
    exact this
   obtain ⟨b2, off2, rfl, hb2, hcell⟩ := recs_flat hsub (by omega)
   have HV := Lib.hid (verts_take hx)
   have HO := Lib.hid (own_below hown hbox)
   have HC := Lib.hid (fun j u hu => (hbox.cell (p := ⟨b2, off2 + j, none⟩) hb2).trans (hcell j u hu))
   have HBX := Lib.hid hbox
   have HHL := Lib.hid hll
   have i1 : (0 : Int) ≤ (k : Int) := by omega
   have i2 : (k : Int) < (n : Int) := by omega
   have i3 : (ln : Int) - 1 ≤ (lc : Int) := by omega
   have i4 : (0 : Int) ≤ (ln : Int) - 1 := by omega
   have i5 : ((ln : Int) - 1).toNat = ln - 1 := by omega
   have hsz := hbel.size
   clear hx hline hll hsub hcell hown hbel hme hbox
   go_wp2_with (at_builtin; refine wpl_own (by rfl) _ _ 65 (by rfl) w.heap.size 74 (.agg #[.int .i64 0, .int .i64 0]) 2 16 Tryz.underlying65 spot_info (by rfl) (by decide) _ m _ (by rfl) HO.out ⟨b2, off2, none⟩ (ln - 1) lc (x.line.dropLast.flatMap spC) (by rfl) (by rw [flat_len spC_len, HN.out]) (fun j u hu => by rw [Go.WideShapes.add_plain]; exact HC.out j u hu) (fun u hu => by obtain ⟨p, _, hp⟩ := List.mem_flatMap.1 hu; simp only [spC, List.mem_cons, List.not_mem_nil, or_false] at hp; rcases hp with rfl | rfl <;> rfl) (by unfold maxLen; omega) (by omega) (by simp; omega) ?_; intro v1 w1 ho1 hg1 hn1)
   go_roundw
   case rel =>
    refine ⟨k + 1, m + (ln - 1), by omega, by go_num, by omega, by rw [HV.out, List.length_append, ← HM.out, HN.out], ?_, below_own (HB.out.trans (HBX.out.mono HB.out.size)) hg1 (by simp; omega) (fun g e => (HO.out.lt g e).1)⟩
    rw [HV.out, List.flatMap_append]
    exact ho1
   case measure => simp [intOf]; omega
  ·obtain rfl : n = k := by omega
   rw [List.take_of_length_le (by rw [HL.out]; exact Nat.le_refl _)] at hown hme
   obtain ⟨B, d, rfl, hr, hd⟩ := own_recs (G := spotG) (g := fun p => p) spC_len hown hme.symm (fun t _ => rfl)
   rw [List.map_id'] at hr
   have HR := Lib.hid hr
   clear hr hown hbel hme
   go_wp2
   go_ret
   exact ⟨B, m, d, rfl, HR.out, hd, HB.out⟩
theorem verts_len : ∀ (l : List PEdge), (∀ e ∈ l, e.line.length ≤ 40) → (verticesP l).length ≤ l.length * 40
 | [], _ => by simp [verticesP]
 | e :: l, h => by
  have h1 := h e List.mem_cons_self
  have ih := verts_len l fun x hx => h x (List.mem_cons_of_mem _ hx)
  unfold verticesP at ih ⊢
  rw [List.flatMap_cons, List.length_append, List.length_dropLast, List.length_cons]
  omega
structure EdgesS (l : List PEdge) : Prop where
 len : l.length ≤ 1000
 ed : ∀ e ∈ l, e.name.size ≤ 1000 ∧ e.line.length ≤ 1000
theorem join_yes {l : List PEdge} {i m : Nat} {x y : PEdge} {p q : Pt} (hx : l[i]? = some x) (hm : (i + 1) % l.length = m) (hy : l[m]? = some y) (hp : x.line.getLast? = some p) (hq : y.line.head? = some q) : joinAt l i = decide (p = q) := by
 unfold joinAt
 rw [hm, List.getD_eq_getElem?_getD, List.getD_eq_getElem?_getD, hx, hy]
 simp only [Option.getD_some]
 refine decide_eq_decide.2 ?_
 rw [hp, hq]
 exact ⟨Option.some.inj, congrArg some⟩
end
section
open Go.RowKit
open Go.Lib hiding intOf
theorem edge_same {w : World} {A : Option Addr} {n b off : Nat} {l : List PEdge} (h : Recs 2 edgeG w A n l) (e : A = some ⟨b, off, none⟩) {j : Nat} (hj : j < n) : ∃ x B m d, l[j]? = some x ∧ w.cell? ⟨b, off + j * 2, none⟩ = some (.string x.name) ∧ w.cell? ⟨b, off + j * 2 + 1, none⟩ = some (.slice B m d) ∧ Recs 2 spotG w B m x.line ∧ m ≤ d := by
 obtain ⟨b', off', x, B, m, d, e', _, h1, h2, h3, h4, h5⟩ := edge_at h hj
 rw [e] at e'
 injection e' with e'
 injection e' with e1 e2
 subst e1
 subst e2
 exact ⟨x, B, m, d, h1, h2, h3, h4, h5⟩
theorem edge_zero {l : List PEdge} {i : Nat} {e : PEdge} (he : l[i]? = some e) (h : edgeE l i = 0) : polylineE e.line = 0 := by
 unfold edgeE at h
 rw [he] at h
 simp only at h
 split at h
 ·cases h
 ·split at h
  ·cases h
  ·exact h
set_option maxRecDepth 100000 in
set_option maxHeartbeats 6400000 in
theorem outline_any (A : Option Addr) (n c : Nat) (l : List PEdge) (w : World) (ha : Recs 2 edgeG w A n l) (hc : n ≤ c) (hs : EdgesS l) :
  Calls Tryz.prog 136 #[.slice A n c] w fun e w' => e = .returned (.int .i64 (outlineE l)) ∧ Below w.heap.size w w' := by
 have HA := Lib.hid ha
 have HL := Lib.hid ha.len
 have HS := Lib.hid hs
 have hn : n ≤ 1000 := by rw [← HL.out]; exact hs.len
 clear ha hs
 by_cases h16 : 16 < n
 ·have HE : Hid (outlineE l = 5) := line_long (by rw [HL.out]; exact h16)
  go_enter Tryz.func136, Tryz.ntmps136
  go_wp2
  go_ret
  exact ⟨by rw [HE.out]; rfl, Below.refl _ _⟩
 by_cases h2 : n < 2
 ·have HE : Hid (outlineE l = 11) := line_few (by rw [HL.out]; exact h16) (by rw [HL.out]; exact h2)
  go_enter Tryz.func136, Tryz.ntmps136
  go_wp2
  go_ret
  exact ⟨by rw [HE.out]; rfl, Below.refl _ _⟩
 have HP := Lib.hid (And.intro (show ¬ 16 < l.length by rw [HL.out]; exact h16) (show ¬ l.length < 2 by rw [HL.out]; exact h2))
 go_enter Tryz.func136, Tryz.ntmps136
 go_wp2_with fail
 go_loopw [3, 4, 6, 7, 19] (fun _ _ _ _ i wr => ∃ k : Nat, k ≤ n ∧ i = .int .i64 (k : Int) ∧ Hid (∀ j, j < k → edgeE l j = 0) ∧ Below w.heap.size w wr) (fun _ _ _ _ i _ => n - (intOf i).toNat)
 case atStart => exact ⟨0, Nat.zero_le _, rfl, (fun j hj => by omega), Below.refl _ _⟩
 case round =>
  obtain ⟨k, hk, rfl, hz, hbel⟩ := hrel
  have HB := Lib.hid hbel
  by_cases hlt : k < n
  ·obtain ⟨b, off, x, B, ln, lc, rfl, hbw, hx, c0, c1, hline, hlc⟩ := edge_at (HA.out.on edge_mono hbel) hlt
   have HX := Lib.hid hx
   have HLI := Lib.hid (And.intro hline hlc)
   obtain ⟨g1, g2⟩ := HS.out.ed x (List.mem_of_getElem? hx)
   have hll : ln ≤ 1000 := by rw [← hline.len]; exact g2
   have HN := fun W => lname_any x.name W (by omega)
   have HBX : Hid (Below wr.heap.size wr (wr.alloc (.cells #[.string x.name, .slice B ln lc] 76))) := (Below.refl _ _).alloc (Nat.le_refl _) _
   have HY := Lib.hid (Blk.new wr 76 #[.string x.name, .slice B ln lc])
   have i1 : (0 : Int) ≤ (k : Int) := by omega
   have i2 : (k : Int) < (n : Int) := by omega
   have i3 : (k : Int) ≤ (c : Int) := by omega
   clear hx hline hlc hbel
   cases hnm : nameOk x.name.data.toList
   ·have HE : Hid (outlineE l = 1) := line_edge HP.out.1 HP.out.2 (i := k) (by rw [HL.out]; exact hlt) hz.out (edge_name HX.out hnm) (by decide)
    simp only [hnm] at HN
    have HN := Lib.hid HN
    clear hnm
    go_wp2_with (go_at_call 159; refine (HN.out _).mono ?_; rintro e w1 ⟨rfl, hb1⟩; have HB1 := Lib.hid (HBX.out.trans (hb1.mono HBX.out.size)); clear hb1)
    go_ret
    exact ⟨by rw [HE.out]; rfl, HB.out.trans (HB1.out.mono HB.out.size)⟩
   ·have HNM := Lib.hid hnm
    simp only [hnm] at HN
    have HN := Lib.hid HN
    clear hnm
    go_wp2_with (go_at_call 159; refine (HN.out _).mono ?_; rintro e w1 ⟨rfl, hb1⟩; have HB1 := Lib.hid (HBX.out.trans (hb1.mono HBX.out.size)); have HY1 := Lib.hid (HY.out.below hb1); clear hb1)
    obtain ⟨wm, rfl⟩ : ∃ wm : World, wm = wr := ⟨_, rfl⟩
    clear c0 c1
    go_loopw [6, 32] (fun _ i wr => ∃ j : Nat, j ≤ k ∧ i = .int .i64 (j : Int) ∧ Hid (∀ (j' : Nat) (y : PEdge), j' < j → l[j']? = some y → y.name ≠ x.name) ∧ Below w1.heap.size w1 wr) (fun _ i _ => k - (intOf i).toNat)
    case atStart => exact ⟨0, Nat.zero_le _, rfl, (fun j y hj => by omega), Below.refl _ _⟩
    case round =>
     obtain ⟨j, hj, rfl, hne, hbel⟩ := hrel
     have HB2 := Lib.hid (HB1.out.trans (hbel.mono HB1.out.size))
     have HBI := Lib.hid hbel
     have y0 := (HY1.out.below hbel).c (i := 0) rfl
     have y1 := (HY1.out.below hbel).c (i := 1) rfl
     have hylt := (HY1.out.below hbel).lt
     by_cases hjk : j < k
     ·obtain ⟨y, B2, m2, d2, hy, d0, d1, hr2, hm2⟩ := edge_same ((HA.out.on edge_mono HB.out).on edge_mono HB2.out) rfl (j := j) (by omega)
      have HYY := Lib.hid hy
      have j1 : (0 : Int) ≤ (j : Int) := by omega
      have j2 : (j : Int) < (k : Int) := by omega
      have HBB : Hid (Below wr.heap.size wr (wr.alloc (.cells #[.string y.name, .slice B2 m2 d2] 76))) := (Below.refl _ _).alloc (Nat.le_refl _) _
      clear hy hr2 hm2 hbel
      by_cases he : y.name = x.name
      ·have HE : Hid (outlineE l = 7) := line_edge HP.out.1 HP.out.2 (i := k) (by rw [HL.out]; exact hlt) hz.out (edge_twice HX.out HNM.out (hasName_yes (f := fun e : PEdge => e.name) (x := x) hjk HYY.out he)) (by decide)
       have he' : (y.name.toList == x.name.toList) = true := by rw [he]; simp
       clear he
       go_wp2_with fail
       go_ret
       exact ⟨by rw [HE.out]; rfl, HB.out.trans ((HB2.out.trans (HBB.out.mono HB2.out.size)).mono HB.out.size)⟩
      ·have HE : Hid (∀ (j' : Nat) (y : PEdge), j' < j + 1 → l[j']? = some y → y.name ≠ x.name) := fun j' y' hj' hy' => by
        by_cases e : j' = j
        ·subst e
         rw [HYY.out] at hy'
         rw [← Option.some.inj hy']
         exact he
        ·exact hne.out j' y' (by omega) hy'
       have he' := toList_ne he
       clear he
       go_wp2_with fail
       go_roundw
       case rel => exact ⟨j + 1, by omega, by go_num, HE, HBI.out.trans (HBB.out.mono HBI.out.size)⟩
       case measure => simp [intOf]; omega
     ·obtain rfl : j = k := by omega
      have HH : Hid (hasName x.name ((l.take j).map (·.name)) = false) := hasName_no hne.out
      have HPC := Lib.hid (pl_check B ln lc x.line wr ((HLI.out.1.on spot_mono HB2.out)) (by omega))
      obtain ⟨E, hE⟩ : ∃ E, polylineE x.line = E := ⟨_, rfl⟩
      rw [hE] at HPC
      have HEE : Hid (edgeE l j = E) := by rw [Hid, edge_line HX.out HNM.out HH.out, hE]
      clear hne hbel hE
      by_cases h0 : E = 0
      ·have HZ : Hid (∀ j', j' < j + 1 → edgeE l j' = 0) := fun j' hj' => by
        by_cases e : j' = j
        ·rw [e, HEE.out, h0]
        ·exact hz.out j' (by omega)
       subst h0
       go_wp2_with (go_at_call 160; refine HPC.out.mono ?_; rintro e w3 ⟨rfl, hb3⟩; have HB3 := Lib.hid (HB2.out.trans (hb3.mono HB2.out.size)); clear hb3)
       go_roundw
       case rel => exact ⟨j + 1, by omega, by go_num, HZ, HB.out.trans (HB3.out.mono HB.out.size)⟩
       case measure => simp [intOf]; omega
      ·have HE : Hid (outlineE l = E) := line_edge HP.out.1 HP.out.2 (i := j) (by rw [HL.out]; exact hlt) hz.out HEE.out h0
       have h0' : (E != 0) = true := by simpa using h0
       clear h0
       go_wp2_with (go_at_call 160; refine HPC.out.mono ?_; rintro e w3 ⟨rfl, hb3⟩; have HB3 := Lib.hid (HB2.out.trans (hb3.mono HB2.out.size)); clear hb3)
       go_ret
       exact ⟨by rw [HE.out]; rfl, HB.out.trans (HB3.out.mono HB.out.size)⟩
  ·obtain rfl : n = k := by omega
   have HZ : Hid (∀ j, j < l.length → edgeE l j = 0) := fun j hj => hz.out j (by rw [HL.out] at hj; exact hj)
   obtain ⟨wo, rfl⟩ : ∃ wo : World, wo = wr := ⟨_, rfl⟩
   clear hz hbel hk
   go_wp2_with fail
   go_loopw [8, 9, 10, 51] (fun _ _ _ i wr => ∃ k : Nat, k ≤ n ∧ i = .int .i64 (k : Int) ∧ Hid (∀ j, j < k → joinAt l j = true) ∧ Below wo.heap.size wo wr) (fun _ _ _ i _ => n - (intOf i).toNat)
   case atStart => exact ⟨0, Nat.zero_le _, rfl, (fun j hj => by omega), Below.refl _ _⟩
   case round =>
    obtain ⟨k, hk, rfl, hj, hbel⟩ := hrel
    have HB2 := Lib.hid (HB.out.trans (hbel.mono HB.out.size))
    have HBO := Lib.hid hbel
    by_cases hlt : k < n
    ·have hed := HA.out.on edge_mono HB2.out
     obtain ⟨b, off, x, B, ln, lc, rfl, hbw, hx, c0, c1, hline, hlc⟩ := edge_at hed hlt
     obtain ⟨m, hm⟩ : ∃ m, (k + 1) % n = m := ⟨_, rfl⟩
     have lm : m < n := by rw [← hm]; exact Nat.mod_lt _ (by omega)
     obtain ⟨y, B2, ly, lyc, hy, d0, d1, hline2, hlc2⟩ := edge_same hed rfl lm
     obtain ⟨q1, q2, _, _⟩ := poly_zero (edge_zero hx (HZ.out k (by rw [HL.out]; exact hlt)))
     obtain ⟨q3, q4, _, _⟩ := poly_zero (edge_zero hy (HZ.out m (by rw [HL.out]; exact lm)))
     rw [hline.len] at q1 q2
     rw [hline2.len] at q3 q4
     have HBX : Hid (Below wr.heap.size wr ((wr.alloc (.cells #[.string x.name, .slice B ln lc] 76)).alloc (.cells #[.string y.name, .slice B2 ly lyc] 76))) := ((Below.refl _ _).alloc (Nat.le_refl _) _).alloc (by simp) _
     obtain ⟨b2, off2, p, rfl, _, hp, e0, e1⟩ := spot_at (hline.on spot_mono HBX.out) (j := ln - 1) (by omega)
     obtain ⟨b3, off3, q, rfl, _, hq, e2, e3⟩ := spot_at (hline2.on spot_mono HBX.out) (j := 0) (by omega)
     rw [Nat.zero_mul, Nat.add_zero] at e2 e3
     have HJ : Hid (joinAt l k = decide (p = q)) := join_yes hx (by rw [HL.out]; exact hm) hy (by rw [List.getLast?_eq_getElem?, hline.len]; exact hp) (by rw [List.head?_eq_getElem?]; exact hq)
     have i1 : (0 : Int) ≤ (k : Int) := by omega
     have i2 : (k : Int) < (n : Int) := by omega
     have i3 : ((k : Int) + 1) % (n : Int) = (m : Int) := by rw [← hm, Int.natCast_emod]; rfl
     have i4 : (m : Int) < (n : Int) := by omega
     have i5 : IntKind.i64.wrap ((ln : Int) - 1) = (ln : Int) - 1 := IntWalk.i64_in _ (by omega)
     have i6 : (0 : Int) ≤ (ln : Int) - 1 := by omega
     have i7 : (ln : Int) - 1 < (ln : Int) := by omega
     have i8 : ((ln : Int) - 1).toNat = ln - 1 := by omega
     have i9 : (0 : Int) < (ly : Int) := by omega
     have i10 : 0 < ly := by omega
     have i11 : (1 : Int) ≤ (ln : Int) := by omega
     have hqe := fun W => eqIn_spot p q W
     rename_i z1 z2 z3 z4 z5 z6
     clear z1 z2 z3 z4 z5 z6 hx hy hm hp hq hline hline2 hed hbel q1 q3
     by_cases e : p = q
     ·have HE : Hid (∀ j, j < k + 1 → joinAt l j = true) := fun j hj' => by
       by_cases ej : j = k
       ·rw [ej, HJ.out, decide_eq_true e]
       ·exact hj.out j (by omega)
      simp only [decide_eq_true e] at hqe
      clear e
      go_wp2_with fail
      go_quiet (fail)
      clear i5 i8 hqe
      go_wp2_with fail
      go_roundw
      case rel => exact ⟨k + 1, by omega, by go_num, HE, below_drewN (HBO.out.trans (HBX.out.mono HBO.out.size)) _⟩
      case measure => simp [intOf]; omega
     ·have HE : Hid (outlineE l = 11) := line_join HP.out.1 HP.out.2 HZ.out (i := k) (by rw [HL.out]; exact hlt) (by rw [HJ.out, decide_eq_false e])
      simp only [decide_eq_false e] at hqe
      clear e
      go_wp2_with fail
      go_quiet (fail)
      clear i5 i8 hqe
      go_wp2_with fail
      go_ret
      exact ⟨by rw [HE.out]; rfl, below_drewN (HB2.out.trans (HBX.out.mono HB2.out.size)) _⟩
    ·obtain rfl : n = k := by omega
     have hlines : ∀ e ∈ l, 2 ≤ e.line.length ∧ e.line.length ≤ 40 := fun e he => by
      obtain ⟨j, hje⟩ := List.getElem?_of_mem he
      obtain ⟨q1, q2, _, _⟩ := poly_zero (edge_zero hje (HZ.out j (List.getElem?_eq_some_iff.1 hje).1))
      exact ⟨q2, q1⟩
     have HV := Lib.hid (fun W (hb : Below w.heap.size w W) => vertices_any A n c l W (HA.out.on edge_mono hb) hn (fun e he => ⟨(hlines e he).1, by have := (hlines e he).2; omega⟩))
     have HVL := Lib.hid (verts_len l (fun e he => (hlines e he).2))
     have HE : Hid (outlineE l = polygonE (verticesP l)) := line_poly HP.out.1 HP.out.2 HZ.out fun i hi => hj.out i (by rw [HL.out] at hi; exact hi)
     clear hj hbel hlines
     go_wp2_with fail
     refine (HV.out _ HB2.out).mono ?_
     rintro e w1 ⟨A1, n1, c1, rfl, hr1, hc1, hb1⟩
     have hn1 : n1 ≤ 1000000 := by
      have := HVL.out
      rw [hr1.len, HL.out] at this
      omega
     have HPG := Lib.hid (pg_check A1 n1 c1 _ w1 hr1 hc1 hn1)
     have HB3 := Lib.hid (HB2.out.trans (hb1.mono HB2.out.size))
     clear hr1 hb1
     go_wp2_with fail
     refine HPG.out.mono ?_
     rintro e w2 ⟨rfl, hb2⟩
     have HB4 := Lib.hid (HB3.out.trans (hb2.mono HB3.out.size))
     clear hb2
     go_wp2_with fail
     go_ret
     exact ⟨by rw [HE.out]; rfl, HB4.out⟩
end
section
open Go.RowKit
open Go.Lib hiding intOf
theorem within_any (n b : Int) (w : World) (h0 : 0 ≤ b) (hb : b ≤ 1000000) :
  Calls Tryz.prog 135 #[.int .i64 n, .int .i64 b] w fun e w' => e = .returned (.bool (decide (-b ≤ n) && decide (n ≤ b))) ∧ w = w' := by
 by_cases h1 : -b ≤ n
 ·have HE : Hid ((decide (-b ≤ n) && decide (n ≤ b)) = decide (n ≤ b)) := by rw [Hid, decide_eq_true h1]; rfl
  go_enter Tryz.func135, Tryz.ntmps135
  go_wp2
  go_ret
  exact ⟨by rw [HE.out]; rfl, rfl⟩
 ·have HE : Hid ((decide (-b ≤ n) && decide (n ≤ b)) = false) := by rw [Hid, decide_eq_false h1]; rfl
  go_enter Tryz.func135, Tryz.ntmps135
  go_wp2
  go_ret
  exact ⟨by rw [HE.out]; rfl, rfl⟩
theorem rounded_zero (b : Nat) (w : World) (h0 : 1 ≤ b) (hb : b ≤ 1000000) :
  Calls Tryz.prog 163 #[.int .i64 0, .int .i64 (b : Int)] w fun e w' => e = .returned (.int .i64 0) ∧ w = w' := by
 have hz : (b : Int) / (2 * (b : Int)) = 0 := Int.ediv_eq_zero_of_lt (by omega) (by omega)
 go_enter Tryz.func163, Tryz.ntmps163
 go_wp2
 go_ret
 exact ⟨rfl, rfl⟩
theorem boxcell_keep {w w' : World} {g1 g o : Nat} {t : TypeId} {u0 u1 a0 a1 : Value} (h : Blk w g1 t #[u0, u1]) (hg : g < w.heap.size) (c0 : w.cell? ⟨g, o, none⟩ = some a0) (c1 : w.cell? ⟨g, o + 1, none⟩ = some a1) (hb : Below w.heap.size w w') :
  w'.cell? ⟨g1, 0, none⟩ = some u0 ∧ w'.cell? ⟨g1, 1, none⟩ = some u1 ∧ w'.cell? ⟨g, o, none⟩ = some a0 ∧ w'.cell? ⟨g, o + 1, none⟩ = some a1 :=
 ⟨(h.below hb).c rfl, (h.below hb).c rfl, (hb.cell (p := ⟨g, o, none⟩) hg).trans c0, (hb.cell (p := ⟨g, o + 1, none⟩) hg).trans c1⟩
set_option maxRecDepth 100000 in
set_option maxHeartbeats 3200000 in
theorem corner_zero (C : Option Addr) (l e i : Nat) (cs : List Pt) (w : World) (hc : Recs 2 spotG w C l cs) (hl : 1 ≤ l) (hl2 : l ≤ 1000) (hi : i ≤ 1000000) :
  Calls Tryz.prog 137 #[.agg #[.slice C l e, .int .i64 0], .int .i64 (i : Int)] w fun e w' => e = .returned (.agg #[.int .i64 0, .int .i64 0]) ∧ Below w.heap.size w w' := by
 obtain ⟨m, hm⟩ : ∃ m, i % l = m := ⟨_, rfl⟩
 have lm : m < l := by rw [← hm]; exact Nat.mod_lt _ (by omega)
 obtain ⟨b, off, p, rfl, hbw, hp, c0, c1⟩ := spot_at hc lm
 have hbox : Below w.heap.size w ((w.alloc (.cells #[.slice (some ⟨b, off, none⟩) l e, .int .i64 0] 202)).alloc (.cells #[.int .i64 0, .int .i64 0] 74)) := ((Below.refl _ _).alloc (Nat.le_refl _) _).alloc (by simp) _
 have HBX := Lib.hid hbox
 have HX := Lib.hid ((Blk.new w 202 #[.slice (some ⟨b, off, none⟩) l e, .int .i64 0]).alloc (.cells #[.int .i64 0, .int .i64 0] 74))
 have HK := fun w' => Lib.hid (boxcell_keep (w' := w') HX.out (Nat.lt_of_lt_of_le hbw hbox.size) ((hbox.cell (p := ⟨b, off + m * 2, none⟩) hbw).trans c0) ((hbox.cell (p := ⟨b, off + m * 2 + 1, none⟩) hbw).trans c1))
 have i1 : (0 : Int) ≤ (i : Int) := by omega
 have i2 : (m : Int) < (l : Int) := by omega
 have i3 : ((i : Int)).tmod (l : Int) = (m : Int) := by rw [← hm]; rfl
 have i8 : ¬ l = 0 := by omega
 have i9 : ¬ (l : Int) = 0 := by omega
 clear hm hp hc hbox c0 c1
 go_enter Tryz.func137, Tryz.ntmps137
 go_wp2_with fail
 go_region_held3 (fun w' => w'.cell? ⟨w.heap.size, 0, none⟩ = some (.slice (some ⟨b, off, none⟩) l e) ∧ w'.cell? ⟨w.heap.size, 1, none⟩ = some (.int .i64 0) ∧ w'.cell? ⟨b, off + m * 2, none⟩ = some (.int .i64 p.1) ∧ w'.cell? ⟨b, off + m * 2 + 1, none⟩ = some (.int .i64 p.2))
  ((refine (HK _).out ?_; repeat (first | (with_reducible exact Below.refl _ _) | (with_reducible refine Below.drew ?_) | (with_reducible refine Below.alo ?_ _))))
  (fail)
 go_wp2_with fail
 refine bodyPost_ret (v := .agg #[.int .i64 0, .int .i64 0]) (by simp [results, Tryz.results137, go_sem]) rfl ⟨rfl, ?_⟩
 repeat (first | (with_reducible exact HBX.out) | (with_reducible refine below_drewN ?_ _) | (with_reducible refine Below.drew ?_) | (with_reducible refine Below.alo ?_ _) | (with_reducible refine Below.setCell ?_ (by simp) _))
def gridR (w : World) (g n : Nat) (l : List Pt) (k : Nat) : Prop := ∃ cs : Array Value, Blk w g 74 cs ∧ cs.size = n * 2 ∧ (∀ i, i < n * 2 → ∃ z : Int, cs[i]? = some (.int .i64 z)) ∧ ∀ (j : Nat) (p : Pt), j < k → l[j]? = some p → cs[j * 2]? = some (.int .i64 p.1) ∧ cs[j * 2 + 1]? = some (.int .i64 p.2)
theorem grid_step {w : World} {g n k : Nat} {l : List Pt} {p : Pt} (h : gridR w g n l k) (hp : l[k]? = some p) (hk : k < n) : gridR ((w.setCell ⟨g, k * 2, none⟩ (.int .i64 p.1)).setCell ⟨g, k * 2 + 1, none⟩ (.int .i64 p.2)) g n l (k + 1) := by
 obtain ⟨cs, h1, h2, h3, h4⟩ := h
 refine ⟨(cs.setIfInBounds (k * 2) (.int .i64 p.1)).setIfInBounds (k * 2 + 1) (.int .i64 p.2), (h1.set_ _ _).set_ _ _, by simp [h2], fun i hi => ?_, fun j q hj hq => ?_⟩
 ·rw [Array.getElem?_setIfInBounds, Array.getElem?_setIfInBounds]
  by_cases e1 : k * 2 + 1 = i
  ·rw [if_pos e1, if_pos (by simp; omega)]
   exact ⟨_, rfl⟩
  ·rw [if_neg e1]
   by_cases e2 : k * 2 = i
   ·rw [if_pos e2, if_pos (by omega)]
    exact ⟨_, rfl⟩
   ·rw [if_neg e2]
    exact h3 i hi
 ·by_cases e : j = k
  ·subst e
   rw [hp] at hq
   obtain rfl := Option.some.inj hq
   constructor
   ·rw [Array.getElem?_setIfInBounds_ne (by omega), Array.getElem?_setIfInBounds, if_pos rfl, if_pos (by omega)]
   ·rw [Array.getElem?_setIfInBounds, if_pos rfl, if_pos (by simp; omega)]
  ·rw [Array.getElem?_setIfInBounds_ne (by omega), Array.getElem?_setIfInBounds_ne (by omega), Array.getElem?_setIfInBounds_ne (by omega), Array.getElem?_setIfInBounds_ne (by omega)]
   exact h4 j q (by omega) hq
theorem gridR.below {w w' : World} {g n k : Nat} {l : List Pt} (h : gridR w g n l k) (hb : Below w.heap.size w w') : gridR w' g n l k := by
 obtain ⟨cs, h1, h2⟩ := h
 exact ⟨cs, h1.below hb, h2⟩
theorem gridR.done {w : World} {g n : Nat} {l : List Pt} (h : gridR w g n l n) (hl : l.length = n) : Recs 2 spotG w (some ⟨g, 0, none⟩) n l := by
 obtain ⟨cs, h1, h2, h3, h4⟩ := h
 refine ⟨hl, fun _ => ⟨g, 0, rfl, h1.lt, fun j p hp => ⟨_, rfl, fun i u hu => ?_⟩⟩⟩
 have hj : j < n := by have := (List.getElem?_eq_some_iff.1 hp).1; omega
 obtain ⟨a1, a2⟩ := h4 j p hj hp
 rw [Nat.zero_add]
 match i, hu with
 | 0, hu =>
  obtain rfl := Option.some.inj hu
  exact h1.c a1
 | 1, hu =>
  obtain rfl := Option.some.inj hu
  exact h1.c a2
 | i + 2, hu => simp at hu
theorem made_spots (n : Nat) (hn : n ≤ 1000000) (W : World) : (Instr.makeSlice 65 (.int .i64 (n : Int)) (.int .i64 (n : Int))).run Tryz.prog W = .ok (.slice (some ⟨W.heap.size, 0, none⟩) n n) (W.alloc (.cells (madeCells #[.int .i64 0, .int .i64 0] (n * 2)) 74)) := by
 obtain ⟨i0, hi, hz0, hz1, hz2⟩ := info_parts spot_info
 have h := run_make (P := Tryz.prog) W 65 74 i0 _ Tryz.underlying65 hi hz0 .i64 .i64 (n : Int) (n : Int) (by omega) (by omega) (by rw [hz2]; omega) (by omega)
 rw [hz1, Int.toNat_natCast] at h
 exact h
theorem grid_made (W : World) (n : Nat) (l : List Pt) : gridR (W.alloc (.cells (madeCells #[.int .i64 0, .int .i64 0] (n * 2)) 74)) W.heap.size n l 0 := by
 refine ⟨_, Blk.new _ _ _, by simp [madeCells], fun i hi => ⟨0, ?_⟩, fun j p hj => by omega⟩
 unfold madeCells
 rw [Array.getElem?_map, Array.getElem?_eq_getElem (by simpa using hi)]
 rcases Nat.mod_two_eq_zero_or_one i with h | h <;> simp [h]
end
section
open Go.RowKit
open Go.Lib hiding intOf
def RetMv (l : List Pt) (n : Nat) (w : World) (e : Ending) (w' : World) : Prop := ∃ g, e = .returned (.slice (some ⟨g, 0, none⟩) n n) ∧ w.heap.size ≤ g ∧ Recs 2 spotG w' (some ⟨g, 0, none⟩) n l ∧ Below w.heap.size w w'
theorem grid_cells {w : World} {g n k : Nat} {l : List Pt} (h : gridR w g n l k) (hk : k < n) : ∃ z0 z1 : Int, w.cell? ⟨g, k * 2, none⟩ = some (.int .i64 z0) ∧ w.cell? ⟨g, k * 2 + 1, none⟩ = some (.int .i64 z1) ∧ w.frozen? ⟨g, k * 2, none⟩ = false ∧ w.frozen? ⟨g, k * 2 + 1, none⟩ = false ∧ g < w.heap.size := by
 obtain ⟨cs, h1, h2, h3, h4⟩ := h
 obtain ⟨z0, e0⟩ := h3 (k * 2) (by omega)
 obtain ⟨z1, e1⟩ := h3 (k * 2 + 1) (by omega)
 exact ⟨z0, z1, h1.c e0, h1.c e1, h1.frozen _, h1.frozen _, h1.lt⟩
set_option maxRecDepth 100000 in
set_option maxHeartbeats 6400000 in
theorem moved_zero (A : Option Addr) (n c : Nat) (l : List Pt) (w : World) (ha : Recs 2 spotG w A n l) (h2 : 2 ≤ n) (hn : n ≤ 1000) (hg : ∀ p ∈ l, inG p) :
  Calls Tryz.prog 138 #[.slice A n c, .agg #[.int .i64 0, .int .i64 0], .agg #[.int .i64 0, .int .i64 0]] w (RetMv l n w) := by
 have HA := Lib.hid ha
 have HL := Lib.hid ha.len
 have HG := Lib.hid hg
 have hmk := fun W => made_spots n (by omega) W
 have HZ := fun W => rounded_zero (n - 1) W (by omega) (by omega)
 rw [show ((n - 1 : Nat) : Int) = (n : Int) - 1 by omega] at HZ
 have HZ := Lib.hid HZ
 have HBX : Hid (Below w.heap.size w ((w.alloc (.cells #[.int .i64 0, .int .i64 0] 74)).alloc (.cells #[.int .i64 0, .int .i64 0] 74))) := ((Below.refl _ _).alloc (Nat.le_refl _) _).alloc (by simp) _
 have HX1 := Lib.hid ((Blk.new w 74 #[.int .i64 0, .int .i64 0]).alloc (.cells #[.int .i64 0, .int .i64 0] 74))
 have HX2 := Lib.hid (Blk.new' (w.alloc (.cells #[.int .i64 0, .int .i64 0] 74)) 74 #[.int .i64 0, .int .i64 0] (g := w.heap.size + 1) (by simp))
 have HGM := Lib.hid (grid_made ((w.alloc (.cells #[.int .i64 0, .int .i64 0] 74)).alloc (.cells #[.int .i64 0, .int .i64 0] 74)) n l)
 have HX1' := Lib.hid (HX1.out.alloc (.cells (madeCells #[.int .i64 0, .int .i64 0] (n * 2)) 74))
 have HX2' := Lib.hid (HX2.out.alloc (.cells (madeCells #[.int .i64 0, .int .i64 0] (n * 2)) 74))
 have HBX' := Lib.hid (HBX.out.alloc (by simp; omega) (.cells (madeCells #[.int .i64 0, .int .i64 0] (n * 2)) 74))
 clear ha hg HX1 HX2 HBX
 go_enter Tryz.func138, Tryz.ntmps138
 go_wp2_with fail
 clear hmk
 go_loopw [9, 10, 19] (fun _ _ i wr => ∃ k : Nat, k ≤ n ∧ i = .int .i64 (k : Int) ∧ gridR wr (w.heap.size + 1 + 1) n l k ∧ Blk wr w.heap.size 74 #[.int .i64 0, .int .i64 0] ∧ Blk wr (w.heap.size + 1) 74 #[.int .i64 0, .int .i64 0] ∧ Below w.heap.size w wr) (fun _ _ i _ => n - (intOf i).toNat)
 case atStart => exact ⟨0, Nat.zero_le _, rfl, by simpa using HGM.out, HX1'.out, HX2'.out, HBX'.out⟩
 case round =>
  obtain ⟨k, hk, rfl, hgr, hx1, hx2, hbel⟩ := hrel
  have HB := Lib.hid hbel
  have HGR := Lib.hid hgr
  have HY := Lib.hid (And.intro hx1 hx2)
  by_cases hlt : k < n
  ·obtain ⟨b, off, p, rfl, hbw, hp, c0, c1⟩ := spot_at (HA.out.on spot_mono hbel) hlt
   have HP := Lib.hid hp
   obtain ⟨q1, q2, q3, q4⟩ := HG.out p (List.mem_of_getElem? hp)
   have hbox := box_spot p wr
   obtain ⟨z0, z1, d0, d1, d2, d3, hgl⟩ := grid_cells hgr hlt
   have HBV := Lib.hid hbox
   have hsz := hx1.lt
   have hsz2 := hx2.lt
   have hsz3 := hgr.choose_spec.1.lt
   have HK := fun w' => Lib.hid (fun (hb : Below (wr.alloc (.cells #[.int .i64 p.1, .int .i64 p.2] 74)).heap.size (wr.alloc (.cells #[.int .i64 p.1, .int .i64 p.2] 74)) w') => And.intro (box_keep ((Blk.new wr 74 #[.int .i64 p.1, .int .i64 p.2]).below hb) (Below.refl _ _)) (And.intro (box_keep (a := (0, 0)) ((hx1.alloc (.cells #[.int .i64 p.1, .int .i64 p.2] 74)).below hb) (Below.refl _ _)) (box_keep (a := (0, 0)) ((hx2.alloc (.cells #[.int .i64 p.1, .int .i64 p.2] 74)).below hb) (Below.refl _ _))))
   have HS2 : Hid (((((wr.setCell ⟨w.heap.size + 1 + 1, k * 2, none⟩ (.int .i64 p.1)).setCell ⟨w.heap.size + 1 + 1, k * 2 + 1, none⟩ (.int .i64 p.2)).alloc (.cells #[.int .i64 p.1, .int .i64 p.2] 74)).cell? ⟨wr.heap.size, 0, none⟩ = some (.int .i64 p.1) ∧ (((wr.setCell ⟨w.heap.size + 1 + 1, k * 2, none⟩ (.int .i64 p.1)).setCell ⟨w.heap.size + 1 + 1, k * 2 + 1, none⟩ (.int .i64 p.2)).alloc (.cells #[.int .i64 p.1, .int .i64 p.2] 74)).cell? ⟨wr.heap.size, 1, none⟩ = some (.int .i64 p.2)) ∧ ((((wr.setCell ⟨w.heap.size + 1 + 1, k * 2, none⟩ (.int .i64 p.1)).setCell ⟨w.heap.size + 1 + 1, k * 2 + 1, none⟩ (.int .i64 p.2)).alloc (.cells #[.int .i64 p.1, .int .i64 p.2] 74)).cell? ⟨w.heap.size, 0, none⟩ = some (.int .i64 0) ∧ (((wr.setCell ⟨w.heap.size + 1 + 1, k * 2, none⟩ (.int .i64 p.1)).setCell ⟨w.heap.size + 1 + 1, k * 2 + 1, none⟩ (.int .i64 p.2)).alloc (.cells #[.int .i64 p.1, .int .i64 p.2] 74)).cell? ⟨w.heap.size, 1, none⟩ = some (.int .i64 0)) ∧ ((((wr.setCell ⟨w.heap.size + 1 + 1, k * 2, none⟩ (.int .i64 p.1)).setCell ⟨w.heap.size + 1 + 1, k * 2 + 1, none⟩ (.int .i64 p.2)).alloc (.cells #[.int .i64 p.1, .int .i64 p.2] 74)).cell? ⟨w.heap.size + 1, 0, none⟩ = some (.int .i64 0) ∧ (((wr.setCell ⟨w.heap.size + 1 + 1, k * 2, none⟩ (.int .i64 p.1)).setCell ⟨w.heap.size + 1 + 1, k * 2 + 1, none⟩ (.int .i64 p.2)).alloc (.cells #[.int .i64 p.1, .int .i64 p.2] 74)).cell? ⟨w.heap.size + 1, 1, none⟩ = some (.int .i64 0))) :=
    ⟨box_keep (Blk.new' ((wr.setCell ⟨w.heap.size + 1 + 1, k * 2, none⟩ (.int .i64 p.1)).setCell ⟨w.heap.size + 1 + 1, k * 2 + 1, none⟩ (.int .i64 p.2)) _ _ (by simp)) (Below.refl _ _), box_keep (a := (0, 0)) (((hx1.far (by show _ ≠ w.heap.size + 1 + 1; omega) _).far (by show _ ≠ w.heap.size + 1 + 1; omega) _).alloc _) (Below.refl _ _), box_keep (a := (0, 0)) (((hx2.far (by show _ ≠ w.heap.size + 1 + 1; omega) _).far (by show _ ≠ w.heap.size + 1 + 1; omega) _).alloc _) (Below.refl _ _)⟩
   have HST := Lib.hid ((grid_step hgr hp hlt).below ((Below.refl _ _).alloc (Nat.le_refl _) (.cells #[.int .i64 p.1, .int .i64 p.2] 74)))
   have HBQ := Lib.hid (And.intro ((((hx1.far (p := ⟨w.heap.size + 1 + 1, k * 2, none⟩) (by show _ ≠ w.heap.size + 1 + 1; omega) (.int .i64 p.1)).far (p := ⟨w.heap.size + 1 + 1, k * 2 + 1, none⟩) (by show _ ≠ w.heap.size + 1 + 1; omega) (.int .i64 p.2))).alloc (.cells #[.int .i64 p.1, .int .i64 p.2] 74)) ((((hx2.far (p := ⟨w.heap.size + 1 + 1, k * 2, none⟩) (by show _ ≠ w.heap.size + 1 + 1; omega) (.int .i64 p.1)).far (p := ⟨w.heap.size + 1 + 1, k * 2 + 1, none⟩) (by show _ ≠ w.heap.size + 1 + 1; omega) (.int .i64 p.2))).alloc (.cells #[.int .i64 p.1, .int .i64 p.2] 74)))
   have HBS : Hid (Below w.heap.size w (((wr.setCell ⟨w.heap.size + 1 + 1, k * 2, none⟩ (.int .i64 p.1)).setCell ⟨w.heap.size + 1 + 1, k * 2 + 1, none⟩ (.int .i64 p.2)).alloc (.cells #[.int .i64 p.1, .int .i64 p.2] 74))) := (((hbel.setCell (p := ⟨w.heap.size + 1 + 1, k * 2, none⟩) (by simp; omega) _).setCell (p := ⟨w.heap.size + 1 + 1, k * 2 + 1, none⟩) (by simp; omega) _).alloc (by simp; omega) _)
   have i1 : (0 : Int) ≤ (k : Int) := by omega
   have i2 : (k : Int) < (n : Int) := by omega
   have i3 : IntKind.i64.wrap ((n : Int) - 1 - (k : Int)) = (n : Int) - 1 - (k : Int) := IntWalk.i64_in _ (by omega)
   have i6 : IntKind.i64.wrap 0 = 0 := rfl
   have i4 : IntKind.i64.wrap p.1 = p.1 := IntWalk.i64_in _ (by omega)
   have i5 : IntKind.i64.wrap p.2 = p.2 := IntWalk.i64_in _ (by omega)
   clear hp hx1 hx2 hgr hbel hbox
   go_wp2_with fail
   go_region_held3 (fun w' => (w'.cell? ⟨wr.heap.size, 0, none⟩ = some (.int .i64 p.1) ∧ w'.cell? ⟨wr.heap.size, 1, none⟩ = some (.int .i64 p.2)) ∧ (w'.cell? ⟨w.heap.size, 0, none⟩ = some (.int .i64 0) ∧ w'.cell? ⟨w.heap.size, 1, none⟩ = some (.int .i64 0)) ∧ (w'.cell? ⟨w.heap.size + 1, 0, none⟩ = some (.int .i64 0) ∧ w'.cell? ⟨w.heap.size + 1, 1, none⟩ = some (.int .i64 0)))
    ((first | (exact HS2.out) | (exact (HK _).out (by repeat (first | (with_reducible exact Below.refl _ _) | (with_reducible refine Below.drew ?_))))))
    ((go_at_call 163; go_must ((with_reducible refine (HZ.out _).mono ?_); rintro e w1 ⟨rfl, rfl⟩)))
   go_wp2_with fail
   go_roundw
   case rel => exact ⟨k + 1, by omega, by go_num, HST.out, HBQ.out.1, HBQ.out.2, below_drewN HBS.out _⟩
   case measure => simp [intOf]; omega
  ·obtain rfl : k = n := by omega
   have HR := Lib.hid (hgr.done HL.out)
   clear hgr hx1 hx2 hbel
   go_wp2_with fail
   go_ret
   exact ⟨w.heap.size + 1 + 1, rfl, by omega, HR.out, HB.out⟩
end
end Go.Proofs.YtiibocdmlfedkaaGreatDoor
