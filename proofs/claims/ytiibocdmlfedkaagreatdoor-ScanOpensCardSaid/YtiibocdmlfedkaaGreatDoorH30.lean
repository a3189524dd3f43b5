/- Parts of the proof. -/
import Derived.Test.YtiibocdmlfedkaaGreatDoorH24
import Derived.Test.YtiibocdmlfedkaaGreatDoorH29
namespace Go.Proofs.YtiibocdmlfedkaaGreatDoor
section
open Go.RowKit
open Go.Lib hiding intOf
abbrev EH := PEdge × Option Addr × Nat × Nat
def eC (t : EH) : List Value := [.string t.1.name, .slice t.2.1 t.2.2.1 t.2.2.2]
theorem eC_len (t : EH) : (eC t).length = 2 := rfl
theorem eC_one (t : EH) : ∀ u ∈ eC t, u.oneCell' = true := fun u hu => by
 simp only [eC, List.mem_cons, List.not_mem_nil, or_false] at hu
 rcases hu with rfl | rfl <;> rfl
theorem edge_info : (Tryz.prog.info? 76).map (fun i => (i.zero, i.size, i.bytes)) = some (some (.agg #[.string ByteArray.empty, .slice none 0 0]), 2, 40) := by kernel_rfl
theorem Blk.grown {w w' : World} {g : Nat} {t : TypeId} {cs : Array Value} {r : Option Nat} (h : Blk w g t cs) (hg : w.grownBy w' r) (hne : some g ≠ r) : Blk w' g t cs := (hg.block g h.lt hne).trans h
theorem step_edge {w : World} {ops : Array Oper} {o : Oper} {a : Act} {K : Act → World → Prop} {Q : Exit → Act → World → Prop} {E : Prop} (hgd : o.guard = none) (s x : Operand)
  (ho : o.op = Op.call { callee := Callee.builtin Builtin.append, args := #[s, x], argTypes := #[63, 63] })
  (base n : Nat) (v : Value) (l : List Value) (hs : a.eval s = v) (hown : w.ownsRow base 76 2 v n l)
  (g : Nat) (hx : a.eval x = .slice (some ⟨g, 0, none⟩) 1 1) (t : EH) {ty : TypeId} (hc : Blk w g ty (eC t).toArray) (hn : n ≤ 100000000) (hbase : base ≤ w.heap.size)
  (h : ∀ v' w', w'.ownsRow base 76 2 v' (n + 1) (l ++ eC t) → w.grownBy w' v.ownBlock → (v'.ownBlock = v.ownBlock ∨ v'.ownBlock = some w.heap.size) → K (a.put o.dst v') w') :
  if Region.wanted o (yielded ops a.tmps) = true then Oper.wp Tryz.prog o a w K Q else E :=
 step_own (P := Tryz.prog) hgd s x 63 ho base 76 _ 2 40 Tryz.underlying63 edge_info rfl (by decide) v n l hs hown ⟨g, 0, none⟩ 1 1 (eC t) hx rfl
  (fun j u hu => by rw [Go.WideShapes.add_plain]; exact hc.c (by simpa using hu)) (eC_one t) (by unfold maxLen; omega) (by omega) hbase h
def lineOk (t : EH) (w : World) : Prop := Recs 2 spotG w t.2.1 t.2.2.1 t.1.line ∧ t.2.2.1 ≤ t.2.2.2
def growR (B : Nat) (es : List PEdge) (j : Nat) (v : Value) (w : World) : Prop := ∃ ts : List EH, ts.map (fun t => t.1) = es.take j ∧ w.ownsRow B 76 2 v j (ts.flatMap eC) ∧ ∀ t ∈ ts, Stays w v.ownBlock (lineOk t)
theorem growR.start (B : Nat) (es : List PEdge) (w : World) : growR B es 0 (.slice none 0 0) w := ⟨[], rfl, World.ownsRow_nil _ _ _ _, fun t h => by cases h⟩
theorem growR.below {B j : Nat} {es : List PEdge} {v : Value} {w w' : World} (h : growR B es j v w) (hb : Below w.heap.size w w') : growR B es j v w' := by
 obtain ⟨ts, h1, h2, h3⟩ := h
 exact ⟨ts, h1, own_below h2 hb, fun t ht => (h3 t ht).below hb⟩
theorem growR.more {B j : Nat} {es : List PEdge} {v v' : Value} {w w' : World} {x : PEdge} {g n : Nat} {ts : List EH} (hx : es[j]? = some x) (h1 : ts.map (fun t => t.1) = es.take j) (h3 : ∀ t ∈ ts, Stays w v.ownBlock (lineOk t))
  (hl : Recs 2 spotG w (some ⟨g, 0, none⟩) n x.line) (hg : v.ownBlock ≠ some g) (ho : w'.ownsRow B 76 2 v' (j + 1) (ts.flatMap eC ++ eC (x, some ⟨g, 0, none⟩, n, n))) (hgr : w.grownBy w' v.ownBlock) (hv : v'.ownBlock = v.ownBlock ∨ v'.ownBlock = some w.heap.size) : growR B es (j + 1) v' w' := by
 have hr : v'.ownBlock = v.ownBlock ∨ ∀ g, v'.ownBlock = some g → w.heap.size ≤ g := by
  rcases hv with h | h
  ·exact .inl h
  ·exact .inr fun g e => by rw [h] at e; injection e with e; omega
 refine ⟨ts ++ [(x, some ⟨g, 0, none⟩, n, n)], ?_, ?_, fun t ht => ?_⟩
 ·rw [List.map_append, h1, List.take_add_one, hx]; rfl
 ·rw [List.flatMap_append]
  simpa using ho
 ·rcases List.mem_append.1 ht with ht | ht
  ·exact (h3 t ht).next hgr hr
  ·obtain rfl : t = (x, some ⟨g, 0, none⟩, n, n) := by simpa using ht
   refine Stays.next (fun w1 h1 => ⟨(Stays.recs spot_any hl (fun b o e => ?_)) w1 h1, Nat.le_refl _⟩) hgr hr
   injection e with e
   injection e with e1 e2
   rw [← e1]
   exact hg
theorem growR.done {B n : Nat} {es : List PEdge} {v : Value} {w : World} (h : growR B es n v w) (hn : es.length = n) : ∃ A c, v = .slice A n c ∧ Recs 2 edgeG w A n es ∧ n ≤ c := by
 obtain ⟨ts, h1, h2, h3⟩ := h
 rw [List.take_of_length_le (by omega)] at h1
 have hl : ts.length = n := by rw [← hn, ← h1, List.length_map]
 obtain ⟨A, c, e, hr, hc⟩ := own_recs (G := edgeG) (g := fun t : EH => t.1) eC_len h2 hl (fun t ht => ⟨t.2.1, t.2.2.1, t.2.2.2, rfl, ((h3 t ht).out).1, ((h3 t ht).out).2⟩)
 rw [h1] at hr
 exact ⟨A, c, e, hr, hc⟩
def RetGr (p : PPiece) (w : World) (e : Ending) (w' : World) : Prop := ∃ A n c, e = .returned (.tuple #[.slice A n c, .int .i64 (gradedE p)]) ∧ (gradedE p = 0 → Recs 2 edgeG w' A n p.edges ∧ n ≤ c) ∧ Below w.heap.size w w'
theorem shift_eq (s : Pt) : shiftOut s = !((decide (-1000 ≤ s.1) && decide (s.1 ≤ 1000)) && (decide (-1000 ≤ s.2) && decide (s.2 ≤ 1000))) := by
 unfold shiftOut
 cases decide (-1000 ≤ s.1) <;> cases decide (s.1 ≤ 1000) <;> rfl
theorem seven {w : World} {g : Nat} {t : TypeId} {a0 a1 a2 a3 a4 a5 a6 : Value} (h : Blk w g t #[a0, a1, a2, a3, a4, a5, a6]) : w.cell? ⟨g, 0, none⟩ = some a0 ∧ w.cell? ⟨g, 1, none⟩ = some a1 ∧ w.cell? ⟨g, 2, none⟩ = some a2 ∧ w.cell? ⟨g, 3, none⟩ = some a3 ∧ w.cell? ⟨g, 4, none⟩ = some a4 ∧ w.cell? ⟨g, 5, none⟩ = some a5 ∧ w.cell? ⟨g, 6, none⟩ = some a6 :=
 ⟨h.c rfl, h.c rfl, h.c rfl, h.c rfl, h.c rfl, h.c rfl, h.c rfl⟩
structure PcA (w : World) (p : PPiece) (E : Option Addr) (en ec : Nat) (N : Option Addr) (nn nc : Nat) (C : Option Addr) (cn cc : Nat) (D : Option Addr) (dn dc : Nat) : Prop where
 eds : Recs 2 edgeG w E en p.edges
 ecap : en ≤ ec
 nots : Recs 2 spotG w N nn p.notches
 ncap : nn ≤ nc
 cors : Recs 2 spotG w C cn p.corners
 ccap : cn ≤ cc
 wids : Sl w w.heap.size D dn (ints p.widths)
 dcap : dn ≤ dc
 small : PieceS p
theorem PcA.on {w w' : World} {p : PPiece} {E N C D : Option Addr} {en ec nn nc cn cc dn dc : Nat} (h : PcA w p E en ec N nn nc C cn cc D dn dc) (hb : Below w.heap.size w w') : PcA w' p E en ec N nn nc C cn cc D dn dc :=
 ⟨h.eds.on edge_mono hb, h.ecap, h.nots.on spot_mono hb, h.ncap, h.cors.on spot_mono hb, h.ccap, h.wids.on hb, h.dcap, h.small⟩
theorem PcA.edges {w : World} {p : PPiece} {E N C D : Option Addr} {en ec nn nc cn cc dn dc : Nat} (h : PcA w p E en ec N nn nc C cn cc D dn dc) : EdgesS p.edges := ⟨h.small.eds, fun e he => ⟨(h.small.ed e he).nm, (h.small.ed e he).ln⟩⟩
end
section
open Go.RowKit
open Go.Lib hiding intOf
theorem size_alo (w : World) (o : Obj) : w.heap.size ≤ (w.alloc o).heap.size := by simp
set_option maxRecDepth 100000 in
set_option maxHeartbeats 12800000 in
theorem graded_any (p : PPiece) (E : Option Addr) (en ec : Nat) (N : Option Addr) (nn nc : Nat) (C : Option Addr) (cn cc : Nat) (D : Option Addr) (dn dc : Nat) (w : World) (h : PcA w p E en ec N nn nc C cn cc D dn dc) :
  Calls Tryz.prog 110 #[.agg #[.string p.name, .slice E en ec, .int .i64 p.grain, .slice N nn nc, .slice C cn cc, .slice D dn dc, .bool p.match_], .int .i64 0] w (RetGr p w) := by
 have HA := Lib.hid h
 have HL := Lib.hid (And.intro h.eds.len h.cors.len)
 have e1 : en ≤ 1000 := by rw [← h.eds.len]; exact h.small.eds
 have e2 : cn ≤ 1000 := by rw [← h.cors.len]; exact h.small.cor
 have HW0 := Lib.hid (fun W => within_any 0 100 W (by omega) (by omega))
 have HBX : Hid (Below w.heap.size w (w.alloc (.cells #[.string p.name, .slice E en ec, .int .i64 p.grain, .slice N nn nc, .slice C cn cc, .slice D dn dc, .bool p.match_] 67))) := (Below.refl _ _).alloc (Nat.le_refl _) _
 have HX := Lib.hid (Blk.new w 67 #[.string p.name, .slice E en ec, .int .i64 p.grain, .slice N nn nc, .slice C cn cc, .slice D dn dc, .bool p.match_])
 clear h
 by_cases hln : cn = en
 ·have HLN : Hid (p.corners.length = p.edges.length) := by rw [Hid, HL.out.1, HL.out.2]; exact hln
  subst hln
  go_enter Tryz.func110, Tryz.ntmps110
  go_wp2_with (go_at_call 135; refine (HW0.out _).mono ?_; rintro e w1 ⟨rfl, rfl⟩)
  go_loopw [7, 27] (fun _ i wr => ∃ k : Nat, k ≤ cn ∧ i = .int .i64 (k : Int) ∧ Hid (∀ (j : Nat) (s : Pt), j < k → p.corners[j]? = some s → shiftOut s = false) ∧ Below (w.alloc (.cells #[.string p.name, .slice E cn ec, .int .i64 p.grain, .slice N nn nc, .slice C cn cc, .slice D dn dc, .bool p.match_] 67)).heap.size (w.alloc (.cells #[.string p.name, .slice E cn ec, .int .i64 p.grain, .slice N nn nc, .slice C cn cc, .slice D dn dc, .bool p.match_] 67)) wr) (fun _ i _ => cn - (intOf i).toNat)
  case atStart => exact ⟨0, Nat.zero_le _, rfl, (fun j s hj => by omega), Below.refl _ _⟩
  case round =>
   obtain ⟨k, hk, rfl, hall, hbel⟩ := hrel
   have HB := Lib.hid (HBX.out.trans (hbel.mono HBX.out.size))
   have HBL := Lib.hid hbel
   by_cases hlt : k < cn
   ·obtain ⟨b, off, s, rfl, hbw, hs, c0, c1⟩ := spot_at (HA.out.cors.on spot_mono HB.out) hlt
    have HS := Lib.hid hs
    have HBS := Lib.hid (box_spot s wr)
    have HSE := Lib.hid (shift_eq s)
    have HW1 := Lib.hid (fun W => within_any s.1 1000 W (by omega) (by omega))
    have HW2 := Lib.hid (fun W => within_any s.2 1000 W (by omega) (by omega))
    have i1 : (0 : Int) ≤ (k : Int) := by omega
    have i2 : (k : Int) < (cn : Int) := by omega
    generalize (decide (-1000 ≤ s.1) && decide (s.1 ≤ 1000)) = b1 at *
    generalize (decide (-1000 ≤ s.2) && decide (s.2 ≤ 1000)) = b2 at *
    clear hs hbel
    cases b1
    ·have HE : Hid (gradedE p = 3) := graded_shift HLN.out HS.out (by rw [HSE.out]; rfl)
     go_wp2_with (go_at_call 135; (first | (with_reducible refine (HW1.out _).mono ?_) | (with_reducible refine (HW2.out _).mono ?_)); rintro e w1 ⟨rfl, rfl⟩)
     go_ret2
     exact ⟨none, 0, 0, by rw [HE.out]; rfl, (fun h => by rw [HE.out] at h; cases h), HB.out.trans (HBS.out.mono HB.out.size)⟩
    ·cases b2
     ·have HE : Hid (gradedE p = 3) := graded_shift HLN.out HS.out (by rw [HSE.out]; rfl)
      go_wp2_with (go_at_call 135; (first | (with_reducible refine (HW1.out _).mono ?_) | (with_reducible refine (HW2.out _).mono ?_)); rintro e w1 ⟨rfl, rfl⟩)
      go_ret2
      exact ⟨none, 0, 0, by rw [HE.out]; rfl, (fun h => by rw [HE.out] at h; cases h), HB.out.trans (HBS.out.mono HB.out.size)⟩
     ·have HE : Hid (∀ (j : Nat) (s : Pt), j < k + 1 → p.corners[j]? = some s → shiftOut s = false) := fun j s' hj hs' => by
       by_cases e : j = k
       ·subst e
        rw [HS.out] at hs'
        rw [← Option.some.inj hs', HSE.out]
        rfl
       ·exact hall.out j s' (by omega) hs'
      go_wp2_with (go_at_call 135; (first | (with_reducible refine (HW1.out _).mono ?_) | (with_reducible refine (HW2.out _).mono ?_)); rintro e w1 ⟨rfl, rfl⟩)
      go_roundw
      case rel => exact ⟨k + 1, by omega, by go_num, HE, HBL.out.trans (HBS.out.mono HBL.out.size)⟩
      case measure => simp [intOf]; omega
   ·obtain rfl : cn = k := by omega
    have HG : Hid (gradedE p = outlineE p.edges) := graded_line HLN.out fun j s hs => hall.out j s (by have := (List.getElem?_eq_some_iff.1 hs).1; rw [HL.out.2] at this; exact this) hs
    have HOC := outline_any E cn ec p.edges wr (HA.out.eds.on edge_mono HB.out) HA.out.ecap HA.out.edges
    obtain ⟨Z, hZ⟩ : ∃ Z, outlineE p.edges = Z := ⟨_, rfl⟩
    rw [hZ] at HOC
    have HOC := Lib.hid HOC
    have HZ := Lib.hid hZ
    obtain ⟨x0, x1, x2, x3, x4, x5, x6⟩ := seven (HX.out.below hbel)
    have HX1 := Lib.hid (HX.out.below hbel)
    clear hall hbel hZ
    by_cases h0 : Z = 0
    ·subst h0
     obtain ⟨z1, z2, z3⟩ := line_zero HZ.out
     rw [HL.out.1] at z1 z2
     have HLI := Lib.hid z3
     clear z3
     go_wp2_with (go_at_call 136; refine HOC.out.mono ?_; rintro e w1 ⟨rfl, hb1⟩; have HB1 := Lib.hid (HB.out.trans (hb1.mono HB.out.size)); obtain ⟨x0, x1, x2, x3, x4, x5, x6⟩ := seven (HX1.out.below hb1); clear hb1)
     have HG0 : Hid (gradedE p = 0) := by rw [Hid, HG.out, HZ.out]
     go_loopw [10, 11, 12, 56] (fun v _ _ i wr => ∃ k : Nat, k ≤ cn ∧ i = .int .i64 (k : Int) ∧ growR w1.heap.size p.edges k v wr ∧ Below w1.heap.size w1 wr) (fun _ _ _ i _ => cn - (intOf i).toNat)
     case atStart => exact ⟨0, Nat.zero_le _, rfl, growR.start _ _ _, Below.refl _ _⟩
     case round =>
      obtain ⟨k, hk, rfl, hgr, hbel⟩ := hrel
      have HB2 := Lib.hid (HB1.out.trans (hbel.mono HB1.out.size))
      have HBL2 := Lib.hid hbel
      by_cases hlt : k < cn
      ·obtain ⟨b, off, x, B, ln, lc, rfl, hbw, hx, c0, c1, hline, hlc⟩ := edge_at (HA.out.eds.on edge_mono HB2.out) hlt
       obtain ⟨q1, q2, q3, q4⟩ := poly_zero (HLI.out k x hx)
       rw [hline.len] at q1 q2
       have HXX := Lib.hid hx
       have hbb : Below wr.heap.size wr (wr.alloc (.cells #[.string x.name, .slice B ln lc] 76)) := (Below.refl _ _).alloc (Nat.le_refl _) _
       have HBB := Lib.hid hbb
       have HX3 := Lib.hid (Blk.new wr 76 #[.string x.name, .slice B ln lc])
       have HCC := HA.out.cors.on spot_mono HB2.out
       have HC1 := Lib.hid (fun W (hb : Below (wr.alloc (.cells #[.string x.name, .slice B ln lc] 76)).heap.size (wr.alloc (.cells #[.string x.name, .slice B ln lc] 76)) W) => corner_zero C cn cc k p.corners W (HCC.on spot_mono (hbb.trans (hb.mono hbb.size))) (by omega) (by omega) (by omega))
       have HC2 := fun W (hb : Below (wr.alloc (.cells #[.string x.name, .slice B ln lc] 76)).heap.size (wr.alloc (.cells #[.string x.name, .slice B ln lc] 76)) W) => corner_zero C cn cc (k + 1) p.corners W (HCC.on spot_mono (hbb.trans (hb.mono hbb.size))) (by omega) (by omega) (by omega)
       rw [show ((k + 1 : Nat) : Int) = (k : Int) + 1 by omega] at HC2
       have HC2 := Lib.hid HC2
       have HM := Lib.hid (fun W (hb : Below (wr.alloc (.cells #[.string x.name, .slice B ln lc] 76)).heap.size (wr.alloc (.cells #[.string x.name, .slice B ln lc] 76)) W) => moved_zero B ln lc x.line W (hline.on spot_mono (hbb.trans (hb.mono hbb.size))) q2 (by omega) q3)
       obtain ⟨ts, t1, t2, t3⟩ := hgr.below hbb
       have HT := Lib.hid (And.intro t1 (And.intro t2 t3))
       have HN2 : Hid (some wr.heap.size ≠ u10.ownBlock) := fun e => by
        obtain ⟨ts', t1', t2', t3'⟩ := hgr
        have := (t2'.lt _ e.symm).2
        omega
       have HLO : Hid (∀ g, u10.ownBlock = some g → g < wr.heap.size ∧ w1.heap.size ≤ g) := fun g e => by
        obtain ⟨ts', t1', t2', t3'⟩ := hgr
        exact ⟨(t2'.lt _ e).2, (t2'.lt _ e).1⟩
       have hw1 := hbel.size
       have b3 : k ≤ 100000000 := by omega
       have i1 : (0 : Int) ≤ (k : Int) := by omega
       have i2 : (k : Int) < (cn : Int) := by omega
       have i4 : IntKind.i64.wrap ((k : Int) + 1) = (k : Int) + 1 := IntWalk.i64_in _ (by omega)
       have eg := enters_of Tryz.func137 (by kernel_rfl) rfl
       have hq := Below.refl (wr.alloc (.cells #[.string x.name, .slice B ln lc] 76)).heap.size (wr.alloc (.cells #[.string x.name, .slice B ln lc] 76))
       clear hx hline hbb HCC t1 t2 t3 hgr hbel q3 q4 x0 x1 x2 x3 x4 x5 x6
       go_wp2_with fail
       go_region_held3 (fun w' => w'.cell? ⟨wr.heap.size, 0, none⟩ = some (.string x.name) ∧ w'.cell? ⟨wr.heap.size, 1, none⟩ = some (.slice B ln lc))
        ((first | (exact ⟨HX5.out.c (i := 0) rfl, HX5.out.c (i := 1) rfl⟩) | (exact ⟨(HX3.out.below (by repeat (first | (with_reducible exact Below.refl _ _) | (with_reducible exact hq) | (with_reducible refine Below.drew ?_) | (with_reducible refine Below.alo ?_ _)))).c (i := 0) rfl, (HX3.out.below (by repeat (first | (with_reducible exact Below.refl _ _) | (with_reducible exact hq) | (with_reducible refine Below.drew ?_) | (with_reducible refine Below.alo ?_ _)))).c (i := 1) rfl⟩)))
        (first
         | (go_at_call 137; go_must ((first | (with_reducible refine (HC1.out _ (by repeat (first | (with_reducible exact Below.refl _ _) | (with_reducible exact hq) | (with_reducible refine Below.drew ?_)))).mono ?_) | (with_reducible refine (HC2.out _ (by repeat (first | (with_reducible exact Below.refl _ _) | (with_reducible exact hq) | (with_reducible refine Below.drew ?_)))).mono ?_)); rintro e u1 ⟨rfl, hv⟩; replace hq := below_then hq hv; clear hv))
         | (go_at_call 138; go_must ((refine (HM.out _ (by repeat (first | (with_reducible exact Below.refl _ _) | (with_reducible exact hq) | (with_reducible refine Below.drew ?_)))).mono ?_); rintro e w4 ⟨g, rfl, hge, hr, hv⟩; have HGE := Lib.hid (Nat.le_trans hq.size hge); have HRR := Lib.hid hr; replace hq := below_then hq hv; clear hge hr hv))
         | ((refine step_edge (by rfl) _ _ (by rfl) w1.heap.size k _ _ (by rfl) (own_below HT.out.2.1 (by exact Below.alo hq _)) w4.heap.size (by rfl) (x, some ⟨g, 0, none⟩, ln, ln) (by exact Blk.new _ _ _) b3 (by exact Nat.le_trans hw1 (Nat.le_trans HBB.out.size (Nat.le_trans hq.size (size_alo _ _)))) ?_); intro v5 w5 ho5 hg5 hn5; have HX5 := Lib.hid (((HX3.out.below hq).alloc _).grown hg5 HN2.out)))
       all_goals
        go_wp2_with fail
        go_roundw
        case rel =>
         refine ⟨k + 1, by omega, by go_num, growR.more (g := g) HXX.out HT.out.1 (fun t ht => (HT.out.2.2 t ht).below (Below.alo hq _)) (HRR.out.on spot_mono (Below.alo (Below.refl _ _) _)) (fun e => by have := (HLO.out _ e).1; have := HGE.out; simp at this; omega) ho5 hg5 hn5, ?_⟩
         exact below_own (HBL2.out.trans (below_then HBB.out (Below.alo hq _) |>.mono HBL2.out.size)) hg5 (by have := hq.size; simp at this ⊢; omega) (fun g e => (HLO.out g e).2)
        case measure => simp [intOf]; omega
      ·obtain rfl : cn = k := by omega
       obtain ⟨A, c, rfl, hr, hc⟩ := hgr.done HL.out.1
       have HR := Lib.hid (And.intro hr hc)
       have HO2 := outline_any A cn c p.edges wr hr hc HA.out.edges
       rw [HZ.out] at HO2
       have HO2 := Lib.hid HO2
       clear hr hc hgr hbel x0 x1 x2 x3 x4 x5 x6
       go_wp2_with (go_at_call 136; refine HO2.out.mono ?_; rintro e w5 ⟨rfl, hb5⟩; have HB5 := Lib.hid (HB2.out.trans (hb5.mono HB2.out.size)); have HR5 := Lib.hid (HR.out.1.on edge_mono hb5); clear hb5)
       go_ret2
       exact ⟨A, cn, c, by rw [HG0.out]; rfl, fun _ => ⟨HR5.out, HR.out.2⟩, HB5.out⟩
    ·have h0' : (Z != 0) = true := by simpa using h0
     have HE : Hid (gradedE p = Z) := by rw [Hid, HG.out, HZ.out]
     have HN0 := Lib.hid h0
     clear h0
     go_wp2_with (go_at_call 136; refine HOC.out.mono ?_; rintro e w1 ⟨rfl, hb1⟩; have HB1 := Lib.hid (HB.out.trans (hb1.mono HB.out.size)); clear hb1)
     go_ret2
     exact ⟨none, 0, 0, by rw [HE.out]; rfl, (fun h => absurd (HE.out.symm.trans h) HN0.out), HB1.out⟩
 ·have HE : Hid (gradedE p = 1) := graded_len (by rw [HL.out.1, HL.out.2]; exact hln)
  have hln' : ((cn : Int) != (en : Int)) = true := by simp; omega
  go_enter Tryz.func110, Tryz.ntmps110
  go_wp2_with (go_at_call 135; refine (HW0.out _).mono ?_; rintro e w1 ⟨rfl, rfl⟩)
  go_ret2
  exact ⟨none, 0, 0, by rw [HE.out]; rfl, (fun h => by rw [HE.out] at h; cases h), HBX.out⟩
end
section
open Go.RowKit
open Go.Lib hiding intOf
theorem int_info : (Tryz.prog.info? 3).map (fun i => (i.zero, i.size, i.bytes)) = some (some (.int .i64 0), 1, 8) := by kernel_rfl
def RetPl (p : PPiece) (w : World) (e : Ending) (w' : World) : Prop := ∃ A n c B m d, e = .returned (.tuple #[.slice A n c, .slice B m d, .int .i64 (placedE p)]) ∧ Below w.heap.size w w'
def RetPd (p : PPiece) (w : World) (e : Ending) (w' : World) : Prop := ∃ A n c, e = .returned (.tuple #[.slice A n c, .int .i64 (placedE p)]) ∧ Below w.heap.size w w'
theorem new_int (W : World) (z : Int) : ∀ (j : Nat) (u : Value), [Value.int .i64 z][j]? = some u → (W.alloc (.cells #[.int .i64 z] 3)).cell? ((⟨W.heap.size, 0, none⟩ : Addr).add j) = some u := fun j u hu => by
 have hb : Blk (W.alloc (.cells [Value.int .i64 z].toArray 3)) W.heap.size 3 [Value.int .i64 z].toArray := Blk.new W _ _
 rw [Go.WideShapes.add_plain]
 exact hb.c (by simpa using hu)
theorem int_one (z : Int) : ∀ u ∈ [Value.int .i64 z], u.oneCell' = true := fun u hu => by
 obtain rfl : u = .int .i64 z := by simpa using hu
 rfl
theorem len_ok {l : List Pt} {w w' : World} {e : Ending} (h : RetLen l w e w') (h0 : polylineE l = 0) : e = .returned (.tuple #[.int .i64 (lengthP l : Int), .int .i64 0]) ∧ Below w.heap.size w w' := by
 unfold RetLen at h
 rw [h0, if_pos rfl] at h
 exact h
theorem bad_iff {p : PPiece} {n : Int × Int} {k : Nat} {e : PEdge} (hk : n.1 = (k : Int)) (he : p.edges[k]? = some e) : (badP (lengthP e.line) n.2 → notchE p n = 3) ∧ (¬ badP (lengthP e.line) n.2 → notchE p n = 0) := by
 rw [notch_in hk he]
 exact ⟨fun h => if_pos h, fun h => if_neg h⟩
set_option maxRecDepth 100000 in
set_option maxHeartbeats 12800000 in
theorem placed_any (p : PPiece) (E : Option Addr) (en ec : Nat) (N : Option Addr) (nn nc : Nat) (C : Option Addr) (cn cc : Nat) (D : Option Addr) (dn dc : Nat) (w : World) (h : PcA w p E en ec N nn nc C cn cc D dn dc) :
  Calls Tryz.prog 139 #[.agg #[.string p.name, .slice E en ec, .int .i64 p.grain, .slice N nn nc, .slice C cn cc, .slice D dn dc, .bool p.match_], .int .i64 0] w (RetPl p w) := by
 have HL := Lib.hid (And.intro h.eds.len h.nots.len)
 have e1 : en ≤ 1000 := by rw [← h.eds.len]; exact h.small.eds
 have e2 : nn ≤ 1000 := by rw [← h.nots.len]; exact h.small.not
 have HBX : Hid (Below w.heap.size w (w.alloc (.cells #[.string p.name, .slice E en ec, .int .i64 p.grain, .slice N nn nc, .slice C cn cc, .slice D dn dc, .bool p.match_] 67))) := (Below.refl _ _).alloc (Nat.le_refl _) _
 have HX := Lib.hid (Blk.new w 67 #[.string p.name, .slice E en ec, .int .i64 p.grain, .slice N nn nc, .slice C cn cc, .slice D dn dc, .bool p.match_])
 have HGR := Lib.hid (graded_any p E en ec N nn nc C cn cc D dn dc _ (h.on HBX.out))
 have HA := Lib.hid h
 clear h
 go_enter Tryz.func139, Tryz.ntmps139
 go_wp2_with fail
 refine HGR.out.mono ?_
 rintro e w1 ⟨A2, m2, c2, rfl, hgd, hb1⟩
 have HB1 := Lib.hid (HBX.out.trans (hb1.mono HBX.out.size))
 have HX1 := Lib.hid (HX.out.below hb1)
 obtain ⟨x0, x1, x2, x3, x4, x5, x6⟩ := seven HX1.out
 have HGD := Lib.hid hgd
 clear hb1 hgd
 obtain ⟨Z, hZ⟩ : ∃ Z, gradedE p = Z := ⟨_, rfl⟩
 rw [hZ]
 have HZ := Lib.hid hZ
 clear hZ
 by_cases h0 : Z = 0
 ·subst h0
  obtain ⟨hed, hec⟩ := HGD.out HZ.out
  obtain ⟨_, _, k1, k2, k3⟩ := graded_zero HZ.out
  have hml := hed.len
  rw [HL.out.1] at hml k1 k2
  subst hml
  have HE2 := Lib.hid hed
  have HLI := Lib.hid k3
  rename_i z1 z2
  clear z1 z2 hed k3
  by_cases h16 : 16 < nn
  ·have HE : Hid (placedE p = 5) := placed_long HZ.out (by rw [HL.out.2]; exact h16)
   go_wp2_with fail
   refine bodyPost_ret (results_tmp3 rfl _ _ _) rfl ?_
   exact ⟨none, 0, 0, none, 0, 0, by rw [HE.out]; rfl, HB1.out⟩
  ·have HN16 := Lib.hid (show ¬ 16 < p.notches.length by rw [HL.out.2]; exact h16)
   go_wp2_with fail
   go_loopw [9, 11, 12, 13, 14, 15, 32] (fun v _ _ _ _ _ i wr => ∃ (k : Nat) (zs : List Int), k ≤ nn ∧ i = .int .i64 (k : Int) ∧ Hid (∀ (j : Nat) (m : Int × Int), j < k → p.notches[j]? = some m → notchE p m = 0) ∧ wr.ownsRow w1.heap.size 3 1 v k (ints zs) ∧ Below w1.heap.size w1 wr) (fun _ _ _ _ _ _ i _ => nn - (intOf i).toNat)
   case atStart => exact ⟨0, [], Nat.zero_le _, rfl, (fun j m hj => by omega), World.ownsRow_nil _ _ _ _, Below.refl _ _⟩
   case round =>
    obtain ⟨k, zs, hk, rfl, hz, hown, hbel⟩ := hrel
    have HB := Lib.hid (HB1.out.trans (hbel.mono HB1.out.size))
    have HBL := Lib.hid hbel
    by_cases hlt : k < nn
    ·obtain ⟨b, off, q, rfl, hbw, hq, c0, c1⟩ := spot_at (HA.out.nots.on spot_mono HB.out) hlt
     obtain ⟨q1, q2⟩ := q
     simp only at c0 c1
     have HQ := Lib.hid hq
     have hbx : Below wr.heap.size wr (wr.alloc (.cells #[.int .i64 q1, .int .i64 q2] 213)) := (Below.refl _ _).alloc (Nat.le_refl _) _
     have HBN := Lib.hid hbx
     have HOW := Lib.hid (own_below hown hbx)
     have HLO : Hid (∀ g, u9.ownBlock = some g → g < wr.heap.size ∧ w1.heap.size ≤ g) := fun g e => ⟨(hown.lt _ e).2, (hown.lt _ e).1⟩
     obtain ⟨x0, x1, x2, x3, x4, x5, x6⟩ := seven (HX1.out.below hbel)
     have hxl := (HX1.out.below hbel).lt
     have hxl2 : w.heap.size < wr.heap.size + 1 := by omega
     have hsz := hbel.size
     have i1 : (0 : Int) ≤ (k : Int) := by omega
     have i2 : (k : Int) < (nn : Int) := by omega
     clear hq hown hbel hbx
     by_cases hout : q1 < 0 ∨ (en : Int) ≤ q1
     ·have HE : Hid (placedE p = 3) := placed_at HZ.out HN16.out HQ.out hz.out (notch_out (by rw [HL.out.1]; exact hout)) (by decide)
      by_cases hneg : q1 < 0
      ·clear hout
       go_wp2_with fail
       refine bodyPost_ret (results_tmp3 rfl _ _ _) rfl ?_
       exact ⟨none, 0, 0, none, 0, 0, by rw [HE.out]; rfl, HB.out.trans (HBN.out.mono HB.out.size)⟩
      ·have hge : (en : Int) ≤ q1 := by omega
       clear hout
       go_wp2_with fail
       refine bodyPost_ret (results_tmp3 rfl _ _ _) rfl ?_
       exact ⟨none, 0, 0, none, 0, 0, by rw [HE.out]; rfl, HB.out.trans (HBN.out.mono HB.out.size)⟩
     ·obtain ⟨k1, rfl⟩ : ∃ k1 : Nat, q1 = (k1 : Int) := ⟨q1.toNat, by omega⟩
      have hk1 : k1 < en := by omega
      obtain ⟨b2, off2, x, B, ln, lc, rfl, hbw2, hx, d0, d1, hline, hlc⟩ := edge_at (HA.out.eds.on edge_mono HB.out) hk1
      obtain ⟨b3, off3, x', B3, ln3, lc3, rfl, hbw3, hx', f0, f1, hline3, hlc3⟩ := edge_at (HE2.out.on edge_mono HBL.out) hk1
      rw [hx] at hx'
      obtain rfl := Option.some.inj hx'
      have hpz := HLI.out k1 x hx
      obtain ⟨g1, g2⟩ := bad_iff (n := ((k1 : Int), q2)) (p := p) rfl hx
      have HBA := Lib.hid (And.intro g1 g2)
      have hll1 : ln ≤ 1000 := by rw [← hline.len]; exact (HA.out.small.ed x (List.mem_of_getElem? hx)).ln
      have hll3 : ln3 ≤ 1000 := by rw [← hline3.len]; exact (HA.out.small.ed x (List.mem_of_getElem? hx)).ln
      have hlle := lengthP_le hpz
      have HL1 := Lib.hid (length_any B ln lc x.line _ (hline.on spot_mono HBN.out) (by omega))
      have HL3 := Lib.hid (fun W (hb : Below wr.heap.size wr W) => length_any B3 ln3 lc3 x.line W (hline3.on spot_mono hb) (by omega))
      have HP := Lib.hid (fun W => partner_any (lengthP x.line) q2 W (by omega))
      have HPZ := Lib.hid hpz
      have HKK := Lib.hid (fun W' (hb : Below (wr.alloc (.cells #[.int .i64 (k1 : Int), .int .i64 q2] 213)).heap.size (wr.alloc (.cells #[.int .i64 (k1 : Int), .int .i64 q2] 213)) W') => boxcell_keep (g := b3) (o := off3 + k1 * 2) (Blk.new wr 213 #[.int .i64 (k1 : Int), .int .i64 q2]) (Nat.lt_of_lt_of_le hbw3 HBN.out.size) ((HBN.out.cell (p := ⟨b3, off3 + k1 * 2, none⟩) hbw3).trans f0) ((HBN.out.cell (p := ⟨b3, off3 + k1 * 2 + 1, none⟩) hbw3).trans f1) hb)
      have j1 : (k1 : Int) < (en : Int) := by omega
      clear hx hx' hline hline3 hpz g1 g2 hout f0 f1 hlc3
      go_wp2_with fail
      refine HL1.out.mono ?_
      rintro e w2 hret
      obtain ⟨rfl, hv⟩ := len_ok hret HPZ.out
      have HQ2 := Lib.hid hv
      obtain ⟨p0, p1, p2, p3⟩ := HKK.out w2 hv
      clear hret hv
      go_wp2_with fail
      refine (HL3.out _ (HBN.out.trans (HQ2.out.mono HBN.out.size))).mono ?_
      rintro e w3 hret
      obtain ⟨rfl, hv⟩ := len_ok hret HPZ.out
      have HQ3 := Lib.hid (below_then HQ2.out hv)
      obtain ⟨p0, p1, p2, p3⟩ := HKK.out w3 HQ3.out
      clear hret hv
      go_wp2_with fail
      refine (HP.out _).mono ?_
      rintro e w4 ⟨z, kk, rfl, hbad, hgood, hv⟩
      have HQ4 := Lib.hid (below_then HQ3.out hv)
      have HBG := Lib.hid (And.intro hbad hgood)
      clear hbad hgood hv
      by_cases hb : badP (lengthP x.line) q2
      ·have hkk := HBG.out.1 hb
       subst hkk
       have HE : Hid (placedE p = 3) := placed_at HZ.out HN16.out HQ.out hz.out (HBA.out.1 hb) (by decide)
       clear hb
       go_wp2_with fail
       refine bodyPost_ret (results_tmp3 rfl _ _ _) rfl ?_
       exact ⟨none, 0, 0, none, 0, 0, by rw [HE.out]; rfl, HB.out.trans ((HBN.out.trans (HQ4.out.mono HBN.out.size)).mono HB.out.size)⟩
      ·have hkk := HBG.out.2 hb
       subst hkk
       have HZ2 : Hid (∀ (j : Nat) (m : Int × Int), j < k + 1 → p.notches[j]? = some m → notchE p m = 0) := fun j m hj hm => by
        by_cases e : j = k
        ·subst e
         rw [HQ.out] at hm
         rw [← Option.some.inj hm]
         exact HBA.out.2 hb
        ·exact hz.out j m (by omega) hm
       clear hb
       have b3' : k + 1 ≤ maxLen := by unfold maxLen; omega
       have b4' : (k + 1) * 8 ≤ 140737488355328 := by omega
       go_wp2_with (at_builtin; refine wpl_own (P := Tryz.prog) (by rfl) _ _ 23 (by rfl) w1.heap.size 3 (.int .i64 0) 1 8 Tryz.underlying23 int_info rfl (by decide) u9 k (ints zs) (by rfl) (own_below HOW.out (by exact Below.alo HQ4.out _)) ⟨w4.heap.size, 0, none⟩ 1 1 [.int .i64 z] (by rfl) (by rfl) (new_int w4 z) (int_one z) b3' b4' (by exact Nat.le_trans hsz (Nat.le_trans HBN.out.size (Nat.le_trans HQ4.out.size (size_alo _ _)))) ?_; intro v5 w5 ho5 hg5 hn5)
       go_roundw
       case rel =>
        refine ⟨k + 1, zs ++ [z], by omega, by go_num, HZ2, ?_, ?_⟩
        ·rw [show ints (zs ++ [z]) = ints zs ++ [.int .i64 z] by simp [ints]]
         exact ho5
        ·exact below_own (HBL.out.trans ((HBN.out.trans ((Below.alo HQ4.out _).mono HBN.out.size)).mono HBL.out.size)) hg5 (Nat.le_trans hsz (Nat.le_trans HBN.out.size (Nat.le_trans HQ4.out.size (size_alo _ _)))) (fun g e => (HLO.out g e).2)
       case measure => simp [intOf]; omega
    ·obtain rfl : k = nn := by omega
     have HE : Hid (placedE p = 0) := placed_ok HZ.out HN16.out fun i m hm => hz.out i m (by have := (List.getElem?_eq_some_iff.1 hm).1; rw [HL.out.2] at this; exact this) hm
     obtain ⟨Q, qc, rfl⟩ := own_form hown
     clear hz hown hbel
     go_wp2_with fail
     refine bodyPost_ret (results_tmp3 rfl _ _ _) rfl ?_
     exact ⟨_, _, _, _, _, _, by rw [HE.out]; rfl, HB.out⟩
 ·have h0' : (Z != 0) = true := by simpa using h0
  have HE : Hid (placedE p = Z) := placed_graded HZ.out h0
  clear h0
  go_wp2_with fail
  refine bodyPost_ret (results_tmp3 rfl _ _ _) rfl ?_
  exact ⟨none, 0, 0, none, 0, 0, by rw [HE.out]; rfl, HB1.out⟩
set_option maxRecDepth 100000 in
set_option maxHeartbeats 1600000 in
theorem Placed_any (p : PPiece) (E : Option Addr) (en ec : Nat) (N : Option Addr) (nn nc : Nat) (C : Option Addr) (cn cc : Nat) (D : Option Addr) (dn dc : Nat) (w : World) (h : PcA w p E en ec N nn nc C cn cc D dn dc) :
  Calls Tryz.prog 111 #[.agg #[.string p.name, .slice E en ec, .int .i64 p.grain, .slice N nn nc, .slice C cn cc, .slice D dn dc, .bool p.match_], .int .i64 0] w (RetPd p w) := by
 have HBX : Hid (Below w.heap.size w (w.alloc (.cells #[.string p.name, .slice E en ec, .int .i64 p.grain, .slice N nn nc, .slice C cn cc, .slice D dn dc, .bool p.match_] 67))) := (Below.refl _ _).alloc (Nat.le_refl _) _
 have HP := Lib.hid (placed_any p E en ec N nn nc C cn cc D dn dc _ (h.on HBX.out))
 clear h
 go_enter Tryz.func111, Tryz.ntmps111
 go_wp2_with fail
 refine HP.out.mono ?_
 rintro e w1 ⟨A1, n1, c1, B1, m1, d1, rfl, hb1⟩
 go_wp2_with fail
 go_ret2
 exact ⟨_, _, _, rfl, HBX.out.trans (hb1.mono HBX.out.size)⟩
end
end Go.Proofs.YtiibocdmlfedkaaGreatDoor
