/- Parts of the proof. -/
import Derived.Deep.Light
import Derived.Test.YtiibocdmlfedkaaGreatDoorH04
import Derived.Test.YtiibocdmlfedkaaGreatDoorH19
namespace Go.Proofs.YtiibocdmlfedkaaGreatDoor
section
open Go.RowKit
open Go.Lib hiding intOf
structure ChkA (w : World) (S : Option Addr) (n c : Nat) (R : Option Addr) (m d k : Nat) (ch : PChart) : Prop where
 lies : ChartA w S n R m k ch
 cap : n ≤ c
 capr : m ≤ d
 len : n ≤ 100000
 lenr : m ≤ 100000
 one : 1 ≤ k
 small : k ≤ 100000
 sz : ∀ (i : Nat) (s : ByteArray), ch.sizes[i]? = some s → s.size ≤ 100000
 nm : ∀ (i : Nat) (r : PRow), ch.rows[i]? = some r → r.name.size ≤ 100000
theorem ChkA.on {w w' : World} {S R : Option Addr} {n c m d k : Nat} {ch : PChart} (h : ChkA w S n c R m d k ch) (hb : Below w.heap.size w w') : ChkA w' S n c R m d k ch :=
 ⟨h.lies.on hb, h.cap, h.capr, h.len, h.lenr, h.one, h.small, h.sz, h.nm⟩
section
variable {w : World} {S R : Option Addr} {n c m d k : Nat} {ch : PChart}
theorem ChkA.slen (h : ChkA w S n c R m d k ch) : ch.sizes.length = n := h.lies.1.slen
theorem ChkA.rlen (h : ChkA w S n c R m d k ch) : ch.rows.length = m := h.lies.2.len
end
theorem Sl.contains {w : World} {S : Option Addr} {i c : Nat} {zs : List ByteArray} (h : Sl w w.heap.size S i (strs zs)) (x : ByteArray) (hi : i ≤ 100000) :
  Calls Tryz.prog 156 #[.slice S i c, .string x] w fun e w' => e = .returned (.bool (containsS zs x)) ∧ w = w' := by
 rcases Nat.eq_zero_or_pos i with h0 | h0
 ·subst h0
  have hz : zs = [] := List.eq_nil_of_length_eq_zero h.slen
  subst hz
  exact (Tryz.slices_Contains_string_empty S c x w).mono fun e w' ⟨h1, h2⟩ => ⟨by rw [h1]; rfl, h2.symm⟩
 ·obtain ⟨b, off, rfl, hb, hc⟩ := h.2 h0
  have hl := h.slen
  refine (Tryz.slices_Contains_string b off i c zs x w (by omega) (by omega) (fun j hj => ?_)).mono fun e w' ⟨h1, h2⟩ => ⟨?_, h2.symm⟩
  ·apply hc
   simp [strs, List.getElem?_eq_getElem hj]
  ·rw [h1, List.take_of_length_le (by omega)]
theorem found_no {c : PChart} {k : Nat} {x : ByteArray} {z : Int} (h : Found (c.rows.take k) x z) (hz : z < 0) : x ∉ c.names.take k := by
 rcases h with ⟨_, h⟩ | ⟨i, r, rfl, _⟩
 ·intro hm
  rw [PChart.names, ← List.map_take, List.mem_map] at hm
  obtain ⟨r, hr, e⟩ := hm
  obtain ⟨j, hj⟩ := List.getElem?_of_mem hr
  exact h j r hj e
 ·omega
theorem found_yes {c : PChart} {k : Nat} {x : ByteArray} {z : Int} (h : Found (c.rows.take k) x z) (hz : 0 ≤ z) : x ∈ c.names.take k := by
 rcases h with ⟨rfl, _⟩ | ⟨i, r, _, hr, e, _⟩
 ·omega
 ·rw [PChart.names, ← List.map_take, List.mem_map]
  exact ⟨r, List.mem_of_getElem? hr, e⟩
theorem name_at {c : PChart} {k : Nat} {r : PRow} (h : c.rows[k]? = some r) : c.names[k]? = some r.name := by
 rw [PChart.names, List.getElem?_map, h]
 rfl
def RetE (e0 : Int) (w : World) (e : Ending) (w' : World) : Prop := e = .returned (.int .i64 e0) ∧ Below w.heap.size w w'
theorem three {w : World} {g : Nat} {t : TypeId} {a b c : Value} (hX : Blk w g t #[a, b, c]) : w.cell? ⟨g, 0, none⟩ = some a ∧ w.cell? ⟨g, 1, none⟩ = some b ∧ w.cell? ⟨g, 2, none⟩ = some c := ⟨hX.c rfl, hX.c rfl, hX.c rfl⟩
set_option maxRecDepth 100000 in
set_option maxHeartbeats 6400000 in
theorem check_any (S : Option Addr) (n c : Nat) (R : Option Addr) (m d k : Nat) (ch : PChart) (w : World) (h : ChkA w S n c R m d k ch) :
  Calls Tryz.prog 133 #[.agg #[.slice S n c, .int .i64 ch.base, .slice R m d]] w (RetE (chkP ch) w) := by
 have hsl := h.slen
 have hrl := h.rlen
 have hB : Below w.heap.size w (w.alloc (.cells #[.slice S n c, .int .i64 ch.base, .slice R m d] 196)) := (Below.refl _ _).alloc (Nat.le_refl _) _
 have HX := Lib.hid (Blk.new w 196 #[.slice S n c, .int .i64 ch.base, .slice R m d])
 have HB := Lib.hid hB
 have HA := Lib.hid (h.on hB)
 have n1 := h.len
 have m1 := h.lenr
 have HC := Lib.hid (And.intro h.cap h.capr)
 have HL := Lib.hid (And.intro hsl hrl)
 clear hB
 by_cases h1 : 12 < n ∨ 32 < m
 ·have HE := Lib.hid (chk_long (c := ch) (by rw [hsl, hrl]; exact h1))
  clear h hsl hrl
  by_cases h2 : 12 < n
  ·go_enter Tryz.func133, Tryz.ntmps133
   go_wp2
   go_ret
   exact ⟨by rw [HE.out]; rfl, HB.out⟩
  ·have h3 : 32 < m := by omega
   clear h1
   go_enter Tryz.func133, Tryz.ntmps133
   go_wp2
   go_ret
   exact ⟨by rw [HE.out]; rfl, HB.out⟩
 have h12 : ¬ 12 < n := by omega
 have h32 : ¬ 32 < m := by omega
 have HLn : Hid (¬ (12 < ch.sizes.length ∨ 32 < ch.rows.length)) := by rw [Hid, hsl, hrl]; exact h1
 clear h1
 by_cases h0 : n = 0
 ·have HE := Lib.hid (chk_wrong HLn.out (right_empty (by rw [hsl]; exact h0)))
  subst h0
  clear h hsl hrl
  go_enter Tryz.func133, Tryz.ntmps133
  go_wp2
  go_ret
  exact ⟨by rw [HE.out]; rfl, HB.out⟩
 have hpos : 0 < n := by omega
 have hn0 : ((n : Int) == 0) = false := by simp; omega
 obtain ⟨c0, c1, c2⟩ := three HX.out
 clear h hsl hrl h0 c0 c1 c2
 go_enter Tryz.func133, Tryz.ntmps133
 go_wp2
 go_loop [28] (fun i => ∃ k : Nat, k ≤ n ∧ i = .int .i64 (k : Int) ∧ Hid (∀ (j : Nat) (s : ByteArray), j < k → ch.sizes[j]? = some s → sizeOk s.data.toList = true)) (fun i => n - (intOf i).toNat)
 case atStart => exact ⟨0, Nat.zero_le _, rfl, fun j s h => by omega⟩
 case round =>
  obtain ⟨k1, hk, rfl, hall⟩ := hrel
  by_cases hlt : k1 < n
  ·obtain ⟨b, off, s, rfl, hbw, hs, hcs⟩ := HA.out.lies.1.str_ hlt
   have hsz := HA.out.sz k1 s hs
   have HS := Lib.hid hs
   have H1 := fun W => isSize_any s W (by omega)
   have i1 : (0 : Int) ≤ (k1 : Int) := by omega
   have i2 : (k1 : Int) < (n : Int) := by omega
   clear hs
   cases hq : sizeOk s.data.toList
   ·have HE := Lib.hid (chk_wrong HLn.out (right_size HS.out hq))
    simp only [hq] at H1
    have H1 := Lib.hid H1
    clear hq
    go_wp2_with (go_at_call 154; go_must ((refine (H1.out _).mono ?_); rintro e w' ⟨rfl, rfl⟩))
    go_ret
    exact ⟨by rw [HE.out]; rfl, HB.out⟩
   ·have HE : Hid (∀ (j : Nat) (s : ByteArray), j < k1 + 1 → ch.sizes[j]? = some s → sizeOk s.data.toList = true) := fun j s' hj hs' => by
     by_cases e : j = k1
     ·subst e
      rw [HS.out] at hs'
      rw [← Option.some.inj hs']
      exact hq
     ·exact hall.out j s' (by omega) hs'
    simp only [hq] at H1
    have H1 := Lib.hid H1
    clear hq
    go_wp2_with (go_at_call 154; go_must ((refine (H1.out _).mono ?_); rintro e w' ⟨rfl, rfl⟩))
    go_round
    case rel => exact ⟨k1 + 1, by omega, by go_num, HE⟩
    case measure => simp [intOf]; omega
  ·obtain rfl : n = k1 := by omega
   have HS1 : Hid (∀ (j : Nat) (s : ByteArray), ch.sizes[j]? = some s → sizeOk s.data.toList = true) := fun j s hs => hall.out j s (by have := (List.getElem?_eq_some_iff.1 hs).1; rw [HL.out.1] at this; exact this) hs
   clear hall hk
   go_wp2_with fail
   go_loopw [39] (fun i wr => ∃ k : Nat, k ≤ m ∧ i = .int .i64 (k : Int) ∧ Hid (∀ (j : Nat) (r : PRow), j < k → ch.rows[j]? = some r → rowOk n r = true) ∧ Below (w.alloc (.cells #[.slice S n c, .int .i64 ch.base, .slice R m d] 196)).heap.size (w.alloc (.cells #[.slice S n c, .int .i64 ch.base, .slice R m d] 196)) wr) (fun i _ => m - (intOf i).toNat)
   case atStart => exact ⟨0, Nat.zero_le _, rfl, (fun j s h => by omega), Below.refl _ _⟩
   case round =>
    obtain ⟨k2, hk2, rfl, hall, hbel⟩ := hrel
    have hW := HB.out.trans (hbel.mono HB.out.size)
    by_cases hlt : k2 < m
    ·obtain ⟨b, off, r, neg, C, cm, cc, D, dl, dd, T, sn, sc, rfl, hbw, hr, g0, g1, g2, g3, g4, hq1, hq2, hq3⟩ := (HA.out.lies.2.on hbel).at_ hlt
     have hnm := HA.out.nm k2 r hr
     have HR := Lib.hid hr
     have HS := Lib.hid (And.intro hq1 hq2)
     have HN := fun W => cname_any r.name W (by omega)
     have i1 : (0 : Int) ≤ (k2 : Int) := by omega
     have i2 : (k2 : Int) < (m : Int) := by omega
     have X1 := (HX.out.below hbel).alloc (.cells #[.string r.name, .bool neg, .slice C cm cc, .slice D dl dd, .slice T sn sc] 226)
     have Y1 := Blk.new wr 226 #[.string r.name, .bool neg, .slice C cm cc, .slice D dl dd, .slice T sn sc]
     have HW := Lib.hid (Below.alo hbel (.cells #[.string r.name, .bool neg, .slice C cm cc, .slice D dl dd, .slice T sn sc] 226))
     clear hr hq1 hq2
     cases hnk : nameOk r.name.data.toList
     ·have HE := Lib.hid (chk_wrong HLn.out (right_row HR.out (by rw [rowOk, hnk]; rfl)))
      simp only [hnk] at HN
      have HN := Lib.hid HN
      clear hnk
      go_wp2_with fail
      refine (HN.out _).mono ?_
      rintro e w1 ⟨rfl, hb1⟩
      go_wp2_with fail
      go_ret
      exact ⟨by rw [HE.out]; rfl, (HB.out.trans (HW.out.mono HB.out.size)).trans (hb1.mono (Nat.le_trans HB.out.size HW.out.size))⟩
     ·simp only [hnk] at HN
      have HN := Lib.hid HN
      have HNK := Lib.hid hnk
      clear hnk
      go_wp2_with fail
      refine (HN.out _).mono ?_
      rintro e w1 ⟨rfl, hb1⟩
      have HB1 := Lib.hid (HW.out.trans (hb1.mono HW.out.size))
      have X2 := X1.below hb1
      have Y2 := Y1.below hb1
      have x0 := X2.c (i := 0) rfl
      have y4 := Y2.c (i := 4) rfl
      have hsn : Hid (r.steps.length = sn) := HS.out.2.len
      have HT := Lib.hid ((HS.out.2.on ((Below.refl _ _).alloc (Nat.le_refl _) (.cells #[.string r.name, .bool neg, .slice C cm cc, .slice D dl dd, .slice T sn sc] 226))).on hb1)
      clear X1 Y1 hb1
      by_cases hse : sn = n
      ·have hne : ((sn : Int) != (n : Int)) = false := by simp; omega
       obtain ⟨b2, off2, q, neg2, E, em, ec, F, fl, fd, rfl, hb2w, hq0, z0, z1, z2, hqa⟩ := HT.out.at_ (j := 0) (by omega)
       simp only [Nat.zero_mul, Nat.add_zero] at z0 z1 z2
       have HQ := Lib.hid (rcmp_any _ _ k 1 q 0 w1 hqa (RatA.zero w1) HA.out.one (by omega) HA.out.small (by omega))
       have hgd : r.steps.getD 0 0 = q := by rw [List.getD_eq_getElem?_getD, hq0]; rfl
       have HG := Lib.hid hgd
       have j1 : 0 < sn := by omega
       have j2 : (0 : Int) < (sn : Int) := by omega
       clear hqa hq0 hgd HT HS
       go_wp2_with fail
       refine HQ.out.mono ?_
       rintro e w2 ⟨cv, rfl, hcv, hb2⟩
       by_cases hz : cv = 0
       ·subst hz
        have HE : Hid (∀ (j : Nat) (r : PRow), j < k2 + 1 → ch.rows[j]? = some r → rowOk n r = true) := fun j r' hj hr' => by
         by_cases e : j = k2
         ·subst e
          rw [HR.out] at hr'
          rw [← Option.some.inj hr']
          exact rowOk_iff.2 ⟨HNK.out, by rw [hsn.out]; exact hse, by rw [HG.out]; exact hcv.1 rfl⟩
         ·exact hall.out j r' (by omega) hr'
        clear hcv
        go_wp2_with fail
        go_roundw
        case rel => exact ⟨k2 + 1, by omega, by go_num, HE, HB1.out.trans (hb2.mono HB1.out.size)⟩
        case measure => simp [intOf]; omega
       ·have hz' : (cv != 0) = true := by simpa using hz
        have HE := Lib.hid (chk_wrong HLn.out (right_row HR.out (by
         cases hq : rowOk ch.sizes.length r
         ·rfl
         ·exact absurd ((rowOk_iff.1 hq).2.2) (by rw [HG.out]; exact fun e => hz (hcv.2 e)))))
        clear hcv hz
        go_wp2_with fail
        go_ret
        exact ⟨by rw [HE.out]; rfl, (HB.out.trans (HB1.out.mono HB.out.size)).trans (hb2.mono (Nat.le_trans HB.out.size HB1.out.size))⟩
      ·have hne : ((sn : Int) != (n : Int)) = true := by simp; omega
       have HE := Lib.hid (chk_wrong HLn.out (right_row HR.out (by
        cases hq : rowOk ch.sizes.length r
        ·rfl
        ·exact absurd ((rowOk_iff.1 hq).2.1) (by rw [hsn.out, HL.out.1]; exact hse))))
       go_wp2_with fail
       go_ret
       exact ⟨by rw [HE.out]; rfl, HB.out.trans (HB1.out.mono HB.out.size)⟩
    ·obtain rfl : m = k2 := by omega
     have HR1 : Hid (ch.right = true) := by
      refine right_iff.2 ⟨by rw [HL.out.1]; omega, HS1.out, fun j r hr => ?_⟩
      rw [HL.out.1]
      exact hall.out j r (by have := (List.getElem?_eq_some_iff.1 hr).1; rw [HL.out.2] at this; exact this) hr
     have HW := Lib.hid hbel
     have HX2 := Lib.hid (HX.out.below hbel)
     obtain ⟨wo, rfl⟩ : ∃ wo : World, wo = wr := ⟨_, rfl⟩
     obtain ⟨x0, x1, x2⟩ := three HX2.out
     clear hall hk2 hW hlt
     go_wp2_with fail
     go_loop [69] (fun i => ∃ k : Nat, k ≤ n ∧ i = .int .i64 (k : Int) ∧ Hid (∀ (j : Nat) (s : ByteArray), j < k → ch.sizes[j]? = some s → s ∉ ch.sizes.take j)) (fun i => n - (intOf i).toNat)
     case atStart => exact ⟨0, Nat.zero_le _, rfl, fun j s h => by omega⟩
     case round =>
      obtain ⟨k3, hk, rfl, hall⟩ := hrel
      by_cases hlt : k3 < n
      ·have hsl := HA.out.lies.1.on HW.out
       have htk := (hsl.take (i := k3) (by omega))
       rw [show (strs ch.sizes).take k3 = strs (ch.sizes.take k3) from List.map_take.symm] at htk
       obtain ⟨b, off, s, rfl, hbw, hs, hcs⟩ := hsl.str_ hlt
       have HS := Lib.hid hs
       have H1 := htk.contains (c := c) s (by omega)
       have i1 : (0 : Int) ≤ (k3 : Int) := by omega
       have i2 : (k3 : Int) < (n : Int) := by omega
       have i3 : (k3 : Int) ≤ (c : Int) := by have := HC.out.1; omega
       have i4 : k3 ≤ c := by have := HC.out.1; omega
       clear hs hsl htk
       cases hq : containsS (ch.sizes.take k3) s
       ·have HE : Hid (∀ (j : Nat) (s : ByteArray), j < k3 + 1 → ch.sizes[j]? = some s → s ∉ ch.sizes.take j) := fun j s' hj hs' => by
         by_cases e : j = k3
         ·subst e
          rw [HS.out] at hs'
          rw [← Option.some.inj hs']
          intro hm
          rw [(containsS_iff _ _).2 hm] at hq
          cases hq
         ·exact hall.out j s' (by omega) hs'
        rw [hq] at H1
        have H1 := Lib.hid H1
        clear hq
        go_wp2_with (go_at_call 156; go_must ((refine H1.out.mono ?_); rintro e w' ⟨rfl, rfl⟩))
        go_round
        case rel => exact ⟨k3 + 1, by omega, by go_num, HE⟩
        case measure => simp [intOf]; omega
       ·have HE := Lib.hid (chk_twice HLn.out HR1.out (.inl (onceB_no HS.out ((containsS_iff _ _).1 hq))))
        rw [hq] at H1
        have H1 := Lib.hid H1
        clear hq
        go_wp2_with (go_at_call 156; go_must ((refine H1.out.mono ?_); rintro e w' ⟨rfl, rfl⟩))
        go_ret
        exact ⟨by rw [HE.out]; rfl, HB.out.trans (HW.out.mono HB.out.size)⟩
      ·obtain rfl : n = k3 := by omega
       have HO1 : Hid (onceB ch.sizes = true) := onceB_iff.2 fun j s hs => hall.out j s (by have := (List.getElem?_eq_some_iff.1 hs).1; rw [HL.out.1] at this; exact this) hs
       clear hall hk hlt
       go_wp2_with fail
       go_loopw [84] (fun i wr => ∃ k : Nat, k ≤ m ∧ i = .int .i64 (k : Int) ∧ Hid (∀ (j : Nat) (r : PRow), j < k → ch.rows[j]? = some r → r.name ∉ ch.names.take j) ∧ Below wo.heap.size wo wr) (fun i _ => m - (intOf i).toNat)
       case atStart => exact ⟨0, Nat.zero_le _, rfl, (fun j s h => by omega), Below.refl _ _⟩
       case round =>
        obtain ⟨k4, hk4, rfl, hall, hbl4⟩ := hrel
        have hW := HW.out.trans (hbl4.mono HW.out.size)
        by_cases hlt : k4 < m
        ·have hra := HA.out.lies.2.on hW
         have hfi := fun W (hb : Below wr.heap.size wr W) x => find_any R k4 d k (ch.rows.take k4) x W ((hra.take (i := k4) (by omega)).on hb) (by omega)
         obtain ⟨b, off, r, neg, C, cm, cc, D, dl, dd, T, sn, sc, rfl, hbw, hr, g0, g1, g2, g3, g4, hq1, hq2, hq3⟩ := hra.at_ hlt
         have HR := Lib.hid hr
         have HFI := Lib.hid hfi
         have i1 : (0 : Int) ≤ (k4 : Int) := by omega
         have i2 : (k4 : Int) < (m : Int) := by omega
         have i3 : (k4 : Int) ≤ (d : Int) := by have := HC.out.2; omega
         have i4 : k4 ≤ d := by have := HC.out.2; omega
         have X1 := (HX2.out.below hbl4).alloc (.cells #[.string r.name, .bool neg, .slice C cm cc, .slice D dl dd, .slice T sn sc] 226)
         have Y1 := Blk.new wr 226 #[.string r.name, .bool neg, .slice C cm cc, .slice D dl dd, .slice T sn sc]
         have hx2 := X1.c (i := 2) rfl
         have hy0 := Y1.c (i := 0) rfl
         have hxl := (HX2.out.below hbl4).lt
         have HB4 := Lib.hid (Below.alo hbl4 (.cells #[.string r.name, .bool neg, .slice C cm cc, .slice D dl dd, .slice T sn sc] 226))
         have HX4 := Lib.hid X1
         have HY4 := Lib.hid Y1
         clear hr hq1 hq2 hra hfi X1 Y1
         go_wp2_with fail
         go_region_held3 (fun w' => w'.cell? ⟨w.heap.size, 2, none⟩ = some (.slice (some ⟨b, off, none⟩) m d) ∧ w'.cell? ⟨wr.heap.size, 0, none⟩ = some (.string r.name))
          (go_keep)
          ((go_at_call 157; go_must ((refine (HFI.out _ (by repeat (first | (with_reducible exact Below.refl _ _) | (with_reducible refine Below.drew ?_) | (with_reducible refine Below.alo ?_ _))) r.name).mono ?_); rintro e w2 ⟨z, rfl, hz, hb2⟩; have HZ := Lib.hid hz; have HB5 := Lib.hid (show Below (wr.alloc (.cells #[.string r.name, .bool neg, .slice C cm cc, .slice D dl dd, .slice T sn sc] 226)).heap.size (wr.alloc (.cells #[.string r.name, .bool neg, .slice C cm cc, .slice D dl dd, .slice T sn sc] 226)) w2 from ⟨hb2.os, hb2.tape, hb2.output, hb2.size, hb2.block⟩); have e2 := (HX4.out.below HB5.out).c (i := 2) rfl; have e0 := (HY4.out.below HB5.out).c (i := 0) rfl; clear hz hb2)))
         rcases Int.lt_or_le z 0 with hz0 | hz0
         ·have HE : Hid (∀ (j : Nat) (r : PRow), j < k4 + 1 → ch.rows[j]? = some r → r.name ∉ ch.names.take j) := fun j r' hj hr' => by
           by_cases e : j = k4
           ·subst e
            rw [HR.out] at hr'
            rw [← Option.some.inj hr']
            exact found_no HZ.out hz0
           ·exact hall.out j r' (by omega) hr'
          have hz1 : ¬ 0 ≤ z := by omega
          go_wp2_with fail
          go_roundw
          case rel => exact ⟨k4 + 1, by omega, by go_num, HE, HB4.out.trans (HB5.out.mono HB4.out.size)⟩
          case measure => simp [intOf]; omega
         ·have HE := Lib.hid (chk_twice HLn.out HR1.out (.inr (onceB_no (name_at HR.out) (found_yes HZ.out hz0))))
          go_wp2_with fail
          go_ret
          exact ⟨by rw [HE.out]; rfl, (HB.out.trans (HW.out.mono HB.out.size)).trans ((HB4.out.trans (HB5.out.mono HB4.out.size)).mono (Nat.le_trans HB.out.size HW.out.size))⟩
        ·obtain rfl : m = k4 := by omega
         have HO2 : Hid (onceB ch.names = true) := onceB_iff.2 fun j x hx => by
          simp only [PChart.names, List.getElem?_map, Option.map_eq_some_iff] at hx
          obtain ⟨r, hr, rfl⟩ := hx
          exact hall.out j r (by have := (List.getElem?_eq_some_iff.1 hr).1; rw [HL.out.2] at this; exact this) hr
         have X5 := HX2.out.below hbl4
         obtain ⟨y0, y1, y2⟩ := three X5
         have HI := isIndex_any S n c ch.base R m d ch.base wr
         have hidx : isIdx ch ch.base = (decide (0 ≤ ch.base) && decide (ch.base < (n : Int))) := by rw [isIdx, HL.out.1]
         rw [← hidx] at HI
         have HW5 := Lib.hid (HB.out.trans (hW.mono HB.out.size))
         clear hall hk4 hlt X5 hidx
         cases hq : isIdx ch ch.base
         ·have HE := Lib.hid (chk_base HLn.out HR1.out HO1.out HO2.out hq)
          rw [hq] at HI
          have HI := Lib.hid HI
          clear hq
          go_wp2_with (go_at_call 158; go_must ((refine HI.out.mono ?_); rintro e w6 ⟨rfl, hb6⟩))
          go_ret
          exact ⟨by rw [HE.out]; rfl, HW5.out.trans (hb6.mono HW5.out.size)⟩
         ·have HE := Lib.hid (chk_ok HLn.out HR1.out HO1.out HO2.out hq)
          rw [hq] at HI
          have HI := Lib.hid HI
          clear hq
          go_wp2_with (go_at_call 158; go_must ((refine HI.out.mono ?_); rintro e w6 ⟨rfl, hb6⟩))
          go_ret
          exact ⟨by rw [HE.out]; rfl, HW5.out.trans (hb6.mono HW5.out.size)⟩
end
end Go.Proofs.YtiibocdmlfedkaaGreatDoor
