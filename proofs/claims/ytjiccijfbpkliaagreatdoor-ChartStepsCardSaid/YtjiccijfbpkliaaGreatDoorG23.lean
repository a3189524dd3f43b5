/-
  Several texts in one: chart.Check returns a chart's error. Conditions: strings of at most 100,000 bytes, numbers of at most 100,000 limbs. chart.change, value. Conditions: steps of at most 1000, numbers of at most 100 limbs. chart.parseSizes and garmentref18.head return the sizes and the base of a first line, or the error. Conditions: at most 100,000 words. The text of a chart piece by piece, its length, and a builder that holds bytes. Nothing here walks the program.
-/
import Derived.Deep.Light
import Derived.Test.YtjiccijfbpkliaaGreatDoorG02
import Derived.Test.YtjiccijfbpkliaaGreatDoorG05
import Derived.Test.YtjiccijfbpkliaaGreatDoorG19
import Derived.Test.YtjiccijfbpkliaaGreatDoorG20

/- chart.Check returns a chart's error. Conditions: strings of at most 100,000 bytes, numbers of at most 100,000 limbs. -/
namespace Go.Proofs.YtjiccijfbpkliaaGreatDoor
open Go.RowKit
open Go.Lib hiding intOf

/-- What Check asks of a chart in memory. -/
structure ChkA (w : World) (S : Option Addr) (n c : Nat) (R : Option Addr) (m d k : Nat) (ch : PChart) : Prop where
  lies : ChartA w S n R m k ch
  cap : n ≤ c
  capr : m ≤ d
  len : n ≤ 100000
  lenr : m ≤ 100000
  one : 1 ≤ k
  small : k ≤ 100000
  sz : ∀ (i : Nat) (s : ByteArray), ch.sizes[i]? = some s → s.size ≤ 100000
  nm : ∀ (i : Nat) (r : PRow), ch.rows[i]? = some r → r.name.size ≤ 100000
theorem ChkA.on {w w' : World} {S R : Option Addr} {n c m d k : Nat} {ch : PChart} (h : ChkA w S n c R m d k ch) (hb : Below w.heap.size w w') : ChkA w' S n c R m d k ch :=
  ⟨h.lies.on hb, h.cap, h.capr, h.len, h.lenr, h.one, h.small, h.sz, h.nm⟩
section
variable {w : World} {S R : Option Addr} {n c m d k : Nat} {ch : PChart}
theorem ChkA.slen (h : ChkA w S n c R m d k ch) : ch.sizes.length = n := h.lies.1.slen
theorem ChkA.rlen (h : ChkA w S n c R m d k ch) : ch.rows.length = m := h.lies.2.len
end
theorem Sl.contains {w : World} {S : Option Addr} {i c : Nat} {zs : List ByteArray} (h : Sl w w.heap.size S i (strs zs)) (x : ByteArray) (hi : i ≤ 100000) :
    Calls Tryz.prog 39 #[.slice S i c, .string x] w fun e w' => e = .returned (.bool (containsS zs x)) ∧ w = w' := by
  rcases Nat.eq_zero_or_pos i with h0 | h0
  · subst h0
    have hz : zs = [] := List.eq_nil_of_length_eq_zero h.slen
    subst hz
    exact (Tryz.slices_Contains_string_empty S c x w).mono fun e w' ⟨h1, h2⟩ => ⟨by rw [h1]; rfl, h2.symm⟩
  · obtain ⟨b, off, rfl, hb, hc⟩ := h.2 h0
    have hl := h.slen
    refine (Tryz.slices_Contains_string b off i c zs x w (by omega) (by omega) (fun j hj => ?_)).mono fun e w' ⟨h1, h2⟩ => ⟨?_, h2.symm⟩
    · apply hc
      simp [strs, List.getElem?_eq_getElem hj]
    · rw [h1, List.take_of_length_le (by omega)]
theorem found_no {c : PChart} {k : Nat} {x : ByteArray} {z : Int} (h : Found (c.rows.take k) x z) (hz : z < 0) : x ∉ c.names.take k := by
  rcases h with ⟨_, h⟩ | ⟨i, r, rfl, _⟩
  · intro hm
    rw [PChart.names, ← List.map_take, List.mem_map] at hm
    obtain ⟨r, hr, e⟩ := hm
    obtain ⟨j, hj⟩ := List.getElem?_of_mem hr
    exact h j r hj e
  · omega
theorem found_yes {c : PChart} {k : Nat} {x : ByteArray} {z : Int} (h : Found (c.rows.take k) x z) (hz : 0 ≤ z) : x ∈ c.names.take k := by
  rcases h with ⟨rfl, _⟩ | ⟨i, r, _, hr, e, _⟩
  · omega
  · rw [PChart.names, ← List.map_take, List.mem_map]
    exact ⟨r, List.mem_of_getElem? hr, e⟩
theorem name_at {c : PChart} {k : Nat} {r : PRow} (h : c.rows[k]? = some r) : c.names[k]? = some r.name := by
  rw [PChart.names, List.getElem?_map, h]
  rfl
/-- An error comes back. -/
def RetE (e0 : Int) (w : World) (e : Ending) (w' : World) : Prop := e = .returned (.int .i64 e0) ∧ Below w.heap.size w w'
theorem three {w : World} {g : Nat} {t : TypeId} {a b c : Value} (hX : Blk w g t #[a, b, c]) : w.cell? ⟨g, 0, none⟩ = some a ∧ w.cell? ⟨g, 1, none⟩ = some b ∧ w.cell? ⟨g, 2, none⟩ = some c := ⟨hX.c rfl, hX.c rfl, hX.c rfl⟩

set_option maxRecDepth 100000 in
set_option maxHeartbeats 6400000 in
theorem check_any (S : Option Addr) (n c : Nat) (R : Option Addr) (m d k : Nat) (ch : PChart) (w : World) (h : ChkA w S n c R m d k ch) :
    Calls Tryz.prog 14 #[.agg #[.slice S n c, .int .i64 ch.base, .slice R m d]] w (RetE (chkP ch) w) := by
  have hsl := h.slen
  have hrl := h.rlen
  have hB : Below w.heap.size w (w.alloc (.cells #[.slice S n c, .int .i64 ch.base, .slice R m d] 25)) := (Below.refl _ _).alloc (Nat.le_refl _) _
  have HX := Lib.hid (Blk.new w 25 #[.slice S n c, .int .i64 ch.base, .slice R m d])
  have HB := Lib.hid hB
  have HA := Lib.hid (h.on hB)
  have n1 := h.len
  have m1 := h.lenr
  have HC := Lib.hid (And.intro h.cap h.capr)
  have HL := Lib.hid (And.intro hsl hrl)
  clear hB
  by_cases h1 : 12 < n ∨ 32 < m
  · have HE := Lib.hid (chk_long (c := ch) (by rw [hsl, hrl]; exact h1))
    clear h hsl hrl
    by_cases h2 : 12 < n
    · go_enter Tryz.func14, Tryz.ntmps14
      go_wp2
      go_ret
      exact ⟨by rw [HE.out]; rfl, HB.out⟩
    · have h3 : 32 < m := by omega
      clear h1
      go_enter Tryz.func14, Tryz.ntmps14
      go_wp2
      go_ret
      exact ⟨by rw [HE.out]; rfl, HB.out⟩
  have h12 : ¬ 12 < n := by omega
  have h32 : ¬ 32 < m := by omega
  have HLn : Hid (¬ (12 < ch.sizes.length ∨ 32 < ch.rows.length)) := by rw [Hid, hsl, hrl]; exact h1
  clear h1
  by_cases h0 : n = 0
  · have HE := Lib.hid (chk_wrong HLn.out (right_empty (by rw [hsl]; exact h0)))
    subst h0
    clear h hsl hrl
    go_enter Tryz.func14, Tryz.ntmps14
    go_wp2
    go_ret
    exact ⟨by rw [HE.out]; rfl, HB.out⟩
  have hpos : 0 < n := by omega
  have hn0 : ((n : Int) == 0) = false := by simp; omega
  obtain ⟨c0, c1, c2⟩ := three HX.out
  clear h hsl hrl h0 c0 c1 c2
  go_enter Tryz.func14, Tryz.ntmps14
  go_wp2
  go_loop [28] (fun i => ∃ k : Nat, k ≤ n ∧ i = .int .i64 (k : Int) ∧ Hid (∀ (j : Nat) (s : ByteArray), j < k → ch.sizes[j]? = some s → sizeOk s.data.toList = true)) (fun i => n - (intOf i).toNat)
  case atStart => exact ⟨0, Nat.zero_le _, rfl, fun j s h => by omega⟩
  case round =>
    obtain ⟨k1, hk, rfl, hall⟩ := hrel
    by_cases hlt : k1 < n
    · obtain ⟨b, off, s, rfl, hbw, hs, hcs⟩ := HA.out.lies.1.str_ hlt
      have hsz := HA.out.sz k1 s hs
      have HS := Lib.hid hs
      have H1 := fun W => isSize_any s W (by omega)
      have i1 : (0 : Int) ≤ (k1 : Int) := by omega
      have i2 : (k1 : Int) < (n : Int) := by omega
      clear hs
      cases hq : sizeOk s.data.toList
      · have HE := Lib.hid (chk_wrong HLn.out (right_size HS.out hq))
        simp only [hq] at H1
        have H1 := Lib.hid H1
        clear hq
        go_wp2_with (go_at_call 37; go_must ((refine (H1.out _).mono ?_); rintro e w' ⟨rfl, rfl⟩))
        go_ret
        exact ⟨by rw [HE.out]; rfl, HB.out⟩
      · have HE : Hid (∀ (j : Nat) (s : ByteArray), j < k1 + 1 → ch.sizes[j]? = some s → sizeOk s.data.toList = true) := fun j s' hj hs' => by
          by_cases e : j = k1
          · subst e
            rw [HS.out] at hs'
            rw [← Option.some.inj hs']
            exact hq
          · exact hall.out j s' (by omega) hs'
        simp only [hq] at H1
        have H1 := Lib.hid H1
        clear hq
        go_wp2_with (go_at_call 37; go_must ((refine (H1.out _).mono ?_); rintro e w' ⟨rfl, rfl⟩))
        go_round
        case rel => exact ⟨k1 + 1, by omega, by go_num, HE⟩
        case measure => simp [intOf]; omega
    · obtain rfl : n = k1 := by omega
      have HS1 : Hid (∀ (j : Nat) (s : ByteArray), ch.sizes[j]? = some s → sizeOk s.data.toList = true) := fun j s hs => hall.out j s (by have := (List.getElem?_eq_some_iff.1 hs).1; rw [HL.out.1] at this; exact this) hs
      clear hall hk
      go_wp2_with fail
      go_loopw [39] (fun i wr => ∃ k : Nat, k ≤ m ∧ i = .int .i64 (k : Int) ∧ Hid (∀ (j : Nat) (r : PRow), j < k → ch.rows[j]? = some r → rowOk n r = true) ∧ Below (w.alloc (.cells #[.slice S n c, .int .i64 ch.base, .slice R m d] 25)).heap.size (w.alloc (.cells #[.slice S n c, .int .i64 ch.base, .slice R m d] 25)) wr) (fun i _ => m - (intOf i).toNat)
      case atStart => exact ⟨0, Nat.zero_le _, rfl, (fun j s h => by omega), Below.refl _ _⟩
      case round =>
        obtain ⟨k2, hk2, rfl, hall, hbel⟩ := hrel
        have hW := HB.out.trans (hbel.mono HB.out.size)
        by_cases hlt : k2 < m
        · obtain ⟨b, off, r, neg, C, cm, cc, D, dl, dd, T, sn, sc, rfl, hbw, hr, g0, g1, g2, g3, g4, hq1, hq2, hq3⟩ := (HA.out.lies.2.on hbel).at_ hlt
          have hnm := HA.out.nm k2 r hr
          have HR := Lib.hid hr
          have HS := Lib.hid (And.intro hq1 hq2)
          have HN := fun W => cname_any r.name W (by omega)
          have i1 : (0 : Int) ≤ (k2 : Int) := by omega
          have i2 : (k2 : Int) < (m : Int) := by omega
          have X1 := (HX.out.below hbel).alloc (.cells #[.string r.name, .bool neg, .slice C cm cc, .slice D dl dd, .slice T sn sc] 57)
          have Y1 := Blk.new wr 57 #[.string r.name, .bool neg, .slice C cm cc, .slice D dl dd, .slice T sn sc]
          have HW := Lib.hid (Below.alo hbel (.cells #[.string r.name, .bool neg, .slice C cm cc, .slice D dl dd, .slice T sn sc] 57))
          clear hr hq1 hq2
          cases hnk : nameOk r.name.data.toList
          · have HE := Lib.hid (chk_wrong HLn.out (right_row HR.out (by rw [rowOk, hnk]; rfl)))
            simp only [hnk] at HN
            have HN := Lib.hid HN
            clear hnk
            go_wp2_with fail
            refine (HN.out _).mono ?_
            rintro e w1 ⟨rfl, hb1⟩
            go_wp2_with fail
            go_ret
            exact ⟨by rw [HE.out]; rfl, (HB.out.trans (HW.out.mono HB.out.size)).trans (hb1.mono (Nat.le_trans HB.out.size HW.out.size))⟩
          · simp only [hnk] at HN
            have HN := Lib.hid HN
            have HNK := Lib.hid hnk
            clear hnk
            go_wp2_with fail
            refine (HN.out _).mono ?_
            rintro e w1 ⟨rfl, hb1⟩
            have HB1 := Lib.hid (HW.out.trans (hb1.mono HW.out.size))
            have X2 := X1.below hb1
            have Y2 := Y1.below hb1
            have x0 := X2.c (i := 0) rfl
            have y4 := Y2.c (i := 4) rfl
            have hsn : Hid (r.steps.length = sn) := HS.out.2.len
            have HT := Lib.hid ((HS.out.2.on ((Below.refl _ _).alloc (Nat.le_refl _) (.cells #[.string r.name, .bool neg, .slice C cm cc, .slice D dl dd, .slice T sn sc] 57))).on hb1)
            clear X1 Y1 hb1
            by_cases hse : sn = n
            · have hne : ((sn : Int) != (n : Int)) = false := by simp; omega
              obtain ⟨b2, off2, q, neg2, E, em, ec, F, fl, fd, rfl, hb2w, hq0, z0, z1, z2, hqa⟩ := HT.out.at_ (j := 0) (by omega)
              simp only [Nat.zero_mul, Nat.add_zero] at z0 z1 z2
              have HQ := Lib.hid (rcmp_any _ _ k 1 q 0 w1 hqa (RatA.zero w1) HA.out.one (by omega) HA.out.small (by omega))
              have hgd : r.steps.getD 0 0 = q := by rw [List.getD_eq_getElem?_getD, hq0]; rfl
              have HG := Lib.hid hgd
              have j1 : 0 < sn := by omega
              have j2 : (0 : Int) < (sn : Int) := by omega
              clear hqa hq0 hgd HT HS
              go_wp2_with fail
              refine HQ.out.mono ?_
              rintro e w2 ⟨cv, rfl, hcv, hb2⟩
              by_cases hz : cv = 0
              · subst hz
                have HE : Hid (∀ (j : Nat) (r : PRow), j < k2 + 1 → ch.rows[j]? = some r → rowOk n r = true) := fun j r' hj hr' => by
                  by_cases e : j = k2
                  · subst e
                    rw [HR.out] at hr'
                    rw [← Option.some.inj hr']
                    exact rowOk_iff.2 ⟨HNK.out, by rw [hsn.out]; exact hse, by rw [HG.out]; exact hcv.1 rfl⟩
                  · exact hall.out j r' (by omega) hr'
                clear hcv
                go_wp2_with fail
                go_roundw
                case rel => exact ⟨k2 + 1, by omega, by go_num, HE, HB1.out.trans (hb2.mono HB1.out.size)⟩
                case measure => simp [intOf]; omega
              · have hz' : (cv != 0) = true := by simpa using hz
                have HE := Lib.hid (chk_wrong HLn.out (right_row HR.out (by
                  cases hq : rowOk ch.sizes.length r
                  · rfl
                  · exact absurd ((rowOk_iff.1 hq).2.2) (by rw [HG.out]; exact fun e => hz (hcv.2 e)))))
                clear hcv hz
                go_wp2_with fail
                go_ret
                exact ⟨by rw [HE.out]; rfl, (HB.out.trans (HB1.out.mono HB.out.size)).trans (hb2.mono (Nat.le_trans HB.out.size HB1.out.size))⟩
            · have hne : ((sn : Int) != (n : Int)) = true := by simp; omega
              have HE := Lib.hid (chk_wrong HLn.out (right_row HR.out (by
                cases hq : rowOk ch.sizes.length r
                · rfl
                · exact absurd ((rowOk_iff.1 hq).2.1) (by rw [hsn.out, HL.out.1]; exact hse))))
              go_wp2_with fail
              go_ret
              exact ⟨by rw [HE.out]; rfl, HB.out.trans (HB1.out.mono HB.out.size)⟩
        · obtain rfl : m = k2 := by omega
          have HR1 : Hid (ch.right = true) := by
            refine right_iff.2 ⟨by rw [HL.out.1]; omega, HS1.out, fun j r hr => ?_⟩
            rw [HL.out.1]
            exact hall.out j r (by have := (List.getElem?_eq_some_iff.1 hr).1; rw [HL.out.2] at this; exact this) hr
          have HW := Lib.hid hbel
          have HX2 := Lib.hid (HX.out.below hbel)
          obtain ⟨wo, rfl⟩ : ∃ wo : World, wo = wr := ⟨_, rfl⟩
          obtain ⟨x0, x1, x2⟩ := three HX2.out
          clear hall hk2 hW hlt
          go_wp2_with fail
          go_loop [69] (fun i => ∃ k : Nat, k ≤ n ∧ i = .int .i64 (k : Int) ∧ Hid (∀ (j : Nat) (s : ByteArray), j < k → ch.sizes[j]? = some s → s ∉ ch.sizes.take j)) (fun i => n - (intOf i).toNat)
          case atStart => exact ⟨0, Nat.zero_le _, rfl, fun j s h => by omega⟩
          case round =>
            obtain ⟨k3, hk, rfl, hall⟩ := hrel
            by_cases hlt : k3 < n
            · have hsl := HA.out.lies.1.on HW.out
              have htk := (hsl.take (i := k3) (by omega))
              rw [show (strs ch.sizes).take k3 = strs (ch.sizes.take k3) from List.map_take.symm] at htk
              obtain ⟨b, off, s, rfl, hbw, hs, hcs⟩ := hsl.str_ hlt
              have HS := Lib.hid hs
              have H1 := htk.contains (c := c) s (by omega)
              have i1 : (0 : Int) ≤ (k3 : Int) := by omega
              have i2 : (k3 : Int) < (n : Int) := by omega
              have i3 : (k3 : Int) ≤ (c : Int) := by have := HC.out.1; omega
              have i4 : k3 ≤ c := by have := HC.out.1; omega
              clear hs hsl htk
              cases hq : containsS (ch.sizes.take k3) s
              · have HE : Hid (∀ (j : Nat) (s : ByteArray), j < k3 + 1 → ch.sizes[j]? = some s → s ∉ ch.sizes.take j) := fun j s' hj hs' => by
                  by_cases e : j = k3
                  · subst e
                    rw [HS.out] at hs'
                    rw [← Option.some.inj hs']
                    intro hm
                    rw [(containsS_iff _ _).2 hm] at hq
                    cases hq
                  · exact hall.out j s' (by omega) hs'
                rw [hq] at H1
                have H1 := Lib.hid H1
                clear hq
                go_wp2_with (go_at_call 39; go_must ((refine H1.out.mono ?_); rintro e w' ⟨rfl, rfl⟩))
                go_round
                case rel => exact ⟨k3 + 1, by omega, by go_num, HE⟩
                case measure => simp [intOf]; omega
              · have HE := Lib.hid (chk_twice HLn.out HR1.out (.inl (onceB_no HS.out ((containsS_iff _ _).1 hq))))
                rw [hq] at H1
                have H1 := Lib.hid H1
                clear hq
                go_wp2_with (go_at_call 39; go_must ((refine H1.out.mono ?_); rintro e w' ⟨rfl, rfl⟩))
                go_ret
                exact ⟨by rw [HE.out]; rfl, HB.out.trans (HW.out.mono HB.out.size)⟩
            · obtain rfl : n = k3 := by omega
              have HO1 : Hid (onceB ch.sizes = true) := onceB_iff.2 fun j s hs => hall.out j s (by have := (List.getElem?_eq_some_iff.1 hs).1; rw [HL.out.1] at this; exact this) hs
              clear hall hk hlt
              go_wp2_with fail
              go_loopw [84] (fun i wr => ∃ k : Nat, k ≤ m ∧ i = .int .i64 (k : Int) ∧ Hid (∀ (j : Nat) (r : PRow), j < k → ch.rows[j]? = some r → r.name ∉ ch.names.take j) ∧ Below wo.heap.size wo wr) (fun i _ => m - (intOf i).toNat)
              case atStart => exact ⟨0, Nat.zero_le _, rfl, (fun j s h => by omega), Below.refl _ _⟩
              case round =>
                obtain ⟨k4, hk4, rfl, hall, hbl4⟩ := hrel
                have hW := HW.out.trans (hbl4.mono HW.out.size)
                by_cases hlt : k4 < m
                · have hra := HA.out.lies.2.on hW
                  have hfi := fun W (hb : Below wr.heap.size wr W) x => find_any R k4 d k (ch.rows.take k4) x W ((hra.take (i := k4) (by omega)).on hb) (by omega)
                  obtain ⟨b, off, r, neg, C, cm, cc, D, dl, dd, T, sn, sc, rfl, hbw, hr, g0, g1, g2, g3, g4, hq1, hq2, hq3⟩ := hra.at_ hlt
                  have HR := Lib.hid hr
                  have HFI := Lib.hid hfi
                  have i1 : (0 : Int) ≤ (k4 : Int) := by omega
                  have i2 : (k4 : Int) < (m : Int) := by omega
                  have i3 : (k4 : Int) ≤ (d : Int) := by have := HC.out.2; omega
                  have i4 : k4 ≤ d := by have := HC.out.2; omega
                  have X1 := (HX2.out.below hbl4).alloc (.cells #[.string r.name, .bool neg, .slice C cm cc, .slice D dl dd, .slice T sn sc] 57)
                  have Y1 := Blk.new wr 57 #[.string r.name, .bool neg, .slice C cm cc, .slice D dl dd, .slice T sn sc]
                  have hx2 := X1.c (i := 2) rfl
                  have hy0 := Y1.c (i := 0) rfl
                  have hxl := (HX2.out.below hbl4).lt
                  have HB4 := Lib.hid (Below.alo hbl4 (.cells #[.string r.name, .bool neg, .slice C cm cc, .slice D dl dd, .slice T sn sc] 57))
                  have HX4 := Lib.hid X1
                  have HY4 := Lib.hid Y1
                  clear hr hq1 hq2 hra hfi X1 Y1
                  go_wp2_with fail
                  go_region_held3 (fun w' => w'.cell? ⟨w.heap.size, 2, none⟩ = some (.slice (some ⟨b, off, none⟩) m d) ∧ w'.cell? ⟨wr.heap.size, 0, none⟩ = some (.string r.name))
                    (go_keep)
                    ((go_at_call 40; go_must ((refine (HFI.out _ (by repeat (first | (with_reducible exact Below.refl _ _) | (with_reducible refine Below.drew ?_) | (with_reducible refine Below.alo ?_ _))) r.name).mono ?_); rintro e w2 ⟨z, rfl, hz, hb2⟩; have HZ := Lib.hid hz; have HB5 := Lib.hid (show Below (wr.alloc (.cells #[.string r.name, .bool neg, .slice C cm cc, .slice D dl dd, .slice T sn sc] 57)).heap.size (wr.alloc (.cells #[.string r.name, .bool neg, .slice C cm cc, .slice D dl dd, .slice T sn sc] 57)) w2 from ⟨hb2.os, hb2.tape, hb2.output, hb2.size, hb2.block⟩); have e2 := (HX4.out.below HB5.out).c (i := 2) rfl; have e0 := (HY4.out.below HB5.out).c (i := 0) rfl; clear hz hb2)))
                  rcases Int.lt_or_le z 0 with hz0 | hz0
                  · have HE : Hid (∀ (j : Nat) (r : PRow), j < k4 + 1 → ch.rows[j]? = some r → r.name ∉ ch.names.take j) := fun j r' hj hr' => by
                      by_cases e : j = k4
                      · subst e
                        rw [HR.out] at hr'
                        rw [← Option.some.inj hr']
                        exact found_no HZ.out hz0
                      · exact hall.out j r' (by omega) hr'
                    have hz1 : ¬ 0 ≤ z := by omega
                    go_wp2_with fail
                    go_roundw
                    case rel => exact ⟨k4 + 1, by omega, by go_num, HE, HB4.out.trans (HB5.out.mono HB4.out.size)⟩
                    case measure => simp [intOf]; omega
                  · have HE := Lib.hid (chk_twice HLn.out HR1.out (.inr (onceB_no (name_at HR.out) (found_yes HZ.out hz0))))
                    go_wp2_with fail
                    go_ret
                    exact ⟨by rw [HE.out]; rfl, (HB.out.trans (HW.out.mono HB.out.size)).trans ((HB4.out.trans (HB5.out.mono HB4.out.size)).mono (Nat.le_trans HB.out.size HW.out.size))⟩
                · obtain rfl : m = k4 := by omega
                  have HO2 : Hid (onceB ch.names = true) := onceB_iff.2 fun j x hx => by
                    simp only [PChart.names, List.getElem?_map, Option.map_eq_some_iff] at hx
                    obtain ⟨r, hr, rfl⟩ := hx
                    exact hall.out j r (by have := (List.getElem?_eq_some_iff.1 hr).1; rw [HL.out.2] at this; exact this) hr
                  have X5 := HX2.out.below hbl4
                  obtain ⟨y0, y1, y2⟩ := three X5
                  have HI := isIndex_any S n c ch.base R m d ch.base wr
                  have hidx : isIdx ch ch.base = (decide (0 ≤ ch.base) && decide (ch.base < (n : Int))) := by rw [isIdx, HL.out.1]
                  rw [← hidx] at HI
                  have HW5 := Lib.hid (HB.out.trans (hW.mono HB.out.size))
                  clear hall hk4 hlt X5 hidx
                  cases hq : isIdx ch ch.base
                  · have HE := Lib.hid (chk_base HLn.out HR1.out HO1.out HO2.out hq)
                    rw [hq] at HI
                    have HI := Lib.hid HI
                    clear hq
                    go_wp2_with (go_at_call 41; go_must ((refine HI.out.mono ?_); rintro e w6 ⟨rfl, hb6⟩))
                    go_ret
                    exact ⟨by rw [HE.out]; rfl, HW5.out.trans (hb6.mono HW5.out.size)⟩
                  · have HE := Lib.hid (chk_ok HLn.out HR1.out HO1.out HO2.out hq)
                    rw [hq] at HI
                    have HI := Lib.hid HI
                    clear hq
                    go_wp2_with (go_at_call 41; go_must ((refine HI.out.mono ?_); rintro e w6 ⟨rfl, hb6⟩))
                    go_ret
                    exact ⟨by rw [HE.out]; rfl, HW5.out.trans (hb6.mono HW5.out.size)⟩
end Go.Proofs.YtjiccijfbpkliaaGreatDoor

/- chart.change, value. Conditions: steps of at most 1000, numbers of at most 100 limbs. -/
namespace Go.Proofs.YtjiccijfbpkliaaGreatDoor
open Go.RowKit

theorem qk_pre {s : List Rat} {k : Nat} (hk : 1 ≤ k) (h : ∀ (j : Nat) (q : Rat), s[j]? = some q → qk q k) : ∀ b, qk (pre s b) ((k + 1) * (b + 1))
  | 0 => by
    have h0 : qk (0 : Rat) 1 := ⟨by rw [show (0 : Rat).num.natAbs = 0 from rfl, nl_zero]; omega, nl_small (by unfold bs; show 1 < _; omega)⟩
    exact h0.mono (by omega)
  | b + 1 => by
    have h1 := qk_pre hk h b
    have h2 : qk (s.getD (b + 1) 0) k := by
      rw [List.getD_eq_getElem?_getD]
      cases hq : s[b + 1]? with
      | none => exact ⟨by rw [show ((none : Option Rat).getD 0).num.natAbs = 0 from rfl, nl_zero]; omega, Nat.le_trans (nl_small (by unfold bs; show 1 < _; omega)) hk⟩
      | some q => exact h _ q hq
    refine (qk_add h1 h2).mono ?_
    rw [Nat.mul_succ (k + 1) (b + 1)]
    omega
theorem qk_chg {s : List Rat} {k : Nat} (hk : 1 ≤ k) (h : ∀ (j : Nat) (q : Rat), s[j]? = some q → qk q k) (a b : Nat) : qk (chg s a b) ((k + 1) * (b + 1) + (k + 1) * (a + 1) + 1) := by
  have := qk_add (qk_pre hk h b) (qk_neg (qk_pre hk h a))
  rw [chg, Rat.sub_eq_add_neg]
  exact this
theorem RatsA.qk {w : World} {A : Option Addr} {n k : Nat} {qs : List Rat} (h : RatsA w A n k qs) (hk : 1 ≤ k) (j : Nat) (q : Rat) (hq : qs[j]? = some q) : Go.Proofs.YtjiccijfbpkliaaGreatDoor.qk q k := by
  obtain ⟨b, off, q', neg, B, m, c, C, l, d, _, _, hq', _, _, _, hr⟩ := h.at_ (j := j) (by have := (List.getElem?_eq_some_iff.1 hq).1; rw [h.len] at this; exact this)
  rw [hq] at hq'
  rw [Option.some.inj hq']
  exact hr.qk hk

theorem three' {w : World} {g : Nat} {t : TypeId} {a b c : Value} (hX : Blk w g t #[a, b, c]) : w.cell? ⟨g, 0, none⟩ = some a ∧ w.cell? ⟨g, 1, none⟩ = some b ∧ w.cell? ⟨g, 2, none⟩ = some c := ⟨hX.c rfl, hX.c rfl, hX.c rfl⟩
/-- What change's loop keeps: the sum so far stands in its box. -/
def sumRel (s : List Rat) (a g : Nat) (row : Array Value) (w : World) (N : Nat) (s8 : Value) (wr : World) : Prop :=
  ∃ (i : Nat) (A : Option Addr) (n c : Nat) (B : Option Addr) (m d : Nat), s8 = .int .i64 (i : Int) ∧ a + 1 ≤ i ∧ i ≤ N + 1 ∧ Blk wr g 36 #[.bool (ineg (chg s a (i - 1)).num), .slice A n c, .slice B m d] ∧ Sl wr wr.heap.size A n (u32s (limbs (chg s a (i - 1)).num.natAbs)) ∧ n ≤ c ∧ Sl wr wr.heap.size B m (u32s (limbs (chg s a (i - 1)).den)) ∧ m ≤ d ∧
    Blk wr w.heap.size 57 row ∧ Blk wr (w.heap.size + 1) 36 #[.bool false, .slice none 0 0, .slice none 0 0] ∧ Below w.heap.size w wr
set_option maxRecDepth 100000 in
set_option maxHeartbeats 6400000 in
theorem change_le (v : Value) (k : Nat) (r : PRow) (a b : Nat) (w : World) (h : RowA w v k r) (hk : 1 ≤ k) (hk2 : k ≤ 400) (hab : a ≤ b) (hb : b < r.steps.length) (hl : r.steps.length ≤ 100) :
    Calls Tryz.prog 51 #[v, .int .i64 (a : Int), .int .i64 (b : Int)] w (RetQ (chg r.steps a b) w) := by
  obtain ⟨neg, C, cm, cc, D, dl, dd, T, sn, sc, rfl, hba, hst, hsc⟩ := h
  have hsl := hst.len
  have HST := Lib.hid hst
  have hB : Below w.heap.size w ((w.alloc (.cells #[.string r.name, .bool neg, .slice C cm cc, .slice D dl dd, .slice T sn sc] 57)).alloc (.cells #[.bool false, .slice none 0 0, .slice none 0 0] 36)) := ((Below.refl _ _).alloc (Nat.le_refl _) _).alloc (by simp) _
  have X0 : Blk ((w.alloc (.cells #[.string r.name, .bool neg, .slice C cm cc, .slice D dl dd, .slice T sn sc] 57)).alloc (.cells #[.bool false, .slice none 0 0, .slice none 0 0] 36)) w.heap.size 57 #[.string r.name, .bool neg, .slice C cm cc, .slice D dl dd, .slice T sn sc] := (Blk.new w _ _).alloc _
  have Y0 : Blk ((w.alloc (.cells #[.string r.name, .bool neg, .slice C cm cc, .slice D dl dd, .slice T sn sc] 57)).alloc (.cells #[.bool false, .slice none 0 0, .slice none 0 0] 36)) (w.heap.size + 1) 36 #[.bool false, .slice none 0 0, .slice none 0 0] := Blk.new' _ _ _ (by simp)
  have hnlt : ¬ b < a := by omega
  have HSL := Lib.hid hsl
  have hsn : b < sn := by omega
  have hsn2 : sn ≤ 100 := by omega
  clear hba hst hsl
  go_enter Tryz.func51, Tryz.ntmps51
  go_wp2_with fail
  refine (rnorm_any _ 1 0 _ (RatA.zero _) (by omega) (by omega)).mono ?_
  rintro e w1 ⟨A1, n1, c1, B1, m1, d1, rfl, r1, r2, r3, r4, hb1⟩
  have HG := Lib.hid (Blk.new w1 36 #[.bool (ineg (0 : Rat).num), .slice A1 n1 c1, .slice B1 m1 d1])
  have HX := Lib.hid ((X0.below hb1).alloc (.cells #[.bool (ineg (0 : Rat).num), .slice A1 n1 c1, .slice B1 m1 d1] 36))
  have HY := Lib.hid ((Y0.below hb1).alloc (.cells #[.bool (ineg (0 : Rat).num), .slice A1 n1 c1, .slice B1 m1 d1] 36))
  have HB := Lib.hid (Below.alo (hB.trans (hb1.mono hB.size)) (.cells #[.bool (ineg (0 : Rat).num), .slice A1 n1 c1, .slice B1 m1 d1] 36))
  have HS := Lib.hid (And.intro (r1.alo (.cells #[.bool (ineg (0 : Rat).num), .slice A1 n1 c1, .slice B1 m1 d1] 36)) (r3.alo (.cells #[.bool (ineg (0 : Rat).num), .slice A1 n1 c1, .slice B1 m1 d1] 36)))
  have hg1 : w.heap.size + 1 < w1.heap.size := by have := hb1.size; simp at this; omega
  clear X0 Y0 hb1 hB r1 r3
  go_wp2_with fail
  go_loopw [8] (fun s8 wr => sumRel r.steps a w1.heap.size #[.string r.name, .bool neg, .slice C cm cc, .slice D dl dd, .slice T sn sc] w b s8 wr) (fun s8 _ => b + 1 - (intOf s8).toNat)
  case atStart => exact ⟨a + 1, A1, n1, c1, B1, m1, d1, by go_num, by omega, by omega, by rw [Nat.add_sub_cancel, chg_self]; exact HG.out, by rw [Nat.add_sub_cancel, chg_self]; exact HS.out.1, r2, by rw [Nat.add_sub_cancel, chg_self]; exact HS.out.2, r4, HX.out, HY.out, HB.out⟩
  case round =>
    clear HG HX HY HB HS
    obtain ⟨i, A2, n2, c2, B2, m2, d2, rfl, hi1, hi2, hG, s1, e1, s2, e2, hX, hY, hbel⟩ := hrel
    by_cases hlt : i ≤ b
    · obtain ⟨b2, off2, q, ng, E, em, ec, F, fl, fd, rfl, hb2w, hq, z0, z1, z2, hqa⟩ := (HST.out.on hbel).at_ (j := i) (by omega)
      have hstep : chg r.steps a i = chg r.steps a (i - 1) + q := by
        obtain ⟨i0, rfl⟩ : ∃ i0, i = i0 + 1 := ⟨i - 1, by omega⟩
        rw [Nat.add_sub_cancel, chg_succ, List.getD_eq_getElem?_getD, hq]
        rfl
      have hqk := qk_chg hk (HST.out.qk hk) a (i - 1)
      have hkk : (k + 1) * (i - 1 + 1) + (k + 1) * (a + 1) + 1 ≤ 100000 := by
        have h1 : (k + 1) * (i - 1 + 1) ≤ 401 * 101 := Nat.mul_le_mul (by omega) (by omega)
        have h2 : (k + 1) * (a + 1) ≤ 401 * 101 := Nat.mul_le_mul (by omega) (by omega)
        omega
      have hqk := hqk.mono hkk
      generalize hp : chg r.steps a (i - 1) = p at *
      obtain ⟨f0, f1, f2⟩ := three' hG
      have x4 := hX.c (i := 4) rfl
      have HAd := Lib.hid (fun W (hW : Below wr.heap.size wr W) => radd_any _ _ 100000 k p q W ((RatA.of s1 e1 s2 e2 hqk).on hW) (hqa.on hW) (by omega) hk (by omega) (by omega))
      have j1 : (0 : Int) ≤ (i : Int) := by omega
      have j2 : (i : Int) < (sn : Int) := by omega
      have hgl := hG.lt
      have HGX := Lib.hid (And.intro hG (And.intro hX hY))
      have HBL := Lib.hid hbel
      have HQ := Lib.hid hstep
      have HP := Lib.hid hp
      clear hq hqk hkk hG hX hY s1 s2 hqa hstep hp hbel
      go_wp2_with fail
      go_region_with ((go_at_call 35; go_must ((refine (HAd.out _ (by repeat (first | (with_reducible exact Below.refl _ _) | (with_reducible refine Below.drew ?_)))).mono ?_); rintro e w3 ⟨A3, n3, c3, B3, m3, d3, rfl, t1, t2, t3, t4, hb3⟩; have HB3 := Lib.hid (show Below wr.heap.size wr w3 from ⟨hb3.os, hb3.tape, hb3.output, hb3.size, hb3.block⟩); have G3 := HGX.out.1.below HB3.out; have HT3 := Lib.hid (And.intro t1 t3); have k0 := G3.c (i := 0) rfl; have k1 := G3.c (i := 1) rfl; have k2 := G3.c (i := 2) rfl; have y0 := G3.frozen 0; have y1 := G3.frozen 1; have y2 := G3.frozen 2; clear hb3 t1 t3 G3)))
      all_goals
        go_wp2_with fail
        go_roundw
        case rel =>
          have hG3 := HGX.out.1.below HB3.out
          have hN := NoU.blk hG3 (by simp)
          have hX3 := HGX.out.2.1.below HB3.out
          have hY3 := HGX.out.2.2.below HB3.out
          refine ⟨i + 1, A3, n3, c3, B3, m3, d3, by go_num, by omega, by omega, ?_, ?_, t2, ?_, t4, hX3.far3 (by omega) _ _ _, hY3.far3 (by omega) _ _ _, below3 (HBL.out.trans (HB3.out.mono HBL.out.size)) (by omega) _ _ _⟩
          · rw [Nat.add_sub_cancel, HQ.out]; exact hG3.put3 _ _ _
          · rw [Nat.add_sub_cancel, HQ.out]; exact HT3.out.1.no3 hN _
          · rw [Nat.add_sub_cancel, HQ.out]; exact HT3.out.2.no3 hN _
        case measure => simp [intOf]; omega
    · obtain rfl : i = b + 1 := by omega
      rw [Nat.add_sub_cancel] at hG s1 s2
      obtain ⟨f0, f1, f2⟩ := three' hG
      obtain ⟨k0, k1, k2⟩ := three' hY
      have y0 := hY.frozen 0
      have y1 := hY.frozen 1
      have y2 := hY.frozen 2
      have HF := Lib.hid (rat_end s1 e1 s2 e2 hY (by simp) hbel (by omega))
      clear hG hX hY s1 s2 hbel
      go_wp2_with fail
      refine bodyPost_ret (v := .agg #[.bool (ineg (chg r.steps a b).num), .slice A2 n2 c2, .slice B2 m2 d2]) (by simp [results, Tryz.results51, go_sem, k0, k1, k2]) rfl ?_
      exact HF.out

set_option maxRecDepth 100000 in
set_option maxHeartbeats 3200000 in
theorem change_any (v : Value) (k : Nat) (r : PRow) (a b : Nat) (w : World) (h : RowA w v k r) (hk : 1 ≤ k) (hk2 : k ≤ 400) (ha : a < r.steps.length) (hb : b < r.steps.length) (hl : r.steps.length ≤ 100) :
    Calls Tryz.prog 51 #[v, .int .i64 (a : Int), .int .i64 (b : Int)] w (RetQ (chg r.steps a b) w) := by
  by_cases hab : a ≤ b
  · exact change_le v k r a b w h hk hk2 hab hb hl
  have H := fun W (hB : Below w.heap.size w W) => change_le v k r b a W (h.on hB) hk hk2 (by omega) ha hl
  obtain ⟨neg, C, cm, cc, D, dl, dd, T, sn, sc, rfl, hba, hst, hsc⟩ := h
  have hqk := qk_chg hk (hst.qk hk) b a
  have hkk : (k + 1) * (a + 1) + (k + 1) * (b + 1) + 1 ≤ 100000 := by
    have h1 : (k + 1) * (a + 1) ≤ 401 * 101 := Nat.mul_le_mul (by omega) (by omega)
    have h2 : (k + 1) * (b + 1) ≤ 401 * 101 := Nat.mul_le_mul (by omega) (by omega)
    omega
  have hqk := hqk.mono hkk
  have H := Lib.hid H
  have hB : Below w.heap.size w ((w.alloc (.cells #[.string r.name, .bool neg, .slice C cm cc, .slice D dl dd, .slice T sn sc] 57)).alloc (.cells #[.bool false, .slice none 0 0, .slice none 0 0] 36)) := ((Below.refl _ _).alloc (Nat.le_refl _) _).alloc (by simp) _
  have Y0 : Blk ((w.alloc (.cells #[.string r.name, .bool neg, .slice C cm cc, .slice D dl dd, .slice T sn sc] 57)).alloc (.cells #[.bool false, .slice none 0 0, .slice none 0 0] 36)) (w.heap.size + 1) 36 #[.bool false, .slice none 0 0, .slice none 0 0] := Blk.new' _ _ _ (by simp)
  have hlt : b < a := by omega
  clear hba hst hab
  go_enter Tryz.func51, Tryz.ntmps51
  go_wp2_with fail
  refine (H.out _ hB).mono ?_
  rintro e w1 ⟨A1, n1, c1, B1, m1, d1, rfl, r1, r2, r3, r4, hb1⟩
  have Y1 := Y0.below hb1
  have B1' := hB.trans (hb1.mono hB.size)
  have HN := Lib.hid (rneg_any _ 100000 _ w1 (RatA.of r1 r2 r3 r4 hqk) (by omega) (by omega))
  clear Y0 hB hb1 r1 r3
  go_wp2_with fail
  refine HN.out.mono ?_
  rintro e w2 ⟨A2, n2, c2, B2, m2, d2, rfl, t1, t2, t3, t4, hb2⟩
  rw [chg_neg] at t1 t3 ⊢
  have Y2 := Y1.below hb2
  obtain ⟨k0, k1, k2⟩ := three' Y2
  have y0 := Y2.frozen 0
  have y1 := Y2.frozen 1
  have y2 := Y2.frozen 2
  have HF := Lib.hid (rat_end t1 t2 t3 t4 Y2 (by simp) (B1'.trans (hb2.mono B1'.size)) (by omega))
  clear t1 t3 Y1 Y2 B1' hb2
  go_wp2_with fail
  refine bodyPost_ret (v := .agg #[.bool (ineg (chg r.steps a b).num), .slice A2 n2 c2, .slice B2 m2 d2]) (by simp [results, Tryz.results51, go_sem, k0, k1, k2]) rfl ?_
  exact HF.out

set_option maxRecDepth 100000 in
set_option maxHeartbeats 3200000 in
theorem value_any' (S : Option Addr) (n c : Nat) (R : Option Addr) (m d : Nat) (bs : Nat) (v : Value) (k : Nat) (r : PRow) (b : Nat) (w : World) (h : RowA w v k r) (hk : 1 ≤ k) (hk2 : k ≤ 400) (ha : bs < r.steps.length) (hb : b < r.steps.length) (hl : r.steps.length ≤ 100) :
    Calls Tryz.prog 45 #[.agg #[.slice S n c, .int .i64 (bs : Int), .slice R m d], .int .i64 (b : Int), v] w (RetQ (r.base + chg r.steps bs b) w) := by
  have H := fun W (hB : Below w.heap.size w W) => change_any v k r bs b W (h.on hB) hk hk2 ha hb hl
  obtain ⟨neg, C, cm, cc, D, dl, dd, T, sn, sc, rfl, hba, hst, hsc⟩ := h
  have hqk := qk_chg hk (hst.qk hk) bs b
  have hkk : (k + 1) * (b + 1) + (k + 1) * (bs + 1) + 1 ≤ 100000 := by
    have h1 : (k + 1) * (b + 1) ≤ 401 * 101 := Nat.mul_le_mul (by omega) (by omega)
    have h2 : (k + 1) * (bs + 1) ≤ 401 * 101 := Nat.mul_le_mul (by omega) (by omega)
    omega
  have hqk := hqk.mono hkk
  have H := Lib.hid H
  have HBA := Lib.hid hba
  have hB : Below w.heap.size w (((w.alloc (.cells #[.slice S n c, .int .i64 (bs : Int), .slice R m d] 25)).alloc (.cells #[.string r.name, .bool neg, .slice C cm cc, .slice D dl dd, .slice T sn sc] 57)).alloc (.cells #[.bool false, .slice none 0 0, .slice none 0 0] 36)) := (((Below.refl _ _).alloc (Nat.le_refl _) _).alloc (by simp) _).alloc (by simp; omega) _
  have X0 : Blk (((w.alloc (.cells #[.slice S n c, .int .i64 (bs : Int), .slice R m d] 25)).alloc (.cells #[.string r.name, .bool neg, .slice C cm cc, .slice D dl dd, .slice T sn sc] 57)).alloc (.cells #[.bool false, .slice none 0 0, .slice none 0 0] 36)) w.heap.size 25 #[.slice S n c, .int .i64 (bs : Int), .slice R m d] := ((Blk.new w _ _).alloc _).alloc _
  have Y0 : Blk (((w.alloc (.cells #[.slice S n c, .int .i64 (bs : Int), .slice R m d] 25)).alloc (.cells #[.string r.name, .bool neg, .slice C cm cc, .slice D dl dd, .slice T sn sc] 57)).alloc (.cells #[.bool false, .slice none 0 0, .slice none 0 0] 36)) (w.heap.size + 1) 57 #[.string r.name, .bool neg, .slice C cm cc, .slice D dl dd, .slice T sn sc] := (Blk.new' (w.alloc (.cells #[.slice S n c, .int .i64 (bs : Int), .slice R m d] 25)) _ _ (by simp)).alloc _
  have Z0 : Blk (((w.alloc (.cells #[.slice S n c, .int .i64 (bs : Int), .slice R m d] 25)).alloc (.cells #[.string r.name, .bool neg, .slice C cm cc, .slice D dl dd, .slice T sn sc] 57)).alloc (.cells #[.bool false, .slice none 0 0, .slice none 0 0] 36)) (w.heap.size + 1 + 1) 36 #[.bool false, .slice none 0 0, .slice none 0 0] := Blk.new' _ _ _ (by simp)
  have HX := Lib.hid X0
  have HY := Lib.hid Y0
  have HZ := Lib.hid Z0
  have HB := Lib.hid hB
  have ne0 : ¬ w.heap.size + 1 + 1 = w.heap.size := by omega
  have ne1 : ¬ w.heap.size = w.heap.size + 1 + 1 := by omega
  have ne2 : ¬ w.heap.size + 1 + 1 = w.heap.size + 1 := by omega
  have ne3 : ¬ w.heap.size + 1 = w.heap.size + 1 + 1 := by omega
  clear hba hst X0 Y0 Z0 hB
  go_enter Tryz.func45, Tryz.ntmps45
  go_upto_region 1 with fail
  go_region_held3 (fun w' => w'.cell? ⟨w.heap.size + 1, 0, none⟩ = some (.string r.name) ∧ w'.cell? ⟨w.heap.size + 1, 1, none⟩ = some (.bool neg) ∧ w'.cell? ⟨w.heap.size + 1, 2, none⟩ = some (.slice C cm cc) ∧ w'.cell? ⟨w.heap.size + 1, 3, none⟩ = some (.slice D dl dd) ∧ w'.cell? ⟨w.heap.size + 1, 4, none⟩ = some (.slice T sn sc) ∧ w'.cell? ⟨w.heap.size, 1, none⟩ = some (.int .i64 (bs : Int)))
    (go_keep)
    (first
    | (go_at_call 51; go_must ((refine (H.out _ (by exact HB.out.drew)).mono ?_); rintro e w3 ⟨A3, n3, c3, B3, m3, d3, rfl, r1, r2, r3, r4, hb3⟩; have HB3 := Lib.hid (HB.out.trans (Below.mono (w' := w3) ⟨hb3.os, hb3.tape, hb3.output, hb3.size, hb3.block⟩ HB.out.size)); have X3 := HX.out.below (w' := w3) ⟨hb3.os, hb3.tape, hb3.output, hb3.size, hb3.block⟩; have Y3 := HY.out.below (w' := w3) ⟨hb3.os, hb3.tape, hb3.output, hb3.size, hb3.block⟩; have HZ3 := Lib.hid (HZ.out.below (w' := w3) ⟨hb3.os, hb3.tape, hb3.output, hb3.size, hb3.block⟩); have u1 := X3.c (i := 1) rfl; have q0 := Y3.c (i := 0) rfl; have q1 := Y3.c (i := 1) rfl; have q2 := Y3.c (i := 2) rfl; have q3 := Y3.c (i := 3) rfl; have q4 := Y3.c (i := 4) rfl; have HX3 := Lib.hid X3; have HY3 := Lib.hid Y3; have HR3 := Lib.hid (RatA.of r1 r2 r3 r4 hqk); clear r1 r3 hb3 X3 Y3))
    | (go_at_call 35; go_must ((refine (radd_any _ _ k 100000 r.base _ _ (HBA.out.on HB3.out) HR3.out hk (by omega) (by omega) (by omega)).mono ?_); rintro e w4 ⟨A4, n4, c4, B4, m4, d4, rfl, r5, r6, r7, r8, hb4⟩; have X4 := HX3.out.below hb4; have Y4 := HY3.out.below hb4; have Z4 := HZ3.out.below hb4; have HF := Lib.hid (rat_end r5 r6 r7 r8 Z4 (by simp) (HB3.out.trans (hb4.mono HB3.out.size)) (by omega)); have v1 := X4.c (i := 1) rfl; have p0 := Y4.c (i := 0) rfl; have p1 := Y4.c (i := 1) rfl; have p2 := Y4.c (i := 2) rfl; have p3 := Y4.c (i := 3) rfl; have p4 := Y4.c (i := 4) rfl; have k0 := Z4.c (i := 0) rfl; have k1 := Z4.c (i := 1) rfl; have k2 := Z4.c (i := 2) rfl; have y0 := Z4.frozen 0; have y1 := Z4.frozen 1; have y2 := Z4.frozen 2; clear r5 r7 X4 Y4 Z4 hb4)))
  go_wp2_with fail
  refine bodyPost_ret (v := .agg #[.bool (ineg (r.base + chg r.steps bs b).num), .slice A4 n4 c4, .slice B4 m4 d4]) (by simp [results, Tryz.results45, go_sem, k0, k1, k2]) rfl ?_
  exact HF.out
end Go.Proofs.YtjiccijfbpkliaaGreatDoor

/- chart.parseSizes and garmentref18.head return the sizes and the base of a first line, or the error. Conditions: at most 100,000 words. -/
namespace Go.Proofs.YtjiccijfbpkliaaGreatDoor
open Go.RowKit
open Go.Lib hiding intOf

def RetHead (ws : List (List UInt8)) (w : World) (e : Ending) (w' : World) : Prop :=
  (headE ws = 0 → ∃ A c, e = .returned (.tuple #[.slice A (sizesOf ws).length c, .int .i64 (baseOf ws), .int .i64 0]) ∧ (sizesOf ws).length ≤ c ∧ Sl w' w'.heap.size A (sizesOf ws).length (strs (sizesOf ws)) ∧ Below w.heap.size w w') ∧
  (headE ws ≠ 0 → e = .returned (.tuple #[.slice none 0 0, .int .i64 0, .int .i64 (headE ws)]) ∧ Below w.heap.size w w')
theorem RetHead.bad {ws : List (List UInt8)} {w w' : World} {E : Int} (h : headE ws = E) (h0 : E ≠ 0) (hb : Below w.heap.size w w') : RetHead ws w (.returned (.tuple #[.slice none 0 0, .int .i64 0, .int .i64 E])) w' :=
  ⟨fun e => absurd (h.symm.trans e) h0, fun _ => ⟨by rw [h], hb⟩⟩
theorem idx_first {x : ByteArray} : ∀ {zs : List ByteArray} {b : Nat}, zs[b]? = some x → (∀ j, j < b → zs[j]? ≠ some x) → idxOfS zs x = (b : Int) := by
  have key : ∀ (zs : List ByteArray) (i b : Nat), zs[b]? = some x → (∀ j, j < b → zs[j]? ≠ some x) → idxFromS zs x i = ((i + b : Nat) : Int) := by
    intro zs
    induction zs with
    | nil => intro i b h; simp at h
    | cons z zs ih =>
      intro i b h1 h2
      cases b with
      | zero =>
        obtain rfl : z = x := by simpa using h1
        simp [idxFromS]
      | succ b =>
        have hz : z ≠ x := fun e => h2 0 (by omega) (by simp [e])
        have := ih (i + 1) b (by simpa using h1) (fun j hj e => h2 (j + 1) (by omega) (by simpa using e))
        rw [show idxFromS (z :: zs) x i = idxFromS zs x (i + 1) by simp [idxFromS, hz], this]
        omega
  intro zs b h1 h2
  have := key zs 0 b h1 h2
  unfold idxOfS
  rw [this, Nat.zero_add]
theorem idx_miss {x : ByteArray} {zs : List ByteArray} (h : ∀ j : Nat, zs[j]? ≠ some x) : idxOfS zs x = -1 := by
  have key : ∀ (zs : List ByteArray) (i : Nat), (∀ j : Nat, zs[j]? ≠ some x) → idxFromS zs x i = -1 := by
    intro zs
    induction zs with
    | nil => intro i _; rfl
    | cons z zs ih =>
      intro i h
      have hz : z ≠ x := fun e => h 0 (by simp [e])
      rw [show idxFromS (z :: zs) x i = idxFromS zs x (i + 1) by simp [idxFromS, hz]]
      exact ih _ (fun j e => h (j + 1) (by simpa using e))
  exact key zs 0 h
theorem idx_cases (zs : List ByteArray) (x : ByteArray) : idxOfS zs x = -1 ∨ ∃ b : Nat, idxOfS zs x = (b : Int) ∧ zs[b]? = some x := by
  have key : ∀ (zs : List ByteArray) (i : Nat), idxFromS zs x i = -1 ∨ ∃ b : Nat, idxFromS zs x i = ((i + b : Nat) : Int) ∧ zs[b]? = some x := by
    intro zs
    induction zs with
    | nil => intro i; exact .inl rfl
    | cons z zs ih =>
      intro i
      by_cases hz : z = x
      · subst hz
        exact .inr ⟨0, by simp [idxFromS], rfl⟩
      · rw [show idxFromS (z :: zs) x i = idxFromS zs x (i + 1) by simp [idxFromS, hz]]
        rcases ih (i + 1) with h | ⟨b, h, hb⟩
        · exact .inl h
        · exact .inr ⟨b + 1, by rw [h]; omega, by simpa using hb⟩
  rcases key zs 0 with h1 | ⟨b, h1, hb⟩
  · exact .inl h1
  · exact .inr ⟨b, by unfold idxOfS; rw [h1, Nat.zero_add], hb⟩
theorem idx_any (A : Option Addr) (n c : Nat) (zs : List ByteArray) (x : ByteArray) (w : World) {B : Nat} (h : Sl w B A n (strs zs)) (hn : n ≤ 1000000) :
    Calls Tryz.prog 79 #[.slice A n c, .string x] w fun e w' => e = .returned (.int .i64 (idxOfS zs x)) ∧ w = w' := by
  have hl := h.slen
  by_cases h0 : n = 0
  · subst h0
    obtain rfl : zs = [] := List.eq_nil_of_length_eq_zero hl
    exact (Tryz.slices_Index_string_empty A c x w).mono fun e w' ⟨he, hw⟩ => ⟨he, hw.symm⟩
  · obtain ⟨b, off, rfl, _, hc⟩ := h.2 (by omega)
    refine (Tryz.slices_Index_string b off n c zs x w (by omega) (by omega) ?_).mono fun e w' ⟨he, hw⟩ => ⟨?_, hw.symm⟩
    · intro j hj
      refine hc j _ ?_
      simp [strs, hj]
    · rw [he, List.take_of_length_le (by omega)]
theorem clone_any (b off n c : Nat) (zs : List ByteArray) (w : World) (hz : zs.length = n) (hn : n ≤ 1000000) (hc : ∀ (j : Nat) x, zs[j]? = some x → w.cell? ⟨b, off + j, none⟩ = some (.string x)) :
    Calls Tryz.prog 100 #[.slice (some ⟨b, off, none⟩) n c] w fun e w' => ∃ A d, e = .returned (.slice A n d) ∧ n ≤ d ∧ Sl w' w'.heap.size A n (strs zs) ∧ Below w.heap.size w w' := by
  refine (Tryz.slices_Clone_string b off n c zs w (by omega) (by omega) (fun j hj => hc j _ (by simp [hj]))).mono ?_
  rintro e w' ⟨v, rfl, ho, _, hb⟩
  rw [List.take_of_length_le (by omega)] at ho
  rcases ho.2 with ⟨rfl, h0⟩ | ⟨g, cap, cur, rfl, h1, h2, h3, _⟩
  · subst h0
    exact ⟨none, 0, rfl, Nat.le_refl _, Sl.of_own ho, hb⟩
  · exact ⟨_, cap, rfl, h3, Sl.of_own ho, hb⟩
theorem words_at {w : World} {A : Option Addr} {n : Nat} {ws : List (List UInt8)} {B : Nat} (h : Sl w B A n (strs (ws.map bytes))) (h0 : 0 < n) : ws.length = n ∧ ∃ b off, A = some ⟨b, off, none⟩ ∧ b < B ∧ ∀ j, j < n → w.cell? ⟨b, off + j, none⟩ = some (.string (bytes (ws.getD j []))) := by
  have hl := h.slen
  rw [List.length_map] at hl
  obtain ⟨b, off, rfl, hb, hc⟩ := h.2 h0
  refine ⟨hl, b, off, rfl, hb, fun j hj => hc j _ ?_⟩
  have : ws[j]? = some ws[j] := List.getElem?_eq_getElem (by omega)
  simp [strs, List.getD_eq_getElem?_getD, this]
theorem bytes_eq {u : List UInt8} {l : List UInt8} : ((bytes u).toList == l) = decide (u = l) := by
  rw [toList_data, bytes_data]
  by_cases h : u = l
  · simp [h]
  · simp [h]
theorem sizes_at {ws : List (List UInt8)} (h3 : ¬ ws.length < 3) {j : Nat} {x : ByteArray} : (sizesOf ws)[j]? = some x ↔ j < ws.length - 3 ∧ x = bytes (ws.getD (j + 1) []) := by
  unfold sizesOf
  rw [List.getElem?_map, List.getElem?_take]
  by_cases hj : j < ws.length - 3
  · have : ws[j + 1]? = some ws[j + 1] := List.getElem?_eq_getElem (by omega)
    rw [if_pos hj, List.getElem?_drop, Nat.add_comm 1 j, this, List.getD_eq_getElem?_getD, this]
    simp [hj]
    exact eq_comm
  · rw [if_neg hj]
    simp [hj]
theorem sizes_len {ws : List (List UInt8)} : (sizesOf ws).length = ws.length - 3 := by
  unfold sizesOf
  rw [List.length_map, List.length_take, List.length_drop]
  omega
theorem head_short {ws : List (List UInt8)} (h : ws.length < 3) : headE ws = 2 := by rw [headE, if_pos (.inl h)]
theorem head_first {ws : List (List UInt8)} (h : ws.getD 0 [] ≠ [115, 105, 122, 101, 115]) : headE ws = 2 := by rw [headE, if_pos (.inr (.inl h))]
theorem head_base {ws : List (List UInt8)} (h : ws.getD (ws.length - 2) [] ≠ [98, 97, 115, 101]) : headE ws = 2 := by rw [headE, if_pos (.inr (.inr h))]
theorem head_rest {ws : List (List UInt8)} (h : ¬ ws.length < 3) (h1 : ws.getD 0 [] = [115, 105, 122, 101, 115]) (h2 : ws.getD (ws.length - 2) [] = [98, 97, 115, 101]) : headE ws = if baseOf ws < 0 then 6 else 0 := by
  rw [headE, if_neg]
  rintro (e | e | e)
  · exact h e
  · exact e h1
  · exact e h2

set_option maxRecDepth 100000 in
set_option maxHeartbeats 6400000 in
theorem parseSizes_any (A : Option Addr) (n c : Nat) (ws : List (List UInt8)) (w : World) (h : Sl w w.heap.size A n (strs (ws.map bytes))) (hn : n ≤ 100000) (hc : n ≤ c) :
    Calls Tryz.prog 61 #[.slice A n c] w (RetHead ws w) := by
  have hl : ws.length = n := by have := h.slen; rw [List.length_map] at this; exact this
  by_cases h3 : n < 3
  · have HE := Lib.hid (head_short (ws := ws) (by omega))
    clear h hl
    go_enter Tryz.func61, Tryz.ntmps61
    go_wp2_with fail
    refine bodyPost_ret (v := .tuple #[.slice none 0 0, .int .i64 0, .int .i64 2]) (by simp [results, Tryz.results61, go_sem]) rfl ?_
    exact RetHead.bad HE.out (by omega) (Below.refl _ _)
  obtain ⟨_, b, off, rfl, hb, hat⟩ := words_at h (by omega)
  obtain ⟨m, rfl⟩ : ∃ m, n = m + 3 := ⟨n - 3, by omega⟩
  have c0 := hat 0 (by omega)
  have c1 := hat (m + 1) (by omega)
  have c2 := hat (m + 2) (by omega)
  rw [Nat.add_zero] at c0
  have HL := Lib.hid hl
  have HAT := Lib.hid hat
  have H3 : Hid (¬ ws.length < 3) := by rw [Hid]; omega
  obtain ⟨y0w, hu0⟩ : ∃ u, ws.getD 0 [] = u := ⟨_, rfl⟩
  obtain ⟨y1w, hu1⟩ : ∃ u, ws.getD (m + 1) [] = u := ⟨_, rfl⟩
  obtain ⟨y2w, hu2⟩ : ∃ u, bytes (ws.getD (m + 2) []) = u := ⟨_, rfl⟩
  rw [hu0] at c0
  rw [hu1] at c1
  rw [hu2] at c2
  have HU := Lib.hid (And.intro hu0 (And.intro hu1 hu2))
  have hlt : ¬ ((m : Int) + 3 < 3) := by omega
  have e1 : (m : Int) + 3 - 2 = (m : Int) + 1 := by omega
  have e2 : (m : Int) + 3 - 1 = (m : Int) + 2 := by omega
  clear h hat hl hu0 hu1 hu2
  by_cases hs : y0w = [115, 105, 122, 101, 115]
  · by_cases hbs : y1w = [98, 97, 115, 101]
    · have d0 : ((bytes y0w).toList == [115, 105, 122, 101, 115]) = true := by rw [bytes_eq]; simpa using hs
      have d1 : ((bytes y1w).toList == [98, 97, 115, 101]) = true := by rw [bytes_eq]; simpa using hbs
      have HE : Hid (headE ws = if baseOf ws < 0 then 6 else 0) := head_rest H3.out (by rw [HU.out.1]; exact hs) (by rw [HL.out, show m + 3 - 2 = m + 1 by omega, HU.out.2.1]; exact hbs)
      have HBO : Hid (baseOf ws = idxOfS (sizesOf ws) y2w) := by rw [Hid, baseOf, HL.out, show m + 3 - 1 = m + 2 by omega, HU.out.2.2]
      have hsl : (sizesOf ws).length = m := by rw [sizes_len, HL.out]; omega
      have HSL := Lib.hid hsl
      have HCl := Lib.hid (clone_any b (off + 1) m (c - 1) (sizesOf ws) w hsl (by omega) (fun j x hx => by
        obtain ⟨hj, rfl⟩ := (sizes_at H3.out).1 hx
        rw [HL.out] at hj
        have := HAT.out (j + 1) (by omega)
        rwa [show off + 1 + j = off + (j + 1) by omega]))
      clear hs hbs hsl
      go_enter Tryz.func61, Tryz.ntmps61
      go_wp2_with fail
      refine HCl.out.mono ?_
      rintro e w1 ⟨A1, d1', rfl, hd1, hs1, hb1⟩
      obtain ⟨hcl, hfr⟩ := bcell hb1
      have HS1 := Lib.hid hs1
      have HB1 := Lib.hid hb1
      have HI := Lib.hid (idx_any A1 m d1' (sizesOf ws) y2w w1 hs1 (by omega))
      have c2' := (hcl b (off + (m + 2)) hb).trans c2
      clear hs1 hb1 hcl hfr c0 c1 c2
      obtain ⟨z, hz⟩ : ∃ z, idxOfS (sizesOf ws) y2w = z := ⟨_, rfl⟩
      rw [hz] at HBO HI
      clear hz
      go_wp2_with fail
      refine HI.out.mono ?_
      rintro e w2 ⟨rfl, rfl⟩
      by_cases hz0 : z < 0
      · have HE2 : Hid (headE ws = 6) := by rw [Hid, HE.out, HBO.out, if_pos hz0]
        go_wp2_with fail
        refine bodyPost_ret (v := .tuple #[.slice none 0 0, .int .i64 0, .int .i64 6]) (by simp [results, Tryz.results61, go_sem]) rfl ?_
        exact RetHead.bad HE2.out (by omega) HB1.out
      · have HE2 : Hid (headE ws = 0) := by rw [Hid, HE.out, HBO.out, if_neg hz0]
        go_wp2_with fail
        refine bodyPost_ret (v := .tuple #[.slice A1 m d1', .int .i64 z, .int .i64 0]) (by simp [results, Tryz.results61, go_sem]) rfl ?_
        refine ⟨fun _ => ⟨A1, d1', by rw [HSL.out, HBO.out], by rw [HSL.out]; exact hd1, by rw [HSL.out]; exact HS1.out, HB1.out⟩, fun e => absurd HE2.out e⟩
    · have d0 : ((bytes y0w).toList == [115, 105, 122, 101, 115]) = true := by rw [bytes_eq]; simpa using hs
      have d1 : ((bytes y1w).toList == [98, 97, 115, 101]) = false := by rw [bytes_eq]; simpa using hbs
      have HE : Hid (headE ws = 2) := head_base (by rw [HL.out, show m + 3 - 2 = m + 1 by omega, HU.out.2.1]; exact hbs)
      clear hs hbs
      go_enter Tryz.func61, Tryz.ntmps61
      go_wp2_with fail
      refine bodyPost_ret (v := .tuple #[.slice none 0 0, .int .i64 0, .int .i64 2]) (by simp [results, Tryz.results61, go_sem]) rfl ?_
      exact RetHead.bad HE.out (by omega) (Below.refl _ _)
  · have d0 : ((bytes y0w).toList == [115, 105, 122, 101, 115]) = false := by rw [bytes_eq]; simpa using hs
    have HE : Hid (headE ws = 2) := head_first (by rw [HU.out.1]; exact hs)
    clear hs
    go_enter Tryz.func61, Tryz.ntmps61
    go_wp2_with fail
    refine bodyPost_ret (v := .tuple #[.slice none 0 0, .int .i64 0, .int .i64 2]) (by simp [results, Tryz.results61, go_sem]) rfl ?_
    exact RetHead.bad HE.out (by omega) (Below.refl _ _)

set_option maxRecDepth 100000 in
set_option maxHeartbeats 6400000 in
theorem head_any (A : Option Addr) (n c : Nat) (ws : List (List UInt8)) (w : World) (h : Sl w w.heap.size A n (strs (ws.map bytes))) (hn : n ≤ 100000) (hc : n ≤ c) :
    Calls Tryz.prog 64 #[.slice A n c] w (RetHead ws w) := by
  have hl : ws.length = n := by have := h.slen; rw [List.length_map] at this; exact this
  by_cases h3 : n < 3
  · have HE := Lib.hid (head_short (ws := ws) (by omega))
    clear h hl
    go_enter Tryz.func64, Tryz.ntmps64
    go_wp2_with fail
    refine bodyPost_ret (v := .tuple #[.slice none 0 0, .int .i64 0, .int .i64 2]) (by simp [results, Tryz.results64, go_sem]) rfl ?_
    exact RetHead.bad HE.out (by omega) (Below.refl _ _)
  obtain ⟨_, b, off, rfl, hb, hat⟩ := words_at h (by omega)
  obtain ⟨m, rfl⟩ : ∃ m, n = m + 3 := ⟨n - 3, by omega⟩
  have c0 := hat 0 (by omega)
  have c1 := hat (m + 1) (by omega)
  have c2 := hat (m + 2) (by omega)
  rw [Nat.add_zero] at c0
  have HL := Lib.hid hl
  have HAT := Lib.hid hat
  have H3 : Hid (¬ ws.length < 3) := by rw [Hid]; omega
  obtain ⟨y0w, hu0⟩ : ∃ u, ws.getD 0 [] = u := ⟨_, rfl⟩
  obtain ⟨y1w, hu1⟩ : ∃ u, ws.getD (m + 1) [] = u := ⟨_, rfl⟩
  obtain ⟨y2w, hu2⟩ : ∃ u, bytes (ws.getD (m + 2) []) = u := ⟨_, rfl⟩
  rw [hu0] at c0
  rw [hu1] at c1
  rw [hu2] at c2
  have HU := Lib.hid (And.intro hu0 (And.intro hu1 hu2))
  have hlt : ¬ ((m : Int) + 3 < 3) := by omega
  have e1 : (m : Int) + 3 - 2 = (m : Int) + 1 := by omega
  have e2 : (m : Int) + 3 - 1 = (m : Int) + 2 := by omega
  clear h hat hl hu0 hu1 hu2
  by_cases hs : y0w = [115, 105, 122, 101, 115]
  · by_cases hbs : y1w = [98, 97, 115, 101]
    · have d0 : ((bytes y0w).toList == [115, 105, 122, 101, 115]) = true := by rw [bytes_eq]; simpa using hs
      have d1 : ((bytes y1w).toList == [98, 97, 115, 101]) = true := by rw [bytes_eq]; simpa using hbs
      have HE : Hid (headE ws = if baseOf ws < 0 then 6 else 0) := head_rest H3.out (by rw [HU.out.1]; exact hs) (by rw [HL.out, show m + 3 - 2 = m + 1 by omega, HU.out.2.1]; exact hbs)
      have HBO : Hid (baseOf ws = idxOfS (sizesOf ws) y2w) := by rw [Hid, baseOf, HL.out, show m + 3 - 1 = m + 2 by omega, HU.out.2.2]
      have hsl : (sizesOf ws).length = m := by rw [sizes_len, HL.out]; omega
      have HSL := Lib.hid hsl
      have HSS : Hid (Sl w w.heap.size (some ⟨b, off + 1, none⟩) m (strs (sizesOf ws))) := by
        refine ⟨by rw [strs_len, hsl], fun _ => ⟨b, off + 1, rfl, hb, fun j u hu => ?_⟩⟩
        simp only [strs, List.getElem?_map, Option.map_eq_some_iff] at hu
        obtain ⟨x, hx, rfl⟩ := hu
        obtain ⟨hj, rfl⟩ := (sizes_at H3.out).1 hx
        rw [HL.out] at hj
        have := HAT.out (j + 1) (by omega)
        rwa [show off + 1 + j = off + (j + 1) by omega]
      clear hs hbs hsl
      go_enter Tryz.func64, Tryz.ntmps64
      go_wp2_with fail
      go_loopw [6] (fun i wr => ∃ k : Nat, k ≤ m ∧ i = .int .i64 ((k : Int) + 1) ∧ Hid (∀ j, j < k → (sizesOf ws)[j]? ≠ some y2w) ∧ ∃ q, wr = w.drewN q) (fun i _ => m + 1 - (intOf i).toNat)
      case atStart => exact ⟨0, Nat.zero_le _, rfl, fun j h => by omega, 0, rfl⟩
      case round =>
        obtain ⟨k, hk, rfl, hnf, q, rfl⟩ := hrel
        by_cases hlt2 : k < m
        · have ck := HAT.out (k + 1) (by omega)
          have hsk : (sizesOf ws)[k]? = some (bytes (ws.getD (k + 1) [])) := (sizes_at H3.out).2 ⟨by rw [HL.out]; omega, rfl⟩
          obtain ⟨x, hx⟩ : ∃ x, bytes (ws.getD (k + 1) []) = x := ⟨_, rfl⟩
          rw [hx] at ck hsk
          have HSK := Lib.hid hsk
          have i1 : (k : Int) + 1 < (m : Int) + 1 := by omega
          have i3 : (0 : Int) ≤ (k : Int) + 1 := by omega
          have i4 : (k : Int) + 1 < (m : Int) + 3 := by omega
          have i5 : ((k : Int) + 1).toNat = k + 1 := by omega
          have i6 : ((m : Int) + 2).toNat = m + 2 := by omega
          have i7 : (0 : Int) ≤ (m : Int) + 2 := by omega
          have i8 : (m : Int) + 2 < (m : Int) + 3 := by omega
          clear hsk hx
          by_cases he : x = y2w
          · have hq : (x.toList == y2w.toList) = true := by rw [he]; simp
            have HI : Hid (baseOf ws = (k : Int)) := by
              rw [Hid, HBO.out]
              exact idx_first (by rw [HSK.out, he]) hnf.out
            have HE2 : Hid (headE ws = 0) := by rw [Hid, HE.out, HI.out, if_neg (by omega)]
            have e3 : (k : Int) + 1 - 1 = (k : Int) := by omega
            have e4 : m + 1 - 1 = m := by omega
            clear he
            go_wp2_with fail
            go_quiet (fail)
            go_wp2_with fail
            refine bodyPost_ret (v := .tuple #[.slice (some ⟨b, off + 1, none⟩) m (c - 1), .int .i64 (k : Int), .int .i64 0]) (by simp [results, Tryz.results64, go_sem]) rfl ?_
            refine ⟨fun _ => ⟨_, _, by rw [HSL.out, HI.out], by rw [HSL.out]; omega, by rw [HSL.out]; exact HSS.out, below_of_drewN _ _ _⟩, fun e => absurd HE2.out e⟩
          · have hq := toList_ne he
            have HN2 : Hid (∀ j, j < k + 1 → (sizesOf ws)[j]? ≠ some y2w) := by
              intro j hj
              by_cases e : j = k
              · subst e
                rw [HSK.out]
                exact fun e => he (Option.some.inj e)
              · exact hnf.out j (by omega)
            clear he
            go_wp2_with fail
            go_quiet (fail)
            go_wp2_with fail
            go_roundw
            case rel => exact ⟨k + 1, by omega, by go_num, HN2, _, rfl⟩
            case measure => simp [intOf]; omega
        · obtain rfl : m = k := by omega
          have HI : Hid (baseOf ws = -1) := by
            rw [Hid, HBO.out]
            exact idx_miss fun j e => by
              have hj := (List.getElem?_eq_some_iff.1 e).1
              rw [HSL.out] at hj
              exact hnf.out j hj e
          have HE2 : Hid (headE ws = 6) := by rw [Hid, HE.out, HI.out, if_pos (by omega)]
          go_wp2_with fail
          refine bodyPost_ret (v := .tuple #[.slice none 0 0, .int .i64 0, .int .i64 6]) (by simp [results, Tryz.results64, go_sem]) rfl ?_
          exact RetHead.bad HE2.out (by omega) (below_of_drewN _ _ _)
    · have d0 : ((bytes y0w).toList == [115, 105, 122, 101, 115]) = true := by rw [bytes_eq]; simpa using hs
      have d1 : ((bytes y1w).toList == [98, 97, 115, 101]) = false := by rw [bytes_eq]; simpa using hbs
      have HE : Hid (headE ws = 2) := head_base (by rw [HL.out, show m + 3 - 2 = m + 1 by omega, HU.out.2.1]; exact hbs)
      clear hs hbs
      go_enter Tryz.func64, Tryz.ntmps64
      go_wp2_with fail
      refine bodyPost_ret (v := .tuple #[.slice none 0 0, .int .i64 0, .int .i64 2]) (by simp [results, Tryz.results64, go_sem]) rfl ?_
      exact RetHead.bad HE.out (by omega) (Below.refl _ _)
  · have d0 : ((bytes y0w).toList == [115, 105, 122, 101, 115]) = false := by rw [bytes_eq]; simpa using hs
    have HE : Hid (headE ws = 2) := head_first (by rw [HU.out.1]; exact hs)
    clear hs
    go_enter Tryz.func64, Tryz.ntmps64
    go_wp2_with fail
    refine bodyPost_ret (v := .tuple #[.slice none 0 0, .int .i64 0, .int .i64 2]) (by simp [results, Tryz.results64, go_sem]) rfl ?_
    exact RetHead.bad HE.out (by omega) (Below.refl _ _)
end Go.Proofs.YtjiccijfbpkliaaGreatDoor

/- The text of a chart piece by piece, its length, and a builder that holds bytes. Nothing here walks the program. -/
namespace Go.Proofs.YtjiccijfbpkliaaGreatDoor
open Go.RowKit
open Go.Lib hiding intOf

/-! ### pieces -/
/-- What is printed of the first j rows. -/
def outAt (ch : PChart) (j : Nat) : List UInt8 := headText ch ++ (ch.rows.take j).flatMap rowText
/-- What is printed of a row with its first i steps behind the base. -/
def inAt (r : PRow) (i : Nat) : List UInt8 := r.name.data.toList ++ tailW (ratText r.base :: ((r.steps.drop 1).take i).map ratText)
theorem out_zero (ch : PChart) : outAt ch 0 = headText ch := by simp [outAt]
theorem out_all (ch : PChart) : outAt ch ch.rows.length = printL ch := by simp [outAt, printL]
theorem out_succ {ch : PChart} {j : Nat} {r : PRow} (h : ch.rows[j]? = some r) : outAt ch (j + 1) = outAt ch j ++ (inAt r (r.steps.length - 1) ++ [10]) := by
  unfold outAt
  rw [List.take_add_one, h]
  have e : (r.steps.drop 1).take (r.steps.length - 1) = r.steps.drop 1 := List.take_of_length_le (by simp)
  unfold inAt
  rw [e]
  simp [rowText]
theorem in_zero (r : PRow) : inAt r 0 = r.name.data.toList ++ 32 :: ratText r.base := by simp [inAt, tailW]
theorem in_succ {r : PRow} {i : Nat} {q : Rat} (h : (r.steps.drop 1)[i]? = some q) : inAt r (i + 1) = inAt r i ++ 32 :: ratText q := by
  unfold inAt
  rw [List.take_add_one, h]
  simp [tailW]
theorem in_len (r : PRow) : ∀ (i : Nat), (inAt r i).length ≤ (inAt r (r.steps.length - 1)).length := by
  intro i
  unfold inAt
  have e : (r.steps.drop 1).take (r.steps.length - 1) = r.steps.drop 1 := List.take_of_length_le (by simp)
  rw [e]
  have h : tailW (ratText r.base :: (r.steps.drop 1).map ratText) = tailW (ratText r.base :: ((r.steps.drop 1).take i).map ratText) ++ tailW (((r.steps.drop 1).drop i).map ratText) := by
    unfold tailW
    rw [← List.flatMap_append, List.cons_append, ← List.map_append, List.take_append_drop]
  rw [h]
  simp only [List.length_append]
  omega
theorem out_len (ch : PChart) (j : Nat) : (outAt ch j).length ≤ (printL ch).length := by
  have h : printL ch = outAt ch j ++ (ch.rows.drop j).flatMap rowText := by
    unfold outAt printL
    rw [List.append_assoc, ← List.flatMap_append, List.take_append_drop]
  rw [h, List.length_append]
  omega
theorem in_out_len {ch : PChart} {j : Nat} {r : PRow} (h : ch.rows[j]? = some r) (i : Nat) : (outAt ch j ++ inAt r i).length ≤ (printL ch).length := by
  have h1 := out_len ch (j + 1)
  rw [out_succ h] at h1
  have h2 := in_len r i
  simp only [List.length_append] at *
  omega

/-! ### lengths -/
theorem flat_le {α : Type} {f : α → List UInt8} {m : Nat} : ∀ {l : List α}, (∀ x ∈ l, (f x).length ≤ m) → (l.flatMap f).length ≤ l.length * m
  | [], _ => by simp
  | x :: l, h => by
    have h1 := h x (by simp)
    have h2 := flat_le (l := l) (fun y hy => h y (by simp [hy]))
    rw [List.flatMap_cons, List.length_append, List.length_cons, Nat.succ_mul]
    omega
theorem tail_le {m : Nat} {us : List (List UInt8)} (h : ∀ u ∈ us, u.length ≤ m) : (tailW us).length ≤ us.length * (m + 1) := flat_le fun u hu => by
  have := h u hu
  simp
  omega
theorem ratText_le {q : Rat} {k : Nat} (h : qk q k) : (ratText q).length ≤ 20 * k + 4 := by
  have h1 := itoa_len q.num
  have h2 := nDigits_nl q.den
  have h3 := h.1
  have h4 := h.2
  unfold ratText
  split
  · omega
  · simp only [List.length_append, decDigits_length, List.length_singleton]
    omega
theorem name_le {l : List UInt8} (h : nameOk l = true) : l.length ≤ 24 := by
  simp only [nameOk, Bool.and_eq_true, decide_eq_true_eq] at h
  exact h.2.1
theorem print_room {ch : PChart} {k : Nat} (h0 : chkP ch = 0) (hq : ∀ r ∈ ch.rows, qk r.base k ∧ ∀ q ∈ r.steps, qk q k) (hk : k ≤ 100000) : (printL ch).length ≤ 1000000000 ∧ (headText ch).length ≤ 1000 := by
  obtain ⟨hs, hr, hright, _, _, b0, b1⟩ := chk_zero h0
  obtain ⟨r1, r2, r3⟩ := right_iff.1 hright
  have hsz : ∀ s ∈ ch.sizes, s.data.toList.length ≤ 8 := fun s hs => by
    obtain ⟨i, hi⟩ := List.getElem?_of_mem hs
    exact (sizeOk_iff.1 (r2 i s hi)).2.1
  have hb : (ch.sizes.getD ch.base.toNat ByteArray.empty).data.toList.length ≤ 8 := by
    have hlt : ch.base.toNat < ch.sizes.length := by omega
    rw [List.getD_eq_getElem?_getD, List.getElem?_eq_getElem hlt]
    exact hsz _ (List.getElem_mem hlt)
  have hh : (headText ch).length ≤ 1000 := by
    have := tail_le (m := 8) (us := ch.sizes.map (·.data.toList) ++ [[98, 97, 115, 101], (ch.sizes.getD ch.base.toNat ByteArray.empty).data.toList]) (fun u hu => by
      rcases List.mem_append.1 hu with hu | hu
      · obtain ⟨s, hs, rfl⟩ := List.mem_map.1 hu
        exact hsz s hs
      · simp only [List.mem_cons, List.mem_nil_iff, or_false] at hu
        rcases hu with rfl | rfl
        · decide
        · exact hb)
    unfold headText
    simp only [List.length_append, List.length_map, List.length_cons, List.length_nil] at this ⊢
    omega
  refine ⟨?_, hh⟩
  have hrow : ∀ r ∈ ch.rows, (rowText r).length ≤ 30000000 := by
    intro r hrm
    obtain ⟨i, hi⟩ := List.getElem?_of_mem hrm
    obtain ⟨e1, e2, _⟩ := rowOk_iff.1 (r3 i r hi)
    have hn := name_le e1
    obtain ⟨q1, q2⟩ := hq r hrm
    have := tail_le (m := 2000004) (us := ratText r.base :: (r.steps.drop 1).map ratText) (fun u hu => by
      rcases List.mem_cons.1 hu with rfl | hu
      · have := ratText_le q1; omega
      · obtain ⟨q, hq, rfl⟩ := List.mem_map.1 hu
        have := ratText_le (q2 q (List.mem_of_mem_drop hq)); omega)
    unfold rowText
    simp only [List.length_append, List.length_map, List.length_cons, List.length_nil, List.length_drop] at this ⊢
    have h3 : (r.steps.length - 1 + 1) * (2000004 + 1) ≤ 13 * 2000005 := Nat.mul_le_mul (by omega) (by omega)
    omega
  have h4 := flat_le hrow
  have h5 : ch.rows.length * 30000000 ≤ 32 * 30000000 := Nat.mul_le_mul_right _ hr
  unfold printL
  rw [List.length_append]
  omega
theorem RowsA.qks {w : World} {A : Option Addr} {n k : Nat} {rs : List PRow} (h : RowsA w A n k rs) (hk : 1 ≤ k) : ∀ r ∈ rs, qk r.base k ∧ ∀ q ∈ r.steps, qk q k := by
  intro r hr
  obtain ⟨j, hj⟩ := List.getElem?_of_mem hr
  have hjn : j < n := by rw [← h.len]; exact (List.getElem?_eq_some_iff.1 hj).1
  obtain ⟨b, off, r', neg, B, m, c, C, l, d, S, sn, sc, _, _, hr', _, _, _, _, _, h5, h6, _⟩ := h.at_ hjn
  rw [hj] at hr'
  obtain rfl := Option.some.inj hr'
  refine ⟨h5.qk hk, fun q hq => ?_⟩
  obtain ⟨i, hi⟩ := List.getElem?_of_mem hq
  have hin : i < sn := by rw [← h6.len]; exact (List.getElem?_eq_some_iff.1 hi).1
  obtain ⟨b2, off2, q', neg2, B2, m2, c2, C2, l2, d2, _, _, hq', _, _, _, h7⟩ := h6.at_ hin
  rw [hi] at hq'
  obtain rfl := Option.some.inj hq'
  exact h7.qk hk

/-! ### strings put together -/
theorem add2 (a b : ByteArray) (h : a.size + b.size ≤ 2000000000) : ∃ y : ByteArray, (∀ W, (Op.stringOp .add a b).run Tryz.prog W = .ok (.string y) W) ∧ y.data.toList = a.data.toList ++ b.data.toList ∧ y.size = a.size + b.size :=
  ⟨a ++ b, fun W => run_string_add_sum W _ _ (by omega), by simp [ByteArray.data_append], by rw [ByteArray.size_append]⟩
theorem join_tail (us : List (List UInt8)) (h : us ≠ []) : 32 :: join us [32] = tailW us := by
  unfold join
  cases us with
  | nil => exact absurd rfl h
  | cons u us =>
    clear h
    induction us generalizing u with
    | nil => simp [tailW, List.intercalate, List.intersperse]
    | cons x us ih =>
      have e : List.intercalate [32] (u :: x :: us) = u ++ ([32] ++ List.intercalate [32] (x :: us)) := by simp [List.intercalate, List.intersperse]
      rw [e]
      have := ih x
      simp only [tailW, List.flatMap_cons, List.cons_append, List.nil_append] at this ⊢
      rw [this]

/-! ### a builder -/
/-- A builder of the call's own that holds the bytes l. -/
def Bytes (B b : Nat) (l : List UInt8) (w : World) : Prop := Lib.IsBuilder 80 5 B b (byteCells l) w
theorem Bytes.fresh (w : World) : Bytes w.heap.size w.heap.size [] (w.alloc (.cells #[.pointer none, .slice none 0 0] 80)) :=
  .inl ⟨Nat.le_refl _, _, heap_alloc_new w _, World.ownsRow_nil _ _ _ _, by simp [Value.ownBlock]⟩
theorem at_below {B b : Nat} {p : Value} {bs : List Value} {w w' : World} (h : Lib.BuilderAt 80 5 B b p bs w) (hb : Below w.heap.size w w') : Lib.BuilderAt 80 5 B b p bs w' := by
  have hlt := h.lt
  obtain ⟨h1, v, h2, h3, h4⟩ := h
  exact ⟨h1, v, (hb.block b hlt).trans h2, own_below h3 hb, h4⟩
theorem Bytes.on {B b : Nat} {l : List UInt8} {w w' : World} (h : Bytes B b l w) (hb : Below w.heap.size w w') : Bytes B b l w' := by
  rcases h with h | h
  · exact .inl (at_below h hb)
  · exact .inr (at_below h hb)
theorem Bytes.ge {B b : Nat} {l : List UInt8} {w : World} (h : Bytes B b l w) : B ≤ b ∧ b < w.heap.size := by
  rcases h with h | h
  · exact ⟨h.1, h.lt⟩
  · exact ⟨h.1, h.lt⟩
theorem write_any (B b : Nat) (l : List UInt8) (s : ByteArray) (w : World) (h : Bytes B b l w) (hlen : l.length + s.size ≤ 2000000000) (hBw : B ≤ w.heap.size) :
    Calls Tryz.prog 53 #[.pointer (some ⟨b, 0, none⟩), .string s] w fun e w' => e = .returned (.tuple #[.int .i64 s.size, .nilIface]) ∧ Bytes B b (l ++ s.data.toList) w' ∧ Below B w w' ∧ BKeep b w w' := by
  refine (writeString_any B b (byteCells l) s w h (by rw [byteCells_length]; omega) hBw).mono ?_
  rintro e w' ⟨rfl, h1, h2, h3⟩
  refine ⟨rfl, .inr ?_, h2, h3⟩
  rw [byteCells_append, ← strCells_eq]
  exact h1
end Go.Proofs.YtjiccijfbpkliaaGreatDoor
