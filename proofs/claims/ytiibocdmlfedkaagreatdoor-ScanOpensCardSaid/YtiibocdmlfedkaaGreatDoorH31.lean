/- Parts of the proof. -/
import Derived.Test.YtiibocdmlfedkaaGreatDoorH22
import Derived.Test.YtiibocdmlfedkaaGreatDoorH30
namespace Go.Proofs.YtiibocdmlfedkaaGreatDoor
section
open Go.RowKit
open Go.Lib hiding intOf
theorem chk_size (s : ByteArray) : decide (chkP ⟨[s], 0, []⟩ = 0) = sizeOk s.data.toList := by
 have h0 : ¬ (12 < (PChart.mk [s] 0 []).sizes.length ∨ 32 < (PChart.mk [s] 0 []).rows.length) := by simp
 cases h : sizeOk s.data.toList
 ·rw [chk_wrong h0 (by unfold PChart.right; simp [h])]
  rfl
 ·rw [chk_ok h0 (by unfold PChart.right; simp [h]) (by rfl) (by rfl) (by unfold isIdx; simp)]
  rfl
theorem size_chk (w : World) (s : ByteArray) (hs : s.size ≤ 1000) : ChkA (w.alloc (.cells #[.string s] 9)) (some ⟨w.heap.size, 0, none⟩) 1 1 none 0 0 1 ⟨[s], 0, []⟩ := by
 refine ⟨⟨?_, RowsA.nil _ none 1⟩, Nat.le_refl _, Nat.le_refl _, by omega, by omega, by omega, by omega, fun i t h => ?_, fun i r h => by simp at h⟩
 ·have := Sl.lit w #[.string s] 9 (n := 1) (xs := strs [s]) rfl rfl
  simpa using this
 ·have : t ∈ [s] := List.mem_of_getElem? h
  obtain rfl : t = s := by simpa using this
  omega
set_option maxRecDepth 100000 in
set_option maxHeartbeats 1600000 in
theorem ssize_any (s : ByteArray) (w : World) (hs : s.size ≤ 1000) :
  Calls Tryz.prog 108 #[.string s] w fun e w' => e = .returned (.bool (sizeOk s.data.toList)) ∧ Below w.heap.size w w' := by
 have hb : Below w.heap.size w (w.alloc (.cells #[.string s] 9)) := (Below.refl _ _).alloc (Nat.le_refl _) _
 have HC := check_any _ 1 1 none 0 0 1 ⟨[s], 0, []⟩ _ (size_chk w s hs)
 have HE := Lib.hid (chk_size s)
 generalize chkP ⟨[s], 0, []⟩ = z at *
 have HC := Lib.hid HC
 have HB := Lib.hid hb
 clear hb
 go_enter Tryz.func108, Tryz.ntmps108
 go_wp2_with (go_at_call 133; refine HC.out.mono ?_; rintro e w1 ⟨rfl, hb1⟩; have HB1 := Lib.hid (HB.out.trans (hb1.mono HB.out.size)); clear hb1)
 go_ret
 exact ⟨by rw [← HE.out]; rfl, HB1.out⟩
set_option maxRecDepth 100000 in
set_option maxHeartbeats 1600000 in
theorem sedge_any (s : PStyle) (Z : Option Addr) (z zc : Nat) (M : Option Addr) (m mc : Nat) (P : Option Addr) (p pc : Nat) (U : Option Addr) (u uc : Nat) (E : Option Addr) (e ec : Nat) (O : Option Addr) (o oc : Nat) (i j : Int) (w : World) (h : StyleA w s Z z zc M m mc P p pc U u uc E e ec O o oc) :
  Calls Tryz.prog 77 #[.agg #[.string s.name, .slice Z z zc, .slice M m mc, .slice P p pc, .slice U u uc, .slice E e ec, .slice O o oc], .int .i64 i, .int .i64 j] w fun e w' => e = .returned (.bool (isEdgeP s i j)) ∧ Below w.heap.size w w' := by
 have HB : Hid (Below w.heap.size w (w.alloc (.cells #[.string s.name, .slice Z z zc, .slice M m mc, .slice P p pc, .slice U u uc, .slice E e ec, .slice O o oc] 29))) := (Below.refl _ _).alloc (Nat.le_refl _) _
 have HL := Lib.hid h.pieces.len
 have HP := Lib.hid h.pieces
 clear h
 by_cases h0 : 0 ≤ i
 ·by_cases h1 : i < (p : Int)
  ·obtain ⟨k, rfl⟩ : ∃ k : Nat, i = (k : Int) := ⟨i.toNat, by omega⟩
   have hk : k < p := by omega
   obtain ⟨b, off, x, A, n, c, q1, q2, q3, q4, q5, q6, q7, q8, q9, rfl, hbw, hx, c0, c1, c2, c3, c4, c5, c6, r1, r2, r3, r4, r5, r6, r7, r8⟩ := piece_cells HP.out hk
   have HE : Hid (isEdgeP s (k : Int) j = (decide (0 ≤ j) && decide (j < (n : Int)))) := by rw [Hid, isEdge_eq rfl hx, r1.len]
   have hlt : b < w.heap.size + 1 := by omega
   clear hx c0 c2 c3 c4 c5 c6 r1 r2 r3 r4 r5 r6 r7 r8
   by_cases h2 : 0 ≤ j
   ·have HF : Hid (isEdgeP s (k : Int) j = decide (j < (n : Int))) := by rw [Hid, HE.out, decide_eq_true h2]; rfl
    go_enter Tryz.func77, Tryz.ntmps77
    go_wp2
    go_ret
    exact ⟨by rw [HF.out]; rfl, HB.out⟩
   ·have HF : Hid (isEdgeP s (k : Int) j = false) := by rw [Hid, HE.out, decide_eq_false h2]; rfl
    go_enter Tryz.func77, Tryz.ntmps77
    go_wp2
    go_ret
    exact ⟨by rw [HF.out]; rfl, HB.out⟩
  ·have HF : Hid (isEdgeP s i j = false) := isEdge_out (by rw [HL.out]; omega)
   go_enter Tryz.func77, Tryz.ntmps77
   go_wp2
   go_ret
   exact ⟨by rw [HF.out]; rfl, HB.out⟩
 ·have HF : Hid (isEdgeP s i j = false) := isEdge_out (by omega)
  go_enter Tryz.func77, Tryz.ntmps77
  go_wp2
  go_ret
  exact ⟨by rw [HF.out]; rfl, HB.out⟩
end
section
open Go.RowKit
open Go.Lib hiding intOf
theorem Sl.icontains {w : World} {S : Option Addr} {i c : Nat} {zs : List Int} (h : Sl w w.heap.size S i (ints zs)) (x : Int) (hi : i ≤ 100000) :
  Calls Tryz.prog 109 #[.slice S i c, .int .i64 x] w fun e w' => e = .returned (.bool (zs.contains x)) ∧ w = w' := by
 rcases Nat.eq_zero_or_pos i with h0 | h0
 ·subst h0
  have hz : zs = [] := List.eq_nil_of_length_eq_zero h.ilen
  subst hz
  exact (Tryz.slices_Contains_int_empty S c x w).mono fun e w' ⟨h1, h2⟩ => ⟨by rw [h1]; rfl, h2.symm⟩
 ·obtain ⟨b, off, rfl, hb, hc⟩ := h.2 h0
  have hl := h.ilen
  refine (Tryz.slices_Contains_int b off i c zs x w (by omega) (by omega) (fun j hj => ?_)).mono fun e w' ⟨h1, h2⟩ => ⟨?_, h2.symm⟩
  ·apply hc
   simp [ints, List.getElem?_eq_getElem hj]
  ·rw [h1, List.take_of_length_le (by omega)]
theorem zero_bool (w : World) : (zeroValue 4).run Tryz.prog w = .ok (.bool false) w := by kernel_rfl
set_option maxRecDepth 100000 in
set_option maxHeartbeats 12800000 in
theorem whole_any (s : PStyle) (Z : Option Addr) (z zc : Nat) (M : Option Addr) (m mc : Nat) (P : Option Addr) (p pc : Nat) (U : Option Addr) (u uc : Nat) (E : Option Addr) (e ec : Nat) (O : Option Addr) (o oc : Nat) (w : World) (h : StyleA w s Z z zc M m mc P p pc U u uc E e ec O o oc) (hs : StyleS s) :
  Calls Tryz.prog 75 #[.agg #[.string s.name, .slice Z z zc, .slice M m mc, .slice P p pc, .slice U u uc, .slice E e ec, .slice O o oc]] w fun e w' => e = .returned (.int .i64 (wholeE s)) ∧ Below w.heap.size w w' := by
 have HBX : Hid (Below w.heap.size w (w.alloc (.cells #[.string s.name, .slice Z z zc, .slice M m mc, .slice P p pc, .slice U u uc, .slice E e ec, .slice O o oc] 29))) := (Below.refl _ _).alloc (Nat.le_refl _) _
 have HX := Lib.hid (Blk.new w 29 #[.string s.name, .slice Z z zc, .slice M m mc, .slice P p pc, .slice U u uc, .slice E e ec, .slice O o oc])
 have HA := Lib.hid h
 have HS := Lib.hid hs
 have HL := Lib.hid (And.intro h.sizes.slen (And.intro h.mults.ilen (And.intro h.pieces.len (And.intro h.uses.len (And.intro h.seams.len h.ops.len)))))
 have l1 : z ≤ 1000 := by rw [← h.sizes.slen]; exact hs.szs
 have l2 : m ≤ 1000 := by rw [← h.mults.ilen]; exact hs.mul
 have l3 : p ≤ 1000 := by rw [← h.pieces.len]; exact hs.pcs
 have l4 : u ≤ 1000 := by rw [← h.uses.len]; exact hs.us
 have l5 : e ≤ 1000 := by rw [← h.seams.len]; exact hs.sm
 have l6 : o ≤ 1000 := by rw [← h.ops.len]; exact hs.ops
 have HN := fun W => sname_any s.name W (by have := hs.nm; omega)
 clear h hs
 cases hnm : nameOk s.name.data.toList
 ·have HE : Hid (wholeE s = 1) := whole_name (.inl hnm)
  simp only [hnm] at HN
  have HN := Lib.hid HN
  clear hnm
  go_enter Tryz.func75, Tryz.ntmps75
  go_wp2_with (go_at_call 107; refine (HN.out _).mono ?_; rintro e w1 ⟨rfl, hb1⟩; have HB1 := Lib.hid (HBX.out.trans (hb1.mono HBX.out.size)); clear hb1)
  go_ret
  exact ⟨by rw [HE.out]; rfl, HB1.out⟩
 by_cases hz : z = 0
 ·have HE : Hid (wholeE s = 1) := whole_name (.inr (by rw [HL.out.1]; exact hz))
  simp only [hnm] at HN
  have HN := Lib.hid HN
  subst hz
  clear hnm
  go_enter Tryz.func75, Tryz.ntmps75
  go_wp2_with (go_at_call 107; refine (HN.out _).mono ?_; rintro e w1 ⟨rfl, hb1⟩; have HB1 := Lib.hid (HBX.out.trans (hb1.mono HBX.out.size)); obtain ⟨x0, x1, x2, x3, x4, x5, x6⟩ := seven (HX.out.below hb1); clear hb1)
  go_ret
  exact ⟨by rw [HE.out]; rfl, HB1.out⟩
 have H1 : Hid (¬ (nameOk s.name.data.toList = false ∨ s.sizes.length = 0)) := fun h => by
  rcases h with h | h
  ·rw [hnm] at h; cases h
  ·rw [HL.out.1] at h; exact hz h
 simp only [hnm] at HN
 have HN := Lib.hid HN
 have hz' : ((z : Int) == 0) = false := by simpa using hz
 clear hnm
 go_enter Tryz.func75, Tryz.ntmps75
 go_wp2_with fail
 refine (HN.out _).mono ?_
 rintro e w1 ⟨rfl, hb1⟩
 have HB1 := Lib.hid (HBX.out.trans (hb1.mono HBX.out.size))
 have HX1 := Lib.hid (HX.out.below hb1)
 obtain ⟨x0, x1, x2, x3, x4, x5, x6⟩ := seven HX1.out
 clear hb1
 go_wp2_with fail
 go_loopw [4, 23] (fun _ i wr => ∃ k : Nat, k ≤ z ∧ i = .int .i64 (k : Int) ∧ Hid (∀ (j : Nat) (t : ByteArray), j < k → s.sizes[j]? = some t → sizeOk t.data.toList = true) ∧ Below w1.heap.size w1 wr) (fun _ i _ => z - (intOf i).toNat)
 case atStart => exact ⟨0, Nat.zero_le _, rfl, (fun j t hj => by omega), Below.refl _ _⟩
 case round =>
  obtain ⟨k, hk, rfl, hall, hbel⟩ := hrel
  have HB := Lib.hid (HB1.out.trans (hbel.mono HB1.out.size))
  have HBL := Lib.hid hbel
  by_cases hlt : k < z
  ·obtain ⟨b, off, t, rfl, hbw, ht, c0⟩ := (HA.out.sizes.on HB.out).str_ hlt
   have HT := Lib.hid ht
   have HSZ := fun W => ssize_any t W (HS.out.sz t (List.mem_of_getElem? ht))
   have i1 : (0 : Int) ≤ (k : Int) := by omega
   have i2 : (k : Int) < (z : Int) := by omega
   clear ht hbel
   cases hq : sizeOk t.data.toList
   ·have HE : Hid (wholeE s = 1) := whole_size H1.out HT.out hq
    simp only [hq] at HSZ
    have HSZ := Lib.hid HSZ
    clear hq
    go_wp2_with (go_at_call 108; refine (HSZ.out _).mono ?_; rintro e w2 ⟨rfl, hb2⟩; have HB2 := Lib.hid (HB.out.trans (hb2.mono HB.out.size)); clear hb2)
    go_ret
    exact ⟨by rw [HE.out]; rfl, HB2.out⟩
   ·have HE : Hid (∀ (j : Nat) (t : ByteArray), j < k + 1 → s.sizes[j]? = some t → sizeOk t.data.toList = true) := fun j t' hj ht' => by
     by_cases e : j = k
     ·subst e
      rw [HT.out] at ht'
      rw [← Option.some.inj ht']
      exact hq
     ·exact hall.out j t' (by omega) ht'
    simp only [hq] at HSZ
    have HSZ := Lib.hid HSZ
    clear hq
    go_wp2_with (go_at_call 108; refine (HSZ.out _).mono ?_; rintro e w2 ⟨rfl, hb2⟩; have HB2 := Lib.hid (HBL.out.trans (hb2.mono HBL.out.size)); clear hb2)
    go_roundw
    case rel => exact ⟨k + 1, by omega, by go_num, HE, HB2.out⟩
    case measure => simp [intOf]; omega
  ·obtain rfl : z = k := by omega
   have H2 := Lib.hid (sizes_all (s := s) fun j t ht => hall.out j t (by have := (List.getElem?_eq_some_iff.1 ht).1; rw [HL.out.1] at this; exact this) ht)
   have HX2 := Lib.hid (HX1.out.below hbel)
   clear x0 x1 x2 x3 x4 x5 x6 hall hbel hlt hk
   obtain ⟨x0, x1, x2, x3, x4, x5, x6⟩ := seven HX2.out
   by_cases hml : m = z
   ·subst hml
    have HC := (HA.out.mults.on HB.out).icontains (c := mc) 0 (by omega)
    by_cases hc0 : (0 : Int) ∈ s.multiples
    ·have H3 : Hid (¬ (s.multiples.length ≠ s.sizes.length ∨ 0 ∉ s.multiples)) := fun h => by
      rcases h with h | h
      ·exact h (by rw [HL.out.1, HL.out.2.1])
      ·exact h hc0
     rw [show s.multiples.contains 0 = true by simpa using hc0] at HC
     have HC := Lib.hid HC
     have hmm := @run_makeMap Tryz.prog
     clear hc0
     obtain ⟨wm, rfl⟩ : ∃ wm : World, wm = wr := ⟨_, rfl⟩
     have hxl := HX2.out.lt
     have uK := Tryz.underlying174
     have HX3 := Lib.hid (HX2.out.alloc (.map #[] 0))
     have HBM : Hid (Below wm.heap.size wm (wm.alloc (.map #[] 0))) := (Below.refl _ _).alloc (Nat.le_refl _) _
     go_wp2_with (go_at_call 109; refine HC.out.mono ?_; rintro e w2 ⟨rfl, rfl⟩)
     clear hmm
     go_loopw [7, 48] (fun _ i wr => ∃ k : Nat, k ≤ m ∧ i = .int .i64 (k : Int) ∧ Hid (∀ (i : Nat) (x : ByteArray), i < k → s.sizes[i]? = some x → x ∉ s.sizes.take i) ∧ SetM Value.string wr wm.heap.size (s.sizes.take k) ∧ Below wm.heap.size wm wr) (fun _ i _ => m - (intOf i).toNat)
     case atStart => exact ⟨0, Nat.zero_le _, rfl, (fun j b hj => by omega), SetM.made _ _, HBM.out⟩
     case round =>
      obtain ⟨k, hk, rfl, hall, hset, hbel⟩ := hrel
      have HB3 := Lib.hid (HB.out.trans (hbel.mono HB.out.size))
      have HBL3 := Lib.hid hbel
      have HX4 := Lib.hid (HX2.out.below hbel)
      by_cases hlt : k < m
      ·obtain ⟨b, off, x, rfl, hbw, hx, c0⟩ := (HA.out.sizes.on HB3.out).str_ hlt
       have HXX := Lib.hid hx
       have i1 : (0 : Int) ≤ (k : Int) := by omega
       have i2 : (k : Int) < (m : Int) := by omega
       obtain ⟨mm, hm, hso⟩ := hset
       have HM := Lib.hid (And.intro hm hso)
       clear hx hm hso hbel
       by_cases hin : x ∈ s.sizes.take k
       ·have HE : Hid (wholeE s = 7) := whole_twice H1.out H2.out H3.out (by
         cases hq : onceB s.sizes
         ·rfl
         ·exact absurd hin (onceB_iff.1 hq k x HXX.out))
        have HD : Hid ((mget mm x).getD (.bool false) = .bool true) := HM.out.2.get_yes hin
        clear hin
        go_wp2_with (at_lookup; refine wpl_lookup (by rfl) _ _ _ _ (by rfl) (key_str Tryz.underlying9) uK (zero_bool _) (by rfl) HM.out.1 x (by rfl) ?_; simp only [HD.out])
        go_ret
        exact ⟨by rw [HE.out]; rfl, HB3.out⟩
       ·have HD : Hid ((mget mm x).getD (.bool false) = .bool false) := HM.out.2.get_no hin
        have HE : Hid (∀ (i : Nat) (x : ByteArray), i < k + 1 → s.sizes[i]? = some x → x ∉ s.sizes.take i) := fun i x' hi hx' => by
         by_cases e : i = k
         ·subst e
          rw [HXX.out] at hx'
          rw [← Option.some.inj hx']
          exact hin
         ·exact hall.out i x' (by omega) hx'
        clear hin
        go_wp2_with (first
         | (at_lookup; refine wpl_lookup (by rfl) _ _ _ _ (by rfl) (key_str Tryz.underlying9) uK (zero_bool _) (by rfl) HM.out.1 x (by rfl) ?_; simp only [HD.out])
         | (at_mapUpdate; refine wpl_update (by rfl) _ _ _ _ (by rfl) (key_str Tryz.underlying9) uK (by rfl) HM.out.1 x (by rfl) _ (by rfl) ?_; intro w5 hm1 hg1))
        go_roundw
        case rel =>
         refine ⟨k + 1, by omega, by go_num, HE, ⟨_, hm1, ?_⟩, below_own HBL3.out hg1 HBL3.out.size (fun g e => by injection e with e; omega)⟩
         have := HM.out.2.add x
         rw [List.take_add_one, HXX.out]
         exact this
        case measure => simp [intOf]; omega
      ·obtain rfl : m = k := by omega
       have H4 : Hid (onceB s.sizes = true) := onceB_iff.2 fun i x hx => hall.out i x (by have := (List.getElem?_eq_some_iff.1 hx).1; rw [HL.out.1] at this; exact this) hx
       clear hall hset hbel x0 x1 x2 x3 x4 x5 x6 hk hlt
       obtain ⟨x0, x1, x2, x3, x4, x5, x6⟩ := seven HX4.out
       by_cases ha1 : 12 < m
       ·have HE : Hid (wholeE s = 5) := whole_long H1.out H2.out H3.out H4.out (.inl (by rw [HL.out.1]; exact ha1))
        go_wp2_with fail
        go_ret
        exact ⟨by rw [HE.out]; rfl, HB3.out⟩
       by_cases ha2 : 12 < p
       ·have HE : Hid (wholeE s = 5) := whole_long H1.out H2.out H3.out H4.out (.inr (.inl (by rw [HL.out.2.2.1]; exact ha2)))
        go_wp2_with fail
        go_ret
        exact ⟨by rw [HE.out]; rfl, HB3.out⟩
       by_cases ha3 : 12 < u
       ·have HE : Hid (wholeE s = 5) := whole_long H1.out H2.out H3.out H4.out (.inr (.inr (by rw [HL.out.2.2.2.1]; exact ha3)))
        go_wp2_with fail
        go_ret
        exact ⟨by rw [HE.out]; rfl, HB3.out⟩
       have H5 : Hid (¬ (12 < s.sizes.length ∨ 12 < s.pieces.length ∨ 12 < s.uses.length)) := fun h => by
        rw [HL.out.1, HL.out.2.2.1, HL.out.2.2.2.1] at h
        omega
       by_cases ha4 : 24 < e
       ·have HE : Hid (wholeE s = 5) := whole_more H1.out H2.out H3.out H4.out H5.out (.inl (by rw [HL.out.2.2.2.2.1]; exact ha4))
        go_wp2_with fail
        go_ret
        exact ⟨by rw [HE.out]; rfl, HB3.out⟩
       by_cases ha5 : 16 < o
       ·have HE : Hid (wholeE s = 5) := whole_more H1.out H2.out H3.out H4.out H5.out (.inr (by rw [HL.out.2.2.2.2.2]; exact ha5))
        go_wp2_with fail
        go_ret
        exact ⟨by rw [HE.out]; rfl, HB3.out⟩
       have H6 : Hid (¬ (24 < s.seams.length ∨ 16 < s.ops.length)) := fun h => by
        rw [HL.out.2.2.2.2.1, HL.out.2.2.2.2.2] at h
        omega
       go_wp2_with fail
       go_loopw [9, 87] (fun _ i wq => ∃ k : Nat, k ≤ m ∧ i = .int .i64 (k : Int) ∧ Hid (∀ (j : Nat) (x : Int), j < k → s.multiples[j]? = some x → -100 ≤ x ∧ x ≤ 100) ∧ wr = wq) (fun _ i _ => m - (intOf i).toNat)
       case atStart => exact ⟨0, Nat.zero_le _, rfl, (fun j x hj => by omega), by trivial⟩
       case round =>
        obtain ⟨k, hk, rfl, hall, rfl⟩ := hrel
        by_cases hlt : k < m
        ·obtain ⟨b, off, x, rfl, hbw, hx, c0⟩ := (HA.out.mults.on HB3.out).int_ hlt
         have HXX := Lib.hid hx
         have i1 : (0 : Int) ≤ (k : Int) := by omega
         have i2 : (k : Int) < (m : Int) := by omega
         clear hx
         by_cases hin : -100 ≤ x ∧ x ≤ 100
         ·have HE : Hid (∀ (j : Nat) (x : Int), j < k + 1 → s.multiples[j]? = some x → -100 ≤ x ∧ x ≤ 100) := fun j x' hj hx' => by
           by_cases ej : j = k
           ·subst ej
            rw [HXX.out] at hx'
            rw [← Option.some.inj hx']
            exact hin
           ·exact hall.out j x' (by omega) hx'
          obtain ⟨q1, q2⟩ := hin
          have q3 : ¬ x < -100 := by omega
          have q4 : ¬ 100 < x := by omega
          go_wp2_with fail
          go_roundw
          case rel => exact ⟨k + 1, by omega, by go_num, HE, by trivial⟩
          case measure => simp [intOf]; omega
         ·have HE : Hid (wholeE s = 3) := whole_at H1.out H2.out H3.out H4.out H5.out H6.out HXX.out (by omega)
          by_cases q : x < -100
          ·clear hin
           go_wp2_with fail
           go_ret
           exact ⟨by rw [HE.out]; rfl, HB3.out⟩
          ·have q2 : 100 < x := by omega
           clear hin
           go_wp2_with fail
           go_ret
           exact ⟨by rw [HE.out]; rfl, HB3.out⟩
        ·obtain rfl : m = k := by omega
         have HE : Hid (wholeE s = 0) := whole_ok H1.out H2.out H3.out H4.out H5.out H6.out fun j x hx => hall.out j x (by have := (List.getElem?_eq_some_iff.1 hx).1; rw [HL.out.2.1] at this; exact this) hx
         go_wp2_with fail
         go_ret
         exact ⟨by rw [HE.out]; rfl, HB3.out⟩
    ·have HE : Hid (wholeE s = 1) := whole_mult H1.out H2.out (.inr hc0)
     rw [show s.multiples.contains 0 = false by simpa using hc0] at HC
     have HC := Lib.hid HC
     clear hc0
     go_wp2_with (go_at_call 109; refine HC.out.mono ?_; rintro e w2 ⟨rfl, rfl⟩)
     go_ret
     exact ⟨by rw [HE.out]; rfl, HB.out⟩
   ·have HE : Hid (wholeE s = 1) := whole_mult H1.out H2.out (.inl (by rw [HL.out.1, HL.out.2.1]; exact hml))
    have hml' : ((m : Int) != (z : Int)) = true := by simp; omega
    clear hml
    go_wp2_with fail
    go_ret
    exact ⟨by rw [HE.out]; rfl, HB.out⟩
end
section
open Go.RowKit
open Go.Lib hiding intOf
set_option maxRecDepth 100000 in
set_option maxHeartbeats 12800000 in
theorem checkPiece_any (A : Option Addr) (n c : Nat) (es : List PPiece) (p : PPiece) (E : Option Addr) (en ec : Nat) (N : Option Addr) (nn nc : Nat) (C : Option Addr) (cn cc : Nat) (D : Option Addr) (dn dc : Nat) (w : World) (he : Recs 7 pieceG w A n es) (hn : n ≤ 1000) (h : PcA w p E en ec N nn nc C cn cc D dn dc) :
  Calls Tryz.prog 76 #[.slice A n c, .agg #[.string p.name, .slice E en ec, .int .i64 p.grain, .slice N nn nc, .slice C cn cc, .slice D dn dc, .bool p.match_]] w fun e w' => e = .returned (.int .i64 (pieceE es p)) ∧ Below w.heap.size w w' := by
 have HBX : Hid (Below w.heap.size w (w.alloc (.cells #[.string p.name, .slice E en ec, .int .i64 p.grain, .slice N nn nc, .slice C cn cc, .slice D dn dc, .bool p.match_] 67))) := (Below.refl _ _).alloc (Nat.le_refl _) _
 have HX := Lib.hid (Blk.new w 67 #[.string p.name, .slice E en ec, .int .i64 p.grain, .slice N nn nc, .slice C cn cc, .slice D dn dc, .bool p.match_])
 have HA := Lib.hid h
 have HES := Lib.hid he
 have HL := Lib.hid (And.intro h.eds.len (And.intro h.wids.ilen he.len))
 have l1 : dn ≤ 1000 := by rw [← h.wids.ilen]; exact h.small.wid
 have l2 : en ≤ 1000 := by rw [← h.eds.len]; exact h.small.eds
 have HN := fun W => sname_any p.name W (by have := h.small.nm; omega)
 have HGR := Lib.hid (fun W (hb : Below w.heap.size w W) => graded_any p E en ec N nn nc C cn cc D dn dc W (h.on hb))
 have HPL := Lib.hid (fun W (hb : Below w.heap.size w W) => Placed_any p E en ec N nn nc C cn cc D dn dc W (h.on hb))
 clear h he
 cases hnm : nameOk p.name.data.toList
 ·have HE : Hid (pieceE es p = 1) := piece_name hnm
  simp only [hnm] at HN
  have HN := Lib.hid HN
  clear hnm
  go_enter Tryz.func76, Tryz.ntmps76
  go_wp2_with (go_at_call 107; refine (HN.out _).mono ?_; rintro e w1 ⟨rfl, hb1⟩; have HB1 := Lib.hid (HBX.out.trans (hb1.mono HBX.out.size)); clear hb1)
  go_ret
  exact ⟨by rw [HE.out]; rfl, HB1.out⟩
 have HNM := Lib.hid hnm
 simp only [hnm] at HN
 have HN := Lib.hid HN
 clear hnm
 obtain ⟨G, hG⟩ : ∃ g, p.grain = g := ⟨_, rfl⟩
 have HGG := Lib.hid hG
 rw [hG] at HX HBX HGR HPL ⊢
 clear hG
 by_cases hgr : G ≠ 1 ∧ G ≠ 2 ∧ G ≠ 4
 ·have HE : Hid (pieceE es p = 1) := piece_grain HNM.out (by rw [HGG.out]; exact hgr)
  obtain ⟨a1, a2, a3⟩ := hgr
  have b1 : (G != 1) = true := by simpa using a1
  have b2 : (G != 2) = true := by simpa using a2
  have b3 : (G != 4) = true := by simpa using a3
  clear a1 a2 a3
  go_enter Tryz.func76, Tryz.ntmps76
  go_wp2_with (go_at_call 107; refine (HN.out _).mono ?_; rintro e w1 ⟨rfl, hb1⟩; have HB1 := Lib.hid (HBX.out.trans (hb1.mono HBX.out.size)); obtain ⟨x0, x1, x2, x3, x4, x5, x6⟩ := seven (HX.out.below hb1); clear hb1)
  go_ret
  exact ⟨by rw [HE.out]; rfl, HB1.out⟩
 have HGN : Hid (¬ (p.grain ≠ 1 ∧ p.grain ≠ 2 ∧ p.grain ≠ 4)) := by rw [HGG.out]; exact hgr
 have hG3 : (G != 1) = false ∨ ((G != 1) = true ∧ (G != 2) = false) ∨ ((G != 1) = true ∧ (G != 2) = true ∧ (G != 4) = false) := by
  by_cases a1 : G = 1
  ·exact .inl (by simpa using a1)
  ·by_cases a2 : G = 2
   ·exact .inr (.inl ⟨by simpa using a1, by simpa using a2⟩)
   ·by_cases a3 : G = 4
    ·exact .inr (.inr ⟨by simpa using a1, by simpa using a2, by simpa using a3⟩)
    ·exact absurd ⟨a1, a2, a3⟩ hgr
 clear hgr
 rcases hG3 with b1 | ⟨b1, b2⟩ | ⟨b1, b2, b3⟩
 all_goals
  go_enter Tryz.func76, Tryz.ntmps76
  go_wp2_with fail
  refine (HN.out _).mono ?_
  rintro e w1 ⟨rfl, hb1⟩
  have HB1 := Lib.hid (HBX.out.trans (hb1.mono HBX.out.size))
  have HX1 := Lib.hid (HX.out.below hb1)
  obtain ⟨x0, x1, x2, x3, x4, x5, x6⟩ := seven HX1.out
  clear hb1
  go_wp2_with fail
  clear x0 x1 x2 x3 x4 x5 x6
  go_loopw [6, 32] (fun _ i wr => ∃ k : Nat, k ≤ n ∧ i = .int .i64 (k : Int) ∧ Hid (∀ (j : Nat) (y : PPiece), j < k → es[j]? = some y → y.name ≠ p.name) ∧ Below w1.heap.size w1 wr) (fun _ i _ => n - (intOf i).toNat)
  case atStart => exact ⟨0, Nat.zero_le _, rfl, (fun j y hj => by omega), Below.refl _ _⟩
  case round =>
   obtain ⟨k, hk, rfl, hne, hbel⟩ := hrel
   have HB := Lib.hid (HB1.out.trans (hbel.mono HB1.out.size))
   have HBL := Lib.hid hbel
   have hxl := (HX1.out.below hbel).lt
   obtain ⟨x0, x1, x2, x3, x4, x5, x6⟩ := seven (HX1.out.below hbel)
   by_cases hlt : k < n
   ·obtain ⟨b, off, y, A1, n1, c1, A2, n2, c2, A3, n3, c3, A4, n4, c4, rfl, hbw, hy, d0, d1, d2, d3, d4, d5, d6, r1, r2, r3, r4, r5, r6, r7, r8⟩ := piece_cells (HES.out.on piece_mono HB.out) hlt
    have HY := Lib.hid hy
    have HBB : Hid (Below wr.heap.size wr (wr.alloc (.cells #[.string y.name, .slice A1 n1 c1, .int .i64 y.grain, .slice A2 n2 c2, .slice A3 n3 c3, .slice A4 n4 c4, .bool y.match_] 67))) := (Below.refl _ _).alloc (Nat.le_refl _) _
    have i1 : (0 : Int) ≤ (k : Int) := by omega
    have i2 : (k : Int) < (n : Int) := by omega
    clear hy r1 r2 r3 r4 r5 r6 r7 r8 hbel
    by_cases hq : y.name = p.name
    ·have HE : Hid (pieceE es p = 7) := piece_twice HNM.out HGN.out (by
      have := hasName_yes (f := fun q : PPiece => q.name) (x := p) (i := n) hlt HY.out hq
      rw [List.take_of_length_le (by rw [HL.out.2.2]; exact Nat.le_refl _)] at this
      exact this)
     have hq' : (y.name.toList == p.name.toList) = true := by rw [hq]; simp
     clear hq
     go_wp2_with fail
     go_ret
     exact ⟨by rw [HE.out]; rfl, HB.out.trans (HBB.out.mono HB.out.size)⟩
    ·have HE : Hid (∀ (j : Nat) (y : PPiece), j < k + 1 → es[j]? = some y → y.name ≠ p.name) := fun j y' hj hy' => by
      by_cases ej : j = k
      ·subst ej
       rw [HY.out] at hy'
       rw [← Option.some.inj hy']
       exact hq
      ·exact hne.out j y' (by omega) hy'
     have hq' := toList_ne hq
     clear hq
     go_wp2_with fail
     go_roundw
     case rel => exact ⟨k + 1, by omega, by go_num, HE, HBL.out.trans (HBB.out.mono HBL.out.size)⟩
     case measure => simp [intOf]; omega
   ·obtain rfl : k = n := by omega
    have HH : Hid (hasName p.name (es.map (·.name)) = false) := by
     have := hasName_no (f := fun q : PPiece => q.name) hne.out
     rw [List.take_of_length_le (by rw [HL.out.2.2]; exact Nat.le_refl _)] at this
     exact this
    have HX2 := Lib.hid (HX1.out.below hbel)
    clear hne hbel hk hlt
    go_wp2_with fail
    refine (HGR.out _ HB.out).mono ?_
    rintro e w2 ⟨A2, m2, c2, rfl, hgd, hb2⟩
    have HB2 := Lib.hid (HB.out.trans (hb2.mono HB.out.size))
    have HX3 := Lib.hid (HX2.out.below hb2)
    clear hgd hb2 x0 x1 x2 x3 x4 x5 x6 hxl
    obtain ⟨x0, x1, x2, x3, x4, x5, x6⟩ := seven HX3.out
    obtain ⟨Q, hQ⟩ : ∃ q, gradedE p = q := ⟨_, rfl⟩
    rw [hQ]
    have HQ := Lib.hid hQ
    clear hQ
    by_cases h0 : Q = 0
    ·subst h0
     go_wp2_with fail
     refine (HPL.out _ HB2.out).mono ?_
     rintro e w3 ⟨A3, m3, c3, rfl, hb3⟩
     have HB3 := Lib.hid (HB2.out.trans (hb3.mono HB2.out.size))
     have HX4 := Lib.hid (HX3.out.below hb3)
     clear hb3 x0 x1 x2 x3 x4 x5 x6
     obtain ⟨x0, x1, x2, x3, x4, x5, x6⟩ := seven HX4.out
     obtain ⟨R, hR⟩ : ∃ q, placedE p = q := ⟨_, rfl⟩
     rw [hR]
     have HR := Lib.hid hR
     clear hR
     by_cases h1 : R = 0
     ·subst h1
      have HW : Hid (pieceE es p = widthsE p) := piece_widths HNM.out HGN.out HH.out HQ.out HR.out
      by_cases hdl : dn = en
      ·have HDL : Hid (p.widths.length = p.edges.length) := by rw [Hid, HL.out.1, HL.out.2.1]; exact hdl
       subst hdl
       go_wp2_with fail
       go_loopw [12, 68] (fun _ i wq => ∃ k : Nat, k ≤ dn ∧ i = .int .i64 (k : Int) ∧ Hid (∀ (j : Nat) (x : Int), j < k → p.widths[j]? = some x → 0 ≤ x ∧ x ≤ 500) ∧ w3 = wq) (fun _ i _ => dn - (intOf i).toNat)
       case atStart => exact ⟨0, Nat.zero_le _, rfl, (fun j x hj => by omega), by trivial⟩
       case round =>
        obtain ⟨k, hk, rfl, hall, rfl⟩ := hrel
        by_cases hlt : k < dn
        ·obtain ⟨b, off, x, rfl, hbw, hx, c0⟩ := (HA.out.wids.on HB3.out).int_ hlt
         have HXX := Lib.hid hx
         have i1 : (0 : Int) ≤ (k : Int) := by omega
         have i2 : (k : Int) < (dn : Int) := by omega
         clear hx
         by_cases hin : 0 ≤ x ∧ x ≤ 500
         ·have HE : Hid (∀ (j : Nat) (x : Int), j < k + 1 → p.widths[j]? = some x → 0 ≤ x ∧ x ≤ 500) := fun j x' hj hx' => by
           by_cases ej : j = k
           ·subst ej
            rw [HXX.out] at hx'
            rw [← Option.some.inj hx']
            exact hin
           ·exact hall.out j x' (by omega) hx'
          obtain ⟨q1, q2⟩ := hin
          have q3 : ¬ x < 0 := by omega
          have q4 : ¬ 500 < x := by omega
          go_wp2_with fail
          go_roundw
          case rel => exact ⟨k + 1, by omega, by go_num, HE, by trivial⟩
          case measure => simp [intOf]; omega
         ·have HE : Hid (pieceE es p = 3) := by rw [Hid, HW.out]; exact widths_at HDL.out HXX.out (by omega)
          by_cases q : x < 0
          ·clear hin
           go_wp2_with fail
           go_ret
           exact ⟨by rw [HE.out]; rfl, HB3.out⟩
          ·have q2 : 500 < x := by omega
           clear hin
           go_wp2_with fail
           go_ret
           exact ⟨by rw [HE.out]; rfl, HB3.out⟩
        ·obtain rfl : dn = k := by omega
         have HE : Hid (pieceE es p = 0) := by
          rw [Hid, HW.out]
          exact widths_ok HDL.out fun j x hx => hall.out j x (by have := (List.getElem?_eq_some_iff.1 hx).1; rw [HL.out.2.1] at this; exact this) hx
         go_wp2_with fail
         go_ret
         exact ⟨by rw [HE.out]; rfl, HB3.out⟩
      ·have HE : Hid (pieceE es p = 1) := by rw [Hid, HW.out]; exact widths_len (by rw [HL.out.1, HL.out.2.1]; exact hdl)
       have hdl' : ((dn : Int) != (en : Int)) = true := by simp; omega
       clear hdl
       go_wp2_with fail
       go_ret
       exact ⟨by rw [HE.out]; rfl, HB3.out⟩
     ·have h1' : (R != 0) = true := by simpa using h1
      have HE : Hid (pieceE es p = R) := piece_placed HNM.out HGN.out HH.out HQ.out HR.out h1
      clear h1
      go_wp2_with fail
      go_ret
      exact ⟨by rw [HE.out]; rfl, HB3.out⟩
    ·have h0' : (Q != 0) = true := by simpa using h0
     have HE : Hid (pieceE es p = Q) := piece_graded HNM.out HGN.out HH.out HQ.out h0
     clear h0
     go_wp2_with fail
     go_ret
     exact ⟨by rw [HE.out]; rfl, HB2.out⟩
end
section
open Go.RowKit
open Go.Lib hiding intOf
theorem eight_box {w w' : World} {g1 g2 : Nat} {t1 t2 : TypeId} {a0 a1 a2 a3 a4 a5 a6 b0 b1 b2 b3 b4 b5 b6 : Value} (h1 : Blk w g1 t1 #[a0, a1, a2, a3, a4, a5, a6]) (h2 : Blk w g2 t2 #[b0, b1, b2, b3, b4, b5, b6]) (hb : Below w.heap.size w w') :
  w'.cell? ⟨g1, 3, none⟩ = some a3 ∧ w'.cell? ⟨g2, 0, none⟩ = some b0 ∧ w'.cell? ⟨g2, 1, none⟩ = some b1 ∧ w'.cell? ⟨g2, 2, none⟩ = some b2 ∧ w'.cell? ⟨g2, 3, none⟩ = some b3 ∧ w'.cell? ⟨g2, 4, none⟩ = some b4 ∧ w'.cell? ⟨g2, 5, none⟩ = some b5 ∧ w'.cell? ⟨g2, 6, none⟩ = some b6 :=
 ⟨(h1.below hb).c rfl, seven (h2.below hb)⟩
theorem use_ok {s : PStyle} {v : PUse} : useE s v = if v.piece < 0 ∨ (s.pieces.length : Int) ≤ v.piece ∨ v.count < 1 ∨ 4 < v.count then 3 else 0 := rfl
theorem seam_ok {s : PStyle} {v : PSeam} : seamE s v = if isEdgeP s v.pa v.ea = false ∨ isEdgeP s v.pb v.eb = false then 3 else if v.ease < 0 then 1 else 0 := rfl
theorem six_box {w : World} {g : Nat} {t : TypeId} {a0 a1 a2 a3 a4 a5 : Value} (h : Blk w g t #[a0, a1, a2, a3, a4, a5]) : w.cell? ⟨g, 0, none⟩ = some a0 ∧ w.cell? ⟨g, 1, none⟩ = some a1 ∧ w.cell? ⟨g, 2, none⟩ = some a2 ∧ w.cell? ⟨g, 3, none⟩ = some a3 ∧ w.cell? ⟨g, 4, none⟩ = some a4 ∧ w.cell? ⟨g, 5, none⟩ = some a5 :=
 ⟨h.c rfl, h.c rfl, h.c rfl, h.c rfl, h.c rfl, h.c rfl⟩
set_option maxRecDepth 100000 in
set_option maxHeartbeats 12800000 in
theorem style_any (s : PStyle) (Z : Option Addr) (z zc : Nat) (M : Option Addr) (m mc : Nat) (P : Option Addr) (p pc : Nat) (U : Option Addr) (u uc : Nat) (E : Option Addr) (e ec : Nat) (O : Option Addr) (o oc : Nat) (w : World) (h : StyleA w s Z z zc M m mc P p pc U u uc E e ec O o oc) (hs : StyleS s) :
  Calls Tryz.prog 52 #[.agg #[.string s.name, .slice Z z zc, .slice M m mc, .slice P p pc, .slice U u uc, .slice E e ec, .slice O o oc]] w fun e w' => e = .returned (.int .i64 (styleE s)) ∧ Below w.heap.size w w' := by
 have HBX : Hid (Below w.heap.size w (w.alloc (.cells #[.string s.name, .slice Z z zc, .slice M m mc, .slice P p pc, .slice U u uc, .slice E e ec, .slice O o oc] 29))) := (Below.refl _ _).alloc (Nat.le_refl _) _
 have HX := Lib.hid (Blk.new w 29 #[.string s.name, .slice Z z zc, .slice M m mc, .slice P p pc, .slice U u uc, .slice E e ec, .slice O o oc])
 have HA := Lib.hid h
 have HS := Lib.hid hs
 have HL := Lib.hid (And.intro h.pieces.len (And.intro h.uses.len h.seams.len))
 have l1 : p ≤ 1000 := by rw [← h.pieces.len]; exact hs.pcs
 have l2 : u ≤ 1000 := by rw [← h.uses.len]; exact hs.us
 have l3 : e ≤ 1000 := by rw [← h.seams.len]; exact hs.sm
 have hpc := h.pcap
 have HW := Lib.hid (whole_any s Z z zc M m mc P p pc U u uc E e ec O o oc _ (h.on HBX.out) hs)
 clear h hs
 obtain ⟨Q, hQ⟩ : ∃ q, wholeE s = q := ⟨_, rfl⟩
 rw [hQ] at HW
 have HQ := Lib.hid hQ
 clear hQ
 go_enter Tryz.func52, Tryz.ntmps52
 go_wp2_with fail
 refine HW.out.mono ?_
 rintro e1 w1 ⟨rfl, hb1⟩
 have HB1 := Lib.hid (HBX.out.trans (hb1.mono HBX.out.size))
 have HX1 := Lib.hid (HX.out.below hb1)
 obtain ⟨x0, x1, x2, x3, x4, x5, x6⟩ := seven HX1.out
 clear hb1
 by_cases h0 : Q = 0
 ·subst h0
  go_wp2_with fail
  clear x0 x1 x2 x3 x4 x5 x6
  go_loopw [4, 5, 6, 19] (fun _ _ _ i wr => ∃ k : Nat, k ≤ p ∧ i = .int .i64 (k : Int) ∧ Hid (∀ j, j < k → pieceAt s j = 0) ∧ Below w1.heap.size w1 wr) (fun _ _ _ i _ => p - (intOf i).toNat)
  case atStart => exact ⟨0, Nat.zero_le _, rfl, (fun j hj => by omega), Below.refl _ _⟩
  case round =>
   obtain ⟨k, hk, rfl, hz, hbel⟩ := hrel
   have HB := Lib.hid (HB1.out.trans (hbel.mono HB1.out.size))
   have HBL := Lib.hid hbel
   have HX2 := Lib.hid (HX1.out.below hbel)
   obtain ⟨x0, x1, x2, x3, x4, x5, x6⟩ := seven HX2.out
   by_cases hlt : k < p
   ·obtain ⟨b, off, y, A1, n1, c1, A2, n2, c2, A3, n3, c3, A4, n4, c4, rfl, hbw, hy, d0, d1, d2, d3, d4, d5, d6, r1, r2, r3, r4, r5, r6, r7, r8⟩ := piece_cells (HA.out.pieces.on piece_mono HB.out) hlt
    have HY := Lib.hid hy
    have hbb : Below wr.heap.size wr (wr.alloc (.cells #[.string y.name, .slice A1 n1 c1, .int .i64 y.grain, .slice A2 n2 c2, .slice A3 n3 c3, .slice A4 n4 c4, .bool y.match_] 67)) := (Below.refl _ _).alloc (Nat.le_refl _) _
    have HBB := Lib.hid hbb
    have HPA := Lib.hid (PcA.mk r1 r2 r3 r4 r5 r6 r7 r8 (HS.out.pc y (List.mem_of_getElem? hy)))
    have HCP := Lib.hid (fun W (hb : Below (wr.alloc (.cells #[.string y.name, .slice A1 n1 c1, .int .i64 y.grain, .slice A2 n2 c2, .slice A3 n3 c3, .slice A4 n4 c4, .bool y.match_] 67)).heap.size (wr.alloc (.cells #[.string y.name, .slice A1 n1 c1, .int .i64 y.grain, .slice A2 n2 c2, .slice A3 n3 c3, .slice A4 n4 c4, .bool y.match_] 67)) W) => checkPiece_any (some ⟨b, off, none⟩) k pc (s.pieces.take k) y A1 n1 c1 A2 n2 c2 A3 n3 c3 A4 n4 c4 W (((HA.out.pieces.on piece_mono HB.out).take (by omega)).on piece_mono (hbb.trans (hb.mono hbb.size))) (by omega) (HPA.out.on (hbb.trans (hb.mono hbb.size))))
    have HPE : Hid (pieceAt s k = pieceE (s.pieces.take k) y) := piece_at hy
    have HK := fun w' => Lib.hid (fun hb => eight_box (w' := w') (HX2.out.alloc (.cells #[.string y.name, .slice A1 n1 c1, .int .i64 y.grain, .slice A2 n2 c2, .slice A3 n3 c3, .slice A4 n4 c4, .bool y.match_] 67)) (Blk.new wr 67 #[.string y.name, .slice A1 n1 c1, .int .i64 y.grain, .slice A2 n2 c2, .slice A3 n3 c3, .slice A4 n4 c4, .bool y.match_]) hb)
    have i1 : (0 : Int) ≤ (k : Int) := by omega
    have i2 : (k : Int) < (p : Int) := by omega
    have i3 : (k : Int) ≤ (pc : Int) := by omega
    have i4 : k ≤ pc := by omega
    have hq := Below.refl (wr.alloc (.cells #[.string y.name, .slice A1 n1 c1, .int .i64 y.grain, .slice A2 n2 c2, .slice A3 n3 c3, .slice A4 n4 c4, .bool y.match_] 67)).heap.size (wr.alloc (.cells #[.string y.name, .slice A1 n1 c1, .int .i64 y.grain, .slice A2 n2 c2, .slice A3 n3 c3, .slice A4 n4 c4, .bool y.match_] 67))
    generalize pieceE (s.pieces.take k) y = R at HCP HPE
    clear hy r1 r2 r3 r4 r5 r6 r7 r8 hbel hbb x0 x1 x2 x3 x4 x5 x6
    go_wp2_with fail
    go_region_held3 (fun w' => w'.cell? ⟨w.heap.size, 3, none⟩ = some (.slice (some ⟨b, off, none⟩) p pc) ∧ w'.cell? ⟨wr.heap.size, 0, none⟩ = some (.string y.name) ∧ w'.cell? ⟨wr.heap.size, 1, none⟩ = some (.slice A1 n1 c1) ∧ w'.cell? ⟨wr.heap.size, 2, none⟩ = some (.int .i64 y.grain) ∧ w'.cell? ⟨wr.heap.size, 3, none⟩ = some (.slice A2 n2 c2) ∧ w'.cell? ⟨wr.heap.size, 4, none⟩ = some (.slice A3 n3 c3) ∧ w'.cell? ⟨wr.heap.size, 5, none⟩ = some (.slice A4 n4 c4) ∧ w'.cell? ⟨wr.heap.size, 6, none⟩ = some (.bool y.match_))
     ((refine (HK _).out ?_; repeat (first | (with_reducible exact Below.refl _ _) | (with_reducible exact hq) | (with_reducible refine Below.drew ?_))))
     ((go_at_call 76; go_must ((refine (HCP.out _ (by repeat (first | (with_reducible exact Below.refl _ _) | (with_reducible exact hq) | (with_reducible refine Below.drew ?_)))).mono ?_); rintro e2 w2 ⟨rfl, hv⟩; replace hq := below_then hq hv; clear hv)))
    by_cases hR : R = 0
    ·have HZ : Hid (∀ j, j < k + 1 → pieceAt s j = 0) := fun j hj => by
      by_cases ej : j = k
      ·rw [ej, HPE.out, hR]
      ·exact hz.out j (by omega)
     subst hR
     go_wp2_with fail
     go_roundw
     case rel => exact ⟨k + 1, by omega, by go_num, HZ, HBL.out.trans ((HBB.out.trans (hq.mono HBB.out.size)).mono HBL.out.size)⟩
     case measure => simp [intOf]; omega
    ·have hR' : (R != 0) = true := by simpa using hR
     have HE : Hid (styleE s = R) := style_piece HQ.out (i := k) (by rw [HL.out.1]; exact hlt) hz.out HPE.out hR
     clear hR
     go_wp2_with fail
     go_ret
     exact ⟨by rw [HE.out]; rfl, HB.out.trans ((HBB.out.trans (hq.mono HBB.out.size)).mono HB.out.size)⟩
   ·obtain rfl : k = p := by omega
    have HP0 : Hid (piecesE s = 0) := pieces_none fun j hj => hz.out j (by rw [HL.out.1] at hj; exact hj)
    obtain ⟨wo, rfl⟩ : ∃ wo : World, wo = wr := ⟨_, rfl⟩
    clear hz hbel hk hlt
    go_wp2_with fail
    clear x0 x1 x2 x3 x4 x5 x6
    go_loopw [8, 37] (fun _ i wr => ∃ k : Nat, k ≤ u ∧ i = .int .i64 (k : Int) ∧ Hid (∀ (j : Nat) (v : PUse), j < k → s.uses[j]? = some v → useE s v = 0) ∧ Below wo.heap.size wo wr) (fun _ i _ => u - (intOf i).toNat)
    case atStart => exact ⟨0, Nat.zero_le _, rfl, (fun j v hj => by omega), Below.refl _ _⟩
    case round =>
     obtain ⟨j, hj, rfl, hz, hbel⟩ := hrel
     have HB3 := Lib.hid (HB.out.trans (hbel.mono HB.out.size))
     have HBL3 := Lib.hid hbel
     have HX3 := Lib.hid (HX2.out.below hbel)
     have hxl := HX3.out.lt
     obtain ⟨x0, x1, x2, x3, x4, x5, x6⟩ := seven HX3.out
     by_cases hlt : j < u
     ·obtain ⟨b, off, v, rfl, hbw, hv, c0, c1, c2⟩ := use_at (HA.out.uses.on use_mono HB3.out) hlt
      have HV := Lib.hid hv
      have HBV : Hid (Below wr.heap.size wr (wr.alloc (.cells #[.int .i64 v.piece, .int .i64 v.count, .bool v.pair] 79))) := (Below.refl _ _).alloc (Nat.le_refl _) _
      have i1 : (0 : Int) ≤ (j : Int) := by omega
      have i2 : (j : Int) < (u : Int) := by omega
      have HUE := Lib.hid (use_ok (s := s) (v := v))
      rw [HL.out.1] at HUE
      clear hv hbel
      by_cases hbad : v.piece < 0 ∨ (k : Int) ≤ v.piece ∨ v.count < 1 ∨ 4 < v.count
      ·have HE : Hid (styleE s = 3) := style_use HQ.out HP0.out HV.out hz.out (by rw [HUE.out, if_pos hbad])
       by_cases g1 : v.piece < 0
       ·clear hbad
        go_wp2_with fail
        go_ret
        exact ⟨by rw [HE.out]; rfl, HB3.out.trans (HBV.out.mono HB3.out.size)⟩
       by_cases g2 : (k : Int) ≤ v.piece
       ·clear hbad
        go_wp2_with fail
        go_ret
        exact ⟨by rw [HE.out]; rfl, HB3.out.trans (HBV.out.mono HB3.out.size)⟩
       by_cases g3 : v.count < 1
       ·clear hbad
        go_wp2_with fail
        go_ret
        exact ⟨by rw [HE.out]; rfl, HB3.out.trans (HBV.out.mono HB3.out.size)⟩
       have g4 : 4 < v.count := by omega
       clear hbad
       go_wp2_with fail
       go_ret
       exact ⟨by rw [HE.out]; rfl, HB3.out.trans (HBV.out.mono HB3.out.size)⟩
      ·have HZ : Hid (∀ (i : Nat) (v : PUse), i < j + 1 → s.uses[i]? = some v → useE s v = 0) := fun i v' hi hv' => by
        by_cases ej : i = j
        ·subst ej
         rw [HV.out] at hv'
         rw [← Option.some.inj hv', HUE.out, if_neg hbad]
        ·exact hz.out i v' (by omega) hv'
       have g1 : ¬ v.piece < 0 := fun h => hbad (.inl h)
       have g2 : ¬ (k : Int) ≤ v.piece := fun h => hbad (.inr (.inl h))
       have g3 : ¬ v.count < 1 := fun h => hbad (.inr (.inr (.inl h)))
       have g4 : ¬ 4 < v.count := fun h => hbad (.inr (.inr (.inr h)))
       clear hbad
       go_wp2_with fail
       go_roundw
       case rel => exact ⟨j + 1, by omega, by go_num, HZ, HBL3.out.trans (HBV.out.mono HBL3.out.size)⟩
       case measure => simp [intOf]; omega
     ·obtain rfl : j = u := by omega
      have HU0 : Hid (∀ (i : Nat) (v : PUse), s.uses[i]? = some v → useE s v = 0) := fun i v hv => hz.out i v (by have := (List.getElem?_eq_some_iff.1 hv).1; rw [HL.out.2.1] at this; exact this) hv
      obtain ⟨wp, rfl⟩ : ∃ wp : World, wp = wr := ⟨_, rfl⟩
      clear hz hbel hj hlt
      go_wp2_with fail
      clear x0 x1 x2 x3 x4 x5 x6
      go_loopw [10, 66] (fun _ i wr => ∃ k : Nat, k ≤ e ∧ i = .int .i64 (k : Int) ∧ Hid (∀ (j : Nat) (v : PSeam), j < k → s.seams[j]? = some v → seamE s v = 0) ∧ Below wp.heap.size wp wr) (fun _ i _ => e - (intOf i).toNat)
      case atStart => exact ⟨0, Nat.zero_le _, rfl, (fun j v hj => by omega), Below.refl _ _⟩
      case round =>
       obtain ⟨i, hi, rfl, hz, hbel⟩ := hrel
       have HB4 := Lib.hid (HB3.out.trans (hbel.mono HB3.out.size))
       have HBL4 := Lib.hid hbel
       have HX4 := Lib.hid (HX3.out.below hbel)
       have hxl := HX4.out.lt
       obtain ⟨x0, x1, x2, x3, x4, x5, x6⟩ := seven HX4.out
       by_cases hlt : i < e
       ·obtain ⟨b, off, v, rfl, hbw, hv, c0, c1, c2, c3, c4, c5⟩ := seam_at (HA.out.seams.on seam_mono HB4.out) hlt
        have HV := Lib.hid hv
        have hbb : Below wr.heap.size wr (wr.alloc (.cells #[.int .i64 v.pa, .int .i64 v.ea, .int .i64 v.pb, .int .i64 v.eb, .bool v.rev, .int .i64 v.ease] 148)) := (Below.refl _ _).alloc (Nat.le_refl _) _
        have HBV := Lib.hid hbb
        have HX5 := Lib.hid (HX4.out.alloc (.cells #[.int .i64 v.pa, .int .i64 v.ea, .int .i64 v.pb, .int .i64 v.eb, .bool v.rev, .int .i64 v.ease] 148))
        have HY5 := Lib.hid (Blk.new wr 148 #[.int .i64 v.pa, .int .i64 v.ea, .int .i64 v.pb, .int .i64 v.eb, .bool v.rev, .int .i64 v.ease])
        have HI1 := Lib.hid (fun W (hb : Below (wr.alloc (.cells #[.int .i64 v.pa, .int .i64 v.ea, .int .i64 v.pb, .int .i64 v.eb, .bool v.rev, .int .i64 v.ease] 148)).heap.size (wr.alloc (.cells #[.int .i64 v.pa, .int .i64 v.ea, .int .i64 v.pb, .int .i64 v.eb, .bool v.rev, .int .i64 v.ease] 148)) W) => sedge_any s Z z zc M m mc P k pc U j uc (some ⟨b, off, none⟩) e ec O o oc v.pa v.ea W ((HA.out.on HB4.out).on (hbb.trans (hb.mono hbb.size))))
        have HI2 := Lib.hid (fun W (hb : Below (wr.alloc (.cells #[.int .i64 v.pa, .int .i64 v.ea, .int .i64 v.pb, .int .i64 v.eb, .bool v.rev, .int .i64 v.ease] 148)).heap.size (wr.alloc (.cells #[.int .i64 v.pa, .int .i64 v.ea, .int .i64 v.pb, .int .i64 v.eb, .bool v.rev, .int .i64 v.ease] 148)) W) => sedge_any s Z z zc M m mc P k pc U j uc (some ⟨b, off, none⟩) e ec O o oc v.pb v.eb W ((HA.out.on HB4.out).on (hbb.trans (hb.mono hbb.size))))
        have i1 : (0 : Int) ≤ (i : Int) := by omega
        have i2 : (i : Int) < (e : Int) := by omega
        have HSE := Lib.hid (seam_ok (s := s) (v := v))
        generalize isEdgeP s v.pa v.ea = b1 at *
        generalize isEdgeP s v.pb v.eb = b2 at *
        have hq := Lib.hid (Below.refl (wr.alloc (.cells #[.int .i64 v.pa, .int .i64 v.ea, .int .i64 v.pb, .int .i64 v.eb, .bool v.rev, .int .i64 v.ease] 148)).heap.size (wr.alloc (.cells #[.int .i64 v.pa, .int .i64 v.ea, .int .i64 v.pb, .int .i64 v.eb, .bool v.rev, .int .i64 v.ease] 148)))
        clear hv hbel hbb
        cases b1
        ·have HE : Hid (styleE s = 3) := style_seam HQ.out HP0.out HU0.out HV.out hz.out (by rw [HSE.out]; rfl) (by decide)
         go_wp2_with (go_at_call 77; (first | (with_reducible refine (HI1.out _ (by repeat (first | (with_reducible exact Below.refl _ _) | (with_reducible exact hq.out)))).mono ?_) | (with_reducible refine (HI2.out _ (by repeat (first | (with_reducible exact Below.refl _ _) | (with_reducible exact hq.out)))).mono ?_)); rintro e2 w2 ⟨rfl, hv⟩; replace hq := Lib.hid (below_then hq.out hv); clear hv; obtain ⟨x0, x1, x2, x3, x4, x5, x6⟩ := seven (HX5.out.below hq.out); obtain ⟨y0, y1, y2, y3, y4, y5⟩ := six_box (HY5.out.below hq.out))
         go_ret
         exact ⟨by rw [HE.out]; rfl, HB4.out.trans ((HBV.out.trans (hq.out.mono HBV.out.size)).mono HB4.out.size)⟩
        ·cases b2
         ·have HE : Hid (styleE s = 3) := style_seam HQ.out HP0.out HU0.out HV.out hz.out (by rw [HSE.out]; rfl) (by decide)
          go_wp2_with (go_at_call 77; (first | (with_reducible refine (HI1.out _ (by repeat (first | (with_reducible exact Below.refl _ _) | (with_reducible exact hq.out)))).mono ?_) | (with_reducible refine (HI2.out _ (by repeat (first | (with_reducible exact Below.refl _ _) | (with_reducible exact hq.out)))).mono ?_)); rintro e2 w2 ⟨rfl, hv⟩; replace hq := Lib.hid (below_then hq.out hv); clear hv; obtain ⟨x0, x1, x2, x3, x4, x5, x6⟩ := seven (HX5.out.below hq.out); obtain ⟨y0, y1, y2, y3, y4, y5⟩ := six_box (HY5.out.below hq.out))
          go_ret
          exact ⟨by rw [HE.out]; rfl, HB4.out.trans ((HBV.out.trans (hq.out.mono HBV.out.size)).mono HB4.out.size)⟩
         ·by_cases hea : v.ease < 0
          ·have HE : Hid (styleE s = 1) := style_seam HQ.out HP0.out HU0.out HV.out hz.out (by rw [HSE.out, if_neg (by simp), if_pos hea]) (by decide)
           go_wp2_with (go_at_call 77; (first | (with_reducible refine (HI1.out _ (by repeat (first | (with_reducible exact Below.refl _ _) | (with_reducible exact hq.out)))).mono ?_) | (with_reducible refine (HI2.out _ (by repeat (first | (with_reducible exact Below.refl _ _) | (with_reducible exact hq.out)))).mono ?_)); rintro e2 w2 ⟨rfl, hv⟩; replace hq := Lib.hid (below_then hq.out hv); clear hv; obtain ⟨x0, x1, x2, x3, x4, x5, x6⟩ := seven (HX5.out.below hq.out); obtain ⟨y0, y1, y2, y3, y4, y5⟩ := six_box (HY5.out.below hq.out))
           go_ret
           exact ⟨by rw [HE.out]; rfl, HB4.out.trans ((HBV.out.trans (hq.out.mono HBV.out.size)).mono HB4.out.size)⟩
          ·have HZ : Hid (∀ (j : Nat) (v : PSeam), j < i + 1 → s.seams[j]? = some v → seamE s v = 0) := fun j' v' hj' hv' => by
            by_cases ej : j' = i
            ·subst ej
             rw [HV.out] at hv'
             rw [← Option.some.inj hv', HSE.out, if_neg (by simp), if_neg hea]
            ·exact hz.out j' v' (by omega) hv'
           go_wp2_with (go_at_call 77; (first | (with_reducible refine (HI1.out _ (by repeat (first | (with_reducible exact Below.refl _ _) | (with_reducible exact hq.out)))).mono ?_) | (with_reducible refine (HI2.out _ (by repeat (first | (with_reducible exact Below.refl _ _) | (with_reducible exact hq.out)))).mono ?_)); rintro e2 w2 ⟨rfl, hv⟩; replace hq := Lib.hid (below_then hq.out hv); clear hv; obtain ⟨x0, x1, x2, x3, x4, x5, x6⟩ := seven (HX5.out.below hq.out); obtain ⟨y0, y1, y2, y3, y4, y5⟩ := six_box (HY5.out.below hq.out))
           go_roundw
           case rel => exact ⟨i + 1, by omega, by go_num, HZ, HBL4.out.trans ((HBV.out.trans (hq.out.mono HBV.out.size)).mono HBL4.out.size)⟩
           case measure => simp [intOf]; omega
       ·obtain rfl : i = e := by omega
        have HE : Hid (styleE s = 0) := style_ok HQ.out HP0.out HU0.out fun j v hv => hz.out j v (by have := (List.getElem?_eq_some_iff.1 hv).1; rw [HL.out.2.2] at this; exact this) hv
        clear hz hbel
        go_wp2_with fail
        go_ret
        exact ⟨by rw [HE.out]; rfl, HB4.out⟩
 ·have h0' : (Q != 0) = true := by simpa using h0
  have HE : Hid (styleE s = Q) := style_whole HQ.out h0
  clear h0
  go_wp2_with fail
  go_ret
  exact ⟨by rw [HE.out]; rfl, HB1.out⟩
end
end Go.Proofs.YtiibocdmlfedkaaGreatDoor
