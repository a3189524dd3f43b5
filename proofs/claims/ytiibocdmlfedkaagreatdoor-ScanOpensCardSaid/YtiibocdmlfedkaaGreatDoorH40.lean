/- Parts of the proof. -/
import Derived.Test.YtiibocdmlfedkaaGreatDoorH31
import Derived.Test.YtiibocdmlfedkaaGreatDoorH39
namespace Go.Proofs.YtiibocdmlfedkaaGreatDoor
section
open Go.RowKit
open Go.Lib hiding intOf
theorem bool_info : (Tryz.prog.info? 4).map (fun i => (i.zero, i.size, i.bytes)) = some (some (.bool false), 1, 1) := by kernel_rfl
theorem made_bool (n : Nat) : madeCells #[Value.bool false] n = boolC n [] := by
 rw [boolC_nil]
 refine Array.toList_inj.1 ?_
 rw [toList_madeCells_one]
 simp
theorem seven' {w : World} {g : Nat} {t : TypeId} {a0 a1 a2 a3 a4 a5 a6 : Value} (h : Blk w g t #[a0, a1, a2, a3, a4, a5, a6]) : w.cell? ⟨g, 4, none⟩ = some a4 ∧ w.cell? ⟨g, 6, none⟩ = some a6 := ⟨h.c rfl, h.c rfl⟩
def UsedUp (l : List POp) (k : Nat) (xs : List Int) : Prop := ∀ x, x ∈ xs ↔ ∃ o ∈ l.take k, x ∈ o.uses
theorem used_more {l : List POp} {k : Nat} {xs ys : List Int} {o : POp} (h : UsedUp l k xs) (ho : l[k]? = some o) (hy : ∀ x, x ∈ ys ↔ x ∈ xs ∨ x ∈ o.uses) : UsedUp l (k + 1) ys := by
 intro x
 rw [hy x, h x, List.take_add_one, ho]
 simp only [Option.toList_some, List.mem_append, List.mem_singleton]
 constructor
 ·rintro (⟨p, hp, hx⟩ | hx)
  ·exact ⟨p, .inl hp, hx⟩
  ·exact ⟨o, .inr rfl, hx⟩
 ·rintro ⟨p, hp | rfl, hx⟩
  ·exact .inl ⟨p, hp, hx⟩
  ·exact .inr hx
theorem used_all {s : PStyle} {xs : List Int} (h : UsedUp s.ops s.ops.length xs) (k : Nat) : decide ((k : Int) ∈ xs) = takenB s k := by
 rw [Bool.eq_iff_iff, decide_eq_true_iff, taken_iff, h, List.take_length]
set_option maxRecDepth 100000 in
set_option maxHeartbeats 12800000 in
theorem ops_any (s : PStyle) (Z : Option Addr) (z zc : Nat) (M : Option Addr) (m mc : Nat) (P : Option Addr) (p pc : Nat) (U : Option Addr) (u uc : Nat) (E : Option Addr) (e ec : Nat) (O : Option Addr) (o oc : Nat) (w : World) (h : StyleA w s Z z zc M m mc P p pc U u uc E e ec O o oc) (hs : StyleS s) :
  Calls Tryz.prog 36 #[.agg #[.string s.name, .slice Z z zc, .slice M m mc, .slice P p pc, .slice U u uc, .slice E e ec, .slice O o oc]] w fun e w' => e = .returned (.int .i64 (opsE s)) ∧ Below w.heap.size w w' := by
 have HBX : Hid (Below w.heap.size w (w.alloc (.cells #[.string s.name, .slice Z z zc, .slice M m mc, .slice P p pc, .slice U u uc, .slice E e ec, .slice O o oc] 29))) := (Below.refl _ _).alloc (Nat.le_refl _) _
 have HX := Lib.hid (Blk.new w 29 #[.string s.name, .slice Z z zc, .slice M m mc, .slice P p pc, .slice U u uc, .slice E e ec, .slice O o oc])
 have HA := Lib.hid h
 have HS := Lib.hid hs
 have HL := Lib.hid (And.intro h.ops.len h.uses.len)
 have l2 : u ≤ 1000 := by rw [← h.uses.len]; exact hs.us
 have l3 : o ≤ 1000 := by rw [← h.ops.len]; exact hs.ops
 have HST := Lib.hid (style_any s Z z zc M m mc P p pc U u uc E e ec O o oc _ (h.on HBX.out) hs)
 have HLS := Lib.hid (fun W (hr : Recs 5 opG W O o s.ops) => checkList_some O o oc u s.ops W hr h.ocap hs.op)
 have hmk := fun W => run_make_row' (P := Tryz.prog) 118 4 (.bool false) 1 Tryz.underlying118 bool_info rfl .i64 .i64 u (by omega) (by omega) W
 clear h hs
 obtain ⟨Q, hQ⟩ : ∃ q, styleE s = q := ⟨_, rfl⟩
 rw [hQ] at HST
 have HQ := Lib.hid hQ
 clear hQ
 go_enter Tryz.func36, Tryz.ntmps36
 go_wp2_with fail
 refine HST.out.mono ?_
 rintro e1 w1 ⟨rfl, hb1⟩
 have HB1 := Lib.hid (HBX.out.trans (hb1.mono HBX.out.size))
 have HX1 := Lib.hid (HX.out.below hb1)
 obtain ⟨x4, x6⟩ := seven' HX1.out
 clear hb1
 by_cases h0 : Q = 0
 ·subst h0
  go_wp2_with fail
  refine (HLS.out _ (HA.out.ops.on op_mono HB1.out)).mono ?_
  rintro e2 w2 ⟨hb2, hor⟩
  have HB2 := Lib.hid (HB1.out.trans (hb2.mono HB1.out.size))
  have HX2 := Lib.hid (HX1.out.below hb2)
  clear x4 x6 hb2
  obtain ⟨x4, x6⟩ := seven' HX2.out
  rcases hor with ⟨hne, rfl⟩ | ⟨hz, A7, c7, rfl, ho7⟩
  ·obtain ⟨R, hR⟩ : ∃ q, listE s.ops (some u) = q := ⟨_, rfl⟩
   rw [hR] at hne
   have HR := Lib.hid (And.intro hR hne)
   have hne' : (R != 0) = true := by simpa using hne
   have HE : Hid (opsE s = R) := ops_list HQ.out (by rw [HL.out.2]; exact hR) hne
   rw [hR]
   clear hR hne
   go_wp2_with fail
   go_ret
   exact ⟨by rw [HE.out]; rfl, HB2.out⟩
  ·have HLZ := Lib.hid hz
   have HLZ2 : Hid (listE s.ops (some s.uses.length) = 0) := by rw [Hid, HL.out.2]; exact hz
   have HG0 : Hid (Blk (w2.alloc (.cells (madeCells #[.bool false] u) 4)) w2.heap.size 4 (boolC u [])) := by rw [← made_bool]; exact Blk.new _ _ _
   have HGB : Hid (Below w.heap.size w (w2.alloc (.cells (madeCells #[.bool false] u) 4))) := HB2.out.alloc HB2.out.size _
   have hxl := HX2.out.lt
   clear hz ho7
   go_wp2_with fail
   clear x4 x6 hmk
   go_loopw [8, 10, 37, 44] (fun _ _ i _ wr => ∃ (k : Nat) (xs : List Int), k ≤ o ∧ i = .int .i64 (k : Int) ∧ Hid (Blk wr w2.heap.size 4 (boolC u xs)) ∧ Hid (UsedUp s.ops k xs) ∧ Hid (Below w.heap.size w wr)) (fun _ _ i _ _ => o - (intOf i).toNat)
   case atStart => exact ⟨0, [], Nat.zero_le _, rfl, HG0, (fun x => by simp), HGB⟩
   case round =>
    obtain ⟨k, xs, hk, rfl, HG, HU, HB⟩ := hrel
    have HW2 := Lib.hid HB2.out.size
    have hgl := HG.out.lt
    by_cases hlt : k < o
    ·obtain ⟨b, off, x, B, an, ac, C, un, uc2, rfl, hbw, hx, c0, c1, c2, c3, c4, s1, s2, s3, s4⟩ := op_at HA.out.ops hlt
     replace c0 := (HB.out.cell (p := ⟨b, off + k * 5, none⟩) hbw).trans c0
     replace c1 := (HB.out.cell (p := ⟨b, off + k * 5 + 1, none⟩) hbw).trans c1
     replace c2 := (HB.out.cell (p := ⟨b, off + k * 5 + 2, none⟩) hbw).trans c2
     replace c3 := (HB.out.cell (p := ⟨b, off + k * 5 + 3, none⟩) hbw).trans c3
     replace c4 := (HB.out.cell (p := ⟨b, off + k * 5 + 4, none⟩) hbw).trans c4
     have HXX := Lib.hid hx
     have HS3 := Lib.hid s3
     have HUL := Lib.hid s3.ilen
     have ha1 : un ≤ 1000 := by rw [← s3.ilen]; exact (HS.out.op x (List.mem_of_getElem? hx)).us
     have HIX : Hid (idxB u x.uses = true) := by
      have h1 := (list_zero HLZ.out).2.1 k (List.getElem?_eq_some_iff.1 hx).1
      exact (op_zero hx h1).2.2
     have HBB := Lib.hid (HB.out.alloc HB.out.size (.cells #[.string x.name, .int .i64 x.machine, .int .i64 x.minutes, .slice B an ac, .slice C un uc2] 70))
     have HGG := Lib.hid (HG.out.alloc (.cells #[.string x.name, .int .i64 x.machine, .int .i64 x.minutes, .slice B an ac, .slice C un uc2] 70))
     have HI0 : Hid (∀ y, y ∈ xs ↔ y ∈ xs ∨ y ∈ x.uses.take 0) := fun y => by simp
     have i1 : (0 : Int) ≤ (k : Int) := by omega
     have i2 : (k : Int) < (o : Int) := by omega
     clear hx s1 s3 hgl
     go_wp2_with fail
     clear c0 c1 c2 c3 c4
     go_loopw [10, 44] (fun _ i v => ∃ (q : Nat) (ys : List Int), q ≤ un ∧ i = .int .i64 (q : Int) ∧ Hid (Blk v w2.heap.size 4 (boolC u ys)) ∧ Hid (∀ y, y ∈ ys ↔ y ∈ xs ∨ y ∈ x.uses.take q) ∧ Hid (Below w.heap.size w v)) (fun _ i _ => un - (intOf i).toNat)
     case atStart => exact ⟨0, xs, Nat.zero_le _, rfl, HGG, HI0, HBB⟩
     case round =>
      obtain ⟨q, ys, hq, rfl, HGq, HIq, HBq⟩ := hrel
      by_cases hqt : q < un
      ·obtain ⟨b2, off2, a, rfl, hbw2, ha, d0⟩ := (HS3.out.on HBq.out).int_ hqt
       have HAA := Lib.hid ha
       have hin := idx_at HIX.out ha
       obtain ⟨a', rfl⟩ : ∃ a' : Nat, a = (a' : Int) := ⟨a.toNat, by omega⟩
       have i3 : (0 : Int) ≤ (q : Int) := by omega
       have i4 : (q : Int) < (un : Int) := by omega
       have i5 : (a' : Int) < (u : Int) := hin.2
       have i6 : (0 : Int) ≤ (a' : Int) := hin.1
       have i7 : a' < u := by omega
       have hgc := HGq.out.c (boolC_at i7)
       have hgf := HGq.out.frozen a'
       clear ha hin
       go_wp2_with fail
       go_roundw
       case rel =>
        refine ⟨q + 1, ys ++ [(a' : Int)], by omega, by go_num, ?_, fun y => ?_, HBq.out.setCell (p := ⟨w2.heap.size, a', none⟩) HW2.out _⟩
        ·rw [← boolC_add]
         exact HGq.out.set_ a' _
        ·rw [List.mem_append, HIq.out y, List.take_add_one, HAA.out]
         simp only [Option.toList_some, List.mem_append, List.mem_singleton, or_assoc]
       case measure => simp [intOf]; omega
      ·obtain rfl : un = q := by omega
       have HU2 := Lib.hid (used_more HU.out HXX.out (fun y => by have := HIq.out y; rwa [← HUL.out, List.take_length] at this))
       go_wp2_with fail
       go_roundw
       case rel => exact ⟨k + 1, ys, by omega, by go_num, HGq, HU2, HBq⟩
       case measure => simp [intOf]; omega
    ·obtain rfl : o = k := by omega
     have HU3 : Hid (∀ j : Nat, decide ((j : Int) ∈ xs) = takenB s j) := fun j => used_all (by rw [HL.out.1]; exact HU.out) j
     go_wp2_with fail
     go_loop [12, 55] (fun _ i => ∃ k : Nat, k ≤ u ∧ i = .int .i64 (k : Int) ∧ Hid (∀ j, j < k → takenB s j = true)) (fun _ i => u - (intOf i).toNat)
     case atStart => exact ⟨0, Nat.zero_le _, rfl, fun j hj => by omega⟩
     case round =>
      obtain ⟨k, hk, rfl, htk⟩ := hrel
      by_cases hlt : k < u
      ·have hgc := HG.out.c (boolC_at hlt)
       rw [HU3.out k] at hgc
       have i1 : (0 : Int) ≤ (k : Int) := by omega
       have i2 : (k : Int) < (u : Int) := by omega
       obtain ⟨t, ht⟩ : ∃ t, takenB s k = t := ⟨_, rfl⟩
       rw [ht] at hgc
       have HT := Lib.hid ht
       clear ht
       cases t
       ·have HE : Hid (opsE s = 20) := ops_gap HQ.out HLZ2.out (by rw [HL.out.2]; exact hlt) HT.out
        go_wp2_with fail
        go_ret
        exact ⟨by rw [HE.out]; rfl, HB.out⟩
       ·go_wp2_with fail
        go_round
        case rel =>
         refine ⟨k + 1, by omega, by go_num, fun j hj => ?_⟩
         by_cases e : j = k
         ·rw [e]; exact HT.out
         ·exact htk.out j (by omega)
        case measure => simp [intOf]; omega
      ·obtain rfl : u = k := by omega
       have HE : Hid (opsE s = 0) := ops_ok HQ.out HLZ2.out (fun j hj => htk.out j (by rw [← HL.out.2]; exact hj))
       go_wp2_with fail
       go_ret
       exact ⟨by rw [HE.out]; rfl, HB.out⟩
 ·have h0' : (Q != 0) = true := by simpa using h0
  have HE : Hid (opsE s = Q) := ops_style HQ.out h0
  clear h0
  go_wp2_with fail
  go_ret
  exact ⟨by rw [HE.out]; rfl, HB1.out⟩
end
section
open Go.RowKit
open Go.Lib hiding intOf
theorem mach_yes (z : Int) (w : World) (h1 : 0 ≤ z) (h2 : z < 8) : Calls Tryz.prog 55 #[.int .i64 z] w fun e w' => e = .returned (.bool true) ∧ w = w' := by
 go_enter Tryz.func55, Tryz.ntmps55
 go_wp2
 go_ret
 exact ⟨rfl, rfl⟩
theorem mach_no (z : Int) (w : World) (h : z < 0 ∨ 8 ≤ z) : Calls Tryz.prog 55 #[.int .i64 z] w fun e w' => e = .returned (.bool false) ∧ w = w' := by
 by_cases h1 : z < 0
 ·have h2 : ¬ 0 ≤ z := by omega
  clear h
  go_enter Tryz.func55, Tryz.ntmps55
  go_wp2
  go_ret
  exact ⟨rfl, rfl⟩
 ·have h2 : 0 ≤ z := by omega
  have h3 : ¬ z < 8 := by omega
  clear h h1
  go_enter Tryz.func55, Tryz.ntmps55
  go_wp2
  go_ret
  exact ⟨rfl, rfl⟩
theorem two_box {w : World} {g : Nat} {t : TypeId} {a0 a1 : Value} (h : Blk w g t #[a0, a1]) : w.cell? ⟨g, 0, none⟩ = some a0 ∧ w.cell? ⟨g, 1, none⟩ = some a1 := ⟨h.c rfl, h.c rfl⟩
theorem can_any (x : PWorker) (B : Option Addr) (m d : Nat) (z : Int) (w : World) (h : Sl w w.heap.size B m (ints x.machines)) (hm : m ≤ 1000) :
  Calls Tryz.prog 81 #[.agg #[.string x.name, .slice B m d], .int .i64 z] w fun e w' => e = .returned (.bool (canB x z)) ∧ Below w.heap.size w w' := by
 have HBX : Hid (Below w.heap.size w (w.alloc (.cells #[.string x.name, .slice B m d] 72))) := (Below.refl _ _).alloc (Nat.le_refl _) _
 have HC := (h.on HBX.out).icontains (c := d) z (by omega)
 unfold canB
 generalize x.machines.contains z = t at HC ⊢
 have HC := Lib.hid HC
 clear h
 go_enter Tryz.func81, Tryz.ntmps81
 go_wp2_with (go_at_call 109; refine HC.out.mono ?_; rintro e w2 ⟨rfl, rfl⟩)
 go_ret
 exact ⟨rfl, HBX.out⟩
theorem worker_same {w : World} {A : Option Addr} {n b off : Nat} {l : List PWorker} (h : Recs 2 workerG w A n l) (e : A = some ⟨b, off, none⟩) {j : Nat} (hj : j < n) : ∃ x B m d, l[j]? = some x ∧ w.cell? ⟨b, off + j * 2, none⟩ = some (.string x.name) ∧ w.cell? ⟨b, off + j * 2 + 1, none⟩ = some (.slice B m d) := by
 obtain ⟨b', off', x, B, m, d, e', _, h1, h2, h3, _⟩ := worker_at h hj
 rw [e] at e'
 injection e' with e'
 injection e' with e1 e2
 subst e1
 subst e2
 exact ⟨x, B, m, d, h1, h2, h3⟩
set_option maxRecDepth 100000 in
set_option maxHeartbeats 12800000 in
theorem workers_any (W0 : Option Addr) (n c : Nat) (l : List PWorker) (w : World) (hl : Recs 2 workerG w W0 n l) (hc : n ≤ c) (hs : ∀ x ∈ l, WorkerS x) :
  Calls Tryz.prog 37 #[.slice W0 n c] w fun e w' => e = .returned (.int .i64 (workersE l)) ∧ Below w.heap.size w w' := by
 have HLL := Lib.hid hl.len
 have HA := Lib.hid hl
 have HS := Lib.hid hs
 clear hl hs
 by_cases h12 : 12 < n
 ·have HE : Hid (workersE l = 5) := workers_long (by rw [HLL.out]; exact h12)
  go_enter Tryz.func37, Tryz.ntmps37
  go_wp2
  go_ret
  exact ⟨by rw [HE.out]; rfl, Below.refl _ _⟩
 ·have HN12 : Hid (¬ 12 < l.length) := by rw [Hid, HLL.out]; exact h12
  go_enter Tryz.func37, Tryz.ntmps37
  go_wp2
  go_loopw [3, 4, 6, 7, 9, 15, 29, 42] (fun _ _ _ _ _ i _ _ wr => ∃ k : Nat, k ≤ n ∧ i = .int .i64 (k : Int) ∧ Hid (∀ j, j < k → workerE l j = 0) ∧ Hid (Below w.heap.size w wr)) (fun _ _ _ _ _ i _ _ _ => n - (intOf i).toNat)
  case atStart => exact ⟨0, Nat.zero_le _, rfl, (fun j hj => by omega), Below.refl _ _⟩
  case round =>
   obtain ⟨k, hk, rfl, hz, HB⟩ := hrel
   by_cases hlt : k < n
   ·obtain ⟨b, off, x, B, m, d, rfl, hbw, hx, c0, c1, s1, s2⟩ := worker_at HA.out hlt
    replace c0 := (HB.out.cell (p := ⟨b, off + k * 2, none⟩) hbw).trans c0
    replace c1 := (HB.out.cell (p := ⟨b, off + k * 2 + 1, none⟩) hbw).trans c1
    have HXX := Lib.hid hx
    have HS1 := Lib.hid s1
    have HML := Lib.hid s1.ilen
    have hws := HS.out x (List.mem_of_getElem? hx)
    have ha1 : m ≤ 1000 := by rw [← s1.ilen]; exact hws.mac
    have HBB := Lib.hid (HB.out.alloc HB.out.size (.cells #[.string x.name, .slice B m d] 72))
    have HY := Lib.hid (Blk.new wr 72 #[.string x.name, .slice B m d])
    have HN := fun W => Check_name x.name W (by have := hws.nm; omega)
    unfold nameNode at HN
    have i1 : (0 : Int) ≤ (k : Int) := by omega
    have i2 : (k : Int) < (n : Int) := by omega
    have i3 : (k : Int) ≤ (c : Int) := by omega
    have i4 : k ≤ c := by omega
    clear hx s1 hws
    by_cases hnm : nameOk x.name.data.toList = true
    ·simp only [hnm] at HN
     have HN := Lib.hid HN
     have HNM := Lib.hid hnm
     clear hnm
     go_wp2_with (go_at_call 54; refine (HN.out _).mono ?_; rintro e w2 ⟨rfl, hb2⟩; have HB2 := Lib.hid (HBB.out.trans (hb2.mono HBB.out.size)); have HY2 := Lib.hid (HY.out.below hb2); clear hb2)
     have HC2 := HB2.out.size
     have hw2 := HY2.out.lt
     obtain ⟨x0, x1⟩ := two_box HY2.out
     clear c0 c1
     go_loopw [6, 29] (fun _ i v => ∃ q : Nat, q ≤ k ∧ i = .int .i64 (q : Int) ∧ Hid (∀ (j : Nat) (y : PWorker), j < q → l[j]? = some y → y.name ≠ x.name) ∧ Hid (Below w2.heap.size w2 v)) (fun _ i _ => k - (intOf i).toNat)
     case atStart => exact ⟨0, Nat.zero_le _, rfl, (fun j y hj => by omega), Below.refl _ _⟩
     case round =>
      obtain ⟨q, hq, rfl, hne, HBq⟩ := hrel
      have HBW := Lib.hid (HB2.out.trans (HBq.out.mono HC2))
      have HY3 := Lib.hid (HY2.out.below HBq.out)
      have hw3 := HY3.out.lt
      clear x0 x1
      obtain ⟨x0, x1⟩ := two_box HY3.out
      by_cases hqt : q < k
      ·obtain ⟨y, B2, m2, d2, hy, d0, d1⟩ := worker_same (HA.out.on worker_mono HBW.out) rfl (j := q) (by omega)
       have HYY := Lib.hid hy
       have HBV := Lib.hid (HBq.out.alloc HBq.out.size (.cells #[.string y.name, .slice B2 m2 d2] 72))
       have j1 : (0 : Int) ≤ (q : Int) := by omega
       have j2 : (q : Int) < (k : Int) := by omega
       clear hy
       by_cases hqq : y.name = x.name
       ·have HE : Hid (workersE l = 7) := workers_at HN12.out (by rw [HLL.out]; exact hlt) hz.out (worker_twice HXX.out HNM.out (hasName_yes (f := fun q : PWorker => q.name) (x := x) hqt HYY.out hqq)) (by decide)
        have hq' : (y.name.toList == x.name.toList) = true := by rw [hqq]; simp
        clear hqq
        go_wp2_with fail
        go_ret
        exact ⟨by rw [HE.out]; rfl, HB2.out.trans (HBV.out.mono HC2)⟩
       ·have HE : Hid (∀ (j : Nat) (y : PWorker), j < q + 1 → l[j]? = some y → y.name ≠ x.name) := fun j y' hj hy' => by
         by_cases ej : j = q
         ·subst ej
          rw [HYY.out] at hy'
          rw [← Option.some.inj hy']
          exact hqq
         ·exact hne.out j y' (by omega) hy'
        have hq' := toList_ne hqq
        clear hqq
        go_wp2_with fail
        go_roundw
        case rel => exact ⟨q + 1, by omega, by go_num, HE, HBV⟩
        case measure => simp [intOf]; omega
      ·obtain rfl : k = q := by omega
       have HH : Hid (hasName x.name ((l.take k).map (·.name)) = false) := hasName_no (f := fun q : PWorker => q.name) hne.out
       have HWM : Hid (workerE l k = machE [] x.machines) := worker_mach HXX.out HNM.out HH.out
       have HG0 : Hid (Blk (wr.alloc (.cells #[.bool false, .bool false, .bool false, .bool false, .bool false, .bool false, .bool false, .bool false] 129)) wr.heap.size 129 (boolC 8 (x.machines.take 0))) := Blk.new _ _ _
       have HGB := Lib.hid (HBW.out.alloc HBW.out.size (.cells #[.bool false, .bool false, .bool false, .bool false, .bool false, .bool false, .bool false, .bool false] 129))
       have HBS := Lib.hid HBW.out.size
       go_wp2_with fail
       clear x0 x1
       go_loopw [9, 42] (fun _ i v => ∃ q : Nat, q ≤ m ∧ i = .int .i64 (q : Int) ∧ Hid (Blk v wr.heap.size 129 (boolC 8 (x.machines.take q))) ∧ Hid (∀ (j : Nat) (y : Int), j < q → x.machines[j]? = some y → 0 ≤ y ∧ y < 8 ∧ y ∉ ([] : List Int) ∧ y ∉ x.machines.take j) ∧ Hid (Below w.heap.size w v)) (fun _ i _ => m - (intOf i).toNat)
       case atStart => exact ⟨0, Nat.zero_le _, rfl, HG0, (fun j y hj => by omega), HGB⟩
       case round =>
        obtain ⟨q, hq, rfl, HGq, HMq, HBv⟩ := hrel
        by_cases hqt : q < m
        ·obtain ⟨b2, off2, a, rfl, hbw2, ha, d0⟩ := (HS1.out.on HBv.out).int_ hqt
         have HAA := Lib.hid ha
         have HMA := Lib.hid (mach_at HMq.out ha)
         have i5 : (0 : Int) ≤ (q : Int) := by omega
         have i6 : (q : Int) < (m : Int) := by omega
         clear ha
         by_cases hbad : a < 0 ∨ 8 ≤ a
         ·have HE : Hid (workersE l = 3) := workers_at HN12.out (by rw [HLL.out]; exact hlt) hz.out (by rw [HWM.out, HMA.out, if_pos hbad]) (by decide)
          have HMN := Lib.hid (fun W => mach_no a W hbad)
          clear hbad
          go_wp2_with (go_at_call 55; refine (HMN.out _).mono ?_; rintro e w5 ⟨rfl, rfl⟩)
          go_ret
          exact ⟨by rw [HE.out]; rfl, HBv.out⟩
         ·obtain ⟨a', rfl⟩ : ∃ a' : Nat, a = (a' : Int) := ⟨a.toNat, by omega⟩
          have HMY := Lib.hid (fun W => mach_yes (a' : Int) W (by omega) (by omega))
          have HNB := Lib.hid hbad
          have i7 : a' < 8 := by omega
          have i8 : (a' : Int) < 8 := by omega
          have i9 : (0 : Int) ≤ (a' : Int) := by omega
          have hgc := HGq.out.c (boolC_at i7)
          have hgf := HGq.out.frozen a'
          clear hbad
          by_cases hin : (a' : Int) ∈ x.machines.take q
          ·have HE : Hid (workersE l = 7) := workers_at HN12.out (by rw [HLL.out]; exact hlt) hz.out (by rw [HWM.out, HMA.out, if_neg HNB.out, if_pos (.inr hin)]) (by decide)
           rw [decide_eq_true hin] at hgc
           clear hin
           go_wp2_with (go_at_call 55; refine (HMY.out _).mono ?_; rintro e w5 ⟨rfl, rfl⟩)
           go_ret
           exact ⟨by rw [HE.out]; rfl, HBv.out⟩
          ·have HMQ : Hid (∀ (j : Nat) (y : Int), j < q + 1 → x.machines[j]? = some y → 0 ≤ y ∧ y < 8 ∧ y ∉ ([] : List Int) ∧ y ∉ x.machines.take j) := fun j y hj hy => by
            by_cases ej : j = q
            ·subst ej
             rw [HAA.out] at hy
             obtain rfl := Option.some.inj hy
             exact ⟨i9, i8, by simp, hin⟩
            ·exact HMq.out j y (by omega) hy
           rw [decide_eq_false hin] at hgc
           clear hin
           go_wp2_with (go_at_call 55; refine (HMY.out _).mono ?_; rintro e w5 ⟨rfl, rfl⟩)
           go_roundw
           case rel =>
            refine ⟨q + 1, by omega, by go_num, ?_, HMQ, HBv.out.setCell (by exact HBS.out) _⟩
            rw [List.take_add_one, HAA.out, Option.toList_some, ← boolC_add]
            exact HGq.out.set_ a' _
           case measure => simp [intOf]; omega
        ·obtain rfl : m = q := by omega
         have HW0 : Hid (workerE l k = 0) := by
          rw [Hid, HWM.out]
          exact mach_ok fun j y hy => HMq.out j y (by have := (List.getElem?_eq_some_iff.1 hy).1; rw [HML.out] at this; exact this) hy
         have HZ : Hid (∀ j, j < k + 1 → workerE l j = 0) := fun j hj => by
          by_cases e : j = k
          ·rw [e]; exact HW0.out
          ·exact hz.out j (by omega)
         go_wp2_with fail
         go_roundw
         case rel => exact ⟨k + 1, by omega, by go_num, HZ, HBv⟩
         case measure => simp [intOf]; omega
    ·have hnm' : nameOk x.name.data.toList = false := by simpa using hnm
     have HE : Hid (workersE l = 1) := workers_at HN12.out (by rw [HLL.out]; exact hlt) hz.out (worker_name HXX.out hnm') (by decide)
     simp only [hnm'] at HN
     have HN := Lib.hid HN
     clear hnm hnm'
     go_wp2_with (go_at_call 54; refine (HN.out _).mono ?_; rintro e w2 ⟨rfl, hb2⟩; have HB2 := Lib.hid (HBB.out.trans (hb2.mono HBB.out.size)); clear hb2)
     go_ret
     exact ⟨by rw [HE.out]; rfl, HB2.out⟩
   ·obtain rfl : n = k := by omega
    have HE : Hid (workersE l = 0) := workers_ok HN12.out (fun j hj => hz.out j (by rw [← HLL.out]; exact hj))
    go_wp2
    go_ret
    exact ⟨by rw [HE.out]; rfl, HB.out⟩
end
section
open Go.RowKit
open Go.Lib hiding intOf
theorem six_cells {w : World} {g : Nat} {t : TypeId} {a0 a1 a2 a3 a4 a5 : Value} (h : Blk w g t #[a0, a1, a2, a3, a4, a5]) : w.cell? ⟨g, 0, none⟩ = some a0 ∧ w.cell? ⟨g, 4, none⟩ = some a4 ∧ w.cell? ⟨g, 5, none⟩ = some a5 := ⟨h.c rfl, h.c rfl, h.c rfl⟩
theorem bundle_same {w : World} {A : Option Addr} {n b off : Nat} {l : List PBundle} (h : Recs 6 bundleG w A n l) (e : A = some ⟨b, off, none⟩) {j : Nat} (hj : j < n) : ∃ x, l[j]? = some x ∧ w.cell? ⟨b, off + j * 6, none⟩ = some (.int .i64 x.ticket) ∧ w.cell? ⟨b, off + j * 6 + 1, none⟩ = some (.int .i64 x.garment) ∧ w.cell? ⟨b, off + j * 6 + 2, none⟩ = some (.int .i64 x.size) ∧ w.cell? ⟨b, off + j * 6 + 3, none⟩ = some (.int .i64 x.lot) ∧ w.cell? ⟨b, off + j * 6 + 4, none⟩ = some (.int .i64 x.from_) ∧ w.cell? ⟨b, off + j * 6 + 5, none⟩ = some (.int .i64 x.to_) := by
 obtain ⟨b', off', x, e', _, h1, h2, h3, h4, h5, h6, h7, _, _⟩ := bundle_at h hj
 rw [e] at e'
 injection e' with e'
 injection e' with e1 e2
 subst e1
 subst e2
 exact ⟨x, h1, h2, h3, h4, h5, h6, h7⟩
set_option maxRecDepth 100000 in
set_option maxHeartbeats 12800000 in
theorem scanCheck_any (s : PStyle) (Z : Option Addr) (z zc : Nat) (M : Option Addr) (m mc : Nat) (P : Option Addr) (p pc : Nat) (U : Option Addr) (u uc : Nat) (E : Option Addr) (e ec : Nat) (O : Option Addr) (o oc : Nat) (w : World) (h : StyleA w s Z z zc M m mc P p pc U u uc E e ec O o oc) (hs : StyleS s)
  (L : Option Addr) (n c : Nat) (bs : List PBundle) (hb : Recs 6 bundleG w L n bs) (hc : n ≤ c) (W0 : Option Addr) (k c' : Nat) (ws : List PWorker) (hw : Recs 2 workerG w W0 k ws) (hc' : k ≤ c') (hws : ∀ x ∈ ws, WorkerS x) :
  Calls Tryz.prog 21 #[.agg #[.string s.name, .slice Z z zc, .slice M m mc, .slice P p pc, .slice U u uc, .slice E e ec, .slice O o oc], .slice L n c, .slice W0 k c'] w fun e w' => e = .returned (.int .i64 (scanE s bs ws)) ∧ Below w.heap.size w w' := by
 have HBX : Hid (Below w.heap.size w (w.alloc (.cells #[.string s.name, .slice Z z zc, .slice M m mc, .slice P p pc, .slice U u uc, .slice E e ec, .slice O o oc] 29))) := (Below.refl _ _).alloc (Nat.le_refl _) _
 have HLB := Lib.hid hb.len
 have HA := Lib.hid hb
 have HST := Lib.hid (ops_any s Z z zc M m mc P p pc U u uc E e ec O o oc _ (h.on HBX.out) hs)
 have HWK := Lib.hid (fun V (hv : Below w.heap.size w V) => workers_any W0 k c' ws V (hw.on worker_mono hv) hc' hws)
 clear h hs hb hw hws
 obtain ⟨Q, hQ⟩ : ∃ q, opsE s = q := ⟨_, rfl⟩
 rw [hQ] at HST
 have HQ := Lib.hid hQ
 clear hQ
 go_enter Tryz.func21, Tryz.ntmps21
 go_wp2_with fail
 refine HST.out.mono ?_
 rintro e1 w1 ⟨rfl, hb1⟩
 have HB1 := Lib.hid (HBX.out.trans (hb1.mono HBX.out.size))
 clear hb1
 by_cases h0 : Q = 0
 ·subst h0
  by_cases h60 : 60 < n
  ·have HE : Hid (scanE s bs ws = 5) := scan_long HQ.out (by rw [HLB.out]; exact h60)
   go_wp2_with fail
   go_ret
   exact ⟨by rw [HE.out]; rfl, HB1.out⟩
  ·have HN : Hid (¬ 60 < bs.length) := by rw [Hid, HLB.out]; exact h60
   go_wp2_with fail
   go_loopw [8, 9, 11, 22, 46] (fun _ _ _ i _ wr => ∃ k : Nat, k ≤ n ∧ i = .int .i64 (k : Int) ∧ Hid (∀ j, j < k → bundleE bs j = 0) ∧ Hid (Below w.heap.size w wr)) (fun _ _ _ i _ _ => n - (intOf i).toNat)
   case atStart => exact ⟨0, Nat.zero_le _, rfl, (fun j hj => by omega), HB1⟩
   case round =>
    obtain ⟨r, hk, rfl, hz, HB⟩ := hrel
    by_cases hlt : r < n
    ·obtain ⟨b, off, x, rfl, hbw, hx, c0, c1, c2, c3, c4, c5, g1, g2⟩ := bundle_at HA.out hlt
     obtain ⟨F, hF⟩ : ∃ z, x.from_ = z := ⟨_, rfl⟩
     obtain ⟨T, hT⟩ : ∃ z, x.to_ = z := ⟨_, rfl⟩
     obtain ⟨t, ht⟩ : ∃ z, x.ticket = z := ⟨_, rfl⟩
     rw [hF] at c4 g1
     rw [hT] at c5 g2
     rw [ht] at c0
     replace c0 := (HB.out.cell (p := ⟨b, off + r * 6, none⟩) hbw).trans c0
     replace c1 := (HB.out.cell (p := ⟨b, off + r * 6 + 1, none⟩) hbw).trans c1
     replace c2 := (HB.out.cell (p := ⟨b, off + r * 6 + 2, none⟩) hbw).trans c2
     replace c3 := (HB.out.cell (p := ⟨b, off + r * 6 + 3, none⟩) hbw).trans c3
     replace c4 := (HB.out.cell (p := ⟨b, off + r * 6 + 4, none⟩) hbw).trans c4
     replace c5 := (HB.out.cell (p := ⟨b, off + r * 6 + 5, none⟩) hbw).trans c5
     have HXX := Lib.hid hx
     have HTT := Lib.hid ht
     have HBB := Lib.hid (HB.out.alloc HB.out.size (.cells #[.int .i64 t, .int .i64 x.garment, .int .i64 x.size, .int .i64 x.lot, .int .i64 F, .int .i64 T] 81))
     have HY := Lib.hid (Blk.new wr 81 #[.int .i64 t, .int .i64 x.garment, .int .i64 x.size, .int .i64 x.lot, .int .i64 F, .int .i64 T])
     have i1 : (0 : Int) ≤ (r : Int) := by omega
     have i2 : (r : Int) < (n : Int) := by omega
     have i3 : (r : Int) ≤ (c : Int) := by omega
     have i4 : r ≤ c := by omega
     have HFT := Lib.hid (And.intro hF hT)
     obtain ⟨g3, g4⟩ := g1
     obtain ⟨g5, g6⟩ := g2
     clear hx ht hF hT
     by_cases hft : T ≤ F
     ·have HE : Hid (scanE s bs ws = 3) := scan_bundle HQ.out HN.out (by rw [HLB.out]; exact hlt) hz.out (bundle_range HXX.out (.inl (by rw [HFT.out.1, HFT.out.2]; exact hft))) (by decide)
      go_wp2_with fail
      go_ret
      exact ⟨by rw [HE.out]; rfl, HBB.out⟩
     ·have hsub : IntKind.u64.wrap (IntKind.u64.wrap T - IntKind.u64.wrap F) = T - F := by
       simp only [IntKind.wrap_u64]
       omega
      by_cases h40 : 40 < T - F
      ·have HE : Hid (scanE s bs ws = 3) := scan_bundle HQ.out HN.out (by rw [HLB.out]; exact hlt) hz.out (bundle_range HXX.out (.inr (by rw [HFT.out.1, HFT.out.2]; exact h40))) (by decide)
       go_wp2_with fail
       go_ret
       exact ⟨by rw [HE.out]; rfl, HBB.out⟩
      ·have HRG : Hid (¬ (x.to_ ≤ x.from_ ∨ 40 < x.to_ - x.from_)) := by rw [Hid, HFT.out.1, HFT.out.2]; omega
       go_wp2_with fail
       clear hsub c0 c1 c2 c3 c4 c5 h40 hft
       go_loopw [11, 46] (fun _ i v => ∃ q : Nat, q ≤ r ∧ i = .int .i64 (q : Int) ∧ Hid (∀ (j : Nat) (y : PBundle), j < q → bs[j]? = some y → y.ticket ≠ t) ∧ Hid (Below (wr.alloc (.cells #[.int .i64 t, .int .i64 x.garment, .int .i64 x.size, .int .i64 x.lot, .int .i64 F, .int .i64 T] 81)).heap.size (wr.alloc (.cells #[.int .i64 t, .int .i64 x.garment, .int .i64 x.size, .int .i64 x.lot, .int .i64 F, .int .i64 T] 81)) v)) (fun _ i _ => r - (intOf i).toNat)
       case atStart => exact ⟨0, Nat.zero_le _, rfl, (fun j y hj => by omega), Below.refl _ _⟩
       case round =>
        obtain ⟨q, hq, rfl, hne, HBq⟩ := hrel
        have HBW := Lib.hid (HBB.out.trans (HBq.out.mono HBB.out.size))
        have HY3 := Lib.hid (HY.out.below HBq.out)
        have hw3 := HY3.out.lt
        obtain ⟨x0, x4, x5⟩ := six_cells HY3.out
        by_cases hqt : q < r
        ·obtain ⟨y, hy, d0, d1, d2, d3, d4, d5⟩ := bundle_same (HA.out.on bundle_mono HBW.out) rfl (j := q) (by omega)
         have HYY := Lib.hid hy
         obtain ⟨t2, ht2⟩ : ∃ z, y.ticket = z := ⟨_, rfl⟩
         rw [ht2] at d0
         have HT2 := Lib.hid ht2
         have HBV := Lib.hid (HBq.out.alloc HBq.out.size (.cells #[.int .i64 t2, .int .i64 y.garment, .int .i64 y.size, .int .i64 y.lot, .int .i64 y.from_, .int .i64 y.to_] 81))
         have j1 : (0 : Int) ≤ (q : Int) := by omega
         have j2 : (q : Int) < (r : Int) := by omega
         clear hy ht2
         by_cases hqq : t2 = t
         ·have HE : Hid (scanE s bs ws = 7) := scan_bundle HQ.out HN.out (by rw [HLB.out]; exact hlt) hz.out (bundle_twice HXX.out HRG.out (tick_yes hqt HYY.out (by rw [HT2.out, HTT.out]; exact hqq))) (by decide)
          have hq' : (t2 == t) = true := by simp [hqq]
          clear hqq
          go_wp2_with fail
          go_ret
          exact ⟨by rw [HE.out]; rfl, HBB.out.trans (HBV.out.mono HBB.out.size)⟩
         ·have HE : Hid (∀ (j : Nat) (y : PBundle), j < q + 1 → bs[j]? = some y → y.ticket ≠ t) := fun j y' hj hy' => by
           by_cases ej : j = q
           ·subst ej
            rw [HYY.out] at hy'
            rw [← Option.some.inj hy', HT2.out]
            exact hqq
           ·exact hne.out j y' (by omega) hy'
          have hq' : (t2 == t) = false := by simp [hqq]
          clear hqq
          go_wp2_with fail
          go_roundw
          case rel => exact ⟨q + 1, by omega, by go_num, HE, HBV⟩
          case measure => simp [intOf]; omega
        ·obtain rfl : r = q := by omega
         have HW0 : Hid (bundleE bs r = 0) := bundle_ok HXX.out HRG.out (by rw [HTT.out]; exact tick_no hne.out)
         have HZ : Hid (∀ j, j < r + 1 → bundleE bs j = 0) := fun j hj => by
          by_cases e : j = r
          ·rw [e]; exact HW0.out
          ·exact hz.out j (by omega)
         go_wp2_with fail
         go_roundw
         case rel => exact ⟨r + 1, by omega, by go_num, HZ, HBW⟩
         case measure => simp [intOf]; omega
    ·obtain rfl : n = r := by omega
     have HE : Hid (scanE s bs ws = workersE ws) := scan_workers HQ.out HN.out (fun j hj => hz.out j (by rw [← HLB.out]; exact hj))
     have HWW := Lib.hid (HWK.out _ HB.out)
     go_wp2_with fail
     refine HWW.out.mono ?_
     rintro e2 w2 ⟨rfl, hb2⟩
     have HB2 := Lib.hid (HB.out.trans (hb2.mono HB.out.size))
     clear hb2
     go_wp2_with fail
     go_ret
     exact ⟨by rw [HE.out]; rfl, HB2.out⟩
 ·have h0' : (Q != 0) = true := by simpa using h0
  have HE : Hid (scanE s bs ws = Q) := scan_ops HQ.out h0
  clear h0
  go_wp2_with fail
  go_ret
  exact ⟨by rw [HE.out]; rfl, HB1.out⟩
end
section
open Go.RowKit
open Go.Lib hiding intOf
set_option maxRecDepth 100000 in
set_option maxHeartbeats 6400000 in
theorem judge_none (O : Option Addr) (o oc : Nat) (W0 : Option Addr) (k kc : Nat) (x : PScan) (w : World) :
  Calls Tryz.prog 56 #[.slice O o oc, .slice W0 k kc, .pointer none, .agg #[.int .i64 x.ticket, .int .i64 x.op, .int .i64 x.worker, .int .i64 x.at_]] w fun e w' => e = .returned (.int .i64 3) ∧ Below w.heap.size w w' := by
 have HBX : Hid (Below w.heap.size w (w.alloc (.cells #[.int .i64 x.ticket, .int .i64 x.op, .int .i64 x.worker, .int .i64 x.at_] 55))) := (Below.refl _ _).alloc (Nat.le_refl _) _
 go_enter Tryz.func56, Tryz.ntmps56
 go_wp2
 go_ret
 exact ⟨rfl, HBX.out⟩
set_option maxRecDepth 100000 in
set_option maxHeartbeats 12800000 in
theorem judge_bad (O : Option Addr) (o oc : Nat) (W0 : Option Addr) (k kc : Nat) (g : Nat) (x : PScan) (w : World) (h : x.op < 0 ∨ (o : Int) ≤ x.op ∨ x.worker < 0 ∨ (k : Int) ≤ x.worker ∨ x.at_ < 0 ∨ 1073741824 < x.at_) :
  Calls Tryz.prog 56 #[.slice O o oc, .slice W0 k kc, .pointer (some ⟨g, 0, none⟩), .agg #[.int .i64 x.ticket, .int .i64 x.op, .int .i64 x.worker, .int .i64 x.at_]] w fun e w' => e = .returned (.int .i64 3) ∧ Below w.heap.size w w' := by
 obtain ⟨t, a, b, c⟩ := x
 simp only at h ⊢
 have HBX : Hid (Below w.heap.size w (w.alloc (.cells #[.int .i64 t, .int .i64 a, .int .i64 b, .int .i64 c] 55))) := (Below.refl _ _).alloc (Nat.le_refl _) _
 by_cases a1 : a < 0
 ·clear h
  go_enter Tryz.func56, Tryz.ntmps56
  go_wp2
  go_ret
  exact ⟨rfl, HBX.out⟩
 by_cases a2 : (o : Int) ≤ a
 ·clear h
  go_enter Tryz.func56, Tryz.ntmps56
  go_wp2
  go_ret
  exact ⟨rfl, HBX.out⟩
 by_cases a3 : b < 0
 ·clear h
  go_enter Tryz.func56, Tryz.ntmps56
  go_wp2
  go_ret
  exact ⟨rfl, HBX.out⟩
 by_cases a4 : (k : Int) ≤ b
 ·clear h
  go_enter Tryz.func56, Tryz.ntmps56
  go_wp2
  go_ret
  exact ⟨rfl, HBX.out⟩
 by_cases a5 : c < 0
 ·clear h
  go_enter Tryz.func56, Tryz.ntmps56
  go_wp2
  go_ret
  exact ⟨rfl, HBX.out⟩
 ·have a6 : 1073741824 < c := by omega
  clear h
  go_enter Tryz.func56, Tryz.ntmps56
  go_wp2
  go_ret
  exact ⟨rfl, HBX.out⟩
end
section
open Go.RowKit
open Go.Lib hiding intOf
structure JuW (w : World) (S G : Nat) (wb wo : Nat) (t a b c : Int) (y : POp) (v : PWorker) (B : Option Addr) (an ac : Nat) (C : Option Addr) (un uc : Nat) (D : Option Addr) (mn mc : Nat) : Prop where
 s1 : w.cell? ⟨S, 1, none⟩ = some (.int .i64 a)
 s2 : w.cell? ⟨S, 2, none⟩ = some (.int .i64 b)
 s3 : w.cell? ⟨S, 3, none⟩ = some (.int .i64 c)
 o1 : w.cell? ⟨G, 1, none⟩ = some (.int .i64 y.machine)
 o3 : w.cell? ⟨G, 3, none⟩ = some (.slice B an ac)
 v0 : w.cell? ⟨wb, wo, none⟩ = some (.string v.name)
 v1 : w.cell? ⟨wb, wo + 1, none⟩ = some (.slice D mn mc)
set_option maxRecDepth 100000 in
set_option maxHeartbeats 12800000 in
theorem judge_in (s : PStyle) (bs : List PBundle) (ws : List PWorker) (paid : List PScan) (x : PScan) (O : Option Addr) (o oc : Nat) (V : Option Addr) (k kc : Nat) (g : Nat) (w : World)
  (ho : Recs 5 opG w O o s.ops) (ho16 : o ≤ 16) (hos : ∀ y ∈ s.ops, OpS y) (hv : Recs 2 workerG w V k ws) (hvs : ∀ y ∈ ws, WorkerS y)
  (hix : ∀ y ∈ s.ops, ∀ z ∈ y.after, 0 ≤ z ∧ z < (o : Int)) (hg : Blk w g 105 (recC paid x.ticket)) (hx : knownB s bs ws x) :
  Calls Tryz.prog 56 #[.slice O o oc, .slice V k kc, .pointer (some ⟨g, 0, none⟩), .agg #[.int .i64 x.ticket, .int .i64 x.op, .int .i64 x.worker, .int .i64 x.at_]] w fun e w' => e = .returned (.int .i64 (outcomeP s bs ws paid x)) ∧ Below w.heap.size w w' := by
 have HKN := Lib.hid hx
 have hol := ho.len
 have hvl := hv.len
 obtain ⟨q1, q2, q3, q4, q5, q6, q7⟩ := hx
 rw [hol] at q3
 rw [hvl] at q5
 obtain ⟨a, ha⟩ : ∃ a : Nat, x.op = (a : Int) := ⟨x.op.toNat, by omega⟩
 obtain ⟨b, hb⟩ : ∃ b : Nat, x.worker = (b : Int) := ⟨x.worker.toNat, by omega⟩
 obtain ⟨c, hc⟩ : ∃ c, x.at_ = c := ⟨_, rfl⟩
 have hao : a < o := by omega
 have hbk : b < k := by omega
 obtain ⟨ob, oo, y, B, an, ac, C, un, uc, rfl, hob, hy, c0, c1, c2, c3, c4, s1, s2, s3, s4⟩ := op_at ho hao
 obtain ⟨wb, wo, v, D, mn, mc, rfl, hwb, hvx, d0, d1, r1, r2⟩ := worker_at hv hbk
 have HOUT : Hid (outcomeP s bs ws paid x = if canB v y.machine = false then 4 else if doneB paid x.ticket x.op = true then 2 else if (y.after.all fun a => doneB paid x.ticket a) = false then 5 else if x.at_ < lastP paid x.ticket then 6 else 1) :=
  out_known HKN.out (by rw [ha]; exact hy) (by rw [hb]; exact hvx)
 have HS1 := Lib.hid s1
 have HAL := Lib.hid s1.ilen
 have HGB := Lib.hid hg
 have HIX : Hid (∀ z ∈ y.after, 0 ≤ z ∧ z < 16) := fun z hz => by have := hix y (List.mem_of_getElem? hy) z hz; omega
 have ha1 : an ≤ 1000 := by rw [← s1.ilen]; exact (hos y (List.mem_of_getElem? hy)).aft
 have hm1 : mn ≤ 1000 := by rw [← r1.ilen]; exact (hvs v (List.mem_of_getElem? hvx)).mac
 obtain ⟨W, hW⟩ : ∃ W, W = (w.alloc (.cells #[.int .i64 x.ticket, .int .i64 (a : Int), .int .i64 (b : Int), .int .i64 c] 55)).alloc (.cells #[.string y.name, .int .i64 y.machine, .int .i64 y.minutes, .slice B an ac, .slice C un uc] 70) := ⟨_, rfl⟩
 have HBW : Hid (Below w.heap.size w W) := by rw [hW]; exact Below.alloc ((Below.refl _ _).alloc (Nat.le_refl _) _) (by simp) _
 have hsz : (w.alloc (.cells #[.int .i64 x.ticket, .int .i64 (a : Int), .int .i64 (b : Int), .int .i64 c] 55)).heap.size = w.heap.size + 1 := by simp
 have HSB : Hid (Blk W w.heap.size 55 #[.int .i64 x.ticket, .int .i64 (a : Int), .int .i64 (b : Int), .int .i64 c]) := by rw [hW]; exact (Blk.new _ _ _).alloc _
 have HOB : Hid (Blk W (w.heap.size + 1) 70 #[.string y.name, .int .i64 y.machine, .int .i64 y.minutes, .slice B an ac, .slice C un uc]) := by rw [hW]; exact Blk.new' _ _ _ hsz
 have HJ := fun w' => Lib.hid (fun (hb : Below W.heap.size W w') => JuW.mk (w := w') (S := w.heap.size) (G := w.heap.size + 1) (wb := wb) (wo := wo + b * 2) (t := x.ticket) (a := (a : Int)) (b := (b : Int)) (c := c) (y := y) (v := v) (B := B) (an := an) (ac := ac) (C := C) (un := un) (uc := uc) (D := D) (mn := mn) (mc := mc)
  ((HSB.out.below hb).c rfl) ((HSB.out.below hb).c rfl) ((HSB.out.below hb).c rfl) ((HOB.out.below hb).c rfl) ((HOB.out.below hb).c rfl)
  ((hb.cell (p := ⟨wb, wo + b * 2, none⟩) (Nat.lt_of_lt_of_le hwb HBW.out.size)).trans ((HBW.out.cell (p := ⟨wb, wo + b * 2, none⟩) hwb).trans d0))
  ((hb.cell (p := ⟨wb, wo + b * 2 + 1, none⟩) (Nat.lt_of_lt_of_le hwb HBW.out.size)).trans ((HBW.out.cell (p := ⟨wb, wo + b * 2 + 1, none⟩) hwb).trans d1)))
 have HGW := fun w' => Lib.hid (fun (hb : Below W.heap.size W w') => (HGB.out.below HBW.out).below hb)
 have HCAN := Lib.hid (fun U (hb : Below W.heap.size W U) => can_any v D mn mc y.machine U ((r1.on HBW.out).on hb) hm1)
 have HK := fun w' => Lib.hid (fun (hb : Below W.heap.size W w') => And.intro ((HJ w').out hb).s2 (And.intro ((HJ w').out hb).o1 (And.intro ((HJ w').out hb).v0 ((HJ w').out hb).v1)))
 obtain ⟨t1, ht1⟩ : ∃ t, canB v y.machine = t := ⟨_, rfl⟩
 rw [ht1] at HCAN HOUT
 rw [ha, hc] at HOUT
 clear ht1
 have i1 : (0 : Int) ≤ (a : Int) := by omega
 have i2 : (a : Int) < (o : Int) := by omega
 have i3 : (0 : Int) ≤ (b : Int) := by omega
 have i4 : (b : Int) < (k : Int) := by omega
 rw [hc] at q6 q7
 rw [ha, hb, hc]
 have n1 : ¬ (a : Int) < 0 := by omega
 have n2 : ¬ (o : Int) ≤ (a : Int) := by omega
 have n3 : ¬ (b : Int) < 0 := by omega
 have n4 : ¬ (k : Int) ≤ (b : Int) := by omega
 have n5 : ¬ c < 0 := by omega
 have n6 : ¬ 1073741824 < c := by omega
 clear ho hv hg s1 s3 r1 hy hvx q1 q2 q3 q4 q5 hol hvl hix hos hvs
 go_enter Tryz.func56, Tryz.ntmps56
 go_wp2_with fail
 rw [← hW]
 clear hW c0 c1 c2 c3 c4 d0 d1
 have hq := Below.refl W.heap.size W
 obtain ⟨m2, m1, m3, m4⟩ := (HK W).out hq
 go_region_held3 (fun w' => w'.cell? ⟨w.heap.size, 2, none⟩ = some (.int .i64 (b : Int)) ∧ w'.cell? ⟨w.heap.size + 1, 1, none⟩ = some (.int .i64 y.machine) ∧ w'.cell? ⟨wb, wo + b * 2, none⟩ = some (.string v.name) ∧ w'.cell? ⟨wb, wo + b * 2 + 1, none⟩ = some (.slice D mn mc))
  ((refine (HK _).out ?_; repeat (first | (with_reducible exact Below.refl _ _) | (with_reducible exact hq) | (with_reducible refine Below.drew ?_))))
  ((go_at_call 81; go_must ((refine (HCAN.out _ (by repeat (first | (with_reducible exact Below.refl _ _) | (with_reducible exact hq) | (with_reducible refine Below.drew ?_)))).mono ?_); rintro e2 w2 ⟨rfl, hv⟩; replace hq := below_then hq hv; clear hv)))
 have HZ := Lib.hid (HBW.out.trans (hq.mono HBW.out.size))
 have HG2 := Lib.hid ((HGW w2).out hq)
 have HS2 := Lib.hid (HS1.out.on HZ.out)
 have z1 := ((HJ w2).out hq).s1
 have z2 := ((HJ w2).out hq).s3
 have z3 := ((HJ w2).out hq).o3
 have z4 := HG2.out.c recC_last
 clear m1 m2 m3 m4 hq
 cases t1
 ·have HE : Hid (outcomeP s bs ws paid x = 4) := by rw [Hid, HOUT.out]; rfl
  go_wp2_with fail
  go_ret
  exact ⟨by rw [HE.out]; rfl, HZ.out⟩
 ·obtain ⟨t2, ht2⟩ : ∃ t, doneB paid x.ticket (a : Int) = t := ⟨_, rfl⟩
  have z5 := HG2.out.c (recC_op (k := a) (by omega))
  have i5 : (a : Int) < 16 := by omega
  rw [ht2] at z5 HOUT
  clear ht2
  cases t2
  ·go_wp2_with fail
   go_region
   go_wp2_with fail
   clear z5
   go_loop [11, 72] (fun _ i => ∃ q : Nat, q ≤ an ∧ i = .int .i64 (q : Int) ∧ Hid (∀ (j : Nat) (z : Int), j < q → y.after[j]? = some z → doneB paid x.ticket z = true)) (fun _ i => an - (intOf i).toNat)
   case atStart => exact ⟨0, Nat.zero_le _, rfl, fun j z hj => by omega⟩
   case round =>
    obtain ⟨q, hq, rfl, hall⟩ := hrel
    by_cases hqt : q < an
    ·obtain ⟨b2, off2, f, rfl, hbw2, hf, e0⟩ := HS2.out.int_ hqt
     have HFF := Lib.hid hf
     have hfr := HIX.out f (List.mem_of_getElem? hf)
     obtain ⟨f', rfl⟩ : ∃ f' : Nat, f = (f' : Int) := ⟨f.toNat, by omega⟩
     have z6 := HG2.out.c (recC_op (paid := paid) (t := x.ticket) (k := f') (by omega))
     have j1 : (0 : Int) ≤ (f' : Int) := by omega
     have j2 : (f' : Int) < 16 := hfr.2
     have j3 : (0 : Int) ≤ (q : Int) := by omega
     have j4 : (q : Int) < (an : Int) := by omega
     obtain ⟨t3, ht3⟩ : ∃ t, doneB paid x.ticket (f' : Int) = t := ⟨_, rfl⟩
     rw [ht3] at z6
     have HT3 := Lib.hid ht3
     clear hf hfr ht3
     cases t3
     ·have HE : Hid (outcomeP s bs ws paid x = 5) := by
       rw [Hid, HOUT.out, after_no HFF.out HT3.out]
       rfl
      go_wp2_with fail
      go_ret
      exact ⟨by rw [HE.out]; rfl, by repeat (first | (with_reducible exact HZ.out) | (with_reducible refine Below.drew ?_))⟩
     ·have HE : Hid (∀ (j : Nat) (z : Int), j < q + 1 → y.after[j]? = some z → doneB paid x.ticket z = true) := fun j z hj hz => by
       by_cases ej : j = q
       ·subst ej
        rw [HFF.out] at hz
        rw [← Option.some.inj hz]
        exact HT3.out
       ·exact hall.out j z (by omega) hz
      go_wp2_with fail
      go_round
      case rel => exact ⟨q + 1, by omega, by go_num, HE⟩
      case measure => simp [intOf]; omega
    ·obtain rfl : an = q := by omega
     have HYS : Hid ((y.after.all fun a => doneB paid x.ticket a) = true) := after_yes fun j z hz => hall.out j z (by have := (List.getElem?_eq_some_iff.1 hz).1; rw [HAL.out] at this; exact this) hz
     clear hall
     obtain ⟨lp, hlp⟩ : ∃ z, lastP paid x.ticket = z := ⟨_, rfl⟩
     rw [hlp] at z4 HOUT
     clear hlp
     by_cases hlt : c < lp
     ·have HE : Hid (outcomeP s bs ws paid x = 6) := by
       rw [Hid, HOUT.out, HYS.out, if_neg (by decide), if_neg (by decide), if_neg (by decide), if_pos hlt]
      go_wp2_with fail
      go_region
      go_wp2_with fail
      go_ret
      exact ⟨by rw [HE.out]; rfl, by repeat (first | (with_reducible exact HZ.out) | (with_reducible refine Below.drew ?_))⟩
     ·have HE : Hid (outcomeP s bs ws paid x = 1) := by
       rw [Hid, HOUT.out, HYS.out, if_neg (by decide), if_neg (by decide), if_neg (by decide), if_neg hlt]
      go_wp2_with fail
      go_region
      go_wp2_with fail
      go_ret
      exact ⟨by rw [HE.out]; rfl, by repeat (first | (with_reducible exact HZ.out) | (with_reducible refine Below.drew ?_))⟩
  ·have HE : Hid (outcomeP s bs ws paid x = 2) := by rw [Hid, HOUT.out]; rfl
   go_wp2_with fail
   go_region
   go_wp2_with fail
   go_ret
   exact ⟨by rw [HE.out]; rfl, by repeat (first | (with_reducible exact HZ.out) | (with_reducible refine Below.drew ?_))⟩
end
section
open Go.RowKit
open Go.Lib hiding intOf
set_option maxRecDepth 100000 in
set_option maxHeartbeats 6400000 in
theorem judgeAll_err (s : PStyle) (Z : Option Addr) (z zc : Nat) (M : Option Addr) (m mc : Nat) (P : Option Addr) (p pc : Nat) (U : Option Addr) (u uc : Nat) (E : Option Addr) (e ec : Nat) (O : Option Addr) (o oc : Nat) (w : World) (h : StyleA w s Z z zc M m mc P p pc U u uc E e ec O o oc) (hs : StyleS s)
  (L : Option Addr) (n c : Nat) (bs : List PBundle) (hb : Recs 6 bundleG w L n bs) (hc : n ≤ c) (W0 : Option Addr) (k c' : Nat) (ws : List PWorker) (hw : Recs 2 workerG w W0 k ws) (hc' : k ≤ c') (hws : ∀ x ∈ ws, WorkerS x) (X : Option Addr) (xn xc : Nat) (hbad : scanE s bs ws ≠ 0 ∨ 300 < xn) :
  Calls Tryz.prog 38 #[.agg #[.string s.name, .slice Z z zc, .slice M m mc, .slice P p pc, .slice U u uc, .slice E e ec, .slice O o oc], .slice L n c, .slice W0 k c', .slice X xn xc] w fun e w' => e = .returned (.tuple #[.slice none 0 0, .map none, .int .i64 (if scanE s bs ws ≠ 0 then scanE s bs ws else 5)]) ∧ Below w.heap.size w w' := by
 have HBX : Hid (Below w.heap.size w (w.alloc (.cells #[.string s.name, .slice Z z zc, .slice M m mc, .slice P p pc, .slice U u uc, .slice E e ec, .slice O o oc] 29))) := (Below.refl _ _).alloc (Nat.le_refl _) _
 have HC := Lib.hid (scanCheck_any s Z z zc M m mc P p pc U u uc E e ec O o oc _ (h.on HBX.out) hs L n c bs (hb.on bundle_mono HBX.out) hc W0 k c' ws (hw.on worker_mono HBX.out) hc' hws)
 clear h hs hb hw hws
 obtain ⟨Q, hQ⟩ : ∃ q, scanE s bs ws = q := ⟨_, rfl⟩
 rw [hQ] at HC hbad ⊢
 clear hQ
 obtain ⟨R, hR⟩ : ∃ R, (if Q ≠ 0 then Q else 5) = R := ⟨_, rfl⟩
 rw [hR]
 by_cases h0 : Q = 0
 ·subst h0
  have HE : Hid (R = 5) := hR.symm
  clear hR
  have hx : 300 < xn := hbad.resolve_left (fun q => q rfl)
  clear hbad
  go_enter Tryz.func38, Tryz.ntmps38
  go_wp2_with fail
  refine HC.out.mono ?_
  rintro e1 w1 ⟨rfl, hb1⟩
  have HB1 := Lib.hid (HBX.out.trans (hb1.mono HBX.out.size))
  clear hb1
  go_wp2_with fail
  refine bodyPost_ret (results_tmp3 rfl _ _ _) rfl ?_
  exact ⟨by rw [HE.out]; rfl, HB1.out⟩
 ·have h0' : (Q != 0) = true := by simpa using h0
  have HE : Hid (R = Q) := by rw [Hid, ← hR, if_pos h0]
  clear h0 hbad hR
  go_enter Tryz.func38, Tryz.ntmps38
  go_wp2_with fail
  refine HC.out.mono ?_
  rintro e1 w1 ⟨rfl, hb1⟩
  have HB1 := Lib.hid (HBX.out.trans (hb1.mono HBX.out.size))
  clear hb1
  go_wp2_with fail
  refine bodyPost_ret (results_tmp3 rfl _ _ _) rfl ?_
  exact ⟨by rw [HE.out]; rfl, HB1.out⟩
end
end Go.Proofs.YtiibocdmlfedkaaGreatDoor
