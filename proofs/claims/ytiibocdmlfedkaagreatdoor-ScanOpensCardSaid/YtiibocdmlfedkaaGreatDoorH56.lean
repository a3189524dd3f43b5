/- Parts of the proof. -/
import Derived.Test.YtiibocdmlfedkaaGreatDoorH53
import Derived.Test.YtiibocdmlfedkaaGreatDoorH54
namespace Go.Proofs.YtiibocdmlfedkaaGreatDoor
section
open Go.RowKit
open Go.Lib hiding intOf
theorem rname47_any (s : ByteArray) (w : World) (hs : s.size ≤ 9223372036854775807) :
  Calls Tryz.prog 90 #[.string s] w fun e w' => e = .returned (.bool (nameOk s.data.toList)) ∧ Below w.heap.size w w' := by
 have HN := fun W => gCheck_name s W hs
 unfold gnode at HN
 cases hn : nameOk s.data.toList
 all_goals
  simp only [hn] at HN
  have HN := Lib.hid HN
  clear hn
  go_enter Tryz.func90, Tryz.ntmps90
  go_wp2_with (go_at_call 122; refine (HN.out _).mono ?_; rintro e w' ⟨rfl, hb⟩)
  go_ret
  exact ⟨rfl, hb⟩
theorem rmach_any (z : Int) (w : World) : Calls Tryz.prog 91 #[.int .i64 z] w fun e w' => e = .returned (.bool (!decide (z < 0 ∨ 8 ≤ z))) ∧ w = w' := by
 obtain ⟨r, hr⟩ : ∃ r, (!decide (z < 0 ∨ 8 ≤ z)) = r := ⟨_, rfl⟩
 rw [hr]
 have HR := Lib.hid hr
 clear hr
 by_cases h1 : 0 ≤ z
 ·by_cases h2 : z < 8
  ·have HE : Hid (r = true) := by rw [Hid, ← HR.out, decide_eq_false (by omega)]; rfl
   go_enter Tryz.func91, Tryz.ntmps91
   go_wp2
   go_ret
   exact ⟨by rw [HE.out]; rfl, rfl⟩
  ·have HE : Hid (r = false) := by rw [Hid, ← HR.out, decide_eq_true (by omega)]; rfl
   go_enter Tryz.func91, Tryz.ntmps91
   go_wp2
   go_ret
   exact ⟨by rw [HE.out]; rfl, rfl⟩
 ·have HE : Hid (r = false) := by rw [Hid, ← HR.out, decide_eq_true (by omega)]; rfl
  go_enter Tryz.func91, Tryz.ntmps91
  go_wp2
  go_ret
  exact ⟨by rw [HE.out]; rfl, rfl⟩
set_option maxRecDepth 100000 in
set_option maxHeartbeats 6400000 in
theorem rin_any {B : Nat} (A : Option Addr) (n c : Nat) (l : List Int) (x : Int) (w : World) (ha : Sl w B A n (ints l)) (hn : n ≤ 1000000) :
  Calls Tryz.prog 62 #[.slice A n c, .int .i64 x] w fun e w' => e = .returned (.bool (l.contains x)) ∧ w = w' := by
 have HA := Lib.hid ha
 have HL := Lib.hid ha.ilen
 clear ha
 obtain ⟨r, hr⟩ : ∃ r, l.contains x = r := ⟨_, rfl⟩
 rw [hr]
 have HR := Lib.hid hr
 clear hr
 go_enter Tryz.func62, Tryz.ntmps62
 go_wp2
 go_loop [5] (fun i => ∃ k : Nat, k ≤ n ∧ i = .int .i64 (k : Int) ∧ Hid (∀ (j : Nat) (y : Int), j < k → l[j]? = some y → y ≠ x)) (fun i => n - (intOf i).toNat)
 case atStart => exact ⟨0, Nat.zero_le _, rfl, fun j y h => by omega⟩
 case round =>
  obtain ⟨k, hk, rfl, hne⟩ := hrel
  by_cases hlt : k < n
  ·obtain ⟨b, off, y, rfl, hbw, hy, c0⟩ := HA.out.int_ hlt
   have HY := Lib.hid hy
   have i1 : (0 : Int) ≤ (k : Int) := by omega
   have i2 : (k : Int) < (n : Int) := by omega
   clear hy
   by_cases hq : y = x
   ·have HE : Hid (r = true) := by rw [Hid, ← HR.out, ← hq]; simpa using List.mem_of_getElem? HY.out
    have hq' : (y == x) = true := by simpa using hq
    clear hq
    go_wp2
    go_ret
    exact ⟨by rw [HE.out]; rfl, rfl⟩
   ·have HZ : Hid (∀ (j : Nat) (y : Int), j < k + 1 → l[j]? = some y → y ≠ x) := fun j y' hj hy' => by
     by_cases e : j = k
     ·subst e
      rw [HY.out] at hy'
      rw [← Option.some.inj hy']
      exact hq
     ·exact hne.out j y' (by omega) hy'
    have hq' : (y == x) = false := by simpa using hq
    clear hq
    go_wp2
    go_round
    case rel => exact ⟨k + 1, by omega, by go_num, HZ⟩
    case measure => simp [intOf]; omega
  ·obtain rfl : n = k := by omega
   have HE : Hid (r = false) := by
    rw [Hid, ← HR.out, Bool.eq_false_iff]
    intro hc
    obtain ⟨j, hj⟩ := List.getElem?_of_mem (List.contains_iff_mem.1 hc)
    exact hne.out j x (by have := (List.getElem?_eq_some_iff.1 hj).1; rw [HL.out] at this; exact this) hj rfl
   go_wp2
   go_ret
   exact ⟨by rw [HE.out]; rfl, rfl⟩
set_option maxRecDepth 100000 in
set_option maxHeartbeats 6400000 in
theorem rcan_any (x : PWorker) (B : Option Addr) (m d : Nat) (z : Int) (w : World) (h : Sl w w.heap.size B m (ints x.machines)) (hm : m ≤ 1000) :
  Calls Tryz.prog 41 #[.agg #[.string x.name, .slice B m d], .int .i64 z] w fun e w' => e = .returned (.bool (canB x z)) ∧ Below w.heap.size w w' := by
 have HBX : Hid (Below w.heap.size w (w.alloc (.cells #[.string x.name, .slice B m d] 72))) := (Below.refl _ _).alloc (Nat.le_refl _) _
 have HC := fun W (hb : Below w.heap.size w W) => rin_any B m d x.machines z W (h.on hb) (by omega)
 unfold canB
 generalize x.machines.contains z = t at HC ⊢
 have HC := Lib.hid HC
 clear h
 go_enter Tryz.func41, Tryz.ntmps41
 go_wp2_with (go_at_call 62; refine (HC.out _ HBX.out).mono ?_; rintro e w2 ⟨rfl, rfl⟩)
 go_ret
 exact ⟨rfl, HBX.out⟩
def oneE (es : List PWorker) (x : PWorker) : Int := if nameOk x.name.data.toList = false then 1 else if hasName x.name (es.map (·.name)) = true then 7 else machE [] x.machines
theorem one_worker {l : List PWorker} {i : Nat} {x : PWorker} (h : l[i]? = some x) : workerE l i = oneE (l.take i) x := by rw [workerE, h]; rfl
set_option maxRecDepth 100000 in
set_option maxHeartbeats 6400000 in
theorem rone_any (A : Option Addr) (n c : Nat) (es : List PWorker) (x : PWorker) (B : Option Addr) (m d : Nat) (w : World) (he : Recs 2 workerG w A n es) (hn : n ≤ 1000) (hs : WorkerS x) (hm : Sl w w.heap.size B m (ints x.machines)) (hd : m ≤ d) :
  Calls Tryz.prog 61 #[.slice A n c, .agg #[.string x.name, .slice B m d]] w fun e w' => e = .returned (.int .i64 (oneE es x)) ∧ Below w.heap.size w w' := by
 have HBX : Hid (Below w.heap.size w (w.alloc (.cells #[.string x.name, .slice B m d] 72))) := (Below.refl _ _).alloc (Nat.le_refl _) _
 have HX := Lib.hid (Blk.new w 72 #[.string x.name, .slice B m d])
 have HA := Lib.hid he
 have HLL := Lib.hid he.len
 have HS := Lib.hid hm
 have HML := Lib.hid hm.ilen
 have hml : m ≤ 1000 := by rw [← hm.ilen]; exact hs.mac
 have HN := fun W => rname47_any x.name W (by have := hs.nm; omega)
 clear he hs hm
 cases hnm : nameOk x.name.data.toList
 ·have HE : Hid (oneE es x = 1) := by rw [Hid, oneE, if_pos hnm]
  simp only [hnm] at HN
  have HN := Lib.hid HN
  clear hnm
  go_enter Tryz.func61, Tryz.ntmps61
  go_wp2_with (go_at_call 90; refine (HN.out _).mono ?_; rintro e w1 ⟨rfl, hb1⟩; have HB1 := Lib.hid (HBX.out.trans (hb1.mono HBX.out.size)); clear hb1)
  go_ret
  exact ⟨by rw [HE.out]; rfl, HB1.out⟩
 have HO : Hid (oneE es x = if hasName x.name (es.map (·.name)) = true then 7 else machE [] x.machines) := by rw [Hid, oneE, if_neg (by simp [hnm])]
 simp only [hnm] at HN
 have HN := Lib.hid HN
 clear hnm
 go_enter Tryz.func61, Tryz.ntmps61
 go_wp2_with (go_at_call 90; refine (HN.out _).mono ?_; rintro e w1 ⟨rfl, hb1⟩; have HB1 := Lib.hid (HBX.out.trans (hb1.mono HBX.out.size)); have HX1 := Lib.hid (HX.out.below hb1); clear hb1)
 go_loopw [5] (fun i wr => ∃ k : Nat, k ≤ n ∧ i = .int .i64 (k : Int) ∧ Hid (∀ (j : Nat) (y : PWorker), j < k → es[j]? = some y → y.name ≠ x.name) ∧ Hid (Below w1.heap.size w1 wr)) (fun i _ => n - (intOf i).toNat)
 case atStart => exact ⟨0, Nat.zero_le _, rfl, (fun j y hj => by omega), Below.refl _ _⟩
 case round =>
  obtain ⟨k, hk, rfl, hne, HBL⟩ := hrel
  have HB := Lib.hid (HB1.out.trans (HBL.out.mono HB1.out.size))
  have HX2 := Lib.hid (HX1.out.below HBL.out)
  have hxl := HX2.out.lt
  obtain ⟨x0, x1⟩ := two_box HX2.out
  by_cases hlt : k < n
  ·obtain ⟨b, off, y, B2, m2, d2, rfl, hbw, hy, c0, c1, s1, s2⟩ := worker_at (HA.out.on worker_mono HB.out) hlt
   have HYY := Lib.hid hy
   have j1 : (0 : Int) ≤ (k : Int) := by omega
   have j2 : (k : Int) < (n : Int) := by omega
   clear hy s1 s2
   by_cases hq : y.name = x.name
   ·have HE : Hid (oneE es x = 7) := by
     have := hasName_yes (f := fun q : PWorker => q.name) (x := x) (i := n) hlt HYY.out hq
     rw [List.take_of_length_le (by rw [HLL.out]; exact Nat.le_refl _)] at this
     rw [Hid, HO.out, if_pos this]
    have hq' : (y.name.toList == x.name.toList) = true := by rw [hq]; simp
    clear hq
    go_wp2_with fail
    go_quiet (fail)
    go_wp2_with fail
    go_ret
    exact ⟨by rw [HE.out]; rfl, below_drewN HB.out _⟩
   ·have HZ : Hid (∀ (j : Nat) (y : PWorker), j < k + 1 → es[j]? = some y → y.name ≠ x.name) := fun j y' hj hy' => by
     by_cases ej : j = k
     ·subst ej
      rw [HYY.out] at hy'
      rw [← Option.some.inj hy']
      exact hq
     ·exact hne.out j y' (by omega) hy'
    have hq' := toList_ne hq
    clear hq
    go_wp2_with fail
    go_quiet (fail)
    go_wp2_with fail
    go_roundw
    case rel => exact ⟨k + 1, by omega, by go_num, HZ, below_drewN HBL.out _⟩
    case measure => simp [intOf]; omega
  ·obtain rfl : k = n := by omega
   have HMM : Hid (oneE es x = machE [] x.machines) := by
    have := hasName_no (f := fun q : PWorker => q.name) hne.out
    rw [List.take_of_length_le (by rw [HLL.out]; exact Nat.le_refl _)] at this
    rw [Hid, HO.out, if_neg (by rw [this]; decide)]
   obtain ⟨wq, rfl⟩ : ∃ v, v = wr := ⟨_, rfl⟩
   clear hne hk hlt x0 x1
   go_wp2_with fail
   go_loopw [6] (fun i v => ∃ q : Nat, q ≤ m ∧ i = .int .i64 (q : Int) ∧ Hid (∀ (j : Nat) (y : Int), j < q → x.machines[j]? = some y → 0 ≤ y ∧ y < 8 ∧ y ∉ ([] : List Int) ∧ y ∉ x.machines.take j) ∧ Hid (Below wq.heap.size wq v)) (fun i _ => m - (intOf i).toNat)
   case atStart => exact ⟨0, Nat.zero_le _, rfl, (fun j y hj => by omega), Below.refl _ _⟩
   case round =>
    obtain ⟨q, hq, rfl, HMq, HBv⟩ := hrel
    have HBW := Lib.hid (HB.out.trans (HBv.out.mono HB.out.size))
    have HX3 := Lib.hid (HX2.out.below HBv.out)
    have hx3 := HX3.out.lt
    obtain ⟨x0, x1⟩ := two_box HX3.out
    by_cases hqt : q < m
    ·have hsl := HS.out.on HBW.out
     obtain ⟨b2, off2, a, rfl, hbw2, ha, d0⟩ := hsl.int_ hqt
     have HAA := Lib.hid ha
     have HMA := Lib.hid (mach_at HMq.out ha)
     have hsub := hsl.take_ (k := q) (by omega)
     rw [← ints_take] at hsub
     have hI := fun W (hb : Below wr.heap.size wr W) => rin_any (some ⟨b2, off2, none⟩) q d (x.machines.take q) a W (hsub.on hb) (by omega)
     have HMN := fun W => rmach_any a W
     obtain ⟨t, ht⟩ : ∃ t, (x.machines.take q).contains a = t := ⟨_, rfl⟩
     obtain ⟨r, hr⟩ : ∃ r, decide (a < 0 ∨ 8 ≤ a) = r := ⟨_, rfl⟩
     rw [ht] at hI
     simp only [hr] at HMN
     have HI := Lib.hid hI
     have HMN := Lib.hid HMN
     have HT := Lib.hid ht
     have HR := Lib.hid hr
     have HK := fun W => Lib.hid (fun (hb : Below wr.heap.size wr W) => And.intro ((HX3.out.below hb).c (i := 1) rfl) ((hb.cell (p := ⟨b2, off2 + q, none⟩) hbw2).trans d0))
     have i5 : (0 : Int) ≤ (q : Int) := by omega
     have i6 : (q : Int) < (m : Int) := by omega
     have i7 : (q : Int) ≤ (d : Int) := by omega
     have i8 : q ≤ d := by omega
     clear ha hsl hsub hI ht hr
     cases r
     ·cases t
      ·have HZ : Hid (∀ (j : Nat) (y : Int), j < q + 1 → x.machines[j]? = some y → 0 ≤ y ∧ y < 8 ∧ y ∉ ([] : List Int) ∧ y ∉ x.machines.take j) := fun j y hj hy => by
        by_cases e : j = q
        ·subst e
         rw [HAA.out] at hy
         obtain rfl := Option.some.inj hy
         have h1 := of_decide_eq_false HR.out
         have h2 := HT.out
         exact ⟨by omega, by omega, by simp, by simpa using h2⟩
        ·exact HMq.out j y (by omega) hy
       go_wp2_with (go_at_call 91; refine (HMN.out _).mono ?_; rintro e w5 ⟨rfl, rfl⟩)
       go_region_held3 (fun w' => w'.cell? ⟨w.heap.size, 1, none⟩ = some (.slice (some ⟨b2, off2, none⟩) m d) ∧ w'.cell? ⟨b2, off2 + q, none⟩ = some (.int .i64 a))
        ((refine (HK _).out ?_; repeat (first | (with_reducible exact Below.refl _ _) | (with_reducible refine Below.drew ?_))))
        ((go_at_call 62; go_must ((refine (HI.out _ (by repeat (first | (with_reducible exact Below.refl _ _) | (with_reducible refine Below.drew ?_)))).mono ?_); rintro e w6 ⟨rfl, rfl⟩)))
       go_wp2_with fail
       go_roundw
       case rel => exact ⟨q + 1, by omega, by go_num, HZ, below_drewN HBv.out _⟩
       case measure => simp [intOf]; omega
      ·have HE : Hid (oneE es x = 7) := by rw [Hid, HMM.out, HMA.out, if_neg (of_decide_eq_false HR.out), if_pos (.inr (by have := HT.out; simpa using this))]
       go_wp2_with (go_at_call 91; refine (HMN.out _).mono ?_; rintro e w5 ⟨rfl, rfl⟩)
       go_region_held3 (fun w' => w'.cell? ⟨w.heap.size, 1, none⟩ = some (.slice (some ⟨b2, off2, none⟩) m d) ∧ w'.cell? ⟨b2, off2 + q, none⟩ = some (.int .i64 a))
        ((refine (HK _).out ?_; repeat (first | (with_reducible exact Below.refl _ _) | (with_reducible refine Below.drew ?_))))
        ((go_at_call 62; go_must ((refine (HI.out _ (by repeat (first | (with_reducible exact Below.refl _ _) | (with_reducible refine Below.drew ?_)))).mono ?_); rintro e w6 ⟨rfl, rfl⟩)))
       go_wp2_with fail
       go_ret
       exact ⟨by rw [HE.out]; rfl, below_drewN HBW.out _⟩
     ·have HE : Hid (oneE es x = 3) := by rw [Hid, HMM.out, HMA.out, if_pos (of_decide_eq_true HR.out)]
      go_wp2_with (go_at_call 91; refine (HMN.out _).mono ?_; rintro e w5 ⟨rfl, rfl⟩)
      go_ret
      exact ⟨by rw [HE.out]; rfl, HBW.out⟩
    ·obtain rfl : q = m := by omega
     have HE : Hid (oneE es x = 0) := by
      rw [Hid, HMM.out]
      exact mach_ok fun j y hj => HMq.out j y (by have := (List.getElem?_eq_some_iff.1 hj).1; rw [HML.out] at this; exact this) hj
     go_wp2_with fail
     go_ret
     exact ⟨by rw [HE.out]; rfl, HBW.out⟩
set_option maxRecDepth 100000 in
set_option maxHeartbeats 6400000 in
theorem rworkers_any (W0 : Option Addr) (n c : Nat) (l : List PWorker) (w : World) (hl : Recs 2 workerG w W0 n l) (hc : n ≤ c) (hs : ∀ x ∈ l, WorkerS x) :
  Calls Tryz.prog 40 #[.slice W0 n c] w fun e w' => e = .returned (.int .i64 (workersE l)) ∧ Below w.heap.size w w' := by
 have HLL := Lib.hid hl.len
 have HA := Lib.hid hl
 have HS := Lib.hid hs
 clear hl hs
 by_cases h12 : 12 < n
 ·have HE : Hid (workersE l = 5) := workers_long (by rw [HLL.out]; exact h12)
  go_enter Tryz.func40, Tryz.ntmps40
  go_wp2
  go_ret
  exact ⟨by rw [HE.out]; rfl, Below.refl _ _⟩
 have HN12 : Hid (¬ 12 < l.length) := by rw [Hid, HLL.out]; exact h12
 go_enter Tryz.func40, Tryz.ntmps40
 go_wp2
 go_loopw [3, 4] (fun i _ wr => ∃ k : Nat, k ≤ n ∧ i = .int .i64 (k : Int) ∧ Hid (∀ j, j < k → workerE l j = 0) ∧ Hid (Below w.heap.size w wr)) (fun i _ _ => n - (intOf i).toNat)
 case atStart => exact ⟨0, Nat.zero_le _, rfl, (fun j hj => by omega), Below.refl _ _⟩
 case round =>
  obtain ⟨k, hk, rfl, hz, HB⟩ := hrel
  by_cases hlt : k < n
  ·have hr := HA.out.on worker_mono HB.out
   obtain ⟨b, off, x, B, m, d, rfl, hbw, hx, c0, c1, s1, s2⟩ := worker_at hr hlt
   have hO := fun W (hb : Below wr.heap.size wr W) => rone_any (some ⟨b, off, none⟩) k c (l.take k) x B m d W ((hr.take (i := k) (by omega)).on worker_mono hb) (by omega) (HS.out x (List.mem_of_getElem? hx)) (s1.on hb) s2
   have HW := one_worker hx
   obtain ⟨q, hq⟩ : ∃ q, oneE (l.take k) x = q := ⟨_, rfl⟩
   rw [hq] at hO HW
   have HO := Lib.hid hO
   have HW := Lib.hid HW
   have HK := fun W => Lib.hid (fun (hb : Below wr.heap.size wr W) => And.intro ((hb.cell (p := ⟨b, off + k * 2, none⟩) hbw).trans c0) ((hb.cell (p := ⟨b, off + k * 2 + 1, none⟩) hbw).trans c1))
   have i1 : (0 : Int) ≤ (k : Int) := by omega
   have i2 : (k : Int) < (n : Int) := by omega
   have i3 : (k : Int) ≤ (c : Int) := by omega
   have i4 : k ≤ c := by omega
   have hu := Below.refl wr.heap.size wr
   clear hx s1 s2 hr hO hq
   by_cases h0 : q = 0
   ·subst h0
    have HZ : Hid (∀ j, j < k + 1 → workerE l j = 0) := fun j hj => by
     by_cases e : j = k
     ·rw [e]; exact HW.out
     ·exact hz.out j (by omega)
    go_wp2_with fail
    go_region_held3 (fun w' => w'.cell? ⟨b, off + k * 2, none⟩ = some (.string x.name) ∧ w'.cell? ⟨b, off + k * 2 + 1, none⟩ = some (.slice B m d))
     ((refine (HK _).out ?_; repeat (first | (with_reducible exact Below.refl _ _) | (with_reducible exact hu) | (with_reducible refine Below.drew ?_))))
     ((go_at_call 61; go_must ((refine (HO.out _ (by repeat (first | (with_reducible exact Below.refl _ _) | (with_reducible refine Below.drew ?_)))).mono ?_); rintro e w6 ⟨rfl, hv⟩; replace hu := below_then hu hv; clear hv)))
    go_wp2_with fail
    go_roundw
    case rel => exact ⟨k + 1, by omega, by go_num, HZ, HB.out.trans (hu.mono HB.out.size)⟩
    case measure => simp [intOf]; omega
   ·have h0' : (q != 0) = true := by simpa using h0
    have HE : Hid (workersE l = q) := workers_at HN12.out (by rw [HLL.out]; exact hlt) hz.out HW.out h0
    clear h0
    go_wp2_with fail
    go_region_held3 (fun w' => w'.cell? ⟨b, off + k * 2, none⟩ = some (.string x.name) ∧ w'.cell? ⟨b, off + k * 2 + 1, none⟩ = some (.slice B m d))
     ((refine (HK _).out ?_; repeat (first | (with_reducible exact Below.refl _ _) | (with_reducible exact hu) | (with_reducible refine Below.drew ?_))))
     ((go_at_call 61; go_must ((refine (HO.out _ (by repeat (first | (with_reducible exact Below.refl _ _) | (with_reducible refine Below.drew ?_)))).mono ?_); rintro e w6 ⟨rfl, hv⟩; replace hu := below_then hu hv; clear hv)))
    go_wp2_with fail
    go_ret
    exact ⟨by rw [HE.out]; rfl, HB.out.trans (hu.mono HB.out.size)⟩
  ·obtain rfl : n = k := by omega
   have HE : Hid (workersE l = 0) := workers_ok HN12.out fun j hj => hz.out j (by rw [HLL.out] at hj; exact hj)
   go_wp2_with fail
   go_ret
   exact ⟨by rw [HE.out]; rfl, HB.out⟩
end
section
open Go.RowKit
open Go.Lib hiding intOf
set_option maxRecDepth 100000 in
set_option maxHeartbeats 6400000 in
theorem rbundle_any (L : Option Addr) (n c i : Nat) (bs : List PBundle) (t : Int) (w : World) (h : Recs 6 bundleG w L n bs) (hi : i ≤ n) (hn : n ≤ 1000000) :
  Calls Tryz.prog 27 #[.slice L n c, .int .i64 (i : Int), .int .i64 t] w fun e w' => e = .returned (.bool (decide (t ∈ (bs.take i).map (·.ticket)))) ∧ w = w' := by
 have HA := Lib.hid h
 clear h
 obtain ⟨r, hr⟩ : ∃ r, decide (t ∈ (bs.take i).map (·.ticket)) = r := ⟨_, rfl⟩
 rw [hr]
 have HR := Lib.hid hr
 clear hr
 go_enter Tryz.func27, Tryz.ntmps27
 go_wp2
 go_loop [7] (fun v => ∃ k : Nat, k ≤ i ∧ v = .int .i64 (k : Int) ∧ Hid (∀ (j : Nat) (y : PBundle), j < k → bs[j]? = some y → y.ticket ≠ t)) (fun v => i - (intOf v).toNat)
 case atStart => exact ⟨0, Nat.zero_le _, rfl, fun j y h => by omega⟩
 case round =>
  obtain ⟨k, hk, rfl, hne⟩ := hrel
  by_cases hlt : k < i
  ·obtain ⟨b, off, x, rfl, hbw, hx, c0, c1, c2, c3, c4, c5, g1, g2⟩ := bundle_at HA.out (j := k) (by omega)
   obtain ⟨u, hu⟩ : ∃ z, x.ticket = z := ⟨_, rfl⟩
   rw [hu] at c0
   have HX := Lib.hid (And.intro hx hu)
   have i1 : (0 : Int) ≤ (k : Int) := by omega
   have i2 : (k : Int) < (i : Int) := by omega
   have i3 : (k : Int) < (n : Int) := by omega
   clear hx g1 g2 hu
   by_cases hq : u = t
   ·have HE : Hid (r = true) := by
     rw [Hid, ← HR.out]
     refine decide_eq_true ?_
     rw [← hq, ← HX.out.2]
     exact List.mem_map.2 ⟨x, List.mem_of_getElem? (i := k) (by rw [List.getElem?_take, if_pos hlt]; exact HX.out.1), rfl⟩
    have hq' : (u == t) = true := by simpa using hq
    clear hq
    go_wp2
    go_ret
    exact ⟨by rw [HE.out]; rfl, rfl⟩
   ·have HZ : Hid (∀ (j : Nat) (y : PBundle), j < k + 1 → bs[j]? = some y → y.ticket ≠ t) := fun j y hj hy => by
     by_cases e : j = k
     ·subst e
      rw [HX.out.1] at hy
      rw [← Option.some.inj hy, HX.out.2]
      exact hq
     ·exact hne.out j y (by omega) hy
    have hq' : (u == t) = false := by simpa using hq
    clear hq
    go_wp2
    go_round
    case rel => exact ⟨k + 1, by omega, by go_num, HZ⟩
    case measure => simp [intOf]; omega
  ·obtain rfl : k = i := by omega
   have HE : Hid (r = false) := HR.out.symm.trans (decide_eq_false (tick_no hne.out))
   go_wp2
   go_ret
   exact ⟨by rw [HE.out]; rfl, rfl⟩
end
section
open Go.RowKit
open Go.Lib hiding intOf
set_option maxRecDepth 100000 in
set_option maxHeartbeats 6400000 in
theorem rhas_any {B : Nat} (A : Option Addr) (n c : Nat) (l : List Int) (x : Int) (w : World) (ha : Sl w B A n (ints l)) (hn : n ≤ 1000000) :
  Calls Tryz.prog 60 #[.slice A n c, .int .i64 x] w fun e w' => e = .returned (.bool (l.contains x)) ∧ w = w' := by
 have HA := Lib.hid ha
 have HL := Lib.hid ha.ilen
 clear ha
 obtain ⟨r, hr⟩ : ∃ r, l.contains x = r := ⟨_, rfl⟩
 rw [hr]
 have HR := Lib.hid hr
 clear hr
 go_enter Tryz.func60, Tryz.ntmps60
 go_wp2
 go_loop [5] (fun i => ∃ k : Nat, k ≤ n ∧ i = .int .i64 (k : Int) ∧ Hid (∀ (j : Nat) (y : Int), j < k → l[j]? = some y → y ≠ x)) (fun i => n - (intOf i).toNat)
 case atStart => exact ⟨0, Nat.zero_le _, rfl, fun j y h => by omega⟩
 case round =>
  obtain ⟨k, hk, rfl, hne⟩ := hrel
  by_cases hlt : k < n
  ·obtain ⟨b, off, y, rfl, hbw, hy, c0⟩ := HA.out.int_ hlt
   have HY := Lib.hid hy
   have i1 : (0 : Int) ≤ (k : Int) := by omega
   have i2 : (k : Int) < (n : Int) := by omega
   clear hy
   by_cases hq : y = x
   ·have HE : Hid (r = true) := by rw [Hid, ← HR.out, ← hq]; simpa using List.mem_of_getElem? HY.out
    have hq' : (y == x) = true := by simpa using hq
    clear hq
    go_wp2
    go_ret
    exact ⟨by rw [HE.out]; rfl, rfl⟩
   ·have HZ : Hid (∀ (j : Nat) (y : Int), j < k + 1 → l[j]? = some y → y ≠ x) := fun j y' hj hy' => by
     by_cases e : j = k
     ·subst e
      rw [HY.out] at hy'
      rw [← Option.some.inj hy']
      exact hq
     ·exact hne.out j y' (by omega) hy'
    have hq' : (y == x) = false := by simpa using hq
    clear hq
    go_wp2
    go_round
    case rel => exact ⟨k + 1, by omega, by go_num, HZ⟩
    case measure => simp [intOf]; omega
  ·obtain rfl : n = k := by omega
   have HE : Hid (r = false) := by
    rw [Hid, ← HR.out, Bool.eq_false_iff]
    intro hc
    obtain ⟨j, hj⟩ := List.getElem?_of_mem (List.contains_iff_mem.1 hc)
    exact hne.out j x (by have := (List.getElem?_eq_some_iff.1 hj).1; rw [HL.out] at this; exact this) hj rfl
   go_wp2
   go_ret
   exact ⟨by rw [HE.out]; rfl, rfl⟩
set_option maxRecDepth 100000 in
set_option maxHeartbeats 6400000 in
theorem rwithin45_any {B : Nat} (A : Option Addr) (n c m : Nat) (l : List Int) (w : World) (ha : Sl w B A n (ints l)) (hn : n ≤ 1000000) :
  Calls Tryz.prog 88 #[.slice A n c, .int .i64 (m : Int)] w fun e w' => e = .returned (.bool (idxB m l)) ∧ w = w' := by
 have HA := Lib.hid ha
 have HL := Lib.hid ha.ilen
 clear ha
 go_enter Tryz.func88, Tryz.ntmps88
 go_wp2
 go_loop [5] (fun i => ∃ k : Nat, k ≤ n ∧ i = .int .i64 (k : Int) ∧ Hid (∀ (j : Nat) (y : Int), j < k → l[j]? = some y → 0 ≤ y ∧ y < (m : Int))) (fun i => n - (intOf i).toNat)
 case atStart => exact ⟨0, Nat.zero_le _, rfl, fun j y h => by omega⟩
 case round =>
  obtain ⟨k, hk, rfl, hne⟩ := hrel
  by_cases hlt : k < n
  ·obtain ⟨b, off, y, rfl, hbw, hy, c0⟩ := HA.out.int_ hlt
   have HY := Lib.hid hy
   have i1 : (0 : Int) ≤ (k : Int) := by omega
   have i2 : (k : Int) < (n : Int) := by omega
   clear hy
   by_cases h1 : y < 0
   ·have HE : Hid (idxB m l = false) := idx_no HY.out (.inl h1)
    go_wp2
    go_ret
    exact ⟨by rw [HE.out]; rfl, rfl⟩
   by_cases h2 : (m : Int) ≤ y
   ·have HE : Hid (idxB m l = false) := idx_no HY.out (.inr h2)
    go_wp2
    go_ret
    exact ⟨by rw [HE.out]; rfl, rfl⟩
   have HZ : Hid (∀ (j : Nat) (y : Int), j < k + 1 → l[j]? = some y → 0 ≤ y ∧ y < (m : Int)) := fun j y' hj hy' => by
    by_cases e : j = k
    ·subst e
     rw [HY.out] at hy'
     rw [← Option.some.inj hy']
     omega
    ·exact hne.out j y' (by omega) hy'
   go_wp2
   go_round
   case rel => exact ⟨k + 1, by omega, by go_num, HZ⟩
   case measure => simp [intOf]; omega
  ·obtain rfl : n = k := by omega
   have HE : Hid (idxB m l = true) := idx_yes fun j y hj => hne.out j y (by have := (List.getElem?_eq_some_iff.1 hj).1; rw [HL.out] at this; exact this) hj
   go_wp2
   go_ret
   exact ⟨by rw [HE.out]; rfl, rfl⟩
set_option maxRecDepth 100000 in
set_option maxHeartbeats 6400000 in
theorem rtwice45_any (A : Option Addr) (n c : Nat) (l : List Int) (w : World) (ha : Sl w w.heap.size A n (ints l)) (hc : n ≤ c) (hn : n ≤ 1000000) :
  Calls Tryz.prog 89 #[.slice A n c] w fun e w' => e = .returned (.bool (twiceB l)) ∧ Below w.heap.size w w' := by
 have HA := Lib.hid ha
 have HL := Lib.hid ha.ilen
 clear ha
 go_enter Tryz.func89, Tryz.ntmps89
 go_wp2
 go_loopw [3] (fun i wr => ∃ k : Nat, k ≤ n ∧ i = .int .i64 (k : Int) ∧ Hid (∀ (j : Nat) (y : Int), j < k → l[j]? = some y → y ∉ l.take j) ∧ Hid (Below w.heap.size w wr)) (fun i _ => n - (intOf i).toNat)
 case atStart => exact ⟨0, Nat.zero_le _, rfl, (fun j y h => by omega), Below.refl _ _⟩
 case round =>
  obtain ⟨k, hk, rfl, hne, HB⟩ := hrel
  by_cases hlt : k < n
  ·have ha := HA.out.on HB.out
   obtain ⟨b, off, y, rfl, hbw, hy, c0⟩ := ha.int_ hlt
   have HY := Lib.hid hy
   have hsub := ha.take_ (k := k) (by omega)
   rw [← ints_take] at hsub
   have hH := fun W (hb : Below wr.heap.size wr W) => rhas_any (some ⟨b, off, none⟩) k c (l.take k) y W (hsub.on hb) (by omega)
   obtain ⟨t, ht⟩ : ∃ t, (l.take k).contains y = t := ⟨_, rfl⟩
   rw [ht] at hH
   have HH := Lib.hid hH
   have HT := Lib.hid ht
   have HK := fun W => Lib.hid (fun (hb : Below wr.heap.size wr W) => (hb.cell (p := ⟨b, off + k, none⟩) hbw).trans c0)
   have i1 : (0 : Int) ≤ (k : Int) := by omega
   have i2 : (k : Int) < (n : Int) := by omega
   have i3 : (k : Int) ≤ (c : Int) := by omega
   have i4 : k ≤ c := by omega
   clear hy ha hsub hH ht
   cases t
   ·have HZ : Hid (∀ (j : Nat) (y : Int), j < k + 1 → l[j]? = some y → y ∉ l.take j) := fun j y' hj hy' => by
     by_cases e : j = k
     ·subst e
      rw [HY.out] at hy'
      rw [← Option.some.inj hy']
      have := HT.out
      simpa using this
     ·exact hne.out j y' (by omega) hy'
    go_wp2_with fail
    go_region_held3 (fun w' => w'.cell? ⟨b, off + k, none⟩ = some (.int .i64 y))
     ((refine (HK _).out ?_; repeat (first | (with_reducible exact Below.refl _ _) | (with_reducible refine Below.drew ?_))))
     ((go_at_call 60; go_must ((refine (HH.out _ (by repeat (first | (with_reducible exact Below.refl _ _) | (with_reducible refine Below.drew ?_)))).mono ?_); rintro e w1 ⟨rfl, rfl⟩)))
    go_wp2_with fail
    go_roundw
    case rel => exact ⟨k + 1, by omega, by go_num, HZ, below_drewN HB.out _⟩
    case measure => simp [intOf]; omega
   ·have HE : Hid (twiceB l = true) := dup_yes HY.out (by have := HT.out; simpa using this)
    go_wp2_with fail
    go_region_held3 (fun w' => w'.cell? ⟨b, off + k, none⟩ = some (.int .i64 y))
     ((refine (HK _).out ?_; repeat (first | (with_reducible exact Below.refl _ _) | (with_reducible refine Below.drew ?_))))
     ((go_at_call 60; go_must ((refine (HH.out _ (by repeat (first | (with_reducible exact Below.refl _ _) | (with_reducible refine Below.drew ?_)))).mono ?_); rintro e w1 ⟨rfl, rfl⟩)))
    go_wp2_with fail
    go_ret
    exact ⟨by rw [HE.out]; rfl, below_drewN HB.out _⟩
  ·obtain rfl : n = k := by omega
   have HE : Hid (twiceB l = false) := dup_no fun j y hj => hne.out j y (by have := (List.getElem?_eq_some_iff.1 hj).1; rw [HL.out] at this; exact this) hj
   go_wp2_with fail
   go_ret
   exact ⟨by rw [HE.out]; rfl, HB.out⟩
set_option maxRecDepth 100000 in
set_option maxHeartbeats 6400000 in
theorem rsingle_any (L : Option Addr) (n c m : Nat) (l : List POp) (w : World) (hl : Recs 5 opG w L n l) (hs : ∀ o ∈ l, OpS o) (hm : m ≤ 1000) :
  Calls Tryz.prog 58 #[.slice L n c, .int .i64 (m : Int)] w fun e w' => e = .returned (.int .i64 (singleE l (some m))) ∧ Below w.heap.size w w' := by
 have HLL := Lib.hid hl.len
 have HA := Lib.hid hl
 have HS := Lib.hid hs
 have mm : (0 : Int) ≤ (m : Int) := by omega
 clear hl hs
 by_cases h16 : 16 < n
 ·have HE : Hid (singleE l (some m) = 5) := single_long (by rw [HLL.out]; exact h16)
  go_enter Tryz.func58, Tryz.ntmps58
  go_wp2
  go_ret
  exact ⟨by rw [HE.out]; rfl, Below.refl _ _⟩
 have HN16 : Hid (¬ 16 < l.length) := by rw [Hid, HLL.out]; exact h16
 go_enter Tryz.func58, Tryz.ntmps58
 go_wp2
 go_loopw [5, 6, 7] (fun v _ _ wr => ∃ k : Nat, k ≤ n ∧ v = .int .i64 (k : Int) ∧ Hid (∀ j, j < k → opE l (some m) j = 0) ∧ Hid (Below w.heap.size w wr)) (fun v _ _ _ => n - (intOf v).toNat)
 case atStart => exact ⟨0, Nat.zero_le _, rfl, (fun j hj => by omega), Below.refl _ _⟩
 case round =>
  obtain ⟨i, hk, rfl, hz, HB0⟩ := hrel
  by_cases hlti : i < n
  ·obtain ⟨b, off, x, B, an, ac, C, un, uc, rfl, hbw, hx, c0, c1, c2, c3, c4, s1, s2, s3, s4⟩ := op_at (HA.out.on op_mono HB0.out) hlti
   obtain ⟨w0, rfl⟩ : ∃ v, v = wr := ⟨_, rfl⟩
   have HX := Lib.hid hx
   have hos := HS.out x (List.mem_of_getElem? hx)
   have hbox : Below w0.heap.size w0 (w0.alloc (.cells #[.string x.name, .int .i64 x.machine, .int .i64 x.minutes, .slice B an ac, .slice C un uc] 70)) := (Below.refl _ _).alloc (Nat.le_refl _) _
   have HBX := Lib.hid hbox
   have HY := Lib.hid (Blk.new w0 70 #[.string x.name, .int .i64 x.machine, .int .i64 x.minutes, .slice B an ac, .slice C un uc])
   have HBQ0 := Lib.hid (HB0.out.trans (hbox.mono HB0.out.size))
   have ha1 : an ≤ 1000 := by rw [← s1.ilen]; exact hos.aft
   have ha2 : un ≤ 1000 := by rw [← s3.ilen]; exact hos.us
   have HN := fun W => rname_any x.name W (by have := hos.nm; omega)
   have HI1 := Lib.hid (fun W (hb : Below w0.heap.size w0 W) => rwithin45_any B an ac n x.after W (s1.on hb) (by omega))
   have HR1 := Lib.hid (fun W (hb : Below w0.heap.size w0 W) => rtwice45_any B an ac x.after W (s1.on hb) s2 (by omega))
   have HI2 := Lib.hid (fun W (hb : Below w0.heap.size w0 W) => rwithin45_any C un uc m x.uses W (s3.on hb) (by omega))
   have HR2 := Lib.hid (fun W (hb : Below w0.heap.size w0 W) => rtwice45_any C un uc x.uses W (s3.on hb) s4 (by omega))
   have i1 : (0 : Int) ≤ (i : Int) := by omega
   have i2 : (i : Int) < (n : Int) := by omega
   clear hx hos s1 s2 s3 s4 hbox
   cases hnm : nameOk x.name.data.toList
   ·have HE : Hid (singleE l (some m) = 1) := single_at HN16.out (by rw [HLL.out]; exact hlti) hz.out (op_name HX.out hnm) (by decide)
    simp only [hnm] at HN
    have HN := Lib.hid HN
    clear hnm
    go_wp2_with (go_at_call 87; refine (HN.out _).mono ?_; rintro e w1 ⟨rfl, rfl⟩)
    go_ret
    exact ⟨by rw [HE.out]; rfl, HBQ0.out⟩
   have HNM := Lib.hid hnm
   simp only [hnm] at HN
   have HN := Lib.hid HN
   clear hnm
   go_wp2_with (go_at_call 87; refine (HN.out _).mono ?_; rintro e w1 ⟨rfl, rfl⟩)
   clear c0 c1 c2 c3 c4
   go_loopw [7] (fun v wr => ∃ k : Nat, k ≤ i ∧ v = .int .i64 (k : Int) ∧ Hid (∀ (j : Nat) (y : POp), j < k → l[j]? = some y → y.name ≠ x.name) ∧ Hid (Below (w0.alloc (.cells #[.string x.name, .int .i64 x.machine, .int .i64 x.minutes, .slice B an ac, .slice C un uc] 70)).heap.size (w0.alloc (.cells #[.string x.name, .int .i64 x.machine, .int .i64 x.minutes, .slice B an ac, .slice C un uc] 70)) wr)) (fun v _ => i - (intOf v).toNat)
   case atStart => exact ⟨0, Nat.zero_le _, rfl, (fun j y hj => by omega), Below.refl _ _⟩
   case round =>
    obtain ⟨k, hk, rfl, hne, HBL⟩ := hrel
    have HBQ := Lib.hid (HBX.out.trans (HBL.out.mono HBX.out.size))
    have HB := Lib.hid (HB0.out.trans (HBQ.out.mono HB0.out.size))
    have HY1 := Lib.hid (HY.out.below HBL.out)
    have hxl := HY1.out.lt
    obtain ⟨x0, x1, x2, x3, x4⟩ := five_box HY1.out
    by_cases hlt : k < i
    ·obtain ⟨y, B2, m2, d2, C2, k2, q2, hy, d0, d1, d2', d3, d4, r1, r2, r3, r4⟩ := op_same (HA.out.on op_mono HB.out) rfl (j := k) (by omega)
     have HYY := Lib.hid hy
     have j1 : (0 : Int) ≤ (k : Int) := by omega
     have j2 : (k : Int) < (i : Int) := by omega
     have j3 : (k : Int) < (n : Int) := by omega
     clear hy r1 r2 r3 r4
     by_cases hq : y.name = x.name
     ·have HE : Hid (singleE l (some m) = 7) := single_at HN16.out (by rw [HLL.out]; exact hlti) hz.out (op_twice HX.out HNM.out (hasName_yes (f := fun q : POp => q.name) (x := x) hlt HYY.out hq)) (by decide)
      have hq' : (y.name.toList == x.name.toList) = true := by rw [hq]; simp
      clear hq
      go_wp2_with fail
      go_quiet (fail)
      go_wp2_with fail
      go_ret
      exact ⟨by rw [HE.out]; rfl, below_drewN HB.out _⟩
     ·have HZ : Hid (∀ (j : Nat) (y : POp), j < k + 1 → l[j]? = some y → y.name ≠ x.name) := fun j y' hj hy' => by
       by_cases ej : j = k
       ·subst ej
        rw [HYY.out] at hy'
        rw [← Option.some.inj hy']
        exact hq
       ·exact hne.out j y' (by omega) hy'
      have hq' := toList_ne hq
      clear hq
      go_wp2_with fail
      go_quiet (fail)
      go_wp2_with fail
      go_roundw
      case rel => exact ⟨k + 1, by omega, by go_num, HZ, below_drewN HBL.out _⟩
      case measure => simp [intOf]; omega
    ·obtain rfl : k = i := by omega
     have HH : Hid (hasName x.name ((l.take k).map (·.name)) = false) := hasName_no (f := fun q : POp => q.name) hne.out
     have HDO := Lib.hid (fun (e : Int) (he : opE l (some m) k = e) (h0 : e ≠ 0) => single_at (u := some m) HN16.out (by rw [HLL.out]; exact hlti) hz.out he h0)
     clear hne hlt
     obtain ⟨mc, hmc⟩ : ∃ z, x.machine = z := ⟨_, rfl⟩
     obtain ⟨mt, hmt⟩ : ∃ z, x.minutes = z := ⟨_, rfl⟩
     have HMM := Lib.hid (And.intro hmc hmt)
     have hq := Lib.hid (Below.refl wr.heap.size wr)
     rw [hmc] at x1 HY1
     rw [hmt] at x2 HY1
     clear hmc hmt
     by_cases hr : mc < 0 ∨ 8 ≤ mc ∨ mt < 1 ∨ 10000 < mt
     ·have HE : Hid (singleE l (some m) = 3) := HDO.out 3 (op_range HX.out HNM.out HH.out (by rw [HMM.out.1, HMM.out.2]; exact hr)) (by decide)
      by_cases g1 : mc < 0
      ·clear hr
       go_wp2_with fail
       go_ret
       exact ⟨by rw [HE.out]; rfl, HB.out⟩
      by_cases g2 : 8 ≤ mc
      ·clear hr
       go_wp2_with fail
       go_ret
       exact ⟨by rw [HE.out]; rfl, HB.out⟩
      by_cases g3 : mt < 1
      ·clear hr
       go_wp2_with fail
       go_ret
       exact ⟨by rw [HE.out]; rfl, HB.out⟩
      have g4 : 10000 < mt := by omega
      clear hr
      go_wp2_with fail
      go_ret
      exact ⟨by rw [HE.out]; rfl, HB.out⟩
     have HRG : Hid (¬ (x.machine < 0 ∨ 8 ≤ x.machine ∨ x.minutes < 1 ∨ 10000 < x.minutes)) := by rw [HMM.out.1, HMM.out.2]; exact hr
     have g1 : ¬ mc < 0 := fun h => hr (.inl h)
     have g2 : ¬ 8 ≤ mc := fun h => hr (.inr (.inl h))
     have g3 : ¬ mt < 1 := fun h => hr (.inr (.inr (.inl h)))
     have g4 : ¬ 10000 < mt := fun h => hr (.inr (.inr (.inr h)))
     clear hr
     obtain ⟨t1, ht1⟩ : ∃ t, idxB n x.after = t := ⟨_, rfl⟩
     rw [ht1] at HI1
     rw [← HLL.out] at ht1
     have HT1 := Lib.hid ht1
     obtain ⟨t2, ht2⟩ : ∃ t, twiceB x.after = t := ⟨_, rfl⟩
     rw [ht2] at HR1
     have HT2 := Lib.hid ht2
     clear ht1 ht2
     cases t1
     ·have HE : Hid (singleE l (some m) = 3) := HDO.out 3 (op_index HX.out HNM.out HH.out HRG.out (.inl HT1.out)) (by decide)
      go_wp2_with (first | (go_at_call 88; (first | (with_reducible refine (HI1.out _ (HBQ.out.trans (hq.out.mono HBQ.out.size))).mono ?_) | (with_reducible refine (HI2.out _ (HBQ.out.trans (hq.out.mono HBQ.out.size))).mono ?_)); rintro e w2 ⟨rfl, rfl⟩) | (go_at_call 89; (first | (with_reducible refine (HR1.out _ (HBQ.out.trans (hq.out.mono HBQ.out.size))).mono ?_) | (with_reducible refine (HR2.out _ (HBQ.out.trans (hq.out.mono HBQ.out.size))).mono ?_)); rintro e w2 ⟨rfl, hv⟩; replace hq := Lib.hid (below_then hq.out hv); clear hv; obtain ⟨x0, x1, x2, x3, x4⟩ := five_box (HY1.out.below hq.out)))
      go_ret
      exact ⟨by rw [HE.out]; rfl, HB.out.trans (hq.out.mono HB.out.size)⟩
     obtain ⟨t3, ht3⟩ : ∃ t, idxB m x.uses = t := ⟨_, rfl⟩
     rw [ht3] at HI2
     have HT3 : Hid (usesIn (some m) x.uses = t3) := ht3
     obtain ⟨t4, ht4⟩ : ∃ t, twiceB x.uses = t := ⟨_, rfl⟩
     rw [ht4] at HR2
     have HT4 : Hid (usesTwice (some m) x.uses = t4) := ht4
     clear ht3 ht4
     cases t3
     ·have HE : Hid (singleE l (some m) = 3) := HDO.out 3 (op_index HX.out HNM.out HH.out HRG.out (.inr HT3.out)) (by decide)
      go_wp2_with (first | (go_at_call 88; (first | (with_reducible refine (HI1.out _ (HBQ.out.trans (hq.out.mono HBQ.out.size))).mono ?_) | (with_reducible refine (HI2.out _ (HBQ.out.trans (hq.out.mono HBQ.out.size))).mono ?_)); rintro e w2 ⟨rfl, rfl⟩) | (go_at_call 89; (first | (with_reducible refine (HR1.out _ (HBQ.out.trans (hq.out.mono HBQ.out.size))).mono ?_) | (with_reducible refine (HR2.out _ (HBQ.out.trans (hq.out.mono HBQ.out.size))).mono ?_)); rintro e w2 ⟨rfl, hv⟩; replace hq := Lib.hid (below_then hq.out hv); clear hv; obtain ⟨x0, x1, x2, x3, x4⟩ := five_box (HY1.out.below hq.out)))
      go_ret
      exact ⟨by rw [HE.out]; rfl, HB.out.trans (hq.out.mono HB.out.size)⟩
     cases t2
     ·cases t4
      ·have HE : Hid (opE l (some m) k = 0) := op_ok HX.out HNM.out HH.out HRG.out HT1.out HT3.out HT2.out HT4.out
       have HZ : Hid (∀ j, j < k + 1 → opE l (some m) j = 0) := fun j hj => by
        by_cases e : j = k
        ·rw [e]; exact HE.out
        ·exact hz.out j (by omega)
       go_wp2_with (first | (go_at_call 88; (first | (with_reducible refine (HI1.out _ (HBQ.out.trans (hq.out.mono HBQ.out.size))).mono ?_) | (with_reducible refine (HI2.out _ (HBQ.out.trans (hq.out.mono HBQ.out.size))).mono ?_)); rintro e w2 ⟨rfl, rfl⟩) | (go_at_call 89; (first | (with_reducible refine (HR1.out _ (HBQ.out.trans (hq.out.mono HBQ.out.size))).mono ?_) | (with_reducible refine (HR2.out _ (HBQ.out.trans (hq.out.mono HBQ.out.size))).mono ?_)); rintro e w2 ⟨rfl, hv⟩; replace hq := Lib.hid (below_then hq.out hv); clear hv; obtain ⟨x0, x1, x2, x3, x4⟩ := five_box (HY1.out.below hq.out)))
       go_roundw
       case rel => exact ⟨k + 1, by omega, by go_num, HZ, HB.out.trans (hq.out.mono HB.out.size)⟩
       case measure => simp [intOf]; omega
      ·have HE : Hid (singleE l (some m) = 7) := HDO.out 7 (op_again HX.out HNM.out HH.out HRG.out HT1.out HT3.out (.inr HT4.out)) (by decide)
       go_wp2_with (first | (go_at_call 88; (first | (with_reducible refine (HI1.out _ (HBQ.out.trans (hq.out.mono HBQ.out.size))).mono ?_) | (with_reducible refine (HI2.out _ (HBQ.out.trans (hq.out.mono HBQ.out.size))).mono ?_)); rintro e w2 ⟨rfl, rfl⟩) | (go_at_call 89; (first | (with_reducible refine (HR1.out _ (HBQ.out.trans (hq.out.mono HBQ.out.size))).mono ?_) | (with_reducible refine (HR2.out _ (HBQ.out.trans (hq.out.mono HBQ.out.size))).mono ?_)); rintro e w2 ⟨rfl, hv⟩; replace hq := Lib.hid (below_then hq.out hv); clear hv; obtain ⟨x0, x1, x2, x3, x4⟩ := five_box (HY1.out.below hq.out)))
       go_ret
       exact ⟨by rw [HE.out]; rfl, HB.out.trans (hq.out.mono HB.out.size)⟩
     ·have HE : Hid (singleE l (some m) = 7) := HDO.out 7 (op_again HX.out HNM.out HH.out HRG.out HT1.out HT3.out (.inl HT2.out)) (by decide)
      go_wp2_with (first | (go_at_call 88; (first | (with_reducible refine (HI1.out _ (HBQ.out.trans (hq.out.mono HBQ.out.size))).mono ?_) | (with_reducible refine (HI2.out _ (HBQ.out.trans (hq.out.mono HBQ.out.size))).mono ?_)); rintro e w2 ⟨rfl, rfl⟩) | (go_at_call 89; (first | (with_reducible refine (HR1.out _ (HBQ.out.trans (hq.out.mono HBQ.out.size))).mono ?_) | (with_reducible refine (HR2.out _ (HBQ.out.trans (hq.out.mono HBQ.out.size))).mono ?_)); rintro e w2 ⟨rfl, hv⟩; replace hq := Lib.hid (below_then hq.out hv); clear hv; obtain ⟨x0, x1, x2, x3, x4⟩ := five_box (HY1.out.below hq.out)))
      go_ret
      exact ⟨by rw [HE.out]; rfl, HB.out.trans (hq.out.mono HB.out.size)⟩
  ·obtain rfl : n = i := by omega
   have HE : Hid (singleE l (some m) = 0) := single_ok HN16.out fun j hj => hz.out j (by rw [HLL.out] at hj; exact hj)
   go_wp2_with fail
   go_ret
   exact ⟨by rw [HE.out]; rfl, HB0.out⟩
end
section
open Go.RowKit
open Go.Lib hiding intOf
def natI (xs : List Nat) : List Int := xs.map fun i : Nat => (i : Int)
theorem natI_has (xs : List Nat) (i : Nat) : (natI xs).contains (i : Int) = xs.contains i := by
 rw [Bool.eq_iff_iff]
 simp only [natI, List.contains_iff_mem, List.mem_map]
 constructor
 ·rintro ⟨a, ha, e⟩
  obtain rfl : a = i := by omega
  exact ha
 ·exact fun h => ⟨i, h, rfl⟩
theorem natI_add (xs : List Nat) (i : Nat) : ints (natI (xs ++ [i])) = ints (natI xs) ++ [.int .i64 (i : Int)] := by simp [ints, natI]
theorem round_some {l : List POp} {out : List Nat} {i : Nat} (h : nextP l out = some i) : roundP l out = out ++ [i] := by rw [roundP, h]
theorem round_none {l : List POp} {out : List Nat} (h : nextP l out = none) : roundP l out = out := by rw [roundP, h]
theorem ready_at {l : List POp} {out : List Nat} {i : Nat} {o : POp} (h : l[i]? = some o) : readyB l out i = (!(out.contains i) && o.after.all fun a => out.contains a.toNat) := by
 unfold readyB
 rw [List.getD_eq_getElem?_getD, List.getElem?_map, h]
 rfl
theorem rounds_len (l : List POp) : ∀ k, (roundsP l k []).length ≤ k
 | 0 => Nat.le_refl _
 | k + 1 => by
  have h := rounds_len l k
  rw [rounds_succ]
  unfold roundP
  split
  ·rw [List.length_append]; simp; omega
  ·omega
theorem all_snoc {xs : List Int} {k : Nat} {a : Int} (h : xs[k]? = some a) (p : Int → Bool) : (xs.take (k + 1)).all p = ((xs.take k).all p && p a) := by
 rw [List.take_add_one, h, List.all_append]
 simp
def RetSo (l : List POp) (w : World) (e : Ending) (w' : World) : Prop := ∃ A c, e = .returned (.slice A (orderP l).length c) ∧ Below w.heap.size w w'
set_option maxRecDepth 100000 in
set_option maxHeartbeats 6400000 in
theorem rsorted_any (L : Option Addr) (n c : Nat) (l : List POp) (w : World) (hl : Recs 5 opG w L n l) (hn : n ≤ 16) (hs : ∀ o ∈ l, OpS o) (hix : ∀ o ∈ l, ∀ a ∈ o.after, 0 ≤ a) :
  Calls Tryz.prog 59 #[.slice L n c] w (RetSo l w) := by
 have HLL := Lib.hid hl.len
 have HA := Lib.hid hl
 have HS := Lib.hid hs
 have HIX := Lib.hid hix
 clear hl hs hix
 go_enter Tryz.func59, Tryz.ntmps59
 go_wp2_with fail
 go_loopw [3, 4, 5, 6, 9] (fun v _ _ _ i wr => ∃ r : Nat, r ≤ n ∧ i = .int .i64 (r : Int) ∧ Hid (wr.ownsRow w.heap.size 3 1 v (roundsP l r []).length (ints (natI (roundsP l r [])))) ∧ Hid (Below w.heap.size w wr)) (fun _ _ _ _ i _ => n - (intOf i).toNat)
 case atStart => exact ⟨0, Nat.zero_le _, rfl, World.ownsRow_nil _ _ _ _, Below.refl _ _⟩
 case round =>
  obtain ⟨r, hr, rfl, HO, HB⟩ := hrel
  obtain ⟨A1, C1, hv⟩ := own_form HO.out
  subst hv
  have HLE := Lib.hid (rounds_len l r)
  have HSU := Lib.hid (rounds_succ l r [])
  obtain ⟨out, hout⟩ : ∃ o, roundsP l r [] = o := ⟨_, rfl⟩
  rw [hout] at HO HLE HSU
  have HOU := Lib.hid hout
  rw [hout]
  clear hout
  obtain ⟨wo, rfl⟩ : ∃ v, v = wr := ⟨_, rfl⟩
  by_cases hrn : r < n
  ·have hlo := HLE.out
   go_wp2_with fail
   go_loopw [3, 4, 5, 6] (fun v i _ _ wx => ∃ k : Nat, k ≤ n ∧ v = .slice A1 out.length C1 ∧ i = .int .i64 (k : Int) ∧ Hid (∀ j, j < k → readyB l out j = false) ∧ wo = wx) (fun _ i _ _ _ => n - (intOf i).toNat)
   case atStart => exact ⟨0, Nat.zero_le _, rfl, rfl, (fun j hj => by omega), by trivial⟩
   case round =>
    obtain ⟨k, hk, rfl, rfl, hno, rfl⟩ := hrel
    by_cases hlt : k < n
    ·obtain ⟨b, off, x, B, an, ac, C, un, uc, rfl, hbw, hx, c0, c1, c2, c3, c4, s1, s2, s3, s4⟩ := op_at (HA.out.on op_mono HB.out) hlt
     have HXX := Lib.hid hx
     have HRD := Lib.hid (ready_at (out := out) hx)
     have HS1 := Lib.hid s1
     have HAL := Lib.hid s1.ilen
     have ha1 : an ≤ 1000 := by rw [← s1.ilen]; exact (HS.out x (List.mem_of_getElem? hx)).aft
     have hsl := Sl.of_own HO.out
     have hH1 := rhas_any (B := wo.heap.size) A1 out.length C1 (natI out) (k : Int) wo hsl (by omega)
     rw [natI_has] at hH1
     have HHX := Lib.hid (fun (z : Int) => rhas_any (B := wo.heap.size) A1 out.length C1 (natI out) z wo hsl (by omega))
     obtain ⟨q0, hq0⟩ : ∃ q, out.contains k = q := ⟨_, rfl⟩
     rw [hq0] at hH1 HRD
     have HH1 := Lib.hid hH1
     have HR0 : Hid ((!q0) = (!q0 && (x.after.take 0).all fun a => out.contains a.toNat)) := by rw [Hid]; simp
     have i1 : (0 : Int) ≤ (k : Int) := by omega
     have i2 : (k : Int) < (n : Int) := by omega
     clear hx c0 c1 c2 c4 s1 s2 s3 s4 hsl hH1 hq0
     go_wp2_with (go_at_call 60; refine HH1.out.mono ?_; rintro e w1 ⟨rfl, rfl⟩)
     go_loopw [5, 6] (fun rd i wx => ∃ (q : Nat) (c : Bool), q ≤ an ∧ rd = .bool c ∧ i = .int .i64 (q : Int) ∧ Hid (c = (!q0 && (x.after.take q).all fun a => out.contains a.toNat)) ∧ wo = wx) (fun _ i _ => an - (intOf i).toNat)
     case atStart => exact ⟨0, !q0, Nat.zero_le _, rfl, rfl, HR0, by trivial⟩
     case round =>
      obtain ⟨q, c, hq, rfl, rfl, hcc, rfl⟩ := hrel
      by_cases hqt : q < an
      ·obtain ⟨b2, off2, a, rfl, hbw2, ha, d0⟩ := HS1.out.int_ hqt
       have hge := HIX.out x (List.mem_of_getElem? HXX.out) a (List.mem_of_getElem? ha)
       obtain ⟨a', rfl⟩ : ∃ a' : Nat, a = (a' : Int) := ⟨a.toNat, by omega⟩
       have HAS := Lib.hid (all_snoc ha (fun a => out.contains a.toNat))
       have hHa := HHX.out (a' : Int)
       rw [natI_has] at hHa
       obtain ⟨t, ht⟩ : ∃ t, out.contains a' = t := ⟨_, rfl⟩
       rw [ht] at hHa
       have HHa := Lib.hid hHa
       have HT : Hid (out.contains ((a' : Int)).toNat = t) := by rw [Hid, Int.toNat_natCast]; exact ht
       have j1 : (0 : Int) ≤ (q : Int) := by omega
       have j2 : (q : Int) < (an : Int) := by omega
       clear ha hHa ht hge
       cases c
       ·have HC : Hid (false = (!q0 && (x.after.take (q + 1)).all fun a => out.contains a.toNat)) := by rw [Hid, HAS.out, ← Bool.and_assoc, ← hcc.out]; rfl
        go_wp2_with (go_at_call 60; refine HHa.out.mono ?_; rintro e w1 ⟨rfl, rfl⟩)
        go_roundw
        case rel => exact ⟨q + 1, false, by omega, rfl, by go_num, HC, by trivial⟩
        case measure => simp [intOf]; omega
       ·have HC : Hid (t = (!q0 && (x.after.take (q + 1)).all fun a => out.contains a.toNat)) := by rw [Hid, HAS.out, ← Bool.and_assoc, ← hcc.out, HT.out]; rfl
        go_wp2_with (go_at_call 60; refine HHa.out.mono ?_; rintro e w1 ⟨rfl, rfl⟩)
        go_roundw
        case rel => exact ⟨q + 1, t, by omega, rfl, by go_num, HC, by trivial⟩
        case measure => simp [intOf]; omega
      ·obtain rfl : q = an := by omega
       have HRE : Hid (readyB l out k = c) := by
        rw [Hid, HRD.out, hcc.out, ← HAL.out, List.take_length]
       cases c
       ·have HZ : Hid (∀ j, j < k + 1 → readyB l out j = false) := fun j hj => by
         by_cases e : j = k
         ·rw [e]; exact HRE.out
         ·exact hno.out j (by omega)
        go_wp2_with fail
        go_roundw
        case rel => exact ⟨k + 1, by omega, rfl, by go_num, HZ, by trivial⟩
        case measure => simp [intOf]; omega
       ·have HNX : Hid (nextP l out = some k) := next_some (by rw [HLL.out]; exact hlt) HRE.out hno.out
        have HRO := Lib.hid (round_some HNX.out)
        have hbx : Below wo.heap.size wo (wo.alloc (.cells #[.int .i64 (k : Int)] 3)) := (Below.refl _ _).alloc (Nat.le_refl _) _
        have HBX2 := Lib.hid hbx
        have HO2 := Lib.hid (own_below HO.out hbx)
        have HBZ : Hid (w.heap.size ≤ (wo.alloc (.cells #[.int .i64 (k : Int)] 3)).heap.size) := Nat.le_trans HB.out.size hbx.size
        have b3' : out.length + 1 ≤ maxLen := by unfold maxLen; omega
        have b4' : (out.length + 1) * 8 ≤ 140737488355328 := by omega
        clear hbx
        go_wp2_with (at_builtin; refine wpl_own (P := Tryz.prog) (by rfl) _ _ 23 (by rfl) w.heap.size 3 (.int .i64 0) 1 8 Tryz.underlying23 int_info rfl (by decide) (.slice A1 out.length C1) out.length (ints (natI out)) (by rfl) HO2.out ⟨wo.heap.size, 0, none⟩ 1 1 [.int .i64 (k : Int)] (by rfl) (by rfl) (new_int wo (k : Int)) (int_one (k : Int)) b3' b4' HBZ.out ?_; intro v7 w7 ho7 hg7 hn7)
        go_roundw
        case rel =>
         refine ⟨r + 1, by omega, by go_num, ?_, below_own (HB.out.trans (HBX2.out.mono HB.out.size)) hg7 HBZ.out (fun g e => (HO.out.lt g e).1)⟩
         rw [HSU.out, HRO.out, List.length_append, natI_add]
         refine Lib.hid ?_
         simpa using ho7
        case measure => simp [intOf]; omega
    ·obtain rfl : k = n := by omega
     have HNX : Hid (nextP l out = none) := next_none fun j hj => hno.out j (by rw [HLL.out] at hj; exact hj)
     have HRO := Lib.hid (round_none HNX.out)
     go_wp2_with fail
     go_roundw
     case rel => exact ⟨r + 1, by omega, by go_num, by rw [HSU.out, HRO.out]; exact HO, HB⟩
     case measure => simp [intOf]; omega
  ·obtain rfl : r = n := by omega
   have HE : Hid (orderP l = out) := by rw [Hid, ← rounds_all, HLL.out]; exact HOU.out
   go_wp2_with fail
   go_ret
   exact ⟨A1, C1, by rw [HE.out]; rfl, HB.out⟩
end
section
open Go.RowKit
open Go.Lib hiding intOf
set_option maxRecDepth 100000 in
set_option maxHeartbeats 6400000 in
theorem rsized_any (s : PStyle) (Z : Option Addr) (z zc : Nat) (M : Option Addr) (m mc : Nat) (P : Option Addr) (p pc : Nat) (U : Option Addr) (u uc : Nat) (E : Option Addr) (e ec : Nat) (O : Option Addr) (o oc : Nat) (w : World) (h : StyleA w s Z z zc M m mc P p pc U u uc E e ec O o oc) (hs : StyleS s) :
  Calls Tryz.prog 82 #[.agg #[.string s.name, .slice Z z zc, .slice M m mc, .slice P p pc, .slice U u uc, .slice E e ec, .slice O o oc]] w fun e w' => e = .returned (.bool (sizedP s)) ∧ Below w.heap.size w w' := by
 have HBX : Hid (Below w.heap.size w (w.alloc (.cells #[.string s.name, .slice Z z zc, .slice M m mc, .slice P p pc, .slice U u uc, .slice E e ec, .slice O o oc] 29))) := (Below.refl _ _).alloc (Nat.le_refl _) _
 have HX := Lib.hid (Blk.new w 29 #[.string s.name, .slice Z z zc, .slice M m mc, .slice P p pc, .slice U u uc, .slice E e ec, .slice O o oc])
 have HA := Lib.hid h
 have HS := Lib.hid hs
 have HL := Lib.hid (And.intro h.sizes.slen h.mults.ilen)
 have l1 : z ≤ 1000 := by rw [← h.sizes.slen]; exact hs.szs
 have l2 : m ≤ 1000 := by rw [← h.mults.ilen]; exact hs.mul
 have HN := fun W => rname_any s.name W (by have := hs.nm; omega)
 clear h hs
 cases hnm : nameOk s.name.data.toList
 ·have HE : Hid (sizedP s = false) := sized_name (.inl hnm)
  simp only [hnm] at HN
  have HN := Lib.hid HN
  clear hnm
  go_enter Tryz.func82, Tryz.ntmps82
  go_wp2_with (go_at_call 87; refine (HN.out _).mono ?_; rintro e w1 ⟨rfl, rfl⟩)
  go_ret
  exact ⟨by rw [HE.out]; rfl, HBX.out⟩
 by_cases hz : z = 0
 ·have HE : Hid (sizedP s = false) := sized_name (.inr (by rw [HL.out.1]; exact hz))
  simp only [hnm] at HN
  have HN := Lib.hid HN
  subst hz
  clear hnm
  go_enter Tryz.func82, Tryz.ntmps82
  go_wp2_with (go_at_call 87; refine (HN.out _).mono ?_; rintro e w1 ⟨rfl, rfl⟩)
  go_ret
  exact ⟨by rw [HE.out]; rfl, HBX.out⟩
 have H1 : Hid (¬ (nameOk s.name.data.toList = false ∨ s.sizes.length = 0)) := fun h => by
  rcases h with h | h
  ·rw [hnm] at h; cases h
  ·rw [HL.out.1] at h; exact hz h
 simp only [hnm] at HN
 have HN := Lib.hid HN
 have hz' : ((z : Int) == 0) = false := by simpa using hz
 clear hnm hz
 go_enter Tryz.func82, Tryz.ntmps82
 go_wp2_with (go_at_call 87; refine (HN.out _).mono ?_; rintro e w1 ⟨rfl, rfl⟩)
 clear hz'
 go_loopw [3] (fun i wr => ∃ k : Nat, k ≤ z ∧ i = .int .i64 (k : Int) ∧ Hid (∀ (j : Nat) (t : ByteArray), j < k → s.sizes[j]? = some t → sizeOk t.data.toList = true) ∧ Hid (Below (w.alloc (.cells #[.string s.name, .slice Z z zc, .slice M m mc, .slice P p pc, .slice U u uc, .slice E e ec, .slice O o oc] 29)).heap.size (w.alloc (.cells #[.string s.name, .slice Z z zc, .slice M m mc, .slice P p pc, .slice U u uc, .slice E e ec, .slice O o oc] 29)) wr)) (fun i _ => z - (intOf i).toNat)
 case atStart => exact ⟨0, Nat.zero_le _, rfl, (fun j t hj => by omega), Below.refl _ _⟩
 case round =>
  obtain ⟨k, hk, rfl, hall, HBL⟩ := hrel
  have HB := Lib.hid (HBX.out.trans (HBL.out.mono HBX.out.size))
  have HX1 := Lib.hid (HX.out.below HBL.out)
  obtain ⟨x0, x1, x2, x3, x4, x5, x6⟩ := seven HX1.out
  have hxl := HX1.out.lt
  by_cases hlt : k < z
  ·obtain ⟨b, off, t, rfl, hbw, ht, c0⟩ := (HA.out.sizes.on HB.out).str_ hlt
   have HT := Lib.hid ht
   have HSZ := fun W => hsize_any t W (by have := HS.out.sz t (List.mem_of_getElem? ht); omega)
   have i1 : (0 : Int) ≤ (k : Int) := by omega
   have i2 : (k : Int) < (z : Int) := by omega
   clear ht
   cases hq : sizeOk t.data.toList
   ·have HE : Hid (sizedP s = false) := sized_size HT.out hq
    simp only [hq] at HSZ
    have HSZ := Lib.hid HSZ
    clear hq
    go_wp2_with (go_at_call 116; refine (HSZ.out _).mono ?_; rintro e w2 ⟨rfl, rfl⟩)
    go_ret
    exact ⟨by rw [HE.out]; rfl, HB.out⟩
   ·have HE : Hid (∀ (j : Nat) (t : ByteArray), j < k + 1 → s.sizes[j]? = some t → sizeOk t.data.toList = true) := fun j t' hj ht' => by
     by_cases e : j = k
     ·subst e
      rw [HT.out] at ht'
      rw [← Option.some.inj ht']
      exact hq
     ·exact hall.out j t' (by omega) ht'
    simp only [hq] at HSZ
    have HSZ := Lib.hid HSZ
    clear hq
    go_wp2_with (go_at_call 116; refine (HSZ.out _).mono ?_; rintro e w2 ⟨rfl, rfl⟩)
    go_roundw
    case rel => exact ⟨k + 1, by omega, by go_num, HE, HBL⟩
    case measure => simp [intOf]; omega
  ·obtain rfl : z = k := by omega
   have HSP := Lib.hid (sized_last H1.out (fun j t ht => hall.out j t (by have := (List.getElem?_eq_some_iff.1 ht).1; rw [HL.out.1] at this; exact this) ht))
   obtain ⟨wq, rfl⟩ : ∃ v, v = wr := ⟨_, rfl⟩
   go_wp2_with fail
   go_loopw [4, 5] (fun bv i wx => ∃ (k : Nat) (c : Bool), k ≤ m ∧ bv = .bool c ∧ i = .int .i64 (k : Int) ∧ Hid (c = (s.multiples.take k).contains 0) ∧ wq = wx) (fun _ i _ => m - (intOf i).toNat)
   case atStart => exact ⟨0, false, Nat.zero_le _, rfl, rfl, rfl, by trivial⟩
   case round =>
    obtain ⟨k, c, hk, rfl, rfl, hc, rfl⟩ := hrel
    by_cases hlt : k < m
    ·obtain ⟨b, off, x, rfl, hbw, hx, c0⟩ := (HA.out.mults.on HB.out).int_ hlt
     have i1 : (0 : Int) ≤ (k : Int) := by omega
     have i2 : (k : Int) < (m : Int) := by omega
     have HTK : Hid ((s.multiples.take (k + 1)).contains 0 = ((s.multiples.take k).contains 0 || decide (x = 0))) := by
      rw [Hid, List.take_add_one, hx, Bool.eq_iff_iff]
      simp [eq_comm (a := x)]
     clear hx
     cases c
     ·by_cases hx0 : x = 0
      ·have hx' : (x == 0) = true := by simpa using hx0
       have HE : Hid (true = (s.multiples.take (k + 1)).contains 0) := by rw [Hid, HTK.out, decide_eq_true hx0]; simp
       clear hx0
       go_wp2_with fail
       go_roundw
       case rel => exact ⟨k + 1, true, by omega, rfl, by go_num, HE, by trivial⟩
       case measure => simp [intOf]; omega
      ·have hx' : (x == 0) = false := by simpa using hx0
       have HE : Hid (false = (s.multiples.take (k + 1)).contains 0) := by rw [Hid, HTK.out, decide_eq_false hx0, ← hc.out]; rfl
       clear hx0
       go_wp2_with fail
       go_roundw
       case rel => exact ⟨k + 1, false, by omega, rfl, by go_num, HE, by trivial⟩
       case measure => simp [intOf]; omega
     ·have HE : Hid (true = (s.multiples.take (k + 1)).contains 0) := by rw [Hid, HTK.out, ← hc.out]; rfl
      go_wp2_with fail
      go_roundw
      case rel => exact ⟨k + 1, true, by omega, rfl, by go_num, HE, by trivial⟩
      case measure => simp [intOf]; omega
    ·obtain rfl : m = k := by omega
     have hcl : c = s.multiples.contains 0 := by
      have := hc.out
      rwa [List.take_of_length_le (by rw [HL.out.2]; exact Nat.le_refl _)] at this
     have HCL := Lib.hid hcl
     clear hcl
     cases c
     ·have HE : Hid (sizedP s = false) := by rw [Hid, HSP.out, ← HCL.out]; rfl
      go_wp2_with fail
      go_ret
      exact ⟨by rw [HE.out]; rfl, HB.out⟩
     ·by_cases hmz : m = z
      ·have hmz' : ((m : Int) == (z : Int)) = true := by simp; omega
       have HE : Hid (sizedP s = true) := by rw [Hid, HSP.out, ← HCL.out, HL.out.1, HL.out.2, decide_eq_true hmz]; rfl
       clear hmz
       go_wp2_with fail
       go_ret
       exact ⟨by rw [HE.out]; rfl, HB.out⟩
      ·have hmz' : ((m : Int) == (z : Int)) = false := by simp; omega
       have HE : Hid (sizedP s = false) := by rw [Hid, HSP.out, ← HCL.out, HL.out.1, HL.out.2, decide_eq_false hmz]; rfl
       clear hmz
       go_wp2_with fail
       go_ret
       exact ⟨by rw [HE.out]; rfl, HB.out⟩
set_option maxRecDepth 100000 in
set_option maxHeartbeats 6400000 in
theorem rtwice_any (A : Option Addr) (n c : Nat) (l : List ByteArray) (w : World) (ha : Sl w w.heap.size A n (strs l)) (hn : n ≤ 1000) :
  Calls Tryz.prog 83 #[.slice A n c] w fun e w' => e = .returned (.bool (!onceB l)) ∧ Below w.heap.size w w' := by
 have HA := Lib.hid ha
 have HL := Lib.hid ha.slen
 clear ha
 go_enter Tryz.func83, Tryz.ntmps83
 go_wp2
 go_loopw [3, 4] (fun i _ wr => ∃ k : Nat, k ≤ n ∧ i = .int .i64 (k : Int) ∧ Hid (∀ (i j : Nat) (x : ByteArray), i < k → j < i → l[i]? = some x → l[j]? ≠ some x) ∧ Hid (Below w.heap.size w wr)) (fun i _ _ => n - (intOf i).toNat)
 case atStart => exact ⟨0, Nat.zero_le _, rfl, (fun i j x h => by omega), Below.refl _ _⟩
 case round =>
  obtain ⟨k, hk, rfl, hne, HB⟩ := hrel
  by_cases hlt : k < n
  ·obtain ⟨b, off, x, rfl, hbw, hx, c0⟩ := HA.out.str_ hlt
   have HXX := Lib.hid (And.intro hx (And.intro hbw c0))
   have i1 : (0 : Int) ≤ (k : Int) := by omega
   have i2 : (k : Int) < (n : Int) := by omega
   obtain ⟨wq, rfl⟩ : ∃ v, v = wr := ⟨_, rfl⟩
   clear hx c0
   go_wp2_with fail
   go_loopw [4] (fun i wx => ∃ j : Nat, j ≤ k ∧ i = .int .i64 (j : Int) ∧ Hid (∀ j', j' < j → l[j']? ≠ some x) ∧ Hid (Below w.heap.size w wx)) (fun i _ => k - (intOf i).toNat)
   case atStart => exact ⟨0, Nat.zero_le _, rfl, (fun j h => by omega), HB⟩
   case round =>
    obtain ⟨j, hj, rfl, hn2, HBi⟩ := hrel
    by_cases hjk : j < k
    ·obtain ⟨b2, off2, y, heq, _, hy, d0⟩ := HA.out.str_ (k := j) (by omega)
     injection heq with heq
     injection heq with e1 e2
     subst e1
     subst e2
     have HYY := Lib.hid hy
     have c0 := (HBi.out.cell (p := ⟨b, off + k, none⟩) HXX.out.2.1).trans HXX.out.2.2
     replace d0 := (HBi.out.cell (p := ⟨b, off + j, none⟩) HXX.out.2.1).trans d0
     have j1 : (0 : Int) ≤ (j : Int) := by omega
     have j2 : (j : Int) < (k : Int) := by omega
     have j3 : (j : Int) < (n : Int) := by omega
     clear hy
     by_cases hq : x = y
     ·have HE : Hid ((!onceB l) = true) := by rw [Hid, once_pair hjk HXX.out.1 (by rw [HYY.out, hq])]; rfl
      have hq' : (x.toList == y.toList) = true := by rw [hq]; simp
      clear hq
      go_wp2_with fail
      go_quiet (fail)
      go_wp2_with fail
      go_ret
      exact ⟨by rw [HE.out]; rfl, below_drewN HBi.out _⟩
     ·have HZ : Hid (∀ j', j' < j + 1 → l[j']? ≠ some x) := fun j' hj' => by
       by_cases e : j' = j
       ·subst e
        rw [HYY.out]
        exact fun h => hq (Option.some.inj h).symm
       ·exact hn2.out j' (by omega)
      have hq' := toList_ne hq
      clear hq
      go_wp2_with fail
      go_quiet (fail)
      go_wp2_with fail
      go_roundw
      case rel => exact ⟨j + 1, by omega, by go_num, HZ, below_drewN HBi.out _⟩
      case measure => simp [intOf]; omega
    ·obtain rfl : j = k := by omega
     have HZ : Hid (∀ (i j' : Nat) (x : ByteArray), i < j + 1 → j' < i → l[i]? = some x → l[j']? ≠ some x) := fun i j' x' hi hj' hx' => by
      by_cases e : i = j
      ·subst e
       rw [HXX.out.1] at hx'
       rw [← Option.some.inj hx']
       exact hn2.out j' hj'
      ·exact hne.out i j' x' (by omega) hj' hx'
     go_wp2_with fail
     go_roundw
     case rel => exact ⟨j + 1, by omega, by go_num, HZ, HBi⟩
     case measure => simp [intOf]; omega
  ·obtain rfl : n = k := by omega
   have HE : Hid ((!onceB l) = false) := by
    rw [Hid, once_yes fun i j x hj hi => hne.out i j x (by have := (List.getElem?_eq_some_iff.1 hi).1; rw [HL.out] at this; exact this) hj hi]
    rfl
   go_wp2_with fail
   go_ret
   exact ⟨by rw [HE.out]; rfl, HB.out⟩
set_option maxRecDepth 100000 in
set_option maxHeartbeats 6400000 in
theorem rlong_any (s : PStyle) (Z : Option Addr) (z zc : Nat) (M : Option Addr) (m mc : Nat) (P : Option Addr) (p pc : Nat) (U : Option Addr) (u uc : Nat) (E : Option Addr) (e ec : Nat) (O : Option Addr) (o oc : Nat) (w : World) (h : StyleA w s Z z zc M m mc P p pc U u uc E e ec O o oc) :
  Calls Tryz.prog 84 #[.agg #[.string s.name, .slice Z z zc, .slice M m mc, .slice P p pc, .slice U u uc, .slice E e ec, .slice O o oc]] w fun e w' => e = .returned (.bool (longP s)) ∧ Below w.heap.size w w' := by
 have HBX : Hid (Below w.heap.size w (w.alloc (.cells #[.string s.name, .slice Z z zc, .slice M m mc, .slice P p pc, .slice U u uc, .slice E e ec, .slice O o oc] 29))) := (Below.refl _ _).alloc (Nat.le_refl _) _
 have HX := Lib.hid (Blk.new w 29 #[.string s.name, .slice Z z zc, .slice M m mc, .slice P p pc, .slice U u uc, .slice E e ec, .slice O o oc])
 have HE : Hid (longP s = (decide (12 < z) || (decide (12 < p) || (decide (24 < e) || (decide (16 < o) || decide (12 < u)))))) := by
  rw [Hid, longP, h.sizes.slen, h.pieces.len, h.seams.len, h.ops.len, h.uses.len]
 clear h
 by_cases h1 : 12 < z
 ·have HF : Hid (longP s = true) := by rw [Hid, HE.out, decide_eq_true h1]; rfl
  go_enter Tryz.func84, Tryz.ntmps84
  go_wp2
  go_ret
  exact ⟨by rw [HF.out]; first | rfl | (simp; omega), HBX.out⟩
 by_cases h2 : 12 < p
 ·have HF : Hid (longP s = true) := by rw [Hid, HE.out, decide_eq_false h1, decide_eq_true h2]; rfl
  go_enter Tryz.func84, Tryz.ntmps84
  go_wp2
  go_ret
  exact ⟨by rw [HF.out]; first | rfl | (simp; omega), HBX.out⟩
 by_cases h3 : 24 < e
 ·have HF : Hid (longP s = true) := by rw [Hid, HE.out, decide_eq_false h1, decide_eq_false h2, decide_eq_true h3]; rfl
  go_enter Tryz.func84, Tryz.ntmps84
  go_wp2
  go_ret
  exact ⟨by rw [HF.out]; first | rfl | (simp; omega), HBX.out⟩
 by_cases h4 : 16 < o
 ·have HF : Hid (longP s = true) := by rw [Hid, HE.out, decide_eq_false h1, decide_eq_false h2, decide_eq_false h3, decide_eq_true h4]; rfl
  go_enter Tryz.func84, Tryz.ntmps84
  go_wp2
  go_ret
  exact ⟨by rw [HF.out]; first | rfl | (simp; omega), HBX.out⟩
 by_cases h5 : 12 < u
 ·have HF : Hid (longP s = true) := by rw [Hid, HE.out, decide_eq_false h1, decide_eq_false h2, decide_eq_false h3, decide_eq_false h4, decide_eq_true h5]; rfl
  go_enter Tryz.func84, Tryz.ntmps84
  go_wp2
  go_ret
  exact ⟨by rw [HF.out]; first | rfl | (simp; omega), HBX.out⟩
 have HF : Hid (longP s = false) := by rw [Hid, HE.out, decide_eq_false h1, decide_eq_false h2, decide_eq_false h3, decide_eq_false h4, decide_eq_false h5]; rfl
 go_enter Tryz.func84, Tryz.ntmps84
 go_wp2
 go_ret
 exact ⟨by rw [HF.out]; first | rfl | (simp; omega), HBX.out⟩
set_option maxRecDepth 100000 in
set_option maxHeartbeats 6400000 in
theorem rwidths_any (p : PPiece) (E : Option Addr) (en ec : Nat) (N : Option Addr) (nn nc : Nat) (C : Option Addr) (cn cc : Nat) (D : Option Addr) (dn dc : Nat) (w : World) (h : PcA w p E en ec N nn nc C cn cc D dn dc) :
  Calls Tryz.prog 119 #[.agg #[.string p.name, .slice E en ec, .int .i64 p.grain, .slice N nn nc, .slice C cn cc, .slice D dn dc, .bool p.match_]] w fun e w' => e = .returned (.int .i64 (widthsE p)) ∧ Below w.heap.size w w' := by
 have HBX : Hid (Below w.heap.size w (w.alloc (.cells #[.string p.name, .slice E en ec, .int .i64 p.grain, .slice N nn nc, .slice C cn cc, .slice D dn dc, .bool p.match_] 67))) := (Below.refl _ _).alloc (Nat.le_refl _) _
 have HX := Lib.hid (Blk.new w 67 #[.string p.name, .slice E en ec, .int .i64 p.grain, .slice N nn nc, .slice C cn cc, .slice D dn dc, .bool p.match_])
 have HA := Lib.hid h
 have HL := Lib.hid (And.intro h.eds.len h.wids.ilen)
 have l1 : dn ≤ 1000 := by rw [← h.wids.ilen]; exact h.small.wid
 clear h
 by_cases hdl : dn = en
 ·have HDL : Hid (p.widths.length = p.edges.length) := by rw [Hid, HL.out.1, HL.out.2]; exact hdl
  subst hdl
  go_enter Tryz.func119, Tryz.ntmps119
  go_wp2_with fail
  go_loop [3] (fun i => ∃ k : Nat, k ≤ dn ∧ i = .int .i64 (k : Int) ∧ Hid (∀ (j : Nat) (x : Int), j < k → p.widths[j]? = some x → 0 ≤ x ∧ x ≤ 500)) (fun i => dn - (intOf i).toNat)
  case atStart => exact ⟨0, Nat.zero_le _, rfl, fun j x hj => by omega⟩
  case round =>
   obtain ⟨k, hk, rfl, hall⟩ := hrel
   by_cases hlt : k < dn
   ·obtain ⟨b, off, x, rfl, hbw, hx, c0⟩ := (HA.out.wids.on HBX.out).int_ hlt
    have HXX := Lib.hid hx
    have i1 : (0 : Int) ≤ (k : Int) := by omega
    have i2 : (k : Int) < (dn : Int) := by omega
    replace c0 := c0
    clear hx
    by_cases hin : 0 ≤ x ∧ x ≤ 500
    ·have HE : Hid (∀ (j : Nat) (x : Int), j < k + 1 → p.widths[j]? = some x → 0 ≤ x ∧ x ≤ 500) := fun j x' hj hx' => by
      by_cases ej : j = k
      ·subst ej
       rw [HXX.out] at hx'
       rw [← Option.some.inj hx']
       exact hin
      ·exact hall.out j x' (by omega) hx'
     obtain ⟨q1, q2⟩ := hin
     have q3 : ¬ x < 0 := by omega
     have q4 : ¬ 500 < x := by omega
     go_wp2_with fail
     go_round
     case rel => exact ⟨k + 1, by omega, by go_num, HE⟩
     case measure => simp [intOf]; omega
    ·have HE : Hid (widthsE p = 3) := widths_at HDL.out HXX.out (by omega)
     by_cases q : x < 0
     ·clear hin
      go_wp2_with fail
      go_ret
      exact ⟨by rw [HE.out]; rfl, HBX.out⟩
     ·have q2 : 500 < x := by omega
      clear hin
      go_wp2_with fail
      go_ret
      exact ⟨by rw [HE.out]; rfl, HBX.out⟩
   ·obtain rfl : dn = k := by omega
    have HE : Hid (widthsE p = 0) := widths_ok HDL.out fun j x hx => hall.out j x (by have := (List.getElem?_eq_some_iff.1 hx).1; rw [HL.out.2] at this; exact this) hx
    go_wp2_with fail
    go_ret
    exact ⟨by rw [HE.out]; rfl, HBX.out⟩
 ·have HE : Hid (widthsE p = 1) := widths_len (by rw [HL.out.1, HL.out.2]; exact hdl)
  have hdl' : ((dn : Int) != (en : Int)) = true := by simp; omega
  clear hdl
  go_enter Tryz.func119, Tryz.ntmps119
  go_wp2_with fail
  go_ret
  exact ⟨by rw [HE.out]; rfl, HBX.out⟩
set_option maxRecDepth 100000 in
set_option maxHeartbeats 6400000 in
theorem rinside_any (s : PStyle) (Z : Option Addr) (z zc : Nat) (M : Option Addr) (m mc : Nat) (P : Option Addr) (p pc : Nat) (U : Option Addr) (u uc : Nat) (E : Option Addr) (e ec : Nat) (O : Option Addr) (o oc : Nat) (i j : Int) (w : World) (h : StyleA w s Z z zc M m mc P p pc U u uc E e ec O o oc) :
  Calls Tryz.prog 120 #[.agg #[.string s.name, .slice Z z zc, .slice M m mc, .slice P p pc, .slice U u uc, .slice E e ec, .slice O o oc], .int .i64 i, .int .i64 j] w fun e w' => e = .returned (.bool (isEdgeP s i j)) ∧ Below w.heap.size w w' := by
 have HB : Hid (Below w.heap.size w (w.alloc (.cells #[.string s.name, .slice Z z zc, .slice M m mc, .slice P p pc, .slice U u uc, .slice E e ec, .slice O o oc] 29))) := (Below.refl _ _).alloc (Nat.le_refl _) _
 have HL := Lib.hid h.pieces.len
 have HP := Lib.hid h.pieces
 clear h
 by_cases h0 : 0 ≤ i
 ·by_cases h1 : i < (p : Int)
  ·obtain ⟨k, rfl⟩ : ∃ k : Nat, i = (k : Int) := ⟨i.toNat, by omega⟩
   have hk : k < p := by omega
   obtain ⟨b, off, x, A, n, c, q1, q2, q3, q4, q5, q6, q7, q8, q9, rfl, hbw, hx, c0, c1, c2, c3, c4, c5, c6, r1, r2, r3, r4, r5, r6, r7, r8⟩ := piece_cells HP.out hk
   have HE : Hid (isEdgeP s (k : Int) j = (decide (0 ≤ j) && decide (j < (n : Int)))) := by rw [Hid, isEdge_eq rfl hx, r1.len]
   have hlt : b < w.heap.size + 1 := by omega
   clear hx c0 c2 c3 c4 c5 c6 r1 r2 r3 r4 r5 r6 r7 r8
   by_cases h2 : 0 ≤ j
   ·have HF : Hid (isEdgeP s (k : Int) j = decide (j < (n : Int))) := by rw [Hid, HE.out, decide_eq_true h2]; rfl
    go_enter Tryz.func120, Tryz.ntmps120
    go_wp2
    go_ret
    exact ⟨by rw [HF.out]; rfl, HB.out⟩
   ·have HF : Hid (isEdgeP s (k : Int) j = false) := by rw [Hid, HE.out, decide_eq_false h2]; rfl
    go_enter Tryz.func120, Tryz.ntmps120
    go_wp2
    go_ret
    exact ⟨by rw [HF.out]; rfl, HB.out⟩
  ·have HF : Hid (isEdgeP s i j = false) := isEdge_out (by rw [HL.out]; omega)
   go_enter Tryz.func120, Tryz.ntmps120
   go_wp2
   go_ret
   exact ⟨by rw [HF.out]; rfl, HB.out⟩
 ·have HF : Hid (isEdgeP s i j = false) := isEdge_out (by omega)
  go_enter Tryz.func120, Tryz.ntmps120
  go_wp2
  go_ret
  exact ⟨by rw [HF.out]; rfl, HB.out⟩
end
section
open Go.RowKit
open Go.Lib hiding intOf
theorem done_yes {ps : List PScan} {j : Nat} {y : PScan} {t op : Int} (h : ps[j]? = some y) (h1 : y.ticket = t) (h2 : y.op = op) : doneB ps t op = true := by
 unfold doneB
 rw [List.any_eq_true]
 exact ⟨y, List.mem_of_getElem? h, by simp [h1, h2]⟩
theorem done_no {ps : List PScan} {t op : Int} (h : ∀ (j : Nat) (y : PScan), ps[j]? = some y → ¬ (y.ticket = t ∧ y.op = op)) : doneB ps t op = false := by
 unfold doneB
 rw [List.any_eq_false]
 intro y hy
 obtain ⟨j, hj⟩ := List.getElem?_of_mem hy
 have := h j y hj
 simpa using this
set_option maxRecDepth 100000 in
set_option maxHeartbeats 3200000 in
theorem rdone_any (A : Option Addr) (n c : Nat) (ps : List PScan) (t op : Int) (w : World) (h : Recs 4 scanG w A n ps) (hn : n ≤ 1000000) :
  Calls Tryz.prog 28 #[.slice A n c, .int .i64 t, .int .i64 op] w fun e w' => e = .returned (.bool (doneB ps t op)) ∧ w = w' := by
 have HA := Lib.hid h
 have HL := Lib.hid h.len
 clear h
 obtain ⟨r, hr⟩ : ∃ r, doneB ps t op = r := ⟨_, rfl⟩
 rw [hr]
 have HR := Lib.hid hr
 clear hr
 go_enter Tryz.func28, Tryz.ntmps28
 go_wp2
 go_loop [7] (fun v => ∃ k : Nat, k ≤ n ∧ v = .int .i64 (k : Int) ∧ Hid (∀ (j : Nat) (y : PScan), j < k → ps[j]? = some y → ¬ (y.ticket = t ∧ y.op = op))) (fun v => n - (intOf v).toNat)
 case atStart => exact ⟨0, Nat.zero_le _, rfl, fun j y h => by omega⟩
 case round =>
  obtain ⟨k, hk, rfl, hne⟩ := hrel
  by_cases hlt : k < n
  ·obtain ⟨b, off, y, rfl, hbw, hy, c0, c1, c2, c3⟩ := scan_at HA.out hlt
   obtain ⟨yt, hyt⟩ : ∃ z, y.ticket = z := ⟨_, rfl⟩
   obtain ⟨yo, hyo⟩ : ∃ z, y.op = z := ⟨_, rfl⟩
   rw [hyt] at c0
   rw [hyo] at c1
   have HY := Lib.hid (And.intro hy (And.intro hyt hyo))
   have i1 : (0 : Int) ≤ (k : Int) := by omega
   have i2 : (k : Int) < (n : Int) := by omega
   clear hy hyt hyo
   have hgo : ∀ (hx : ¬ (yt = t ∧ yo = op)), Hid (∀ (j : Nat) (y : PScan), j < k + 1 → ps[j]? = some y → ¬ (y.ticket = t ∧ y.op = op)) := fun hx j y' hj hy' => by
    by_cases e : j = k
    ·subst e
     rw [HY.out.1] at hy'
     rw [← Option.some.inj hy', HY.out.2.1, HY.out.2.2]
     exact hx
    ·exact hne.out j y' (by omega) hy'
   by_cases h1 : yt = t
   ·have h1' : (yt == t) = true := by simpa using h1
    by_cases h2 : yo = op
    ·have h2' : (yo == op) = true := by simpa using h2
     have HE : Hid (r = true) := HR.out.symm.trans (done_yes HY.out.1 (HY.out.2.1.trans h1) (HY.out.2.2.trans h2))
     clear h1 h2 hgo
     go_wp2
     go_ret
     exact ⟨by rw [HE.out]; rfl, rfl⟩
    ·have h2' : (yo == op) = false := by simpa using h2
     have HZ := hgo (fun e => h2 e.2)
     clear h1 h2 hgo
     go_wp2
     go_round
     case rel => exact ⟨k + 1, by omega, by go_num, HZ⟩
     case measure => simp [intOf]; omega
   ·have h1' : (yt == t) = false := by simpa using h1
    have HZ := hgo (fun e => h1 e.1)
    clear h1 hgo
    go_wp2
    go_round
    case rel => exact ⟨k + 1, by omega, by go_num, HZ⟩
    case measure => simp [intOf]; omega
  ·obtain rfl : n = k := by omega
   have HE : Hid (r = false) := HR.out.symm.trans (done_no fun j y hj => hne.out j y (by have := (List.getElem?_eq_some_iff.1 hj).1; rw [HL.out] at this; exact this) hj)
   go_wp2
   go_ret
   exact ⟨by rw [HE.out]; rfl, rfl⟩
set_option maxRecDepth 100000 in
set_option maxHeartbeats 3200000 in
theorem rlast_any (A : Option Addr) (n c : Nat) (ps : List PScan) (t : Int) (w : World) (h : Recs 4 scanG w A n ps) (hn : n ≤ 1000000) :
  Calls Tryz.prog 43 #[.slice A n c, .int .i64 t] w fun e w' => e = .returned (.int .i64 (lastP ps t)) ∧ w = w' := by
 have HA := Lib.hid h
 have HL := Lib.hid h.len
 clear h
 go_enter Tryz.func43, Tryz.ntmps43
 go_wp2
 go_loop [5, 6] (fun a v => ∃ (k : Nat) (z : Int), k ≤ n ∧ a = .int .i64 z ∧ v = .int .i64 (k : Int) ∧ Hid (z = lastP (ps.take k) t)) (fun _ v => n - (intOf v).toNat)
 case atStart => exact ⟨0, 0, Nat.zero_le _, rfl, rfl, rfl⟩
 case round =>
  obtain ⟨k, z, hk, rfl, rfl, hz⟩ := hrel
  by_cases hlt : k < n
  ·obtain ⟨b, off, y, rfl, hbw, hy, c0, c1, c2, c3⟩ := scan_at HA.out hlt
   have hls := last_snoc (ps.take k) y t
   rw [show ps.take k ++ [y] = ps.take (k + 1) by rw [List.take_add_one, hy]; rfl, ← hz.out] at hls
   obtain ⟨yt, hyt⟩ : ∃ z, y.ticket = z := ⟨_, rfl⟩
   obtain ⟨ya, hya⟩ : ∃ z, y.at_ = z := ⟨_, rfl⟩
   rw [hyt] at c0 hls
   rw [hya] at c3 hls
   have HLS := Lib.hid hls
   have i1 : (0 : Int) ≤ (k : Int) := by omega
   have i2 : (k : Int) < (n : Int) := by omega
   clear hy hyt hya hls
   by_cases h1 : yt = t
   ·have h1' : (yt == t) = true := by simpa using h1
    have HZ : Hid (ya = lastP (ps.take (k + 1)) t) := by rw [Hid, HLS.out, if_pos h1]
    clear h1
    go_wp2
    go_round
    case rel => exact ⟨k + 1, ya, by omega, rfl, by go_num, HZ⟩
    case measure => simp [intOf]; omega
   ·have h1' : (yt == t) = false := by simpa using h1
    have HZ : Hid (z = lastP (ps.take (k + 1)) t) := by rw [Hid, HLS.out, if_neg h1]
    clear h1
    go_wp2
    go_round
    case rel => exact ⟨k + 1, z, by omega, rfl, by go_num, HZ⟩
    case measure => simp [intOf]; omega
  ·obtain rfl : n = k := by omega
   have HE : Hid (lastP ps t = z) := by rw [Hid, hz.out, List.take_of_length_le (by rw [HL.out]; exact Nat.le_refl _)]
   go_wp2
   go_ret
   exact ⟨by rw [HE.out]; rfl, rfl⟩
set_option maxRecDepth 100000 in
set_option maxHeartbeats 6400000 in
theorem rearly_any (F : FH) (s : PStyle) (bs : List PBundle) (ws : List PWorker) (A : Option Addr) (n c : Nat) (ps : List PScan) (x : PScan) (k : Nat) (o : POp) (w : World) (h : FloorA w s bs ws F) (hs : FloorS s ws) (hp : Recs 4 scanG w A n ps) (hn : n ≤ 1000) (hk : x.op = (k : Int)) (ho : s.ops[k]? = some o) :
  Calls Tryz.prog 42 #[.agg #[.string s.name, .slice F.Z F.z F.zc, .slice F.M F.m F.mc, .slice F.P F.p F.pc, .slice F.U F.u F.uc, .slice F.E F.e F.ec, .slice F.O F.o F.oc], .slice A n c, .agg #[.int .i64 x.ticket, .int .i64 x.op, .int .i64 x.worker, .int .i64 x.at_]] w fun e w' => e = .returned (.bool (!(o.after.all fun a => doneB ps x.ticket a))) ∧ Below w.heap.size w w' := by
 have HBX : Hid (Below w.heap.size w ((w.alloc (.cells #[.string s.name, .slice F.Z F.z F.zc, .slice F.M F.m F.mc, .slice F.P F.p F.pc, .slice F.U F.u F.uc, .slice F.E F.e F.ec, .slice F.O F.o F.oc] 29)).alloc (.cells #[.int .i64 x.ticket, .int .i64 x.op, .int .i64 x.worker, .int .i64 x.at_] 55))) := ((Below.refl _ _).alloc (Nat.le_refl _) _).alloc (by simp) _
 have HX := Lib.hid ((Blk.new w 29 #[.string s.name, .slice F.Z F.z F.zc, .slice F.M F.m F.mc, .slice F.P F.p F.pc, .slice F.U F.u F.uc, .slice F.E F.e F.ec, .slice F.O F.o F.oc]).alloc (.cells #[.int .i64 x.ticket, .int .i64 x.op, .int .i64 x.worker, .int .i64 x.at_] 55))
 have HY := Lib.hid (Blk.new' (w.alloc (.cells #[.string s.name, .slice F.Z F.z F.zc, .slice F.M F.m F.mc, .slice F.P F.p F.pc, .slice F.U F.u F.uc, .slice F.E F.e F.ec, .slice F.O F.o F.oc] 29)) 55 #[.int .i64 x.ticket, .int .i64 x.op, .int .i64 x.worker, .int .i64 x.at_] (g := w.heap.size + 1) (by simp))
 have hko : k < F.o := by have := (List.getElem?_eq_some_iff.1 ho).1; rw [h.st.ops.len] at this; exact this
 obtain ⟨b, off, o', B, an, ac, C, un, uc, hO, hbw, ho', c0, c1, c2, c3, c4, s1, s2, s3, s4⟩ := op_at h.st.ops hko
 rw [ho] at ho'
 obtain rfl := Option.some.inj ho'
 have ha1 : an ≤ 1000 := by rw [← s1.ilen]; exact (hs.st.op o (List.mem_of_getElem? ho)).aft
 have HC3 := Lib.hid (And.intro hbw c3)
 have HS1 := Lib.hid s1
 have HAL := Lib.hid s1.ilen
 have HPS := Lib.hid hp
 obtain ⟨r, hr⟩ : ∃ r, (!(o.after.all fun a => doneB ps x.ticket a)) = r := ⟨_, rfl⟩
 rw [hr]
 have HR := Lib.hid hr
 rw [hk] at HX HY HBX ⊢
 rw [hO] at HX HY HBX ⊢
 have i1 : (0 : Int) ≤ (k : Int) := by omega
 have i2 : (k : Int) < (F.o : Int) := by omega
 clear h hs hp hk ho ho' c0 c1 c2 c3 c4 s1 s2 s3 s4 hr
 go_enter Tryz.func42, Tryz.ntmps42
 go_wp2_with fail
 go_loopw [7] (fun i wr => ∃ q : Nat, q ≤ an ∧ i = .int .i64 (q : Int) ∧ Hid (∀ (j : Nat) (a : Int), j < q → o.after[j]? = some a → doneB ps x.ticket a = true) ∧ Hid (Below w.heap.size w wr) ∧ Hid (Blk wr w.heap.size 29 #[.string s.name, .slice F.Z F.z F.zc, .slice F.M F.m F.mc, .slice F.P F.p F.pc, .slice F.U F.u F.uc, .slice F.E F.e F.ec, .slice (some ⟨b, off, none⟩) F.o F.oc]) ∧ Hid (Blk wr (w.heap.size + 1) 55 #[.int .i64 x.ticket, .int .i64 (k : Int), .int .i64 x.worker, .int .i64 x.at_])) (fun i _ => an - (intOf i).toNat)
 case atStart => exact ⟨0, Nat.zero_le _, rfl, (fun j a h => by omega), HBX, HX, HY⟩
 case round =>
  obtain ⟨q, hq, rfl, hall, HB, HXr, HYr⟩ := hrel
  have x6 := HXr.out.c (i := 6) rfl
  obtain ⟨y0, y1, y2, y3⟩ := four_box HYr.out
  have c3 := (HB.out.cell (p := ⟨b, off + k * 5 + 3, none⟩) HC3.out.1).trans HC3.out.2
  by_cases hqt : q < an
  ·obtain ⟨b2, off2, a, rfl, hbw2, ha, d0⟩ := (HS1.out.on HB.out).int_ hqt
   have HAA := Lib.hid ha
   have hD := fun W (hb : Below wr.heap.size wr W) => rdone_any A n c ps x.ticket a W (HPS.out.on scan_mono (HB.out.trans (hb.mono HB.out.size))) (by omega)
   obtain ⟨t, ht⟩ : ∃ t, doneB ps x.ticket a = t := ⟨_, rfl⟩
   simp only [ht] at hD
   have HD := Lib.hid hD
   have HT := Lib.hid ht
   have hb3 := Nat.lt_of_lt_of_le HC3.out.1 HB.out.size
   have HK := fun W => Lib.hid (fun (hb : Below wr.heap.size wr W) => And.intro ((HXr.out.below hb).c (i := 6) rfl) (And.intro (And.intro ((HYr.out.below hb).c (i := 0) rfl) ((HYr.out.below hb).c (i := 1) rfl)) (And.intro ((hb.cell (p := ⟨b, off + k * 5 + 3, none⟩) hb3).trans c3) ((hb.cell (p := ⟨b2, off2 + q, none⟩) hbw2).trans d0))))
   have j1 : (0 : Int) ≤ (q : Int) := by omega
   have j2 : (q : Int) < (an : Int) := by omega
   clear ha hD ht
   cases t
   ·have HE : Hid (r = true) := by rw [Hid, ← HR.out, after_no HAA.out HT.out]; rfl
    go_wp2_with fail
    go_region_held3 (fun w' => w'.cell? ⟨w.heap.size, 6, none⟩ = some (.slice (some ⟨b, off, none⟩) F.o F.oc) ∧ (w'.cell? ⟨w.heap.size + 1, 0, none⟩ = some (.int .i64 x.ticket) ∧ w'.cell? ⟨w.heap.size + 1, 1, none⟩ = some (.int .i64 (k : Int))) ∧ w'.cell? ⟨b, off + k * 5 + 3, none⟩ = some (.slice (some ⟨b2, off2, none⟩) an ac) ∧ w'.cell? ⟨b2, off2 + q, none⟩ = some (.int .i64 a))
     ((refine (HK _).out ?_; repeat (first | (with_reducible exact Below.refl _ _) | (with_reducible refine Below.drew ?_))))
     ((go_at_call 28; go_must ((refine (HD.out _ (by repeat (first | (with_reducible exact Below.refl _ _) | (with_reducible refine Below.drew ?_)))).mono ?_); rintro e w6 ⟨rfl, rfl⟩)))
    go_wp2_with fail
    go_ret
    exact ⟨by rw [HE.out]; rfl, below_drewN HB.out _⟩
   ·have HZ : Hid (∀ (j : Nat) (a : Int), j < q + 1 → o.after[j]? = some a → doneB ps x.ticket a = true) := fun j a' hj ha' => by
     by_cases e : j = q
     ·subst e
      rw [HAA.out] at ha'
      rw [← Option.some.inj ha']
      exact HT.out
     ·exact hall.out j a' (by omega) ha'
    go_wp2_with fail
    go_region_held3 (fun w' => w'.cell? ⟨w.heap.size, 6, none⟩ = some (.slice (some ⟨b, off, none⟩) F.o F.oc) ∧ (w'.cell? ⟨w.heap.size + 1, 0, none⟩ = some (.int .i64 x.ticket) ∧ w'.cell? ⟨w.heap.size + 1, 1, none⟩ = some (.int .i64 (k : Int))) ∧ w'.cell? ⟨b, off + k * 5 + 3, none⟩ = some (.slice (some ⟨b2, off2, none⟩) an ac) ∧ w'.cell? ⟨b2, off2 + q, none⟩ = some (.int .i64 a))
     ((refine (HK _).out ?_; repeat (first | (with_reducible exact Below.refl _ _) | (with_reducible refine Below.drew ?_))))
     ((go_at_call 28; go_must ((refine (HD.out _ (by repeat (first | (with_reducible exact Below.refl _ _) | (with_reducible refine Below.drew ?_)))).mono ?_); rintro e w6 ⟨rfl, rfl⟩)))
    go_wp2_with fail
    go_roundw
    case rel => exact ⟨q + 1, by omega, by go_num, HZ, below_drewN HB.out _, HXr, HYr⟩
    case measure => simp [intOf]; omega
  ·obtain rfl : q = an := by omega
   have HE : Hid (r = false) := by rw [Hid, ← HR.out, after_yes fun j a hj => hall.out j a (by have := (List.getElem?_eq_some_iff.1 hj).1; rw [HAL.out] at this; exact this) hj]; rfl
   go_wp2_with fail
   go_ret
   exact ⟨by rw [HE.out]; rfl, HB.out⟩
set_option maxRecDepth 100000 in
set_option maxHeartbeats 12800000 in
theorem routcome_any (F : FH) (s : PStyle) (bs : List PBundle) (ws : List PWorker) (A : Option Addr) (n c : Nat) (ps : List PScan) (x : PScan) (w : World) (h : FloorA w s bs ws F) (hs : FloorS s ws) (hp : Recs 4 scanG w A n ps) (hn : n ≤ 1000) (hbn : F.n ≤ 1000) :
  Calls Tryz.prog 24 #[.agg #[.string s.name, .slice F.Z F.z F.zc, .slice F.M F.m F.mc, .slice F.P F.p F.pc, .slice F.U F.u F.uc, .slice F.E F.e F.ec, .slice F.O F.o F.oc], .slice F.L F.n F.c, .slice F.V F.k F.kc, .slice A n c, .agg #[.int .i64 x.ticket, .int .i64 x.op, .int .i64 x.worker, .int .i64 x.at_]] w fun e w' => e = .returned (.int .i64 (outcomeP s bs ws ps x)) ∧ Below w.heap.size w w' := by
 have HBX : Hid (Below w.heap.size w ((w.alloc (.cells #[.string s.name, .slice F.Z F.z F.zc, .slice F.M F.m F.mc, .slice F.P F.p F.pc, .slice F.U F.u F.uc, .slice F.E F.e F.ec, .slice F.O F.o F.oc] 29)).alloc (.cells #[.int .i64 x.ticket, .int .i64 x.op, .int .i64 x.worker, .int .i64 x.at_] 55))) := ((Below.refl _ _).alloc (Nat.le_refl _) _).alloc (by simp) _
 have HX := Lib.hid ((Blk.new w 29 #[.string s.name, .slice F.Z F.z F.zc, .slice F.M F.m F.mc, .slice F.P F.p F.pc, .slice F.U F.u F.uc, .slice F.E F.e F.ec, .slice F.O F.o F.oc]).alloc (.cells #[.int .i64 x.ticket, .int .i64 x.op, .int .i64 x.worker, .int .i64 x.at_] 55))
 have HY := Lib.hid (Blk.new' (w.alloc (.cells #[.string s.name, .slice F.Z F.z F.zc, .slice F.M F.m F.mc, .slice F.P F.p F.pc, .slice F.U F.u F.uc, .slice F.E F.e F.ec, .slice F.O F.o F.oc] 29)) 55 #[.int .i64 x.ticket, .int .i64 x.op, .int .i64 x.worker, .int .i64 x.at_] (g := w.heap.size + 1) (by simp))
 have hBU := fun W (hb : Below w.heap.size w W) => rbundle_any F.L F.n F.c F.n bs x.ticket W (h.bun.on bundle_mono hb) (Nat.le_refl _) (by omega)
 rw [List.take_of_length_le (by rw [h.bun.len]; exact Nat.le_refl _)] at hBU
 have HL := Lib.hid (And.intro h.st.ops.len h.wor.len)
 have HA := Lib.hid h
 have HSS := Lib.hid hs
 have HPS := Lib.hid hp
 obtain ⟨R, hR⟩ : ∃ r, outcomeP s bs ws ps x = r := ⟨_, rfl⟩
 rw [hR]
 have HR := Lib.hid hR
 clear h hs hp hR
 by_cases hkn : knownB s bs ws x
 ·obtain ⟨k1, k2, k3, k4, k5, k6, k7⟩ := hkn
  obtain ⟨k, hk⟩ : ∃ k : Nat, x.op = (k : Int) := ⟨x.op.toNat, by omega⟩
  obtain ⟨v, hv⟩ : ∃ v : Nat, x.worker = (v : Int) := ⟨x.worker.toNat, by omega⟩
  have hko : k < F.o := by rw [← HL.out.1]; omega
  have hvk : v < F.k := by rw [← HL.out.2]; omega
  obtain ⟨b, off, o, B, an, ac, C, un, uc, hO, hbw, ho, c0, c1, c2, c3, c4, s1, s2, s3, s4⟩ := op_at HA.out.st.ops hko
  obtain ⟨b2, off2, y, B2, m2, d2, hV, hbw2, hy, d0, d1, r1, r2⟩ := worker_at HA.out.wor hvk
  have HOUT : Hid (R = if canB y o.machine = false then 4 else if doneB ps x.ticket x.op = true then 2 else if (o.after.all fun a => doneB ps x.ticket a) = false then 5 else if x.at_ < lastP ps x.ticket then 6 else 1) := HR.out.symm.trans (out_known ⟨k1, k2, k3, k4, k5, k6, k7⟩ (by rw [hk, Int.toNat_natCast]; exact ho) (by rw [hv, Int.toNat_natCast]; exact hy))
  have hm2 : m2 ≤ 1000 := by rw [← r1.ilen]; exact (HSS.out.wor y (List.mem_of_getElem? hy)).mac
  have hCAN := fun W (hb : Below w.heap.size w W) => rcan_any y B2 m2 d2 o.machine W (r1.on hb) hm2
  have hDON := fun W (hb : Below w.heap.size w W) => rdone_any A n c ps x.ticket x.op W (HPS.out.on scan_mono hb) (by omega)
  have hEAR := fun W (hb : Below w.heap.size w W) => rearly_any F s bs ws A n c ps x k o W (HA.out.on hb) HSS.out (HPS.out.on scan_mono hb) hn hk ho
  have HLAS := Lib.hid (fun W (hb : Below w.heap.size w W) => rlast_any A n c ps x.ticket W (HPS.out.on scan_mono hb) (by omega))
  have HW := Lib.hid (And.intro (And.intro hbw (And.intro c1 c3)) (And.intro hbw2 (And.intro d0 d1)))
  simp only [decide_eq_true k1] at hBU
  obtain ⟨mach, hmach⟩ : ∃ z, o.machine = z := ⟨_, rfl⟩
  obtain ⟨can, hcan⟩ : ∃ b, canB y mach = b := ⟨_, rfl⟩
  obtain ⟨don, hdon⟩ : ∃ b, doneB ps x.ticket x.op = b := ⟨_, rfl⟩
  obtain ⟨al, hal⟩ : ∃ b, (o.after.all fun a => doneB ps x.ticket a) = b := ⟨_, rfl⟩
  simp only [hmach] at hCAN
  simp only [hcan] at hCAN
  simp only [hdon] at hDON
  simp only [hal] at hEAR
  rw [hmach, hcan, hdon, hal] at HOUT
  rw [hmach] at HW
  obtain ⟨xt, hxt⟩ : ∃ z, x.ticket = z := ⟨_, rfl⟩
  obtain ⟨xa, hxa⟩ : ∃ z, x.at_ = z := ⟨_, rfl⟩
  obtain ⟨la, hla⟩ : ∃ z, lastP ps x.ticket = z := ⟨_, rfl⟩
  rw [hla] at HOUT HLAS
  rw [hk] at hDON
  rw [hk, hv] at HX HY HBX hEAR ⊢
  rw [hxt] at HX HY HBX hEAR hDON HLAS hBU ⊢
  rw [hxa] at HX HY HBX hEAR k6 k7 HOUT ⊢
  rw [hO] at HX HY HBX hEAR ⊢
  rw [hV] at ⊢
  have HBU := Lib.hid hBU
  have HCAN := Lib.hid hCAN
  have HDON := Lib.hid hDON
  have HEAR := Lib.hid hEAR
  have i1 : (0 : Int) ≤ (k : Int) := by omega
  have i2 : (k : Int) < (F.o : Int) := by omega
  have i3 : ¬ (k : Int) < 0 := by omega
  have i4 : ¬ (F.o : Int) ≤ (k : Int) := by omega
  have i5 : (0 : Int) ≤ (v : Int) := by omega
  have i6 : (v : Int) < (F.k : Int) := by omega
  have i7 : ¬ (v : Int) < 0 := by omega
  have i8 : ¬ (F.k : Int) ≤ (v : Int) := by omega
  have i9 : ¬ xa < 0 := by omega
  have i10 : ¬ 1073741824 < xa := by omega
  have HK := fun W => Lib.hid (fun (hb : Below ((w.alloc (.cells #[.string s.name, .slice F.Z F.z F.zc, .slice F.M F.m F.mc, .slice F.P F.p F.pc, .slice F.U F.u F.uc, .slice F.E F.e F.ec, .slice (some ⟨b, off, none⟩) F.o F.oc] 29)).alloc (.cells #[.int .i64 xt, .int .i64 (k : Int), .int .i64 (v : Int), .int .i64 xa] 55)).heap.size ((w.alloc (.cells #[.string s.name, .slice F.Z F.z F.zc, .slice F.M F.m F.mc, .slice F.P F.p F.pc, .slice F.U F.u F.uc, .slice F.E F.e F.ec, .slice (some ⟨b, off, none⟩) F.o F.oc] 29)).alloc (.cells #[.int .i64 xt, .int .i64 (k : Int), .int .i64 (v : Int), .int .i64 xa] 55)) W) => And.intro (seven (HX.out.below hb)) (And.intro (four_box (HY.out.below hb)) (And.intro (((HBX.out.trans (hb.mono HBX.out.size)).cell (p := ⟨b, off + k * 5 + 1, none⟩) HW.out.1.1).trans HW.out.1.2.1) (And.intro (((HBX.out.trans (hb.mono HBX.out.size)).cell (p := ⟨b2, off2 + v * 2, none⟩) HW.out.2.1).trans HW.out.2.2.1) (((HBX.out.trans (hb.mono HBX.out.size)).cell (p := ⟨b2, off2 + v * 2 + 1, none⟩) HW.out.2.1).trans HW.out.2.2.2)))))
  clear k1 k2 k3 k4 k5 k6 k7 hk hv hko hvk hbw ho c0 c1 c2 c3 c4 s1 s2 s3 s4 hbw2 hy d0 d1 r1 r2 hCAN hDON hEAR hBU hmach hcan hdon hal hxt hxa hla hm2 hO hV
  have hq := Below.refl ((w.alloc (.cells #[.string s.name, .slice F.Z F.z F.zc, .slice F.M F.m F.mc, .slice F.P F.p F.pc, .slice F.U F.u F.uc, .slice F.E F.e F.ec, .slice (some ⟨b, off, none⟩) F.o F.oc] 29)).alloc (.cells #[.int .i64 xt, .int .i64 (k : Int), .int .i64 (v : Int), .int .i64 xa] 55)).heap.size ((w.alloc (.cells #[.string s.name, .slice F.Z F.z F.zc, .slice F.M F.m F.mc, .slice F.P F.p F.pc, .slice F.U F.u F.uc, .slice F.E F.e F.ec, .slice (some ⟨b, off, none⟩) F.o F.oc] 29)).alloc (.cells #[.int .i64 xt, .int .i64 (k : Int), .int .i64 (v : Int), .int .i64 xa] 55))
  go_enter Tryz.func24, Tryz.ntmps24
  go_wp2_with (go_at_call 27; refine (HBU.out _ HBX.out).mono ?_; rintro e w1 ⟨rfl, rfl⟩)
  obtain ⟨⟨x0, x1, x2, x3, x4, x5, x6⟩, ⟨y0, y1, y2, y3⟩, z0, z1, z2⟩ := (HK _).out hq
  go_region_held3 (fun w' => (w'.cell? ⟨w.heap.size, 0, none⟩ = some (.string s.name) ∧ w'.cell? ⟨w.heap.size, 1, none⟩ = some (.slice F.Z F.z F.zc) ∧ w'.cell? ⟨w.heap.size, 2, none⟩ = some (.slice F.M F.m F.mc) ∧ w'.cell? ⟨w.heap.size, 3, none⟩ = some (.slice F.P F.p F.pc) ∧ w'.cell? ⟨w.heap.size, 4, none⟩ = some (.slice F.U F.u F.uc) ∧ w'.cell? ⟨w.heap.size, 5, none⟩ = some (.slice F.E F.e F.ec) ∧ w'.cell? ⟨w.heap.size, 6, none⟩ = some (.slice (some ⟨b, off, none⟩) F.o F.oc)) ∧ (w'.cell? ⟨w.heap.size + 1, 0, none⟩ = some (.int .i64 xt) ∧ w'.cell? ⟨w.heap.size + 1, 1, none⟩ = some (.int .i64 (k : Int)) ∧ w'.cell? ⟨w.heap.size + 1, 2, none⟩ = some (.int .i64 (v : Int)) ∧ w'.cell? ⟨w.heap.size + 1, 3, none⟩ = some (.int .i64 xa)) ∧ w'.cell? ⟨b, off + k * 5 + 1, none⟩ = some (.int .i64 mach) ∧ w'.cell? ⟨b2, off2 + v * 2, none⟩ = some (.string y.name) ∧ w'.cell? ⟨b2, off2 + v * 2 + 1, none⟩ = some (.slice B2 m2 d2))
   ((refine (HK _).out ?_; repeat (first | (with_reducible exact Below.refl _ _) | (with_reducible exact hq) | (with_reducible refine Below.drew ?_))))
   ((go_at_call 41; go_must ((refine (HCAN.out _ (by repeat (first | (with_reducible exact HBX.out) | (with_reducible refine Below.drew ?_)))).mono ?_); rintro e w6 ⟨rfl, hv⟩; replace hq := below_then hq hv; clear hv)))
  clear x0 x1 x2 x3 x4 x5 x6 y0 y1 y2 y3 z0 z1 z2
  have HQ := Lib.hid hq
  have HBQ := Lib.hid (HBX.out.trans (hq.mono HBX.out.size))
  obtain ⟨⟨x0, x1, x2, x3, x4, x5, x6⟩, ⟨y0, y1, y2, y3⟩, z0, z1, z2⟩ := (HK _).out hq
  clear hq
  cases can
  ·have HE : Hid (R = 4) := by rw [Hid, HOUT.out]; rfl
   go_wp2_with fail
   go_ret
   exact ⟨by rw [HE.out]; rfl, HBQ.out⟩
  cases don
  rotate_left
  ·have HE : Hid (R = 2) := by rw [Hid, HOUT.out]; rfl
   go_wp2_with (go_at_call 28; refine (HDON.out _ HBQ.out).mono ?_; rintro e w7 ⟨rfl, rfl⟩)
   go_ret
   exact ⟨by rw [HE.out]; rfl, HBQ.out⟩
  go_wp2_with (go_at_call 28; refine (HDON.out _ HBQ.out).mono ?_; rintro e w7 ⟨rfl, rfl⟩)
  refine (HEAR.out _ HBQ.out).mono ?_
  rintro e w8 ⟨rfl, hv8⟩
  have HQ8 := Lib.hid (below_then HQ.out hv8)
  have HB8 := Lib.hid (HBQ.out.trans (hv8.mono HBQ.out.size))
  clear hv8 x0 x1 x2 x3 x4 x5 x6 y0 y1 y2 y3 z0 z1 z2
  obtain ⟨⟨x0, x1, x2, x3, x4, x5, x6⟩, ⟨y0, y1, y2, y3⟩, z0, z1, z2⟩ := (HK _).out HQ8.out
  cases al
  ·have HE : Hid (R = 5) := by rw [Hid, HOUT.out]; rfl
   go_wp2_with fail
   go_ret
   exact ⟨by rw [HE.out]; rfl, HB8.out⟩
  by_cases hlt : xa < la
  ·have HE : Hid (R = 6) := by rw [Hid, HOUT.out, if_neg (by decide), if_neg (by decide), if_neg (by decide), if_pos hlt]
   go_wp2_with fail
   go_region_held3 (fun w' => w'.cell? ⟨w.heap.size + 1, 0, none⟩ = some (.int .i64 xt) ∧ w'.cell? ⟨w.heap.size + 1, 3, none⟩ = some (.int .i64 xa))
    ((exact ⟨y0, y3⟩))
    ((go_at_call 43; go_must ((refine (HLAS.out _ (by repeat (first | (with_reducible exact HB8.out) | (with_reducible refine Below.drew ?_)))).mono ?_); rintro e w6 ⟨rfl, rfl⟩)))
   go_wp2_with fail
   go_ret
   exact ⟨by rw [HE.out]; rfl, below_drewN HB8.out _⟩
  ·have HE : Hid (R = 1) := by rw [Hid, HOUT.out, if_neg (by decide), if_neg (by decide), if_neg (by decide), if_neg hlt]
   go_wp2_with fail
   go_region_held3 (fun w' => w'.cell? ⟨w.heap.size + 1, 0, none⟩ = some (.int .i64 xt) ∧ w'.cell? ⟨w.heap.size + 1, 3, none⟩ = some (.int .i64 xa))
    ((exact ⟨y0, y3⟩))
    ((go_at_call 43; go_must ((refine (HLAS.out _ (by repeat (first | (with_reducible exact HB8.out) | (with_reducible refine Below.drew ?_)))).mono ?_); rintro e w6 ⟨rfl, rfl⟩)))
   go_wp2_with fail
   go_ret
   exact ⟨by rw [HE.out]; rfl, below_drewN HB8.out _⟩
 ·have HE : Hid (R = 3) := HR.out.symm.trans (out_unknown hkn)
  obtain ⟨bu, hbu⟩ : ∃ b, decide (x.ticket ∈ bs.map (·.ticket)) = b := ⟨_, rfl⟩
  simp only [hbu] at hBU
  have HBU := Lib.hid hBU
  clear hBU
  cases bu
  ·go_enter Tryz.func24, Tryz.ntmps24
   go_wp2_with (go_at_call 27; refine (HBU.out _ HBX.out).mono ?_; rintro e w1 ⟨rfl, rfl⟩)
   go_ret
   exact ⟨by rw [HE.out]; rfl, HBX.out⟩
  have hbad : x.op < 0 ∨ (F.o : Int) ≤ x.op ∨ x.worker < 0 ∨ (F.k : Int) ≤ x.worker ∨ x.at_ < 0 ∨ 1073741824 < x.at_ := by
   refine Classical.byContradiction fun hc => hkn ⟨of_decide_eq_true hbu, ?_⟩
   rw [HL.out.1, HL.out.2]
   omega
  obtain ⟨xo, hxo⟩ : ∃ z, x.op = z := ⟨_, rfl⟩
  obtain ⟨xw, hxw⟩ : ∃ z, x.worker = z := ⟨_, rfl⟩
  obtain ⟨xa, hxa⟩ : ∃ z, x.at_ = z := ⟨_, rfl⟩
  rw [hxo, hxw, hxa] at hbad HX HY HBX ⊢
  clear hkn hbu hxo hxw hxa
  by_cases g1 : xo < 0
  ·clear hbad
   go_enter Tryz.func24, Tryz.ntmps24
   go_wp2_with (go_at_call 27; refine (HBU.out _ HBX.out).mono ?_; rintro e w1 ⟨rfl, rfl⟩)
   go_ret
   exact ⟨by rw [HE.out]; rfl, HBX.out⟩
  by_cases g2 : (F.o : Int) ≤ xo
  ·clear hbad
   go_enter Tryz.func24, Tryz.ntmps24
   go_wp2_with (go_at_call 27; refine (HBU.out _ HBX.out).mono ?_; rintro e w1 ⟨rfl, rfl⟩)
   go_ret
   exact ⟨by rw [HE.out]; rfl, HBX.out⟩
  by_cases g3 : xw < 0
  ·clear hbad
   go_enter Tryz.func24, Tryz.ntmps24
   go_wp2_with (go_at_call 27; refine (HBU.out _ HBX.out).mono ?_; rintro e w1 ⟨rfl, rfl⟩)
   go_ret
   exact ⟨by rw [HE.out]; rfl, HBX.out⟩
  by_cases g4 : (F.k : Int) ≤ xw
  ·clear hbad
   go_enter Tryz.func24, Tryz.ntmps24
   go_wp2_with (go_at_call 27; refine (HBU.out _ HBX.out).mono ?_; rintro e w1 ⟨rfl, rfl⟩)
   go_ret
   exact ⟨by rw [HE.out]; rfl, HBX.out⟩
  by_cases g5 : xa < 0
  ·clear hbad
   go_enter Tryz.func24, Tryz.ntmps24
   go_wp2_with (go_at_call 27; refine (HBU.out _ HBX.out).mono ?_; rintro e w1 ⟨rfl, rfl⟩)
   go_ret
   exact ⟨by rw [HE.out]; rfl, HBX.out⟩
  have g6 : 1073741824 < xa := by omega
  clear hbad
  go_enter Tryz.func24, Tryz.ntmps24
  go_wp2_with (go_at_call 27; refine (HBU.out _ HBX.out).mono ?_; rintro e w1 ⟨rfl, rfl⟩)
  go_ret
  exact ⟨by rw [HE.out]; rfl, HBX.out⟩
end
end Go.Proofs.YtiibocdmlfedkaaGreatDoor
