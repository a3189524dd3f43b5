/- Parts of the proof. -/
import Derived.IntWalk
import Derived.Test.YtiibocdmlfedkaaGreatDoorH15
namespace Go.Proofs.YtiibocdmlfedkaaGreatDoor
section
open Go.RowKit
def NatA (w : World) (A : Option Addr) (n c v : Nat) : Prop := ∃ l, Sl w w.heap.size A n (u32s l) ∧ okL l ∧ val l = v ∧ n ≤ c
def nl (v : Nat) : Nat := (limbs v).length
section
variable {w w' : World} {A : Option Addr} {n c v : Nat}
theorem NatA.on (h : NatA w A n c v) (hb : Below w.heap.size w w') : NatA w' A n c v := by
 obtain ⟨l, h1, h2, h3, h4⟩ := h
 exact ⟨l, h1.on hb, h2, h3, h4⟩
theorem NatA.drewN (h : NatA w A n c v) (k : Nat) : NatA (w.drewN k) A n c v := h
theorem NatA.cap (h : NatA w A n c v) : n ≤ c := by
 obtain ⟨l, h1, h2, h3, h4⟩ := h
 exact h4
theorem NatA.trimmed (h : NatA w A n c v) : nl v ≤ n ∧ Sl w w.heap.size A (nl v) (u32s (limbs v)) := by
 obtain ⟨l, h1, h2, rfl, h4⟩ := h
 exact h1.trimmed h2
theorem NatA.of_limbs (h : Sl w w.heap.size A n (u32s (limbs v))) (hc : n ≤ c) : NatA w A n c v := ⟨_, h, okL_limbs v, val_limbs v, hc⟩
theorem NatA.nil (w : World) (A : Option Addr) (c : Nat) : NatA w A 0 c 0 := ⟨[], Sl.none_, okL_nil, rfl, Nat.zero_le _⟩
end
theorem nl_lt (v : Nat) : v < bs ^ nl v := by
 have := val_lt (okL_limbs v)
 rwa [val_limbs] at this
theorem nl_le {v k : Nat} (h : v < bs ^ k) : nl v ≤ k := limbs_len_le h
theorem nl_mono {a b : Nat} (h : a ≤ b) : nl a ≤ nl b := nl_le (Nat.lt_of_le_of_lt h (nl_lt b))
theorem nl_mul (a b : Nat) : nl (a * b) ≤ nl a + nl b := by
 apply nl_le
 rw [Nat.pow_add]
 exact Nat.mul_lt_mul_of_lt_of_lt (nl_lt a) (nl_lt b)
theorem nl_zero : nl 0 = 0 := by rw [nl, limbs_zero]; rfl
theorem nl_pos {v : Nat} (h : v ≠ 0) : 0 < nl v := by
 rw [nl, limbs_pos h]
 simp
theorem nl_small {v : Nat} (h : v < bs) : nl v ≤ 1 := nl_le (by simpa using h)
theorem eq_zero_of_nl {v : Nat} (h : nl v = 0) : v = 0 := by
 rcases Nat.eq_zero_or_pos v with h0 | h0
 ·exact h0
 ·have := nl_pos (v := v) (by omega)
  omega
def RowU (w : World) (g : Nat) (L : List Nat) : Prop := w.rowIs g 190 L.length fun j => .int .u32 (L.getD j 0 : Nat)
section
variable {w w' : World} {g : Nat} {L : List Nat}
theorem RowU.cell (h : RowU w g L) {i x : Nat} (hx : L[i]? = some x) : w.cell? ⟨g, i, none⟩ = some (.int .u32 (x : Int)) := by
 have := World.rowIs.cell h (i := i) (List.getElem?_eq_some_iff.1 hx).1
 rw [this, getD_some hx]
theorem RowU.frozen (h : RowU w g L) (i : Nat) : w.frozen? ⟨g, i, none⟩ = false := World.rowIs.frozen h i
theorem RowU.lt (h : RowU w g L) : g < w.heap.size := World.rowIs.lt h
theorem RowU.set (h : RowU w g L) {i : Nat} (hi : i < L.length) (x : Nat) : RowU (w.setCell ⟨g, i, none⟩ (.int .u32 (x : Int))) g (L.set i x) := by
 have h2 := World.rowIs.set h i (.int .u32 (x : Int))
 unfold RowU
 rw [List.length_set]
 refine h2.congr fun j hj => ?_
 by_cases e : j = i
 ·subst e
  simp [hi]
 ·simp [e, List.getElem?_set_ne (Ne.symm e)]
theorem RowU.far (h : RowU w g L) {p : Addr} (hp : g ≠ p.block) (x : Value) : RowU (w.setCell p x) g L := World.rowIs.setOther h hp x
theorem RowU.alloc (h : RowU w g L) (o : Obj) : RowU (w.alloc o) g L := World.rowIs.alloc h o
theorem RowU.drewN (h : RowU w g L) (k : Nat) : RowU (w.drewN k) g L := h
theorem RowU.below {B : Nat} (h : RowU w g L) (hb : Below B w w') (hg : g < B) : RowU w' g L := World.rowIs.of_block h (hb.block g hg)
theorem RowU.made (w : World) (n : Nat) : RowU (w.alloc (.cells (madeCells #[Value.int .u32 0] n) 190)) w.heap.size (List.replicate n 0) := by
 have h := World.rowIs_made w (.int .u32 0) n 190
 unfold RowU
 rw [List.length_replicate]
 refine h.congr fun j hj => ?_
 simp [hj]
theorem RowU.sl (h : RowU w g L) {n : Nat} (hn : L.length = n) : Sl w w.heap.size (some ⟨g, 0, none⟩) n (u32s L) := by
 refine ⟨by rw [u32s_len]; exact hn, fun _ => ⟨g, 0, rfl, h.lt, fun j u hu => ?_⟩⟩
 simp only [u32s, List.getElem?_map, Option.map_eq_some_iff] at hu
 obtain ⟨x, hx, rfl⟩ := hu
 rw [Nat.zero_add]
 exact h.cell hx
end
theorem compare_u32 (x y : Nat) (w : World) : Calls Tryz.prog 199 #[.int .u32 (x : Int), .int .u32 (y : Int)] w fun e w' => e = .returned (.int .i64 (cmpN x y)) ∧ w' = w := by
 rcases Nat.lt_trichotomy x y with h | h | h
 ·have HE := Lib.hid (cmpN_lt h)
  go_enter Tryz.func199, Tryz.ntmps199
  go_wp2
  go_ret
  exact ⟨by rw [HE.out]; rfl, rfl⟩
 ·subst h
  have HE := Lib.hid (cmpN_eq (rfl : x = x))
  go_enter Tryz.func199, Tryz.ntmps199
  go_wp2
  go_ret
  exact ⟨by rw [HE.out]; rfl, rfl⟩
 ·have HE := Lib.hid (cmpN_gt h)
  have h2 : ¬ x < y := by omega
  go_enter Tryz.func199, Tryz.ntmps199
  go_wp2
  go_ret
  exact ⟨by rw [HE.out]; rfl, rfl⟩
theorem compare_len (x y : Nat) (w : World) : Calls Tryz.prog 198 #[.int .i64 (x : Int), .int .i64 (y : Int)] w fun e w' => e = .returned (.int .i64 (cmpN x y)) ∧ w' = w := by
 rcases Nat.lt_trichotomy x y with h | h | h
 ·have HE := Lib.hid (cmpN_lt h)
  go_enter Tryz.func198, Tryz.ntmps198
  go_wp2
  go_ret
  exact ⟨by rw [HE.out]; rfl, rfl⟩
 ·subst h
  have HE := Lib.hid (cmpN_eq (rfl : x = x))
  go_enter Tryz.func198, Tryz.ntmps198
  go_wp2
  go_ret
  exact ⟨by rw [HE.out]; rfl, rfl⟩
 ·have HE := Lib.hid (cmpN_gt h)
  have h2 : ¬ x < y := by omega
  go_enter Tryz.func198, Tryz.ntmps198
  go_wp2
  go_ret
  exact ⟨by rw [HE.out]; rfl, rfl⟩
def RetI (v : Int) (w : World) (e : Ending) (w' : World) : Prop := e = .returned (.int .i64 v) ∧ ∃ k, w' = w.drewN k
theorem trim_nat (A : Option Addr) (n c v : Nat) (w : World) (h : NatA w A n c v) (hn : n ≤ 4000000) :
  Calls Tryz.prog 197 #[.slice A n c] w fun e w' => e = .returned (.slice A (nl v) c) ∧ w = w' := by
 obtain ⟨l, h1, h2, rfl, h4⟩ := h
 exact trim_any A n c l w h1 h2 h4 hn
theorem limbs_cmp {x y k a b : Nat} (hl : nl x = nl y) (hk : (limbs x).drop (k + 1) = (limbs y).drop (k + 1)) (ha : (limbs x)[k]? = some a) (hb : (limbs y)[k]? = some b) (hne : a ≠ b) : cmpN x y = cmpN a b := by
 rcases Nat.lt_or_ge a b with h | h
 ·have := val_lt_of_top (okL_limbs x) hl ha hb hk h
  rw [val_limbs, val_limbs] at this
  rw [cmpN_lt this, cmpN_lt h]
 ·have := val_lt_of_top (okL_limbs y) hl.symm hb ha hk.symm (by omega)
  rw [val_limbs, val_limbs] at this
  rw [cmpN_gt this, cmpN_gt (by omega)]
theorem drop_step {x y k a : Nat} (hk : (limbs x).drop (k + 1) = (limbs y).drop (k + 1)) (ha : (limbs x)[k]? = some a) (hb : (limbs y)[k]? = some a) : (limbs x).drop k = (limbs y).drop k := by
 rw [List.drop_eq_getElem_cons (List.getElem?_eq_some_iff.1 ha).1, List.drop_eq_getElem_cons (List.getElem?_eq_some_iff.1 hb).1, (List.getElem?_eq_some_iff.1 ha).2, (List.getElem?_eq_some_iff.1 hb).2, hk]
theorem drop_all {x y : Nat} (h : nl y ≤ nl x) : (limbs x).drop (nl x) = (limbs y).drop (nl x) := by
 rw [List.drop_of_length_le (show (limbs x).length ≤ nl x from Nat.le_refl _), List.drop_of_length_le (show (limbs y).length ≤ nl x from h)]
theorem cmpN_ne {a b : Nat} (h : a ≠ b) : (cmpN a b != 0) = true := by
 rcases Nat.lt_or_ge a b with h1 | h1
 ·rw [cmpN_lt h1]; rfl
 ·rw [cmpN_gt (by omega)]; rfl
set_option maxRecDepth 100000 in
set_option maxHeartbeats 800000 in
theorem cmp_any (A B : Option Addr) (n m c d x y : Nat) (w : World) (ha : NatA w A n c x) (hb : NatA w B m d y) (hn : n ≤ 1000000) (hm : m ≤ 1000000) :
  Calls Tryz.prog 169 #[.slice A n c, .slice B m d] w (RetI (cmpN x y) w) := by
 obtain ⟨t1, t2⟩ := ha.trimmed
 obtain ⟨s1, s2⟩ := hb.trimmed
 rcases Nat.lt_trichotomy (nl x) (nl y) with hlt | heq | hgt
 ·have HR := Lib.hid (cmpN_lt (lt_of_limbs (a := x) (b := y) hlt))
  have HE := Lib.hid (cmpN_lt hlt)
  clear t2 s2
  go_enter Tryz.func169, Tryz.ntmps169
  go_wp2_with (first | (go_at_call 197; (with_reducible refine (trim_nat _ _ _ _ _ (by assumption) (by omega)).mono ?_); rintro e w' ⟨rfl, rfl⟩) | (go_at_call 198; (with_reducible refine (compare_len _ _ _).mono ?_); rintro e w' ⟨rfl, hw'⟩; obtain rfl := hw'.symm; rw [HE.out]))
  go_ret
  exact ⟨by rw [HR.out]; rfl, 0, rfl⟩
 ·have HQ := Lib.hid heq
  have e1 : nl x ≤ nl y := by omega
  have e2 : nl y ≤ nl x := by omega
  have HE := Lib.hid (cmpN_eq heq)
  clear heq
  go_enter Tryz.func169, Tryz.ntmps169
  go_wp2_with (first | (go_at_call 197; (with_reducible refine (trim_nat _ _ _ _ _ (by assumption) (by omega)).mono ?_); rintro e w' ⟨rfl, rfl⟩) | (go_at_call 198; (with_reducible refine (compare_len _ _ _).mono ?_); rintro e w' ⟨rfl, hw'⟩; obtain rfl := hw'.symm; rw [HE.out]))
  clear ha hb
  go_loopw [6] (fun i wr => ∃ k : Nat, k ≤ nl x ∧ i = .int .i64 ((k : Int) - 1) ∧ Hid ((limbs x).drop k = (limbs y).drop k) ∧ Hid (∃ j, wr = w.drewN j)) (fun i _ => (intOf i + 1).toNat)
  case atStart => exact ⟨nl x, Nat.le_refl _, rfl, drop_all e2, ⟨0, rfl⟩⟩
  case round =>
   obtain ⟨k, hk, hi, hd, hwr⟩ := hrel
   by_cases hk0 : k = 0
   ·have hi2 : u6 = Value.int .i64 (-1) := by rw [hi, hk0]; rfl
    clear hi
    subst hi2
    have HF : Hid (cmpN x y = 0) := by
     have h0 := hd.out
     rw [hk0, List.drop_zero, List.drop_zero] at h0
     exact cmpN_eq (limbs_inj h0)
    clear hk0
    go_wp2
    go_ret
    exact ⟨by rw [HF.out]; rfl, hwr.out⟩
   ·obtain ⟨q, rfl⟩ : ∃ q, k = q + 1 := ⟨k - 1, by omega⟩
    have hi2 : u6 = Value.int .i64 (q : Int) := by rw [hi]; congr 1; omega
    clear hi hk0
    subst hi2
    obtain ⟨b, off, u, rfl, _, hu, hcu⟩ := t2.limb_ (k := q) (by omega)
    obtain ⟨b', off', v, rfl, _, hv, hcv⟩ := s2.limb_ (k := q) (by omega)
    have HU := Lib.hid (And.intro hu hv)
    have hcu' : wr.cell? ⟨b, off + q, none⟩ = some (.int .u32 (u : Int)) := by
     obtain ⟨j, rfl⟩ := hwr.out
     exact hcu
    have hcv' : wr.cell? ⟨b', off' + q, none⟩ = some (.int .u32 (v : Int)) := by
     obtain ⟨j, rfl⟩ := hwr.out
     exact hcv
    clear hu hv hcu hcv t2 s2
    have hq1 : q < nl x := by omega
    have hq2 : q < nl y := by omega
    by_cases huv : u = v
    ·subst huv
     have HZ := Lib.hid (cmpN_eq (rfl : u = u))
     have HN := Lib.hid (drop_step hd.out HU.out.1 HU.out.2)
     go_wp2_with fail
     go_quiet ((go_at_call 199; exact Calls.quiet_of_same (compare_u32 _ _ _)))
     rw [HZ.out]
     go_wp2
     go_roundw
     case rel => exact ⟨q, by omega, rfl, HN, by obtain ⟨j, rfl⟩ := hwr.out; exact ⟨j + nq, by rw [World.drewN_drewN]⟩⟩
     case measure => simp [intOf]
    ·have hZ := cmpN_ne huv
     have HN := Lib.hid (limbs_cmp HQ.out hd.out HU.out.1 HU.out.2 huv)
     generalize hz : cmpN u v = z at *
     have HZ := Lib.hid hz
     clear hz huv
     go_wp2_with fail
     go_quiet ((go_at_call 199; exact Calls.quiet_of_same (compare_u32 _ _ _)))
     rw [HZ.out]
     go_wp2
     go_ret
     exact ⟨by rw [HN.out]; rfl, by obtain ⟨j, rfl⟩ := hwr.out; exact ⟨j + nq, by rw [World.drewN_drewN]⟩⟩
 ·have HR := Lib.hid (cmpN_gt (lt_of_limbs (a := y) (b := x) hgt))
  have HE := Lib.hid (cmpN_gt hgt)
  have h2 : ¬ nl x < nl y := by omega
  clear t2 s2
  go_enter Tryz.func169, Tryz.ntmps169
  go_wp2_with (first | (go_at_call 197; (with_reducible refine (trim_nat _ _ _ _ _ (by assumption) (by omega)).mono ?_); rintro e w' ⟨rfl, rfl⟩) | (go_at_call 198; (with_reducible refine (compare_len _ _ _).mono ?_); rintro e w' ⟨rfl, hw'⟩; obtain rfl := hw'.symm; rw [HE.out]))
  go_ret
  exact ⟨by rw [HR.out]; rfl, 0, rfl⟩
end
section
open Go.RowKit
theorem u32s_snoc (l : List Nat) (t : Nat) : u32s (l ++ [t]) = u32s l ++ [.int .u32 (t : Int)] := by simp [u32s]
theorem cell_one (w : World) (v : Value) (t : TypeId) : (w.alloc (.cells #[v] t)).cell? ⟨w.heap.size, 0, none⟩ = some v := by rw [World.cell?_alloc_new]; rfl
end
section
open Go.RowKit
theorem make_full (n : Nat) (hn : n ≤ 4000000) (W : World) : (Instr.makeSlice 121 (.int .i64 (n : Int)) (.int .i64 (n : Int))).run Tryz.prog W = .ok (.slice (some ⟨W.heap.size, 0, none⟩) n n) (W.alloc (.cells (madeCells #[Value.int .u32 0] n) 190)) :=
 run_make_row' (P := Tryz.prog) 121 190 (.int .u32 0) 4 Tryz.underlying121 u32_info rfl .i64 .i64 n (by omega) (by omega) W
end
section
open Go.RowKit
theorem make_sum (n m : Nat) (hn : n ≤ 1000000) (hm : m ≤ 1000000) (W : World) : (Instr.makeSlice 121 (.int .i64 ((n : Int) + (m : Int))) (.int .i64 ((n : Int) + (m : Int)))).run Tryz.prog W = .ok (.slice (some ⟨W.heap.size, 0, none⟩) (n + m) (n + m)) (W.alloc (.cells (madeCells #[Value.int .u32 0] (n + m)) 190)) := by
 have h := make_full (n + m) (by omega) W
 rw [Int.natCast_add] at h
 exact h
def mulRel (N : Nat) (X Y : List Nat) (w : World) (i : Value) (wr : World) : Prop :=
 ∃ (k : Nat) (L : List Nat), k ≤ N ∧ i = .int .i64 (k : Int) ∧ RowU wr w.heap.size L ∧ Hid (mulInv X Y L k) ∧ Below w.heap.size w wr
def mulRel2 (i M : Nat) (X Y : List Nat) (w : World) (cr j : Value) (wr : World) : Prop :=
 ∃ (k cy : Nat) (L : List Nat), k ≤ M ∧ cy < 4294967296 ∧ j = .int .i64 (k : Int) ∧ cr = .int .u64 (cy : Int) ∧ RowU wr w.heap.size L ∧ Hid (mulIn X Y L i k cy) ∧ Below w.heap.size w wr
theorem mul_word {u v : Nat} (hu : u < 4294967296) (hv : v < 4294967296) : ∃ p : Nat, u * v = p ∧ (u : Int) * (v : Int) = (p : Int) ∧ p ≤ 18446744065119617025 := by
 refine ⟨u * v, rfl, (Int.natCast_mul u v).symm, ?_⟩
 have := Nat.mul_le_mul (by omega : u ≤ 4294967295) (by omega : v ≤ 4294967295)
 omega
theorem mulRel2_next {i M : Nat} {X Y : List Nat} {w wr : World} {k cy z p : Nat} {L : List Nat} (hX : okL X) (hY : okL Y) (hM : Y.length = M) (hk : k < M) (hrow : RowU wr w.heap.size L) (hinv : mulIn X Y L i k cy) (hbel : Below w.heap.size w wr)
  (hz : L[i + k]? = some z) (hp : X.getD i 0 * Y.getD k 0 = p) {T : Int} (hT : T = ((cy + p + z : Nat) : Int)) :
  mulRel2 i M X Y w (.int .u64 (T / 4294967296)) (.int .i64 ((k : Int) + 1)) (wr.setCell ⟨w.heap.size, i + k, none⟩ (.int .u32 (T % 4294967296))) := by
 subst hT
 have h := mulIn_succ hX hY hinv (by omega) hz (t := cy + p + z) (by rw [hp])
 have h2 := h.2.2.1
 exact ⟨k + 1, (cy + p + z) / 4294967296, _, by omega, h2, by go_num, rfl, hrow.set (List.getElem?_eq_some_iff.1 hz).1 ((cy + p + z) % 4294967296), h, hbel.setCell (p := ⟨w.heap.size, i + k, none⟩) (Nat.le_refl _) _⟩
set_option maxRecDepth 100000 in
set_option maxHeartbeats 1600000 in
theorem mul_any (A B : Option Addr) (n m c d x y : Nat) (w : World) (ha : NatA w A n c x) (hb : NatA w B m d y) (hn : n ≤ 1000000) (hm : m ≤ 1000000) :
  Calls Tryz.prog 196 #[.slice A n c, .slice B m d] w (RetN (x * y) w) := by
 obtain ⟨t1, t2⟩ := ha.trimmed
 obtain ⟨s1, s2⟩ := hb.trimmed
 have hmk := make_sum (nl x) (nl y) (by omega) (by omega)
 go_enter Tryz.func196, Tryz.ntmps196
 go_wp2_with (go_at_call 197; (with_reducible refine (trim_nat _ _ _ _ _ (by assumption) (by omega)).mono ?_); rintro e w' ⟨rfl, rfl⟩)
 clear hmk ha hb
 go_loopw [23] (fun i wr => mulRel (nl x) (limbs x) (limbs y) w i wr) (fun i _ => nl x - (intOf i).toNat)
 case atStart => exact ⟨0, _, Nat.zero_le _, rfl, RowU.made w (nl x + nl y), mulInv_zero (limbs x) (limbs y), (Below.refl _ _).alloc (Nat.le_refl _) _⟩
 case round =>
  obtain ⟨i, L, hi, rfl, hrow, hinv, hbel⟩ := hrel
  by_cases hli : i < nl x
  ·obtain ⟨b, off, u, rfl, hbw, hu, hcu⟩ := (t2.below hbel).limb_ hli
   have hub := okL_at (okL_limbs x) hu
   rw [bs_eq] at hub
   have HU := Lib.hid (getD_some hu)
   clear hu
   have HI := Lib.hid (mulIn_zero (okL_limbs x) (okL_limbs y) hinv.out hi)
   obtain ⟨wo, rfl⟩ : ∃ wo : World, wo = wr := ⟨_, rfl⟩
   have HW := Lib.hid (And.intro hrow hbel)
   clear hrow hbel
   go_wp2
   clear hcu
   go_loopw [8, 30] (fun cr j wr => mulRel2 i (nl y) (limbs x) (limbs y) w cr j wr) (fun _ j _ => nl y - (intOf j).toNat)
   case atStart => exact ⟨0, 0, L, Nat.zero_le _, by omega, rfl, rfl, HW.out.1, HI, HW.out.2⟩
   case round =>
    clear HW
    obtain ⟨k, cy, R, hk, hcy, rfl, rfl, hrow, hin, hbel⟩ := hrel
    by_cases hlk : k < nl y
    ·obtain ⟨b', off', v, rfl, hbw', hv, hcv⟩ := (s2.below hbel).limb_ hlk
     have hvb := okL_at (okL_limbs y) hv
     rw [bs_eq] at hvb
     have HV := Lib.hid (getD_some hv)
     have hRl : R.length = nl x + nl y := hin.out.1
     obtain ⟨z, hz⟩ : ∃ z, R[i + k]? = some z := ⟨_, List.getElem?_eq_getElem (by omega)⟩
     have hzb := okL_at hin.out.2.1 hz
     rw [bs_eq] at hzb
     have hcz := hrow.cell hz
     have hfz := hrow.frozen (i + k)
     obtain ⟨p, hp1, hp2, hp3⟩ := mul_word hub hvb
     have HP := Lib.hid (And.intro hz hp1)
     have HR := Lib.hid hrow
     clear hrow hz hv hRl t2 s2 hp1
     go_wp2
     go_roundw
     case rel => exact mulRel2_next (okL_limbs _) (okL_limbs _) rfl hlk HR.out hin.out hbel HP.out.1 (by rw [HU.out, HV.out]) (by omega)
     case measure => simp [intOf]; omega
    ·obtain rfl : k = nl y := by omega
     have hRl : R.length = nl x + nl y := hin.out.1
     obtain ⟨z, hz⟩ : ∃ z, R[i + nl y]? = some z := ⟨_, List.getElem?_eq_getElem (by omega)⟩
     have hcz := hrow.cell hz
     have hfz := hrow.frozen (i + nl y)
     have HN : Hid (mulInv (limbs x) (limbs y) (R.set (i + nl y) cy) (i + 1)) := mulIn_end hin.out hli
     have HR := Lib.hid (hrow.set (i := i + nl y) (by omega) cy)
     clear hrow hz hRl t2 s2
     go_wp2
     go_roundw
     case rel => exact ⟨i + 1, _, by omega, by go_num, HR.out, HN, hbel.setCell (p := ⟨w.heap.size, i + nl y, none⟩) (Nat.le_refl _) _⟩
     case measure => simp [intOf]; omega
  ·obtain rfl : i = nl x := by omega
   clear t2 s2
   obtain ⟨ho, hv⟩ := mulInv_end hinv.out
   rw [val_limbs, val_limbs] at hv
   have hN : NatA wr (some ⟨w.heap.size, 0, none⟩) (nl x + nl y) (nl x + nl y) (x * y) := ⟨L, hrow.sl hinv.out.1, ho, hv, Nat.le_refl _⟩
   clear hrow hv ho
   go_wp2_with (go_at_call 197; (with_reducible refine (trim_nat _ _ _ _ _ (by assumption) (by omega)).mono ?_); rintro e w' ⟨rfl, rfl⟩)
   go_ret
   obtain ⟨f1, f2⟩ := hN.trimmed
   exact ⟨_, _, _, rfl, f2, f1, hbel⟩
end
end Go.Proofs.YtiibocdmlfedkaaGreatDoor
