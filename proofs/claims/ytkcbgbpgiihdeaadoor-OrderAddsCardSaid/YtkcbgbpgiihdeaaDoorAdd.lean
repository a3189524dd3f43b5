/-
  order.Add and order.Compare return what the plain functions say. Conditions: slices of ints of at most 1,000,000 elements.
-/
import Derived.Test.YtkcbgbpgiihdeaaDoorSums
import Derived.Deep.DeepCutAuto
namespace Go.Proofs.YtkcbgbpgiihdeaaDoor
open Go.RowKit Go.Lib

/-- A list of ints and an error come back; what there was is as it was. -/
def RetIE (l : List Int) (err : Int) (w : World) (e : Ending) (w' : World) : Prop :=
  ∃ A n c, e = .returned (.tuple #[.slice A n c, .int .i64 err]) ∧ Sl w' w'.heap.size A n (ints l) ∧ Below w.heap.size w w'
/-- Two lists of ints and an error come back. -/
def RetIIE (l m : List Int) (err : Int) (w : World) (e : Ending) (w' : World) : Prop :=
  ∃ A n c B k d, e = .returned (.tuple #[.slice A n c, .slice B k d, .int .i64 err]) ∧ Sl w' w'.heap.size A n (ints l) ∧ Sl w' w'.heap.size B k (ints m) ∧ Below w.heap.size w w'

/-- What a row holds of which the first k cells are filled with a list. -/
def fillI (S : List Int) (k : Nat) (j : Nat) : Value := .int .i64 (if j < k then S.getD j 0 else 0)
theorem fillI_at (S : List Int) (k : Nat) : fillI S k k = .int .i64 0 := by simp [fillI]
theorem fillI_succ {S : List Int} {k : Nat} {x : Int} (hx : S[k]? = some x) (j : Nat) : (if j = k then Value.int .i64 x else fillI S k j) = fillI S (k + 1) j := by
  unfold fillI
  by_cases e : j = k
  · subst e
    rw [if_pos rfl, if_pos (by omega)]
    simp [hx]
  · rw [if_neg e]
    by_cases h : j < k
    · rw [if_pos h, if_pos (by omega)]
    · rw [if_neg h, if_neg (by omega)]
theorem fillI_succ' {S : List Int} {k : Nat} {x v : Int} (hx : S[k]? = some x) (e : v = x) (j : Nat) : (if j = k then Value.int .i64 v else fillI S k j) = fillI S (k + 1) j := by
  subst e
  exact fillI_succ hx j
theorem fillI_zero (S : List Int) (j : Nat) : Value.int .i64 0 = fillI S 0 j := by simp [fillI]
theorem Sl.of_fill {w : World} {g n : Nat} {t : TypeId} {S : List Int} (h : w.rowIs g t n (fillI S n)) (hn : S.length = n) : Sl w w.heap.size (some ⟨g, 0, none⟩) n (ints S) := by
  refine ⟨by rw [ints_len]; exact hn, fun _ => ⟨g, 0, rfl, h.lt, fun j u hu => ?_⟩⟩
  simp only [ints, List.getElem?_map, Option.map_eq_some_iff] at hu
  obtain ⟨x, hx, rfl⟩ := hu
  have hj : j < n := by rw [← hn]; exact (List.getElem?_eq_some_iff.1 hx).1
  have := h.cell hj
  rw [Nat.zero_add, this]
  simp [fillI, hj, hx]

theorem made_fill (w : World) (n : Nat) (S : List Int) : (w.alloc (.cells (madeCells #[Value.int .i64 0] n) 3)).rowIs w.heap.size 3 n (fillI S 0) :=
  (World.rowIs_made _ _ _ _).congr fun j _ => fillI_zero S j
theorem made_fill' {w : World} {g : Nat} (h : w.heap.size = g) (n : Nat) (S : List Int) : (w.alloc (.cells (madeCells #[Value.int .i64 0] n) 3)).rowIs g 3 n (fillI S 0) := by
  subst h
  exact made_fill w n S

theorem int_info : (Tryd.prog.info? 3).map (fun i => (i.zero, i.size, i.bytes)) = some (some (.int .i64 0), 1, 8) := by kernel_rfl

set_option maxHeartbeats 800000 in
theorem add_any (A B : Option Addr) (n m c d : Nat) (xs ys : List Int) (w : World) (ha : Sl w w.heap.size A n (ints xs)) (hb : Sl w w.heap.size B m (ints ys)) (hn : n ≤ 1000000) (hm : m ≤ 1000000) :
    Calls Tryd.prog 7 #[.slice A n c, .slice B m d] w (RetIE (addL xs ys) (addE xs ys) w) := by
  have HX := Lib.hid ha.ilen
  have HY := Lib.hid hb.ilen
  have hmk := fun W => run_make_row' (P := Tryd.prog) 22 3 (.int .i64 0) 8 Tryd.underlying22 int_info rfl .i64 .i64 n (by omega) (by omega) W
  by_cases hl : likeE xs ys = 0
  · obtain ⟨hlen, hwx, hwy⟩ := likeE_zero hl
    obtain rfl : n = m := by rw [← HX.out, ← HY.out]; exact hlen
    have hSl := sums_len HX.out HY.out
    generalize hS : sums xs ys = S at *
    have HS := Lib.hid hS; clear hS
    have HSl := Lib.hid hSl; clear hSl
    have HL := Lib.hid hl; clear hl
    have HW := Lib.hid (And.intro hwx hwy); clear hwx hwy hlen
    go_enter Tryd.func7, Tryd.ntmps7
    go_wp2_with (go_at_call 13; refine (alike_any _ _ _ _ _ _ xs ys _ ha hb hn hm).mono ?_; rintro e w' ⟨rfl, rfl⟩; rw [HL.out])
    go_loopw [20] (fun i wr => ∃ k : Nat, k ≤ n ∧ i = .int .i64 k ∧ Hid (within (S.take k) = true) ∧ wr.rowIs w.heap.size 3 n (fillI S k) ∧ Below w.heap.size w wr) (fun i _ => n - (intOf i).toNat)
    case atStart => exact ⟨0, Nat.zero_le _, rfl, by simp [Hid, within], (World.rowIs_made _ _ _ _).congr fun j _ => fillI_zero S j, (Below.refl _ _).alloc (Nat.le_refl _) _⟩
    case round =>
      obtain ⟨k, hk, rfl, hs, hrow, hbel⟩ := hrel
      by_cases hlt : k < n
      · obtain ⟨b, off, x, rfl, hbw, hx, hcx⟩ := (ha.below hbel).int_ hlt
        obtain ⟨b', off', y, rfl, hbw', hy, hcy⟩ := (hb.below hbel).int_ hlt
        have hSk := sums_at hx hy
        rw [HS.out] at hSk
        obtain ⟨x0, x1⟩ := isC_true.1 (within_at HW.out.1 hx)
        obtain ⟨y0, y1⟩ := isC_true.1 (within_at HW.out.2 hy)
        have hcg := hrow.cell hlt
        rw [fillI_at] at hcg
        have hfg := hrow.frozen k
        have HSk := Lib.hid hSk
        clear hSk hx hy ha hb hmk
        have HR := Lib.hid hrow; clear hrow
        cases hix : isC (x + y)
        · go_wp2
          go_region
          go_wp2_with (go_at_call 14; refine (isCount_any _ _).mono ?_; rintro e w' ⟨rfl, rfl⟩)
          go_ret2
          have hw := within_not HSk.out hix
          have hE : addE xs ys = 3 := by simp [addE, HL.out, HS.out, hw]
          rw [show addL xs ys = [] by simp [addL, hE], hE]
          exact ⟨none, 0, 0, rfl, Sl.none_, (hbel.setCell (p := ⟨w.heap.size, k, none⟩) (Nat.le_refl _) _).drew⟩
        · go_wp2
          go_region
          go_wp2_with (go_at_call 14; refine (isCount_any _ _).mono ?_; rintro e w' ⟨rfl, rfl⟩)
          go_roundw
          case rel => exact ⟨k + 1, by omega, by go_num, within_succ hs.out HSk.out hix, ((HR.out.set k _).drew).congr fun j _ => fillI_succ HSk.out j, (hbel.setCell (p := ⟨w.heap.size, k, none⟩) (Nat.le_refl _) _).drew⟩
          case measure => simp [intOf]; omega
      · obtain rfl : k = n := by omega
        have HR := Lib.hid hrow; clear hrow
        go_wp2
        go_ret2
        have hE : addE xs ys = 0 := by simp [addE, HL.out, HS.out, within_all hs.out HSl.out]
        rw [show addL xs ys = S by simp [addL, hE, HS.out], hE]
        exact ⟨_, _, _, rfl, Sl.of_fill HR.out HSl.out, hbel⟩
  · have hl0 : (likeE xs ys != 0) = true := by simp [hl]
    have HL := Lib.hid hl; clear hl hmk
    go_enter Tryd.func7, Tryd.ntmps7
    go_wp2_with (go_at_call 13; refine (alike_any _ _ _ _ _ _ xs ys _ ha hb hn hm).mono ?_; rintro e w' ⟨rfl, rfl⟩)
    go_ret2
    have hE : addE xs ys = likeE xs ys := by simp [addE, HL.out]
    rw [show addL xs ys = [] by rw [addL, hE, if_neg HL.out], hE]
    exact ⟨none, 0, 0, rfl, Sl.none_, Below.refl _ _⟩

set_option maxHeartbeats 1600000 in
theorem compare_any (A B : Option Addr) (n m c d : Nat) (xs ys : List Int) (w : World) (ha : Sl w w.heap.size A n (ints xs)) (hb : Sl w w.heap.size B m (ints ys)) (hn : n ≤ 1000000) (hm : m ≤ 1000000) :
    Calls Tryd.prog 10 #[.slice A n c, .slice B m d] w (RetIIE (shortL xs ys) (shortL ys xs) (likeE xs ys) w) := by
  have HX := Lib.hid ha.ilen
  have HY := Lib.hid hb.ilen
  have hmk := fun W => run_make_row' (P := Tryd.prog) 22 3 (.int .i64 0) 8 Tryd.underlying22 int_info rfl .i64 .i64 n (by omega) (by omega) W
  by_cases hl : likeE xs ys = 0
  · obtain ⟨hlen, hwx, hwy⟩ := likeE_zero hl
    obtain rfl : n = m := by rw [← HX.out, ← HY.out]; exact hlen
    have HSl := Lib.hid (miss_len HX.out HY.out)
    have HTl := Lib.hid (miss_len HY.out HX.out)
    generalize hS : miss xs ys = S at *
    have HS := Lib.hid hS; clear hS
    generalize hT : miss ys xs = T at *
    have HT := Lib.hid hT; clear hT
    have HL := Lib.hid hl; clear hl
    have HW := Lib.hid (And.intro hwx hwy); clear hwx hwy hlen
    go_enter Tryd.func10, Tryd.ntmps10
    go_upto_region 4 with (go_at_call 13; refine (alike_any _ _ _ _ _ _ xs ys _ ha hb hn hm).mono ?_; rintro e w' ⟨rfl, rfl⟩; rw [HL.out])
    go_cut [4, 5] (fun s4 s5 wx => ∃ g h : Nat, s4 = .slice (some ⟨g, 0, none⟩) n n ∧ s5 = .slice (some ⟨h, 0, none⟩) n n ∧ w.heap.size ≤ g ∧ w.heap.size ≤ h ∧ g ≠ h ∧ wx.rowIs g 3 n (fillI S 0) ∧ wx.rowIs h 3 n (fillI T 0) ∧ Below w.heap.size w wx)
    case first =>
      go_region
      all_goals go_wp2_with fail
      all_goals go_meet
      all_goals first | exact ⟨w.heap.size, w.heap.size + 1, rfl, rfl, Nat.le_refl _, Nat.le_succ _, by omega, ((made_fill _ _ _).alloc _).drew, (made_fill' (by simp) _ _).drew, (((Below.refl _ _).alloc (Nat.le_refl _) _).alloc (by simp) _).drew⟩ | exact ⟨w.heap.size + 1, w.heap.size, rfl, rfl, Nat.le_succ _, Nat.le_refl _, by omega, (made_fill' (by simp) _ _).drew, ((made_fill _ _ _).alloc _).drew, (((Below.refl _ _).alloc (Nat.le_refl _) _).alloc (by simp) _).drew⟩
    case rest =>
      obtain ⟨g, g2, rfl, rfl, hg, hh, hgh, hrg, hrh, hbel⟩ := hcut
      clear hmk
      go_wp2
      go_loopw [23] (fun i wr => ∃ k : Nat, k ≤ n ∧ i = .int .i64 k ∧ wr.rowIs g 3 n (fillI S k) ∧ wr.rowIs g2 3 n (fillI T k) ∧ Below w.heap.size w wr) (fun i _ => n - (intOf i).toNat)
      case atStart => exact ⟨0, Nat.zero_le _, rfl, hrg, hrh, hbel⟩
      case round =>
        clear hrg hrh hbel
        obtain ⟨k, hk, rfl, hrg, hrh, hbel⟩ := hrel
        by_cases hlt : k < n
        · obtain ⟨b, off, x, rfl, hbw, hx, hcx⟩ := (ha.below hbel).int_ hlt
          obtain ⟨b', off', y, rfl, hbw', hy, hcy⟩ := (hb.below hbel).int_ hlt
          have hSk := miss_at hx hy
          rw [HS.out] at hSk
          have hTk := miss_at hy hx
          rw [HT.out] at hTk
          obtain ⟨x0, x1⟩ := isC_true.1 (within_at HW.out.1 hx)
          obtain ⟨y0, y1⟩ := isC_true.1 (within_at HW.out.2 hy)
          have hcg := hrg.cell hlt
          have hch := hrh.cell hlt
          rw [fillI_at] at hcg hch
          have hfg := hrg.frozen k
          have hfh := hrh.frozen k
          have HSk := Lib.hid hSk
          have HTk := Lib.hid hTk
          have n1 : ¬ b = g := by omega
          have n2 : ¬ b' = g := by omega
          have n3 : ¬ g2 = g := by omega
          clear hSk hTk hx hy ha hb
          have HRg := Lib.hid hrg; clear hrg
          have HRh := Lib.hid hrh; clear hrh
          have htri : x < y ∨ (x ≤ y ∧ y ≤ x) ∨ y < x := by omega
          rcases htri with ht | ⟨ht, hu⟩ | ht
          all_goals
            go_wp2
            go_region
            go_wp2
            go_region
            go_wp2
            go_roundw
            case rel =>
              exact ⟨k + 1, by omega, by go_num, ((HRg.out.set k _).setOther (a := ⟨g2, k, none⟩) (by simpa using hgh) _).drew.drew.congr fun j _ => fillI_succ' HSk.out (by rw [Int.max_def]; split <;> omega) j,
                ((HRh.out.setOther (a := ⟨g, k, none⟩) (by simpa using hgh.symm) _).set k _).drew.drew.congr fun j _ => fillI_succ' HTk.out (by rw [Int.max_def]; split <;> omega) j,
                ((hbel.setCell (p := ⟨g, k, none⟩) hg _).setCell (p := ⟨g2, k, none⟩) hh _).drew.drew⟩
            case measure => simp [intOf]; omega
        · obtain rfl : k = n := by omega
          have HRg := Lib.hid hrg; clear hrg
          have HRh := Lib.hid hrh; clear hrh
          go_wp2
          go_ret3
          have hE := HL.out
          rw [shortL, shortL, if_pos hE, if_pos (by rwa [likeE_swap]), hE, HS.out, HT.out]
          exact ⟨_, _, _, _, _, _, rfl, Sl.of_fill HRg.out HSl.out, Sl.of_fill HRh.out HTl.out, hbel⟩
  · have hl0 : (likeE xs ys != 0) = true := by simp [hl]
    have HL := Lib.hid hl; clear hl hmk
    go_enter Tryd.func10, Tryd.ntmps10
    go_wp2_with (go_at_call 13; refine (alike_any _ _ _ _ _ _ xs ys _ ha hb hn hm).mono ?_; rintro e w' ⟨rfl, rfl⟩)
    go_ret3
    have hE := HL.out
    rw [shortL, shortL, if_neg hE, if_neg (by rwa [likeE_swap])]
    exact ⟨none, 0, 0, none, 0, 0, rfl, Sl.none_, Sl.none_, Below.refl _ _⟩
end Go.Proofs.YtkcbgbpgiihdeaaDoor
