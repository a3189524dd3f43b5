/-
  R35.within, Add, Compare and Total return what the plain functions say. Conditions: slices of ints of at most 1,000,000 elements.
-/
import Derived.Test.YtkcbgbpgiihdeaaGreatDoorAdd
import Derived.Deep.RegionHeld3
import Derived.Deep.AppendLies
import Derived.OwnWalk
namespace Go.Proofs.YtkcbgbpgiihdeaaGreatDoor
open Go.RowKit Go.Lib

set_option maxHeartbeats 400000 in
theorem within_any (A : Option Addr) (n c : Nat) (xs : List Int) (w : World) (ha : Sl w w.heap.size A n (ints xs)) (hn : n ≤ 1000000) :
    Calls Tryz.prog 31 #[.slice A n c] w fun e w' => e = .returned (.bool (within xs)) ∧ w = w' := by
  have HX := Lib.hid ha.ilen
  go_enter Tryz.func31, Tryz.ntmps31
  go_wp2
  go_loop [3] (fun i => ∃ k : Nat, k ≤ n ∧ i = .int .i64 k ∧ Hid (within (xs.take k) = true)) (fun i => n - (intOf i).toNat)
  case atStart => exact ⟨0, Nat.zero_le _, rfl, by simp [Hid, within]⟩
  case round =>
    obtain ⟨k, hk, rfl, hs⟩ := hrel
    by_cases hlt : k < n
    · obtain ⟨b, off, x, rfl, _, hx, hcx⟩ := ha.int_ hlt
      have HA := Lib.hid hx; clear hx ha
      by_cases h0 : x < 0
      · go_wp2
        go_ret
        exact ⟨ret_bool (within_not HA.out (isC_false.2 (.inl h0))).symm, rfl⟩
      · by_cases h1 : 1000 < x
        · go_wp2
          go_ret
          exact ⟨ret_bool (within_not HA.out (isC_false.2 (.inr h1))).symm, rfl⟩
        · go_wp2
          go_round
          case rel => exact ⟨k + 1, by omega, by go_num, within_succ hs.out HA.out (isC_true.2 (by omega))⟩
          case measure => simp [intOf]; omega
    · go_wp2
      go_ret
      obtain rfl : k = n := by omega
      exact ⟨ret_bool (within_all hs.out HX.out).symm, rfl⟩

set_option maxHeartbeats 400000 in
theorem rtotal_any (A : Option Addr) (n c : Nat) (xs : List Int) (w : World) (ha : Sl w w.heap.size A n (ints xs)) (hn : n ≤ 1000000) :
    Calls Tryz.prog 20 #[.slice A n c] w fun e w' => e = .returned (.int .i64 (total xs)) ∧ w = w' := by
  have HX := Lib.hid ha.ilen
  go_enter Tryz.func20, Tryz.ntmps20
  go_wp2
  go_loop [3, 4] (fun t i => ∃ k : Nat, k ≤ n ∧ i = .int .i64 k ∧ t = .int .i64 (total (xs.take k))) (fun _ i => n - (intOf i).toNat)
  case atStart => exact ⟨0, Nat.zero_le _, rfl, rfl⟩
  case round =>
    obtain ⟨k, hk, rfl, rfl⟩ := hrel
    have hbd := total_bound (xs.take k)
    have hl : (xs.take k).length ≤ k := List.length_take_le _ _
    by_cases hlt : k < n
    · obtain ⟨b, off, x, rfl, _, hx, hcx⟩ := ha.int_ hlt
      have HS := Lib.hid (total_succ hx); clear hx ha
      generalize total (xs.take k) = T at *
      by_cases h0 : x < 0
      · go_wp2
        go_round
        case rel => exact ⟨k + 1, by omega, by go_num, by rw [HS.out, isC_false.2 (.inl h0)]; simp⟩
        case measure => simp [intOf]; omega
      · by_cases h1 : 1000 < x
        · go_wp2
          go_round
          case rel => exact ⟨k + 1, by omega, by go_num, by rw [HS.out, isC_false.2 (.inr h1)]; simp⟩
          case measure => simp [intOf]; omega
        · go_wp2
          go_round
          case rel => exact ⟨k + 1, by omega, by go_num, by rw [HS.out, isC_true.2 (by omega)]; simp⟩
          case measure => simp [intOf]; omega
    · go_wp2
      go_ret
      exact ⟨ret_int (by rw [List.take_of_length_le (by rw [HX.out]; omega)]), rfl⟩

theorem ints_succ {S : List Int} {k : Nat} {x : Int} (h : S[k]? = some x) : ints (S.take (k + 1)) = ints (S.take k) ++ [.int .i64 x] := by
  simp [ints, List.take_add_one, h]

set_option maxRecDepth 100000 in
set_option maxHeartbeats 800000 in
theorem radd_any (A B : Option Addr) (n m c d : Nat) (xs ys : List Int) (w : World) (ha : Sl w w.heap.size A n (ints xs)) (hb : Sl w w.heap.size B m (ints ys)) (hn : n ≤ 1000000) (hm : m ≤ 1000000) :
    Calls Tryz.prog 16 #[.slice A n c, .slice B m d] w (RetIE (addL xs ys) (addE xs ys) w) := by
  have HX := Lib.hid ha.ilen
  have HY := Lib.hid hb.ilen
  obtain ⟨i0, hi, hz0, hz1, hz2⟩ := info_parts int_info
  by_cases hl : likeE xs ys = 0
  · obtain ⟨hlen, hwx, hwy⟩ := likeE_zero hl
    obtain rfl : n = m := by rw [← HX.out, ← HY.out]; exact hlen
    have hSl := sums_len HX.out HY.out
    generalize hS : sums xs ys = S at *
    have HS := Lib.hid hS; clear hS
    have HSl := Lib.hid hSl; clear hSl
    have HL := Lib.hid hl; clear hl
    have HW := Lib.hid (And.intro hwx hwy)
    clear hlen
    go_enter Tryz.func16, Tryz.ntmps16
    go_wp2_with (go_at_call 31; refine (within_any _ _ _ _ _ (by first | exact ha | exact hb) (by omega)).mono ?_; rintro e w' ⟨rfl, rfl⟩)
    clear hwx hwy
    go_loopw [6, 7] (fun v i wr => ∃ k : Nat, k ≤ n ∧ i = .int .i64 k ∧ wr.ownsRow w.heap.size 3 1 v k (ints (S.take k)) ∧ Below w.heap.size w wr) (fun _ i _ => n - (intOf i).toNat)
    case atStart => exact ⟨0, Nat.zero_le _, rfl, ⟨by simp [ints], .inl ⟨rfl, rfl⟩⟩, Below.refl _ _⟩
    case round =>
      obtain ⟨k, hk, rfl, hown, hbel⟩ := hrel
      by_cases hlt : k < n
      · obtain ⟨b, off, x, rfl, hbw, hx, hcx⟩ := (ha.below hbel).int_ hlt
        obtain ⟨b', off', y, rfl, hbw', hy, hcy⟩ := (hb.below hbel).int_ hlt
        have hSk := sums_at hx hy
        rw [HS.out] at hSk
        obtain ⟨x0, x1⟩ := isC_true.1 (within_at HW.out.1 hx)
        obtain ⟨y0, y1⟩ := isC_true.1 (within_at HW.out.2 hy)
        have HSk := Lib.hid hSk
        clear hSk hx hy ha hb
        have hN := hbel.size
        have hk0 : (0 : Int) ≤ (k : Int) := Int.natCast_nonneg _
        have hk1 : (k : Int) < (n : Int) := by omega
        have o1 := own_ne hown hbw
        have o2 := own_ne hown hbw'
        go_wp2
        have hwr : IntKind.i64.wrap (x + y) = x + y := IntWalk.i64_in _ (by omega)
        go_region_held3 (fun w' => w'.cell? ⟨b, off + k, none⟩ = some (.int .i64 x) ∧ w'.cell? ⟨b', off' + k, none⟩ = some (.int .i64 y))
          (first | go_keep | (go_split_ands; refine ⟨(by rw [hgrow.cell_far _ (by simp; omega) o1]; assumption), (by rw [hgrow.cell_far _ (by simp; omega) o2]; assumption)⟩))
          ((refine step_append_lies _ (by rfl) _ _ _ (by rfl) w.heap.size 3 i0 _ 1 8 Tryz.underlying25 hi hz0 hz1 hz2 rfl (by omega) _ k (ints (S.take k)) (by rfl) ((hown.alloc _).drew) ⟨wr.heap.size, 0, none⟩ 1 1 [.int .i64 (x + y)] (by rfl) (by rfl) (World.news_of_block (cs := #[.int .i64 (x + y)]) (t := 3) (fr := (0, 0)) (heap_alloc_new wr _)) (by simp [Value.oneCell']) (by omega) (by unfold maxLen; omega) (by omega) (by simp; omega) (wr.heap.size + 1) (by simp) ?_; intro gg cap w1 hown1 hgrow hat hlt1))
        clear hwr
        have hown2 : w1.ownsRow w.heap.size 3 1 (.slice (some ⟨gg, 0, none⟩) (k + 1) cap) (k + 1) (ints (S.take (k + 1))) := by rw [ints_succ HSk.out]; exact hown1
        have hbel2 : Below w.heap.size w w1 := ((hbel.alloc hN _).drew).grown hgrow (by simp; omega) fun q hq => own_ge hown hq
        clear hown1 hgrow hat
        go_wp2
        go_roundw
        case rel => exact ⟨k + 1, by omega, by go_num, hown2, hbel2⟩
        case measure => simp [intOf]; omega
      · obtain rfl : k = n := by omega
        have hTk : S.take k = S := List.take_of_length_le (by rw [HSl.out]; omega)
        rw [hTk] at hown
        clear hTk
        obtain ⟨A', c', rfl⟩ := own_form hown
        have hsl := Sl.of_own hown
        clear hown ha hb
        cases hw : within S
        · go_wp2_with (go_at_call 31; refine (within_any _ _ _ _ _ hsl hn).mono ?_; rintro e w' ⟨rfl, rfl⟩)
          go_ret2
          have hE : addE xs ys = 3 := by simp [addE, HL.out, HS.out, hw]
          rw [show addL xs ys = [] by simp [addL, hE], hE]
          exact ⟨none, 0, 0, rfl, Sl.none_, hbel⟩
        · go_wp2_with (go_at_call 31; refine (within_any _ _ _ _ _ hsl hn).mono ?_; rintro e w' ⟨rfl, rfl⟩)
          go_ret2
          have hE : addE xs ys = 0 := by simp [addE, HL.out, HS.out, hw]
          rw [show addL xs ys = S by simp [addL, hE, HS.out], hE]
          exact ⟨_, _, _, rfl, hsl, hbel⟩
  · have hE : addE xs ys = likeE xs ys := by simp [addE, hl]
    rw [show addL xs ys = [] by rw [addL, hE, if_neg hl], hE]
    by_cases hnm : n = m
    · subst hnm
      have h3 : likeE xs ys = 3 ∧ (within xs && within ys) = false := by
        have hle := HX.out.trans HY.out.symm
        cases hx : within xs
        · exact ⟨likeE_left hle hx, rfl⟩
        · cases hy : within ys
          · exact ⟨likeE_right hle hy, rfl⟩
          · exact absurd (likeE_mk hle hx hy) hl
      rw [h3.1]
      have hw := h3.2
      clear h3 hl hE
      cases hx : within xs
      · clear hw
        go_enter Tryz.func16, Tryz.ntmps16
        go_wp2_with (go_at_call 31; refine (within_any _ _ _ _ _ (by first | exact ha | exact hb) (by omega)).mono ?_; rintro e w' ⟨rfl, rfl⟩)
        go_ret2
        exact ⟨none, 0, 0, rfl, Sl.none_, Below.refl _ _⟩
      · have hy : within ys = false := by rwa [hx, Bool.true_and] at hw
        clear hw
        go_enter Tryz.func16, Tryz.ntmps16
        go_wp2_with (go_at_call 31; refine (within_any _ _ _ _ _ (by first | exact ha | exact hb) (by omega)).mono ?_; rintro e w' ⟨rfl, rfl⟩)
        go_ret2
        exact ⟨none, 0, 0, rfl, Sl.none_, Below.refl _ _⟩
    · rw [likeE_len (by rw [HX.out, HY.out]; exact hnm)]
      have hne : ((n : Int) != (m : Int)) = true := by simp; omega
      clear hnm hl hE
      go_enter Tryz.func16, Tryz.ntmps16
      go_wp2
      go_ret2
      exact ⟨none, 0, 0, rfl, Sl.none_, Below.refl _ _⟩
end Go.Proofs.YtkcbgbpgiihdeaaGreatDoor
