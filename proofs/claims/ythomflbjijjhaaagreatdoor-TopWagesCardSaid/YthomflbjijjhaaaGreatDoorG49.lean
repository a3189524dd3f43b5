/-
  Several texts in one: wage.Check, Amount, total. Conditions: what the variables hold (StdT); Amount at a tariff without an error, minutes and counts in their bounds.
-/
import Derived.Deep.LoopGhost
import Derived.LoopN
import Derived.Test.YthomflbjijjhaaaGreatDoorG03
import Derived.Test.YthomflbjijjhaaaGreatDoorG15
import Derived.Test.YthomflbjijjhaaaGreatDoorG29

/- wage.Check, Amount, total. Conditions: what the variables hold (StdT); Amount at a tariff without an error, minutes and counts in their bounds. -/
namespace Go.Proofs.YthomflbjijjhaaaGreatDoor
open Go.RowKit
open Go.Lib hiding intOf

theorem pair_0 (r l : Int) (W : World) : (Instr.index 91 (.agg #[.int .i64 r, .int .i64 l]) (.int .i64 0)).run Tryz.prog W = .ok (.int .i64 r) W := by kernel_rfl
theorem pair_1 (r l : Int) (W : World) : (Instr.index 91 (.agg #[.int .i64 r, .int .i64 l]) (.int .i64 1)).run Tryz.prog W = .ok (.int .i64 l) W := by kernel_rfl
set_option maxRecDepth 100000 in
set_option maxHeartbeats 1600000 in
theorem wcheck_any (t : PTariff) (w : World) (hw : StdT w) :
    Calls Tryz.prog 10 #[.agg #[.int .i64 t.rate, .int .i64 t.least]] w fun e w' => e = .returned (.int .i64 (tariffE t)) ∧ Below w.heap.size w w' := by
  obtain ⟨r, l⟩ := t
  have HL : Hid (Below w.heap.size w (w.alloc (.cells #[.int .i64 r, .int .i64 l] 36))) := (Below.refl _ _).alloc (Nat.le_refl _) _
  have b0 : (w.alloc (.cells #[.int .i64 r, .int .i64 l] 36)).cell? ⟨0, 0, none⟩ = some (.int .i64 100000) := (World.cell?_alloc_lt w _ ⟨0, 0, none⟩ hw.b2).trans hw.bd0
  have b1 : (w.alloc (.cells #[.int .i64 r, .int .i64 l] 36)).cell? ⟨0, 1, none⟩ = some (.int .i64 1073741824) := (World.cell?_alloc_lt w _ ⟨0, 1, none⟩ hw.b2).trans hw.bd1
  have hB := Blk.new w 36 #[.int .i64 r, .int .i64 l]
  have c0 := hB.c (i := 0) rfl
  have c1 := hB.c (i := 1) rfl
  have hp0 := pair_0 r l
  have hp1 := pair_1 r l
  clear hw hB
  obtain ⟨E, hE⟩ : ∃ E, tariffE ⟨r, l⟩ = E := ⟨_, rfl⟩
  rw [hE]
  by_cases h1 : r < 0
  · have HE : Hid (E = 3) := by rw [Hid, ← hE]; simp [tariffE, h1]
    clear hE
    go_enter Tryz.func10, Tryz.ntmps10
    go_wp2_with fail
    refine wp_loop_rounds 3 ?_
    repeat any_goals (rw [rounds_succ]; go_wp2_with fail)
    go_ret
    exact ⟨by rw [HE.out]; rfl, HL.out⟩
  · by_cases h2 : 100000 < r
    · have HE : Hid (E = 3) := by rw [Hid, ← hE]; simp [tariffE, h2]
      clear hE
      go_enter Tryz.func10, Tryz.ntmps10
      go_wp2_with fail
      refine wp_loop_rounds 3 ?_
      repeat any_goals (rw [rounds_succ]; go_wp2_with fail)
      go_ret
      exact ⟨by rw [HE.out]; rfl, HL.out⟩
    · by_cases h3 : l < 0
      · have HE : Hid (E = 3) := by rw [Hid, ← hE]; simp [tariffE, h3]
        clear hE
        go_enter Tryz.func10, Tryz.ntmps10
        go_wp2_with fail
        refine wp_loop_rounds 3 ?_
        repeat any_goals (rw [rounds_succ]; go_wp2_with fail)
        go_ret
        exact ⟨by rw [HE.out]; rfl, HL.out⟩
      · by_cases h4 : 1073741824 < l
        · have HE : Hid (E = 3) := by rw [Hid, ← hE]; simp [tariffE, h4]
          clear hE
          go_enter Tryz.func10, Tryz.ntmps10
          go_wp2_with fail
          refine wp_loop_rounds 3 ?_
          repeat any_goals (rw [rounds_succ]; go_wp2_with fail)
          go_ret
          exact ⟨by rw [HE.out]; rfl, HL.out⟩
        · have HE : Hid (E = 0) := by rw [Hid, ← hE]; simp only [tariffE]; rw [if_neg (by omega)]
          clear hE
          go_enter Tryz.func10, Tryz.ntmps10
          go_wp2_with fail
          refine wp_loop_rounds 3 ?_
          repeat any_goals (rw [rounds_succ]; go_wp2_with fail)
          go_ret
          exact ⟨by rw [HE.out]; rfl, HL.out⟩

set_option maxRecDepth 100000 in
set_option maxHeartbeats 1600000 in
theorem amount_any (t : PTariff) (m c : Int) (w : World) (hw : StdT w) (ht : tariffE t = 0) (h1 : 0 ≤ m) (h2 : m ≤ 10000) (h3 : 0 ≤ c) (h4 : c ≤ 40) :
    Calls Tryz.prog 12 #[.agg #[.int .i64 t.rate, .int .i64 t.least], .int .i64 m, .int .i64 c] w fun e w' => e = .returned (.tuple #[.int .i64 (amountP t m c), .int .i64 0]) ∧ Below w.heap.size w w' := by
  have HL : Hid (Below w.heap.size w (w.alloc (.cells #[.int .i64 t.rate, .int .i64 t.least] 36))) := (Below.refl _ _).alloc (Nat.le_refl _) _
  have HC := Lib.hid (wcheck_any t _ (hw.below HL.out))
  rw [ht] at HC
  have HB := Lib.hid (Blk.new w 36 #[.int .i64 t.rate, .int .i64 t.least])
  obtain ⟨r0, r1, _, _⟩ := tariff_ok ht
  obtain ⟨p, hp⟩ : ∃ p, m * c = p := ⟨_, rfl⟩
  have p0 : 0 ≤ p := by rw [← hp]; exact Int.mul_nonneg h1 h3
  have p1 : p ≤ 400000 := by rw [← hp]; exact Int.le_trans (Int.mul_le_mul h2 h4 h3 (by omega)) (by omega)
  obtain ⟨q, hq⟩ : ∃ q, p * t.rate = q := ⟨_, rfl⟩
  have q0 : 0 ≤ q := by rw [← hq]; exact Int.mul_nonneg p0 r0
  have q1 : q ≤ 40000000000 := by rw [← hq]; exact Int.le_trans (Int.mul_le_mul p1 r1 r0 (by omega)) (by omega)
  have HV : Hid ((q + 5000) / 10000 = amountP t m c) := by rw [Hid, amountP, hp, hq]
  have e1 : IntKind.i64.wrap (m * c) = p := by rw [hp, IntKind.wrap_i64]; omega
  have e2 : IntKind.i64.wrap (p * t.rate) = q := by rw [hq, IntKind.wrap_i64]; omega
  have j1 : ¬ m < 0 := by omega
  have j2 : ¬ 10000 < m := by omega
  have j3 : ¬ c < 0 := by omega
  have j4 : ¬ 1000 < c := by omega
  clear hw ht h1 h2 h3 h4 hp hq r0 r1 p0 p1
  go_enter Tryz.func12, Tryz.ntmps12
  go_wp2_with fail
  refine HC.out.mono ?_
  rintro e w1 ⟨rfl, hb⟩
  have HL1 := Lib.hid (HL.out.trans (hb.mono HL.out.size))
  have c0 := (HB.out.below hb).c (i := 0) rfl
  clear hb
  go_wp2_with fail
  refine bodyPost_ret (results_tmp2 rfl _ _ _) rfl ?_
  refine ⟨?_, HL1.out⟩
  rw [← HV.out]
  rfl

set_option maxRecDepth 100000 in
theorem plus_any (a b : Int) (w : World) (h0 : 0 ≤ a) (h1 : a ≤ 1000000000000) (h2 : 0 ≤ b) (h3 : b ≤ 1000000000000) :
    Calls Tryz.prog 14 #[.int .i64 a, .int .i64 b] w fun e w' => e = .returned (.int .i64 (a + b)) ∧ w' = w := by
  go_enter Tryz.func14, Tryz.ntmps14
  go_wp2_with fail
  go_ret
  exact ⟨rfl, rfl⟩
theorem plus_enters : ∀ args w, (callFunc 14 args).run Tryz.prog w = .ok (.enter 14 args) w := enters_of Tryz.func14 (by kernel_rfl) rfl
set_option maxRecDepth 100000 in
set_option maxHeartbeats 1600000 in
theorem total_any (A : Option Addr) (n c : Nat) (l : List Int) (w : World) (ha : Sl w w.heap.size A n (ints l)) (hn : n ≤ 400) (hl : ∀ z ∈ l, 0 ≤ z ∧ z ≤ 4000001) :
    Calls Tryz.prog 13 #[.func (.func 14) #[] #[], .slice A n c] w fun e w' => e = .returned (.int .i64 (sumP l)) ∧ w' = w := by
  have ep := plus_enters
  have HA := Lib.hid ha
  have HN := Lib.hid ha.ilen
  have HZ := Lib.hid hl
  clear ha hl
  go_enter Tryz.func13, Tryz.ntmps13
  go_wp2_with fail
  go_loopw [5, 7, 10] (fun s _ i wr => ∃ k : Nat, k ≤ n ∧ i = .int .i64 (k : Int) ∧ s = .int .i64 (sumP (l.take k)) ∧ wr = w) (fun _ _ i _ => n - (intOf i).toNat)
  case atStart => exact ⟨0, Nat.zero_le _, rfl, rfl, rfl⟩
  case round =>
    obtain ⟨k, hk, rfl, rfl, rfl⟩ := hrel
    by_cases hlt : k < n
    · obtain ⟨b, off, x, rfl, hbw, hx, c0⟩ := HA.out.int_ hlt
      have HS := Lib.hid (sum_take hx)
      obtain ⟨z0, z1⟩ := HZ.out x (List.mem_of_getElem? hx)
      have s0 : 0 ≤ sumP (l.take k) := sum_nn (fun z hz => (HZ.out z (List.mem_of_mem_take hz)).1)
      have s1 : sumP (l.take k) ≤ 1000000000000 := by
        have h1 := sum_le 4000001 (l := l.take k) (fun z hz => (HZ.out z (List.mem_of_mem_take hz)).2)
        have h2 : (l.take k).length ≤ 400 := by rw [List.length_take]; omega
        omega
      obtain ⟨S, hS⟩ : ∃ S, sumP (l.take k) = S := ⟨_, rfl⟩
      rw [hS] at s0 s1 HS ⊢
      have HP := Lib.hid (fun W => plus_any S x W s0 s1 z0 (by omega))
      have i1 : (0 : Int) ≤ (k : Int) := by omega
      have i2 : (k : Int) < (n : Int) := by omega
      clear hx hS
      go_wp2_with (go_at_fn 14; refine (HP.out _).mono ?_; rintro e w' ⟨rfl, rfl⟩)
      go_roundw
      case rel => exact ⟨k + 1, by omega, by go_num, by rw [HS.out], trivial⟩
      case measure => simp [intOf]; omega
    · obtain rfl : n = k := by omega
      have HE : Hid (l.take n = l) := by rw [Hid, ← HN.out, List.take_length]
      rw [HE.out]
      go_wp2_with fail
      go_ret
      exact ⟨rfl, rfl⟩
end Go.Proofs.YthomflbjijjhaaaGreatDoor
