/-
  order.isSize says whether a text has the form of a size; it asks chart.Check of a chart with that size alone. Conditions: a text of at most 1,000,000 bytes.
-/
import Derived.Test.YtkcbgbpgiihdeaaDoorSize
namespace Go.Proofs.YtkcbgbpgiihdeaaDoor
open Go.RowKit
open Go.Lib hiding intOf

set_option maxRecDepth 100000 in
set_option maxHeartbeats 3200000 in
theorem check1 (s : ByteArray) (b off : Nat) (w : World) (hs : s.size ≤ 1000000) (hc : w.cell? ⟨b, off, none⟩ = some (.string s)) (hb : b < w.heap.size) :
    Calls Tryd.prog 33 #[.agg #[.slice (some ⟨b, off, none⟩) 1 1, .int .i64 0, .slice none 0 0]] w fun e w' => e = .returned (.int .i64 (if szOk s.data.toList then 0 else 1)) ∧ Below w.heap.size w w' := by
  have hc' : ∀ o, (w.alloc o).cell? ⟨b, off, none⟩ = some (.string s) := fun o => (World.cell?_alloc_lt w o _ hb).trans hc
  have hco : ∀ o, (w.alloc o).cell? ⟨b, off + 0, none⟩ = some (.string s) := hc'
  cases hz : szOk s.data.toList
  · go_enter Tryd.func33, Tryd.ntmps33
    go_wp2
    go_loop [28] (fun i => i = .int .i64 0) (fun _ => 0)
    case atStart => exact rfl
    case round =>
      obtain rfl := hrel
      go_wp2_with (go_at_call 41; refine (csize_any _ _ hs).mono ?_; rintro e w' ⟨rfl, rfl⟩; rw [hz])
      go_ret
      exact ⟨by simp, (Below.refl _ _).alloc (Nat.le_refl _) _⟩
  · go_enter Tryd.func33, Tryd.ntmps33
    go_wp2
    go_loop [28] (fun i => ∃ k : Nat, k ≤ 1 ∧ i = .int .i64 k) (fun i => 1 - (intOf i).toNat)
    case atStart => exact ⟨0, by omega, rfl⟩
    case round =>
      obtain ⟨k, hk, rfl⟩ := hrel
      by_cases hk0 : k = 0
      · subst hk0
        go_wp2_with (go_at_call 41; refine (csize_any _ _ hs).mono ?_; rintro e w' ⟨rfl, rfl⟩; rw [hz])
        go_round
        case rel => exact ⟨1, by omega, by go_num⟩
        case measure => simp [intOf]
      · obtain rfl : k = 1 := by omega
        clear hk0
        go_wp2
        go_loop [39] (fun i => i = .int .i64 0) (fun _ => 0)
        case atStart => exact rfl
        case round =>
          obtain rfl := hrel
          go_wp2
          go_loop [69] (fun i => ∃ k : Nat, k ≤ 1 ∧ i = .int .i64 k) (fun i => 1 - (intOf i).toNat)
          case atStart => exact ⟨0, by omega, rfl⟩
          case round =>
            obtain ⟨k, hk, rfl⟩ := hrel
            by_cases hk0 : k = 0
            · subst hk0
              go_wp2_with (go_at_call 24; refine (Tryd.slices_Contains_string_empty _ _ _ _).mono ?_; rintro e w' ⟨rfl, rfl⟩)
              go_round
              case rel => exact ⟨1, by omega, by go_num⟩
              case measure => simp [intOf]
            · obtain rfl : k = 1 := by omega
              clear hk0
              go_wp2
              go_loop [84] (fun i => i = .int .i64 0) (fun _ => 0)
              case atStart => exact rfl
              case round =>
                obtain rfl := hrel
                go_wp2
                go_ret
                exact ⟨by simp, by repeat (first | exact Below.refl _ _ | refine Below.drew ?_ | refine Below.alloc ?_ (by simp) _)⟩

set_option maxHeartbeats 800000 in
theorem osize_any (s : ByteArray) (w : World) (hs : s.size ≤ 1000000) :
    Calls Tryd.prog 23 #[.string s] w fun e w' => e = .returned (.bool (szOk s.data.toList)) ∧ Below w.heap.size w w' := by
  cases hz : szOk s.data.toList
  · go_enter Tryd.func23, Tryd.ntmps23
    go_wp2_with (go_at_call 33; refine (check1 s _ _ _ hs (by simp) (by simp)).mono ?_; rintro e w' ⟨rfl, hb⟩; rw [hz])
    go_ret
    exact ⟨by simp, ((Below.refl _ _).alloc (Nat.le_refl _) _).trans (hb.mono (by simp))⟩
  · go_enter Tryd.func23, Tryd.ntmps23
    go_wp2_with (go_at_call 33; refine (check1 s _ _ _ hs (by simp) (by simp)).mono ?_; rintro e w' ⟨rfl, hb⟩; rw [hz])
    go_ret
    exact ⟨by simp, ((Below.refl _ _).alloc (Nat.le_refl _) _).trans (hb.mono (by simp))⟩
end Go.Proofs.YtkcbgbpgiihdeaaDoor
