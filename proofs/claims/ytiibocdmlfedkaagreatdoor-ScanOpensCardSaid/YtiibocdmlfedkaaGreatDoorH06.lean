/- Parts of the proof. -/
import Derived.BigQuiet
import Derived.Deep.QuietTactic
import Derived.LoopTactic
import Derived.Outline
import Derived.Test.YtiibocdmlfedkaaGreatDoorProg
import Derived.WalkSpells
import Derived.Test.YtiibocdmlfedkaaGreatDoorH01
import Derived.Test.YtiibocdmlfedkaaGreatDoorH02
namespace Go.Proofs.YtiibocdmlfedkaaGreatDoor
section
open Go.RowKit
def u32s (l : List Nat) : List Value := l.map fun x : Nat => Value.int .u32 (x : Int)
theorem u32s_len (l : List Nat) : (u32s l).length = l.length := by simp [u32s]
section
variable {w w' : World} {B n : Nat} {A : Option Addr} {l : List Nat}
theorem Sl.ulen (h : Sl w B A n (u32s l)) : l.length = n := by rw [← u32s_len]; exact h.1
theorem Sl.limb_ {k : Nat} (h : Sl w B A n (u32s l)) (hk : k < n) : ∃ b off x, A = some ⟨b, off, none⟩ ∧ b < B ∧ l[k]? = some x ∧ w.cell? ⟨b, off + k, none⟩ = some (.int .u32 (x : Int)) := by
 obtain ⟨b, off, u, e, hb, hu, hc⟩ := h.at_ hk
 simp only [u32s, List.getElem?_map, Option.map_eq_some_iff] at hu
 obtain ⟨x, hx, rfl⟩ := hu
 exact ⟨b, off, x, e, hb, hx, hc⟩
theorem Sl.utake (h : Sl w B A n (u32s l)) {k : Nat} (hk : k ≤ n) : Sl w B A k (u32s (l.take k)) := by
 have hl := h.ulen
 refine ⟨by rw [u32s_len, List.length_take]; omega, fun hn => ?_⟩
 obtain ⟨b, off, e, hb, hc⟩ := h.2 (by omega)
 refine ⟨b, off, e, hb, fun j u hu => hc j u ?_⟩
 simp only [u32s, List.getElem?_map, Option.map_eq_some_iff] at hu ⊢
 obtain ⟨x, hx, rfl⟩ := hu
 rw [List.getElem?_take] at hx
 split at hx
 ·exact ⟨x, hx, rfl⟩
 ·cases hx
end
theorem ret_slice {A : Option Addr} {n m c : Nat} (h : n = m) : Ending.returned (.slice A n c) = .returned (.slice A m c) := by rw [h]
set_option maxHeartbeats 400000 in
theorem trim_any (A : Option Addr) (n c : Nat) (l : List Nat) (w : World) {B : Nat} (ha : Sl w B A n (u32s l)) (ho : okL l) (hc : n ≤ c) (hn : n ≤ 4000000) :
  Calls Tryz.prog 197 #[.slice A n c] w fun e w' => e = .returned (.slice A (limbs (val l)).length c) ∧ w = w' := by
 have HX := Lib.hid ha.ulen
 have HO := Lib.hid ho; clear ho
 go_enter Tryz.func197, Tryz.ntmps197
 go_wp2
 go_loop [3] (fun i => ∃ k : Nat, k ≤ n ∧ i = .int .i64 k ∧ Hid (∀ j x, k ≤ j → l[j]? = some x → x = 0)) (fun i => (intOf i).toNat)
 case atStart => exact ⟨n, Nat.le_refl _, rfl, fun j x hj hx => by have := (List.getElem?_eq_some_iff.1 hx).1; rw [HX.out] at this; omega⟩
 case round =>
  obtain ⟨k, hk, rfl, hz⟩ := hrel
  by_cases hk0 : k = 0
  ·subst hk0
   have HE := Lib.hid (limbs_trim HO.out (Nat.zero_le _) hz.out (.inl rfl))
   clear ha
   go_wp2
   go_ret
   exact ⟨ret_slice (by rw [HE.out]; simp), rfl⟩
  ·obtain ⟨m, rfl⟩ : ∃ m, k = m + 1 := ⟨k - 1, by omega⟩
   obtain ⟨b, off, x, rfl, _, hx, hcx⟩ := ha.limb_ (k := m) (by omega)
   have HA := Lib.hid hx; clear hx ha
   by_cases hx0 : x = 0
   ·subst hx0
    have HZ : Hid (∀ j x, m ≤ j → l[j]? = some x → x = 0) := fun j x hj hx => by
     by_cases hjm : j = m
     ·subst hjm
      rw [HA.out] at hx
      exact (Option.some.inj hx).symm
     ·exact hz.out j x (by omega) hx
    go_wp2
    go_round
    case rel => exact ⟨m, by omega, by go_num, HZ⟩
    case measure => simp [intOf]
   ·have hx1 : ((x : Int) == 0) = false := by simp; omega
    have HE := Lib.hid (limbs_trim HO.out (by rw [HX.out]; omega) hz.out (.inr ⟨x, HA.out, hx0⟩))
    clear hx0
    go_wp2
    go_ret
    exact ⟨ret_slice (by rw [HE.out, List.length_take, HX.out]; omega), rfl⟩
def RetN (v : Nat) (w : World) (e : Ending) (w' : World) : Prop :=
 ∃ A n c, e = .returned (.slice A n c) ∧ Sl w' w'.heap.size A n (u32s (limbs v)) ∧ n ≤ c ∧ Below w.heap.size w w'
theorem Sl.lit (w : World) (cs : Array Value) (t : TypeId) {n : Nat} {xs : List Value} (hn : cs.size = n) (hx : cs.toList = xs) : Sl (w.alloc (.cells cs t)) (w.heap.size + 1) (some ⟨w.heap.size, 0, none⟩) n xs := by
 subst hn hx
 refine ⟨by simp, fun _ => ⟨w.heap.size, 0, rfl, by omega, fun j u hu => ?_⟩⟩
 rw [cell_of_row _ w.heap.size (0 + j) cs t (0, 0) (heap_alloc_new w _), Nat.zero_add]
 simpa using hu
theorem Sl.trimmed {w : World} {B n : Nat} {A : Option Addr} {l : List Nat} (h : Sl w B A n (u32s l)) (ho : okL l) : (limbs (val l)).length ≤ n ∧ Sl w B A (limbs (val l)).length (u32s (limbs (val l))) := by
 obtain ⟨k, hk, he, hkw⟩ := limbs_take_width ho
 have hl := h.ulen
 have hk2 : (limbs (val l)).length = k := by rw [hkw, width]
 refine ⟨by omega, ?_⟩
 rw [hk2, he]
 exact h.utake (by omega)
set_option maxHeartbeats 400000 in
theorem of_any (n : Nat) (w : World) (hn : n < 18446744073709551616) :
  Calls Tryz.prog 170 #[.int .u64 (n : Int)] w (RetN n w) := by
 have hv : val [n % 4294967296, n / 4294967296] = n := by simp only [val, bs]; omega
 have ho : okL [n % 4294967296, n / 4294967296] := by
  intro x hx
  simp only [List.mem_cons, List.not_mem_nil, or_false] at hx
  unfold bs
  rcases hx with rfl | rfl <;> omega
 have hl := Sl.lit w #[.int .u32 (n % 4294967296 : Int), .int .u32 (n / 4294967296 : Int)] 190 (n := 2) (xs := u32s [n % 4294967296, n / 4294967296]) rfl rfl
 have ht := hl.trimmed ho
 rw [hv] at ht
 have HT := Lib.hid ht
 have HL := Lib.hid hl
 have HO := Lib.hid ho
 have HV := Lib.hid hv
 clear ht hl ho hv
 go_enter Tryz.func170, Tryz.ntmps170
 go_wp2_with (go_at_call 197; refine (trim_any _ 2 2 _ _ HL.out HO.out (by omega) (by omega)).mono ?_; rintro e w' ⟨rfl, rfl⟩; rw [HV.out])
 go_ret
 exact ⟨_, _, _, rfl, by simpa using HT.out.2, HT.out.1, (Below.refl _ _).alloc (Nat.le_refl _) _⟩
end
end Go.Proofs.YtiibocdmlfedkaaGreatDoor
