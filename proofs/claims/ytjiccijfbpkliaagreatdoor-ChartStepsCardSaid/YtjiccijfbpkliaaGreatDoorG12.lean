/-
  Several texts in one: natural.short divides by one limb; natural.left and natural.right shift. Conditions: slices of at most 1,000,000 limbs. natural.left and natural.right shift. Conditions: slices of at most 1,000,000 limbs, shifts from 0 to 31.
-/
import Derived.Laws.BitsAllLaws
import Derived.Laws.BitsLemmas
import Derived.Test.YtjiccijfbpkliaaGreatDoorG11

/- natural.short divides by one limb; natural.left and natural.right shift. Conditions: slices of at most 1,000,000 limbs. -/
namespace Go.Proofs.YtjiccijfbpkliaaGreatDoor
open Go.RowKit

/-- The address lies from block B on. -/
def Fresh (B : Nat) (A : Option Addr) : Prop := ∀ a, A = some a → B ≤ a.block
/-- A quotient and a remainder of one limb come back. -/
def RetNL (v r : Nat) (w : World) (e : Ending) (w' : World) : Prop :=
  ∃ A n c, e = .returned (.tuple #[.slice A n c, .int .u32 (r : Int)]) ∧ Sl w' w'.heap.size A n (u32s (limbs v)) ∧ n ≤ c ∧ Below w.heap.size w w' ∧ Fresh w.heap.size A

theorem or_join (r u : Nat) (hr : r < 4294967296) (hu : u < 4294967296) : bits BinOp.or IntKind.u64 ((r : Int) * 4294967296) (u : Int) = ((r * 4294967296 + u : Nat) : Int) := by
  have h := u64_or_nat (r * 4294967296) u (by omega) (by omega)
  rw [nat_join 32 (r * 4294967296) u (by omega) (by omega)] at h
  rw [← h]
  congr 1
theorem divs {T d : Nat} (hT : T / d < 4294967296) : IntKind.u64.wrap ((T : Int) / (d : Int)) % 4294967296 = ((T / d : Nat) : Int) := by
  rw [IntKind.wrap_u64, show ((T : Int) / (d : Int)) = ((T / d : Nat) : Int) from rfl]
  generalize T / d = q at *
  omega
/-- What natural.short's loop keeps. -/
def shortRel (l : List Nat) (d : Nat) (w : World) (rr i : Value) (wr : World) : Prop :=
  ∃ (k r : Nat) (L : List Nat), k ≤ l.length ∧ r < d ∧ i = .int .i64 ((k : Int) - 1) ∧ rr = .int .u64 (r : Int) ∧ RowU wr w.heap.size L ∧ Hid (divInv l L d k r) ∧ Below w.heap.size w wr

set_option maxRecDepth 100000 in
set_option maxHeartbeats 1600000 in
theorem short_any (A : Option Addr) (n c x d : Nat) (w : World) (ha : NatA w A n c x) (hn : n ≤ 1000000) (hd : 0 < d) (hd2 : d < 4294967296) :
    Calls Tryz.prog 123 #[.slice A n c, .int .u32 (d : Int)] w (RetNL (x / d) (x % d) w) := by
  obtain ⟨l, h1, h2, rfl, h4⟩ := ha
  have hl := h1.ulen
  have HO := Lib.hid h2; clear h2
  have hmk := make_full n (by omega)
  have HL := Lib.hid hl
  obtain rfl := hl
  go_enter Tryz.func123, Tryz.ntmps123
  go_wp2
  clear hmk
  go_loopw [7, 8] (fun rr i wr => shortRel l d w rr i wr) (fun _ i _ => (intOf i + 1).toNat)
  case atStart => exact ⟨l.length, 0, _, Nat.le_refl _, hd, rfl, rfl, RowU.made w l.length, divInv_start hd (by simp) (okL_zeros _), (Below.refl _ _).alloc (Nat.le_refl _) _⟩
  case round =>
    obtain ⟨k, r, L, hk, hr, hi, rfl, hrow, hinv, hbel⟩ := hrel
    by_cases hk0 : k = 0
    · subst hk0
      obtain rfl : u8 = .int .i64 (-1) := hi
      obtain ⟨f1, f2⟩ := divInv_end hinv.out
      have hN : NatA wr (some ⟨w.heap.size, 0, none⟩) l.length l.length (val l / d) := ⟨L, hrow.sl hinv.out.1, hinv.out.2.1, f1, Nat.le_refl _⟩
      have HF := Lib.hid f2
      have hr2 : r < 4294967296 := by omega
      clear f1 f2 hrow h1
      go_wp2_with (go_at_call 108; (with_reducible refine (trim_nat _ _ _ _ _ (by assumption) (by omega)).mono ?_); rintro e w' ⟨rfl, rfl⟩)
      go_ret2
      obtain ⟨f1, f2⟩ := hN.trimmed
      rw [← HF.out]
      exact ⟨_, _, _, rfl, f2, f1, hbel, fun a e => by injection e with e; subst e; exact Nat.le_refl _⟩
    · obtain ⟨q, rfl⟩ : ∃ q, k = q + 1 := ⟨k - 1, by omega⟩
      have hi2 : u8 = Value.int .i64 (q : Int) := by rw [hi]; congr 1; omega
      clear hi hk0
      subst hi2
      obtain ⟨b, off, u, rfl, hbw, hu, hcu⟩ := (h1.below hbel).limb_ (k := q) (by omega)
      have hub := okL_at HO.out hu
      rw [bs_eq] at hub
      have hLl : L.length = l.length := hinv.out.1
      obtain ⟨z, hz⟩ : ∃ z, L[q]? = some z := ⟨_, List.getElem?_eq_getElem (by omega)⟩
      have hcz := hrow.cell hz
      have hfz := hrow.frozen q
      have HU := Lib.hid hu
      have HR := Lib.hid hrow
      have hor := or_join r u (by omega) hub
      obtain ⟨g1, g2⟩ := divInv_succ hinv.out hu (by rw [bs_eq]; exact hub) rfl
      rw [bs_eq] at g1 g2
      have HG := Lib.hid (And.intro g1 (And.intro g2 (List.getElem?_eq_some_iff.1 hz).1))
      generalize hT : r * 4294967296 + u = T at *
      have HT := Lib.hid hT
      clear hu hz hrow h1 hLl hT g1 g2
      go_wp2
      go_roundw
      case rel =>
        rw [divs HG.out.2.1]
        exact ⟨q, T % d, _, by omega, Nat.mod_lt _ hd, rfl, rfl, HR.out.set HG.out.2.2 (T / d), HG.out.1, hbel.setCell (p := ⟨w.heap.size, q, none⟩) (Nat.le_refl _) _⟩
      case measure => simp [intOf]
end Go.Proofs.YtjiccijfbpkliaaGreatDoor

/- natural.left and natural.right shift. Conditions: slices of at most 1,000,000 limbs, shifts from 0 to 31. -/
namespace Go.Proofs.YtjiccijfbpkliaaGreatDoor
open Go.RowKit

/-- A row of limbs in a new block comes back. -/
def RetRow (P : List Nat → Prop) (w : World) (e : Ending) (w' : World) : Prop :=
  ∃ g L, e = .returned (.slice (some ⟨g, 0, none⟩) L.length L.length) ∧ w.heap.size ≤ g ∧ RowU w' g L ∧ okL L ∧ P L ∧ Below w.heap.size w w'
theorem make_succ (n : Nat) (hn : n ≤ 1000000) (W : World) : (Instr.makeSlice 32 (.int .i64 ((n : Int) + 1)) (.int .i64 ((n : Int) + 1))).run Tryz.prog W = .ok (.slice (some ⟨W.heap.size, 0, none⟩) (n + 1) (n + 1)) (W.alloc (.cells (madeCells #[Value.int .u32 0] (n + 1)) 117)) := by
  have h := make_full (n + 1) (by omega) W
  rw [Int.natCast_add] at h
  exact h
def leftRel (l : List Nat) (s : Nat) (w : World) (i : Value) (wr : World) : Prop :=
  ∃ (k : Nat) (L : List Nat), k ≤ l.length ∧ i = .int .i64 (k : Int) ∧ RowU wr w.heap.size L ∧ Hid (leftInv l L s k) ∧ Below w.heap.size w wr

theorem shl_word (u s : Nat) (hu : u < 4294967296) (hs : s ≤ 31) : IntKind.u64.wrap ((u : Int) * 2 ^ s) = ((u * 2 ^ s : Nat) : Int) ∧ u * 2 ^ s < 9223372036854775808 := by
  have h1 : 2 ^ s ≤ 2 ^ 31 := Nat.pow_le_pow_right (by omega) hs
  have h2 : u * 2 ^ s ≤ 4294967295 * 2 ^ 31 := Nat.mul_le_mul (by omega) h1
  have h3 : ((u : Int) * 2 ^ s) = ((u * 2 ^ s : Nat) : Int) := by rw [Int.natCast_mul, Int.natCast_pow]; rfl
  rw [h3, IntKind.wrap_u64]
  generalize u * 2 ^ s = t at *
  omega
theorem leftRel_next {l : List Nat} {s : Nat} {w wr : World} {k u z : Nat} {L : List Nat} (hs : s ≤ 31) (hk : k < l.length) (hu : l[k]? = some u) (hub : u < 4294967296) (hz : L[k]? = some z) (hrow : RowU wr w.heap.size L) (hinv : leftInv l L s k) (hbel : Below w.heap.size w wr) :
    leftRel l s w (Value.int IntKind.i64 ((k : Int) + 1))
    ((wr.setCell ⟨w.heap.size, k, none⟩ (Value.int IntKind.u32 (bits BinOp.or IntKind.u32 (z : Int) (IntKind.u64.wrap ((u : Int) * 2 ^ s) % 4294967296)))).setCell ⟨w.heap.size, k + 1, none⟩
      (Value.int IntKind.u32 (IntKind.u64.wrap ((u : Int) * 2 ^ s) / 4294967296 % 4294967296))) := by
  obtain ⟨e1, e2⟩ := shl_word u s hub hs
  obtain ⟨g1, g2, g3, g4⟩ := leftInv_succ hs hinv hu (by rw [bs_eq]; exact hub) hz
  rw [bs_eq] at g1 g2 g3 g4
  have hzb := okL_at hinv.2.1 hz
  rw [bs_eq] at hzb
  rw [e1]
  generalize u * 2 ^ s = t at *
  have f1 : bits BinOp.or IntKind.u32 (z : Int) ((t : Int) % 4294967296) = ((z + t % 4294967296 : Nat) : Int) := by
    have h := u32_or_nat z (t % 4294967296) hzb (by omega)
    rw [g4] at h
    exact h
  have f2 : (t : Int) / 4294967296 % 4294967296 = ((t / 4294967296 : Nat) : Int) := by omega
  rw [f1, f2]
  have hL := hinv.1
  exact ⟨k + 1, _, by omega, by go_num, (hrow.set (i := k) (by omega) (z + t % 4294967296)).set (i := k + 1) (by rw [List.length_set]; omega) (t / 4294967296), g1, (hbel.setCell (p := ⟨w.heap.size, k, none⟩) (Nat.le_refl _) _).setCell (p := ⟨w.heap.size, k + 1, none⟩) (Nat.le_refl _) _⟩

set_option maxRecDepth 100000 in
set_option maxHeartbeats 1600000 in
theorem left_any (A : Option Addr) (n c s : Nat) (l : List Nat) (w : World) (h1 : Sl w w.heap.size A n (u32s l)) (h2 : okL l) (hn : n ≤ 1000000) (hs : s ≤ 31) :
    Calls Tryz.prog 142 #[.slice A n c, .int .i64 (s : Int)] w (RetRow (fun L => L.length = l.length + 1 ∧ val L = val l * 2 ^ s ∧ L.getD l.length 0 < 2 ^ s) w) := by
  have hl := h1.ulen
  have HO := Lib.hid h2; clear h2
  have hmk := make_succ n (by omega)
  obtain rfl := hl
  go_enter Tryz.func142, Tryz.ntmps142
  go_wp2
  clear hmk
  go_loopw [15] (fun i wr => leftRel l s w i wr) (fun i _ => l.length - (intOf i).toNat)
  case atStart => exact ⟨0, _, Nat.zero_le _, rfl, RowU.made w (l.length + 1), leftInv_zero _ _, (Below.refl _ _).alloc (Nat.le_refl _) _⟩
  case round =>
    obtain ⟨k, L, hk, rfl, hrow, hinv, hbel⟩ := hrel
    by_cases hlk : k < l.length
    · obtain ⟨b, off, u, rfl, hbw, hu, hcu⟩ := (h1.below hbel).limb_ hlk
      have hub := okL_at HO.out hu
      have hub2 := hub
      rw [bs_eq] at hub2
      have hLl : L.length = l.length + 1 := hinv.out.1
      obtain ⟨z, hz⟩ : ∃ z, L[k]? = some z := ⟨_, List.getElem?_eq_getElem (by omega)⟩
      obtain ⟨z1, hz1⟩ : ∃ z1, L[k + 1]? = some z1 := ⟨_, List.getElem?_eq_getElem (by omega)⟩
      have hcz := hrow.cell hz
      have hfz := hrow.frozen k
      have hcz1 := hrow.cell hz1
      have hfz1 := hrow.frozen (k + 1)
      have HR := Lib.hid (And.intro hrow (And.intro hu hz))
      clear hrow hz hz1 hLl hu hub h1
      go_wp2
      go_roundw
      case rel => exact leftRel_next hs hlk HR.out.2.1 hub2 HR.out.2.2 HR.out.1 hinv.out hbel
      case measure => simp [intOf]; omega
    · obtain rfl : k = l.length := by omega
      have HR := Lib.hid hrow
      clear h1 hrow
      go_wp2
      go_ret
      obtain ⟨f1, f2, f3⟩ := leftInv_end hinv.out
      exact ⟨w.heap.size, L, by rw [hinv.out.1]; rfl, Nat.le_refl _, HR.out, f1, ⟨hinv.out.1, f2, f3⟩, hbel⟩

def rightRel (l : List Nat) (s : Nat) (w : World) (i : Value) (wr : World) : Prop :=
  ∃ (k : Nat) (L : List Nat), k ≤ l.length ∧ i = .int .i64 (k : Int) ∧ RowU wr w.heap.size L ∧ Hid (rightInv l L s k) ∧ Below w.heap.size w wr
theorem or_join2 (u v : Nat) (hu : u < 4294967296) (hv : v < 4294967296) : bits BinOp.or IntKind.u64 (u : Int) ((v : Int) * 4294967296) = ((u + 4294967296 * v : Nat) : Int) := by
  have h := u64_or_nat u (v * 4294967296) (by omega) (by omega)
  rw [Nat.or_comm, nat_join 32 (v * 4294967296) u (by omega) (by omega), Nat.add_comm, Nat.mul_comm v] at h
  rw [← h]
  congr 1
  rw [Int.natCast_mul, Int.mul_comm]
  rfl
theorem shr_word (t s : Nat) : (t : Int) / 2 ^ s % 4294967296 = ((t / 2 ^ s % 4294967296 : Nat) : Int) := by
  rw [Int.natCast_emod, Int.natCast_ediv, Int.natCast_pow]
  rfl
theorem rightRel_next {l : List Nat} {s : Nat} {w wr : World} {k : Nat} {L : List Nat} (hs : s ≤ 31) (ho : okL l) (hk : k < l.length) (hrow : RowU wr w.heap.size L) (hinv : rightInv l L s k) (hbel : Below w.heap.size w wr) {T : Int} (hT : T = ((l.getD k 0 + 4294967296 * l.getD (k + 1) 0 : Nat) : Int)) :
    rightRel l s w (Value.int IntKind.i64 ((k : Int) + 1)) (wr.setCell ⟨w.heap.size, k, none⟩ (Value.int IntKind.u32 (T / 2 ^ s % 4294967296))) := by
  subst hT
  have g := rightInv_succ hs ho hinv hk
  rw [bs_eq] at g
  rw [shr_word]
  have hL := hinv.1
  exact ⟨k + 1, _, by omega, by go_num, hrow.set (i := k) (by omega) _, g, hbel.setCell (p := ⟨w.heap.size, k, none⟩) (Nat.le_refl _) _⟩

set_option maxRecDepth 100000 in
set_option maxHeartbeats 1600000 in
theorem right_any (A : Option Addr) (n c s x : Nat) (w : World) (ha : NatA w A n c x) (hn : n ≤ 1000000) (hs : s ≤ 31) :
    Calls Tryz.prog 144 #[.slice A n c, .int .i64 (s : Int)] w (RetN (x / 2 ^ s) w) := by
  obtain ⟨l, h1, h2, rfl, h4⟩ := ha
  have hl := h1.ulen
  have HO := Lib.hid h2; clear h2
  have hmk := make_full n (by omega)
  obtain rfl := hl
  go_enter Tryz.func144, Tryz.ntmps144
  go_wp2
  clear hmk
  go_loopw [14] (fun i wr => rightRel l s w i wr) (fun i _ => l.length - (intOf i).toNat)
  case atStart => exact ⟨0, _, Nat.zero_le _, rfl, RowU.made w l.length, rightInv_zero (by simp) (okL_zeros _), (Below.refl _ _).alloc (Nat.le_refl _) _⟩
  case round =>
    obtain ⟨k, L, hk, rfl, hrow, hinv, hbel⟩ := hrel
    by_cases hlk : k < l.length
    · obtain ⟨b, off, u, hA, hbw, hu, hcu⟩ := (h1.below hbel).limb_ hlk
      subst hA
      have hub := okL_at HO.out hu
      rw [bs_eq] at hub
      have hLl : L.length = l.length := hinv.out.1
      obtain ⟨z, hz⟩ : ∃ z, L[k]? = some z := ⟨_, List.getElem?_eq_getElem (by omega)⟩
      have hcz := hrow.cell hz
      have hfz := hrow.frozen k
      have HR := Lib.hid (And.intro hrow hu)
      by_cases hl1 : k + 1 < l.length
      · obtain ⟨b2, off2, v, hA, hbw2, hv, hcv⟩ := (h1.below hbel).limb_ hl1
        obtain ⟨rfl, rfl⟩ : b = b2 ∧ off = off2 := by simpa using hA
        have hvb := okL_at HO.out hv
        rw [bs_eq] at hvb
        have HV := Lib.hid hv
        clear hrow hz hLl hu h1 hA hv
        go_wp2
        go_roundw
        case rel => exact rightRel_next hs HO.out hlk HR.out.1 hinv.out hbel (by rw [or_join2 u v hub hvb, getD_some HR.out.2, getD_some HV.out])
        case measure => simp [intOf]; omega
      · clear hrow hz hLl hu h1
        go_wp2
        go_roundw
        case rel => exact rightRel_next hs HO.out hlk HR.out.1 hinv.out hbel (by rw [getD_some HR.out.2, getD_over (by omega : l.length ≤ k + 1)]; rfl)
        case measure => simp [intOf]; omega
    · obtain rfl : k = l.length := by omega
      obtain ⟨f1, f2⟩ := rightInv_end hinv.out
      have hN : NatA wr (some ⟨w.heap.size, 0, none⟩) l.length l.length (val l / 2 ^ s) := ⟨L, hrow.sl hinv.out.1, f1, f2, Nat.le_refl _⟩
      clear f1 f2 hrow h1
      go_wp2_with (go_at_call 108; (with_reducible refine (trim_nat _ _ _ _ _ (by assumption) (by omega)).mono ?_); rintro e w' ⟨rfl, rfl⟩)
      go_ret
      obtain ⟨f1, f2⟩ := hN.trimmed
      exact ⟨_, _, _, rfl, f2, f1, hbel⟩
end Go.Proofs.YtjiccijfbpkliaaGreatDoor
