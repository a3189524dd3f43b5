/- Parts of the proof. -/
import Derived.Deep.OwnRows
import Derived.Laws.CopyOwn
import Derived.OwnWalk
import Derived.Test.YtiibocdmlfedkaaGreatDoorH06
namespace Go.Proofs.YtiibocdmlfedkaaGreatDoor
section
open Go.RowKit
theorem u32_info : (Tryz.prog.info? 190).map (fun i => (i.zero, i.size, i.bytes)) = some (some (.int .u32 0), 1, 4) := by kernel_rfl
theorem u32_size : (Tryz.prog.info? 190).map (·.size) = some 1 := by kernel_rfl
theorem u32s_one (l : List Nat) : ∀ v ∈ u32s l, v.oneCell' = true := by
 intro v hv
 simp only [u32s, List.mem_map] at hv
 obtain ⟨x, _, rfl⟩ := hv
 rfl
theorem Sl.of_block {w : World} {g : Nat} {t : TypeId} {xs : List Value} {n : Nat} (h : w.heap[g]? = some (.cells xs.toArray t (0, 0))) (hn : xs.length = n) : Sl w w.heap.size (some ⟨g, 0, none⟩) n xs := by
 refine ⟨hn, fun _ => ⟨g, 0, rfl, (Array.getElem?_eq_some_iff.1 h).1, fun j u hu => ?_⟩⟩
 rw [cell_of_row _ g (0 + j) _ t (0, 0) h, Nat.zero_add]
 simpa using hu
def RetNF (v : Nat) (w : World) (e : Ending) (w' : World) : Prop :=
 ∃ g n, e = .returned (.slice (some ⟨g, 0, none⟩) n n) ∧ w.heap.size ≤ g ∧ Sl w' w'.heap.size (some ⟨g, 0, none⟩) n (u32s (limbs v)) ∧ Below w.heap.size w w'
theorem copy_src {w : World} {A : Option Addr} {L : List Nat} (hs : Sl w w.heap.size A L.length (u32s L)) :
  0 < (u32s L).length → (some (⟨w.heap.size, 0, none⟩ : Addr)) = some ⟨w.heap.size, 0, none⟩ ∧ ∃ ad, A = some ad ∧ ∀ j v, (u32s L)[j]? = some v → (w.alloc (.cells (madeCells #[Value.int .u32 0] L.length) 190)).cell? (ad.add j) = some v := fun hp => by
 obtain ⟨b, off, e, hb, hcell⟩ := hs.2 (by rw [← u32s_len]; exact hp)
 refine ⟨rfl, ⟨b, off, none⟩, e, fun j v hv => ?_⟩
 rw [Go.WideShapes.add_plain, World.cell?_alloc_lt _ _ _ hb]
 exact hcell j v hv
set_option maxRecDepth 100000 in
set_option maxHeartbeats 800000 in
theorem norm_any (A : Option Addr) (n c : Nat) (l : List Nat) (w : World) (ha : Sl w w.heap.size A n (u32s l)) (ho : okL l) (hc : n ≤ c) (hn : n ≤ 1000000) :
  Calls Tryz.prog 220 #[.slice A n c] w (RetNF (val l) w) := by
 obtain ⟨hk, hs⟩ := ha.trimmed ho
 generalize hL : limbs (val l) = L at *
 have hmk := fun W => run_make_row' (P := Tryz.prog) 121 190 (.int .u32 0) 4 Tryz.underlying121 u32_info rfl .i64 .i64 L.length (by omega) (by omega) W
 have HL := Lib.hid hL; clear hL
 have HA := Lib.hid (And.intro ha ho); clear ha ho
 have HS := Lib.hid hs
 have HB : Hid ((w.alloc (.cells (madeCells #[Value.int .u32 0] L.length) 190)).heap[w.heap.size]? = some (.cells (List.replicate L.length (Value.int .u32 0)).toArray 190 (0, 0))) := by
  rw [heap_alloc_new, ← toList_madeCells_one]
  exact rfl
 clear hs
 go_enter Tryz.func220, Tryz.ntmps220
 go_wp2_with (first | (go_at_call 197; refine (trim_any _ _ _ _ _ HA.out.1 HA.out.2 hc (by omega)).mono ?_; rintro e w' ⟨rfl, rfl⟩; rw [HL.out]) | ((refine wpList_copy_splice rfl (.tmp 9) (.tmp 10) _ _ rfl 190 Tryz.underlying121 u32_size (some ⟨w.heap.size, 0, none⟩) A L.length L.length L.length _ rfl rfl w.heap.size 0 (List.replicate L.length (Value.int .u32 0)) 190 HB.out (u32s L) (by rw [u32s_len]; exact (Nat.min_self _).symm) (copy_src HS.out) (by simp [u32s_len]) (u32s_one L) w.heap.size w ((Below.refl _ _).alloc (Nat.le_refl _) _) (Nat.le_refl _) ?_); intro w2 hrow hb2))
 go_ret
 refine ⟨w.heap.size, L.length, rfl, Nat.le_refl _, ?_, hb2⟩
 rw [HL.out]
 refine Sl.of_block (t := 190) ?_ (u32s_len L)
 rw [hrow.out]
 simp [splice, u32s_len]
end
end Go.Proofs.YtiibocdmlfedkaaGreatDoor
