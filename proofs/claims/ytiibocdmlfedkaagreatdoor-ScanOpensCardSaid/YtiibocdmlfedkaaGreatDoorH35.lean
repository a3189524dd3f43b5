/- Parts of the proof. -/
import Derived.Test.YtiibocdmlfedkaaGreatDoorH09
import Derived.Test.YtiibocdmlfedkaaGreatDoorH29
namespace Go.Proofs.YtiibocdmlfedkaaGreatDoor
section
open Go.RowKit
structure FH where
 (Z M P U E O L V : Option Addr)
 (z zc m mc p pc u uc e ec o oc n c k kc : Nat)
structure FloorA (w : World) (s : PStyle) (bs : List PBundle) (ws : List PWorker) (F : FH) : Prop where
 st : StyleA w s F.Z F.z F.zc F.M F.m F.mc F.P F.p F.pc F.U F.u F.uc F.E F.e F.ec F.O F.o F.oc
 bun : Recs 6 bundleG w F.L F.n bs
 bcap : F.n ≤ F.c
 wor : Recs 2 workerG w F.V F.k ws
 wcap : F.k ≤ F.kc
structure FloorS (s : PStyle) (ws : List PWorker) : Prop where
 st : StyleS s
 wor : ∀ x ∈ ws, WorkerS x
theorem FloorA.on {w w' : World} {s : PStyle} {bs : List PBundle} {ws : List PWorker} {F : FH} (h : FloorA w s bs ws F) (hb : Below w.heap.size w w') : FloorA w' s bs ws F :=
 ⟨h.st.on hb, h.bun.on bundle_mono hb, h.bcap, h.wor.on worker_mono hb, h.wcap⟩
def sC (x : PScan) : List Value := [.int .i64 x.ticket, .int .i64 x.op, .int .i64 x.worker, .int .i64 x.at_]
theorem sC_len (x : PScan) : (sC x).length = 4 := rfl
theorem sC_one (x : PScan) : ∀ u ∈ sC x, u.oneCell' = true := fun u hu => by
 simp only [sC, List.mem_cons, List.not_mem_nil, or_false] at hu
 rcases hu with rfl | rfl | rfl | rfl <;> rfl
theorem new_scan (W : World) (x : PScan) (ty : TypeId) : ∀ (j : Nat) (u : Value), (sC x)[j]? = some u → (W.alloc (.cells #[.int .i64 x.ticket, .int .i64 x.op, .int .i64 x.worker, .int .i64 x.at_] ty)).cell? ((⟨W.heap.size, 0, none⟩ : Addr).add j) = some u := fun j u hu => by
 have hb : Blk (W.alloc (.cells (sC x).toArray ty)) W.heap.size ty (sC x).toArray := Blk.new W _ _
 rw [Go.WideShapes.add_plain]
 exact hb.c (by simpa using hu)
theorem own_scans {w : World} {base n : Nat} {e : TypeId} {v : Value} {xs : List PScan} (h : w.ownsRow base e 4 v n (xs.flatMap sC)) (hl : xs.length = n) : ∃ A c, v = .slice A n c ∧ Recs 4 scanG w A n xs ∧ n ≤ c := by
 obtain ⟨A, c, e1, hr, hc⟩ := own_recs (G := scanG) (g := fun x : PScan => x) sC_len h hl (fun t _ => rfl)
 rw [List.map_id'] at hr
 exact ⟨A, c, e1, hr, hc⟩
end
end Go.Proofs.YtiibocdmlfedkaaGreatDoor
