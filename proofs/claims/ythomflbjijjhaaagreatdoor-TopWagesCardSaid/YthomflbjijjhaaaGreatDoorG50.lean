/-
  Several texts in one: What wage.Pays asks of lists and of rows in memory. Nothing here walks the program but an append. garmentref57.Same is true at equal wages. Conditions: how the two lists lie.
-/
import Derived.Test.YthomflbjijjhaaaGreatDoorG05
import Derived.Test.YthomflbjijjhaaaGreatDoorG15
import Derived.Test.YthomflbjijjhaaaGreatDoorG17
import Derived.Test.YthomflbjijjhaaaGreatDoorG49

/- What wage.Pays asks of lists and of rows in memory. Nothing here walks the program but an append. -/
namespace Go.Proofs.YthomflbjijjhaaaGreatDoor
open Go.RowKit
open Go.Lib hiding intOf

def payC (p : PPay) : List Value := [.int .i64 p.worker, .int .i64 p.work, .int .i64 p.top]
def payG (_ : World) (p : PPay) (vs : List Value) : Prop := vs = payC p
theorem pay_mono : Mono payG := fun _ _ _ _ _ h => h
theorem payC_len (p : PPay) : (payC p).length = 3 := rfl
theorem payC_one (p : PPay) : ∀ u ∈ payC p, u.oneCell' = true := fun u hu => by
  simp only [payC, List.mem_cons, List.not_mem_nil, or_false] at hu
  rcases hu with rfl | rfl | rfl <;> rfl
theorem pay_at {w : World} {A : Option Addr} {n : Nat} {xs : List PPay} (h : Recs 3 payG w A n xs) {j : Nat} (hj : j < n) : ∃ b off x, A = some ⟨b, off, none⟩ ∧ b < w.heap.size ∧ xs[j]? = some x ∧ w.cell? ⟨b, off + j * 3, none⟩ = some (.int .i64 x.worker) ∧ w.cell? ⟨b, off + j * 3 + 1, none⟩ = some (.int .i64 x.work) ∧ w.cell? ⟨b, off + j * 3 + 2, none⟩ = some (.int .i64 x.top) := by
  obtain ⟨b, off, x, vs, e, hlt, hp, hg, hv⟩ := h.at_ hj
  subst hg
  exact ⟨b, off, x, e, hlt, hp, hv 0 _ rfl, hv 1 _ rfl, hv 2 _ rfl⟩
theorem own_pays {w : World} {base n : Nat} {e : TypeId} {A : Option Addr} {c : Nat} {xs : List PPay} (h : w.ownsRow base e 3 (.slice A n c) n (xs.flatMap payC)) (hl : xs.length = n) : Recs 3 payG w A n xs ∧ n ≤ c := by
  obtain ⟨A', c', e1, hr, hc⟩ := own_recs (G := payG) (g := fun x : PPay => x) payC_len h hl (fun t _ => rfl)
  rw [List.map_id'] at hr
  injection e1 with e1 _ e2
  subst e1
  subst e2
  exact ⟨hr, hc⟩
theorem new_pay (W : World) (x : PPay) (ty : TypeId) : ∀ (j : Nat) (u : Value), (payC x)[j]? = some u → (W.alloc (.cells #[.int .i64 x.worker, .int .i64 x.work, .int .i64 x.top] ty)).cell? ((⟨W.heap.size, 0, none⟩ : Addr).add j) = some u := fun j u hu => by
  have hb : Blk (W.alloc (.cells (payC x).toArray ty)) W.heap.size ty (payC x).toArray := Blk.new W _ _
  rw [Go.WideShapes.add_plain]
  exact hb.c (by simpa using hu)
theorem pay_info : (Tryz.prog.info? 52).map (fun i => (i.zero, i.size, i.bytes)) = some (some (.agg #[.int .i64 0, .int .i64 0, .int .i64 0]), 3, 24) := by kernel_rfl
theorem money_info : (Tryz.prog.info? 67).map (fun i => (i.zero, i.size, i.bytes)) = some (some (.int .i64 0), 1, 8) := by kernel_rfl
theorem monies_info : (Tryz.prog.info? 66).map (fun i => (i.zero, i.size, i.bytes)) = some (some (.slice none 0 0), 1, 24) := by kernel_rfl
theorem made_monies (n : Nat) : madeCells #[Value.slice none 0 0] n = (List.replicate n (Value.slice none 0 0)).toArray := by
  refine Array.toList_inj.1 ?_
  rw [toList_madeCells_one]
theorem zero_int' (w : World) : (zeroValue 3).run Tryz.prog w = .ok (.int .i64 0) w := by kernel_rfl

/-! ### what each worker has -/
section
variable (s : PStyle) (bs : List PBundle) (t : PTariff)
def monP (k : Nat) (paid : List PScan) : List (List Int) := (List.range k).map fun w => monies s bs t paid w
theorem mon_nil (k : Nat) : monP s bs t k [] = List.replicate k [] := by
  refine List.ext_getElem? fun j => ?_
  simp only [monP, List.getElem?_map, List.getElem?_replicate]
  by_cases h : j < k
  · rw [if_pos h, List.getElem?_range h]
    rfl
  · rw [if_neg h, List.getElem?_eq_none (by simp; omega)]
    rfl
variable {s bs t}
theorem mon_at {k w : Nat} (paid : List PScan) (h : w < k) : (monP s bs t k paid)[w]? = some (monies s bs t paid w) := by
  simp only [monP, List.getElem?_map, List.getElem?_range h]
  rfl
theorem mon_len (k : Nat) (paid : List PScan) : (monP s bs t k paid).length = k := by simp [monP]
theorem mon_snoc {k w : Nat} {paid : List PScan} {x : PScan} (hx : x.worker = (w : Int)) : monP s bs t k (paid ++ [x]) = (monP s bs t k paid).set w (monies s bs t paid w ++ [worthP s bs t x]) := by
  refine List.ext_getElem? fun j => ?_
  rw [List.getElem?_set]
  by_cases h : j < k
  · rw [mon_at _ h, mon_len, monies_snoc, mon_at _ h]
    by_cases e : w = j
    · subst e
      rw [if_pos hx, if_pos rfl, if_pos h]
    · rw [if_neg (by omega), if_neg e]
  · rw [List.getElem?_eq_none (by rw [mon_len]; omega), mon_len]
    by_cases e : w = j
    · subst e
      rw [if_pos rfl, if_neg h]
    · rw [if_neg e, List.getElem?_eq_none (by rw [mon_len]; omega)]
end
/-- The wages of the first workers. -/
def paysT (s : PStyle) (bs : List PBundle) (ws : List PWorker) (t : PTariff) (xs : List PScan) (i : Nat) : List PPay := (List.range i).flatMap fun w => payOf t w (monies s bs t (paidP s bs ws xs) w)
section
variable {s : PStyle} {bs : List PBundle} {ws : List PWorker} {t : PTariff} {xs : List PScan}
theorem payT_all : paysT s bs ws t xs ws.length = paysP s bs ws t xs := rfl
theorem payT_none {i : Nat} (h : monies s bs t (paidP s bs ws xs) i = []) : paysT s bs ws t xs (i + 1) = paysT s bs ws t xs i := by
  unfold paysT
  rw [List.range_succ, List.flatMap_append]
  simp [payOf, h]
theorem payT_one {i : Nat} {l : List Int} (h : monies s bs t (paidP s bs ws xs) i = l) (hl : l ≠ []) : paysT s bs ws t xs (i + 1) = paysT s bs ws t xs i ++ [⟨i, sumP l, max (t.least - sumP l) 0⟩] := by
  unfold paysT
  rw [List.range_succ, List.flatMap_append]
  simp [payOf, h, hl]
theorem payT_len (i : Nat) : (paysT s bs ws t xs i).length ≤ i := by
  induction i with
  | zero => simp [paysT]
  | succ i ih =>
    by_cases h : monies s bs t (paidP s bs ws xs) i = []
    · rw [payT_none h]
      omega
    · rw [payT_one rfl h, List.length_append]
      simp only [List.length_cons, List.length_nil]
      omega
end

/-! ### an append to a worker's row -/
theorem step_money {w : World} {ops : Array Oper} {o : Oper} {a : Act} {K : Act → World → Prop} {Q : Exit → Act → World → Prop} {E : Prop} (hgd : o.guard = none) (s x : Operand)
    (ho : o.op = Op.call { callee := Callee.builtin Builtin.append, args := #[s, x], argTypes := #[66, 66] })
    (base n : Nat) (v : Value) (l : List Int) (hs : a.eval s = v) (hown : w.ownsRow base 67 1 v n (ints l))
    (g : Nat) (hx : a.eval x = .slice (some ⟨g, 0, none⟩) 1 1) (z : Int) {ty : TypeId} (hc : Blk w g ty #[.int .i64 z]) (hn : n ≤ 1000000) (hbase : base ≤ w.heap.size)
    (h : ∀ v' w', w'.ownsRow base 67 1 v' (n + 1) (ints l ++ [.int .i64 z]) → w.grownBy w' v.ownBlock → (v'.ownBlock = v.ownBlock ∨ v'.ownBlock = some w.heap.size) → K (a.put o.dst v') w') :
    if Region.wanted o (yielded ops a.tmps) = true then Oper.wp Tryz.prog o a w K Q else E :=
  step_own hgd s x 66 ho base 67 (.int .i64 0) 1 8 Tryz.underlying66 money_info rfl (by decide) v n (ints l) hs hown ⟨g, 0, none⟩ 1 1 [.int .i64 z] hx rfl
    (fun j u hu => by
      rw [Go.WideShapes.add_plain]
      exact hc.c (by simpa using hu))
    (fun u hu => by obtain rfl : u = .int .i64 z := by simpa using hu
                    rfl) (by unfold maxLen; omega) (by omega) hbase h
end Go.Proofs.YthomflbjijjhaaaGreatDoor

/- garmentref57.Same is true at equal wages. Conditions: how the two lists lie. -/
namespace Go.Proofs.YthomflbjijjhaaaGreatDoor
open Go.RowKit
open Go.Lib hiding intOf

set_option maxRecDepth 100000 in
set_option maxHeartbeats 6400000 in
theorem samePays_true (xs : List PPay) (A : Option Addr) (n c : Nat) (B : Option Addr) (d : Nat) (w : World) (h : Recs 3 payG w A n xs) (h' : Recs 3 payG w B n xs) (hl : n ≤ 1000000) :
    Calls Tryz.prog 8 #[.slice A n c, .slice B n d] w fun e w' => e = .returned (.bool true) ∧ Below w.heap.size w w' := by
  have HA := Lib.hid h
  have HB := Lib.hid h'
  clear h h'
  go_enter Tryz.func8, Tryz.ntmps8
  go_wp2
  go_loopw [5] (fun i wr => ∃ k : Nat, k ≤ n ∧ i = .int .i64 (k : Int) ∧ Hid (Below w.heap.size w wr)) (fun i _ => n - (intOf i).toNat)
  case atStart => exact ⟨0, Nat.zero_le _, rfl, Below.refl _ _⟩
  case round =>
    obtain ⟨k, hk, rfl, HBL⟩ := hrel
    by_cases hlt : k < n
    · obtain ⟨b1, o1, x, rfl, hb1, hx, c10, c11, c12⟩ := pay_at HA.out hlt
      obtain ⟨b2, o2, y, rfl, hb2, hy, c20, c21, c22⟩ := pay_at HB.out hlt
      rw [hx] at hy
      obtain rfl := Option.some.inj hy
      replace c10 := (HBL.out.cell (p := ⟨b1, o1 + k * 3, none⟩) hb1).trans c10
      replace c11 := (HBL.out.cell (p := ⟨b1, o1 + k * 3 + 1, none⟩) hb1).trans c11
      replace c12 := (HBL.out.cell (p := ⟨b1, o1 + k * 3 + 2, none⟩) hb1).trans c12
      replace c20 := (HBL.out.cell (p := ⟨b2, o2 + k * 3, none⟩) hb2).trans c20
      replace c21 := (HBL.out.cell (p := ⟨b2, o2 + k * 3 + 1, none⟩) hb2).trans c21
      replace c22 := (HBL.out.cell (p := ⟨b2, o2 + k * 3 + 2, none⟩) hb2).trans c22
      obtain ⟨t0, e0⟩ : ∃ t, x.worker = t := ⟨_, rfl⟩
      obtain ⟨t1, e1⟩ : ∃ t, x.work = t := ⟨_, rfl⟩
      obtain ⟨t2, e2⟩ : ∃ t, x.top = t := ⟨_, rfl⟩
      rw [e0] at c10 c20
      rw [e1] at c11 c21
      rw [e2] at c12 c22
      have i1 : (0 : Int) ≤ (k : Int) := by omega
      have i2 : (k : Int) < (n : Int) := by omega
      clear hx hy e0 e1 e2
      go_wp2_with fail
      go_region
      go_wp2_with fail
      go_roundw
      case rel => exact ⟨k + 1, by omega, by go_num, by repeat (first | exact HBL.out | refine Below.drew ?_)⟩
      case measure => simp [intOf]; omega
    · obtain rfl : n = k := by omega
      go_wp2
      go_ret
      exact ⟨rfl, HBL.out⟩
end Go.Proofs.YthomflbjijjhaaaGreatDoor
