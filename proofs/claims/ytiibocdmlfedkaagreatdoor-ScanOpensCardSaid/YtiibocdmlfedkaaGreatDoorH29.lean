/- Parts of the proof. -/
import Derived.Test.YtiibocdmlfedkaaGreatDoorH12
import Derived.Test.YtiibocdmlfedkaaGreatDoorH27
namespace Go.Proofs.YtiibocdmlfedkaaGreatDoor
section
structure EdgeS (e : PEdge) : Prop where
 nm : e.name.size ≤ 1000
 ln : e.line.length ≤ 1000
structure PieceS (p : PPiece) : Prop where
 nm : p.name.size ≤ 1000
 eds : p.edges.length ≤ 1000
 ed : ∀ e ∈ p.edges, EdgeS e
 cor : p.corners.length ≤ 1000
 wid : p.widths.length ≤ 1000
 not : p.notches.length ≤ 1000
structure OpS (o : POp) : Prop where
 nm : o.name.size ≤ 1000
 aft : o.after.length ≤ 1000
 us : o.uses.length ≤ 1000
structure StyleS (s : PStyle) : Prop where
 nm : s.name.size ≤ 1000
 szs : s.sizes.length ≤ 1000
 sz : ∀ z ∈ s.sizes, z.size ≤ 1000
 mul : s.multiples.length ≤ 1000
 pcs : s.pieces.length ≤ 1000
 pc : ∀ p ∈ s.pieces, PieceS p
 us : s.uses.length ≤ 1000
 sm : s.seams.length ≤ 1000
 ops : s.ops.length ≤ 1000
 op : ∀ o ∈ s.ops, OpS o
structure WorkerS (x : PWorker) : Prop where
 nm : x.name.size ≤ 1000
 mac : x.machines.length ≤ 1000
def exFlag : ByteArray := ⟨#[102, 108, 97, 103]⟩
def exEdges : List PEdge := [⟨⟨#[97]⟩, [(0, 0), (40, 0)]⟩, ⟨⟨#[98]⟩, [(40, 0), (0, 30)]⟩, ⟨⟨#[99]⟩, [(0, 30), (0, 0)]⟩]
def exPiece : PPiece := ⟨exFlag, exEdges, 1, [], [(0, 0), (0, 0), (0, 0)], [0, 0, 0], false⟩
def exOps : List POp := [⟨⟨#[104, 101, 109]⟩, 0, 5, [], [0]⟩, ⟨⟨#[108, 97, 98, 101, 108]⟩, 1, 3, [0], []⟩]
def exStyle : PStyle := ⟨exFlag, [⟨#[77]⟩], [0], [exPiece], [⟨0, 1, false⟩], [], exOps⟩
def exBundles : List PBundle := [⟨1, 0, 0, 0, 0, 2⟩, ⟨2, 0, 0, 0, 0, 1⟩]
def exWorkers : List PWorker := [⟨⟨#[97, 110, 110]⟩, [0, 1]⟩, ⟨⟨#[98, 101, 97]⟩, [1]⟩]
def exScans : List PScan := [⟨1, 1, 0, 5⟩, ⟨1, 0, 0, 6⟩, ⟨1, 1, 1, 5⟩, ⟨1, 1, 1, 6⟩, ⟨1, 1, 0, 9⟩, ⟨2, 0, 1, 0⟩, ⟨3, 0, 0, 0⟩, ⟨2, 0, 0, -1⟩]
theorem ex_check : scanE exStyle exBundles exWorkers = 0 := by decide +kernel
theorem ex_judge : judgeP exStyle exBundles exWorkers exScans = [5, 1, 6, 1, 2, 4, 3, 3] := by decide +kernel
theorem ex_paid : paidP exStyle exBundles exWorkers exScans = [⟨1, 0, 0, 6⟩, ⟨1, 1, 1, 6⟩] := by decide +kernel
theorem ex_open1 : openP exStyle exBundles exWorkers exScans 1 = [] := by decide +kernel
theorem ex_open2 : openP exStyle exBundles exWorkers exScans 2 = [0, 1] := by decide +kernel
theorem ex_small : StyleS exStyle := by
 refine ⟨by decide, by decide, by decide, by decide, by decide, fun p hp => ?_, by decide, by decide, by decide, fun o ho => ?_⟩
 ·obtain rfl : p = exPiece := by simpa [exStyle] using hp
  refine ⟨by decide, by decide, fun e he => ?_, by decide, by decide, by decide⟩
  simp only [exPiece, exEdges, List.mem_cons, List.not_mem_nil, or_false] at he
  rcases he with rfl | rfl | rfl <;> exact ⟨by decide, by decide⟩
 ·simp only [exStyle, exOps, List.mem_cons, List.not_mem_nil, or_false] at ho
  rcases ho with rfl | rfl <;> exact ⟨by decide, by decide, by decide⟩
theorem ex_workers : ∀ x ∈ exWorkers, WorkerS x := by
 intro x hx
 simp only [exWorkers, List.mem_cons, List.not_mem_nil, or_false] at hx
 rcases hx with rfl | rfl <;> exact ⟨by decide, by decide⟩
end
section
def linesTo (l : List PEdge) : Nat → Nat
 | 0 => 0
 | k + 1 => linesTo l k + (match l[k]? with | some e => e.line.length | none => 0)
def edgeL (e : PEdge) : Bool := decide (e.line.length ≤ 80) && decide (e.name.size ≤ 100)
def pieceL (p : PPiece) : Bool := decide (p.edges.length ≤ 20) && (decide (p.corners.length ≤ 20) && (decide (p.widths.length ≤ 20) && (decide (p.notches.length ≤ 20) && (p.edges.all edgeL && decide (linesTo p.edges p.edges.length ≤ 80)))))
def lightB (s : PStyle) : Bool :=
 decide (s.name.size ≤ 100) && (decide (s.sizes.length ≤ 30) && (decide (s.multiples.length ≤ 30) && (decide (s.uses.length ≤ 30) && (decide (s.seams.length ≤ 30) && (decide (s.ops.length ≤ 30) && (decide (s.pieces.length ≤ 14) &&
  (s.sizes.all (fun z : ByteArray => decide (z.size ≤ 100)) && s.pieces.all fun p => decide (p.name.size ≤ 100) && pieceL p)))))))
def opL (o : POp) : Bool := decide (o.name.size ≤ 60) && (decide (o.after.length ≤ 30) && decide (o.uses.length ≤ 30))
def fewO (l : List POp) : Bool := decide (l.length ≤ 20) && l.all opL
def workerL (x : PWorker) : Bool := decide (x.name.size ≤ 60) && decide (x.machines.length ≤ 20)
def fewW (l : List PWorker) : Bool := decide (l.length ≤ 20) && l.all workerL
def fewB (s : PStyle) (bs : List PBundle) (ws : List PWorker) (n : Nat) : Bool := lightB s && (fewO s.ops && (decide (bs.length ≤ 70) && (fewW ws && decide (n ≤ 310))))
theorem fewO_op {l : List POp} (h : fewO l = true) : ∀ o ∈ l, OpS o := by
 intro o ho
 unfold fewO at h
 rw [Bool.and_eq_true, List.all_eq_true] at h
 have h1 := h.2 o ho
 unfold opL at h1
 simp only [Bool.and_eq_true, decide_eq_true_eq] at h1
 exact ⟨by omega, by omega, by omega⟩
theorem fewW_worker {l : List PWorker} (h : fewW l = true) : ∀ x ∈ l, WorkerS x := by
 intro o ho
 unfold fewW at h
 rw [Bool.and_eq_true, List.all_eq_true] at h
 have h1 := h.2 o ho
 unfold workerL at h1
 simp only [Bool.and_eq_true, decide_eq_true_eq] at h1
 exact ⟨by omega, by omega⟩
theorem pieceL_piece {p : PPiece} (h0 : p.name.size ≤ 100) (h : pieceL p = true) : PieceS p := by
 unfold pieceL at h
 simp only [Bool.and_eq_true, decide_eq_true_eq, List.all_eq_true] at h
 obtain ⟨h1, h2, h3, h4, h5, h6⟩ := h
 refine ⟨by omega, by omega, fun e he => ?_, by omega, by omega, by omega⟩
 have := h5 e he
 unfold edgeL at this
 simp only [Bool.and_eq_true, decide_eq_true_eq] at this
 exact ⟨by omega, by omega⟩
theorem light_style {s : PStyle} (h : lightB s = true) (ho : fewO s.ops = true) : StyleS s := by
 unfold lightB at h
 simp only [Bool.and_eq_true, decide_eq_true_eq, List.all_eq_true] at h
 obtain ⟨h1, h2, h3, h4, h5, h6, h7, h8, h9⟩ := h
 refine ⟨by omega, by omega, fun z hz => Nat.le_trans (h8 z hz) (by omega), by omega, by omega, fun p hp => ?_, by omega, by omega, by omega, fewO_op ho⟩
 obtain ⟨a, b⟩ := h9 p hp
 exact pieceL_piece a b
theorem few_all {s : PStyle} {bs : List PBundle} {ws : List PWorker} {n : Nat} (h : fewB s bs ws n = true) : StyleS s ∧ bs.length ≤ 70 ∧ ws.length ≤ 20 ∧ (∀ x ∈ ws, WorkerS x) ∧ n ≤ 310 := by
 unfold fewB at h
 simp only [Bool.and_eq_true, decide_eq_true_eq] at h
 obtain ⟨h1, h2, h3, h4, h5⟩ := h
 have h6 := h4
 unfold fewW at h6
 simp only [Bool.and_eq_true, decide_eq_true_eq] at h6
 exact ⟨light_style h1 h2, h3, h6.1, fewW_worker h4, h5⟩
section
variable {α : Type} {f : α → Bool} {l : List α} {i : Nat} {x : α}
theorem all_no (h : l[i]? = some x) (hf : f x = false) : l.all f = false := by
 rw [List.all_eq_false]
 exact ⟨x, List.mem_of_getElem? h, by simp [hf]⟩
theorem all_yes (h : ∀ (j : Nat) (x : α), l[j]? = some x → f x = true) : l.all f = true := by
 rw [List.all_eq_true]
 intro a ha
 obtain ⟨j, hj⟩ := List.getElem?_of_mem ha
 exact h j a hj
theorem lines_at {l : List PEdge} {k : Nat} {e : PEdge} (h : l[k]? = some e) : linesTo l (k + 1) = linesTo l k + e.line.length := by rw [linesTo, h]
end
def openTo (paid : List PScan) (t : Int) (k : Nat) : List Int := ((List.range k).map fun i : Nat => (i : Int)).filter fun op => !doneB paid t op
theorem openTo_yes {paid : List PScan} {t : Int} {k : Nat} (h : doneB paid t (k : Int) = true) : openTo paid t (k + 1) = openTo paid t k := by
 unfold openTo
 rw [List.range_succ, List.map_append, List.filter_append]
 simp [h]
theorem openTo_no {paid : List PScan} {t : Int} {k : Nat} (h : doneB paid t (k : Int) = false) : openTo paid t (k + 1) = openTo paid t k ++ [(k : Int)] := by
 unfold openTo
 rw [List.range_succ, List.map_append, List.filter_append]
 simp [h]
theorem openTo_all {s : PStyle} {bs : List PBundle} {ws : List PWorker} {xs : List PScan} {t : Int} : openTo (paidP s bs ws xs) t s.ops.length = openP s bs ws xs t := rfl
theorem openTo_len (paid : List PScan) (t : Int) (k : Nat) : (openTo paid t k).length ≤ k := by
 refine Nat.le_trans (List.length_filter_le _ _) ?_
 simp
end
end Go.Proofs.YtiibocdmlfedkaaGreatDoor
