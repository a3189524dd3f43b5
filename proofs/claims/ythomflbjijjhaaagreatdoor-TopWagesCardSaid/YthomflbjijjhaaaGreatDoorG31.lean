/-
  Several texts in one: Plain facts for TopWages: the journal of scans, what is read of it, cut off or with a changed byte. No program in sight. The example of TopWages, plainly. No program in sight. garmentlaw57.Two returns the example. Conditions: none. The example of Two as it lies: a floor and scans. Nothing here walks the program.
-/
import Derived.Deep.CutBlock
import Derived.Deep.DeepCutAuto
import Derived.Test.YthomflbjijjhaaaGreatDoorG02
import Derived.Test.YthomflbjijjhaaaGreatDoorG12
import Derived.Test.YthomflbjijjhaaaGreatDoorG15
import Derived.Test.YthomflbjijjhaaaGreatDoorG17
import Derived.Test.YthomflbjijjhaaaGreatDoorG30

/- Plain facts for TopWages: the journal of scans, what is read of it, cut off or with a changed byte. No program in sight. -/
namespace Go.Proofs.YthomflbjijjhaaaGreatDoor
open Go.Lib hiding intOf

theorem dig_ent {b : UInt8} (h : isDig b = true) : isEnt b = true := by
  rw [isDig_true] at h
  unfold isEnt
  rw [Bool.and_eq_true, decide_eq_true_eq, decide_eq_true_eq]
  omega
theorem dec_ent (n : Nat) : (decDigits n).all isEnt = true := by
  rw [List.all_eq_true]
  intro b hb
  exact dig_ent (List.all_eq_true.1 (dec_all n) b hb)
theorem itoa_ent (z : Int) : (itoa z).all isEnt = true := by
  unfold itoa
  split
  · rw [List.all_cons, dec_ent, Bool.and_true]
    decide
  · exact dec_ent _
theorem text_ent (x : PScan) : (textS x).all isEnt = true := by
  unfold textS
  simp only [List.all_append, List.all_cons, itoa_ent, Bool.and_true]
  decide
theorem entry_yes' {s : List UInt8} (h : s.length ≤ 200) (ha : s.all isEnt = true) : entryOk s = true := by
  unfold entryOk
  rw [ha, Bool.and_true, decide_eq_true_eq]
  exact h
theorem text_ok {x : PScan} (h : scanIn x) : entryOk (textS x) = true := entry_yes' (by have := text_few h; omega) (text_ent x)
/-- The journal of scans. -/
def jour (xs : List PScan) : List UInt8 := textJ 0 (xs.map textS)
theorem textJ_len {m : Nat} : ∀ (es : List (List UInt8)) (last : Nat), (∀ e ∈ es, e.length ≤ m) → (textJ last es).length ≤ es.length * (m + 18)
  | [], _, _ => by simp [textJ]
  | e :: es, last, h => by
    have h1 := textJ_len es (chainP last e) fun x hx => h x (by simp [hx])
    have h2 := h e (by simp)
    rw [textJ, List.length_append, line_len, List.length_cons, Nat.succ_mul]
    omega
section
variable {xs : List PScan}
theorem jour_ok (h : ∀ x ∈ xs, scanIn x) : ∀ e ∈ xs.map textS, entryOk e = true := by
  intro e he
  obtain ⟨x, hx, rfl⟩ := List.mem_map.1 he
  exact text_ok (h x hx)
theorem jour_len (h : ∀ x ∈ xs, scanIn x) (hn : xs.length ≤ 30) : (jour xs).length ≤ 3180 := by
  have := textJ_len (m := 88) (xs.map textS) 0 (by
    intro e he
    obtain ⟨x, hx, rfl⟩ := List.mem_map.1 he
    exact text_few (h x hx))
  rw [List.length_map] at this
  unfold jour
  omega
theorem jour_read (h : ∀ x ∈ xs, scanIn x) {k : Nat} (hk : (jour xs).length ≤ k) : readJ k 0 (jour xs) = xs.map textS :=
  read_text _ 0 k (jour_ok h) (by have := text_len (xs.map textS) 0; unfold jour at hk; omega)
theorem jour_cut (h : ∀ x ∈ xs, scanIn x) (k n : Nat) : ∃ m, m ≤ xs.length ∧ readJ k 0 ((jour xs).take n) = (xs.take m).map textS := by
  obtain ⟨m, h1, h2⟩ := read_cut (xs.map textS) 0 k n (jour_ok h)
  rw [List.length_map] at h1
  exact ⟨m, h1, by unfold jour; rw [h2, List.map_take]⟩
theorem jour_bad (h : ∀ x ∈ xs, scanIn x) (k : Nat) {n : Nat} (hn : n < (jour xs).length) : ∃ m, m < xs.length ∧ readJ k 0 (flipJ n (jour xs)) = (xs.take m).map textS := by
  obtain ⟨m, h1, h2⟩ := read_bad (xs.map textS) 0 k n (jour_ok h) hn
  rw [List.length_map] at h1
  exact ⟨m, h1, by unfold jour; rw [h2, List.map_take]⟩
end
theorem textJ_app : ∀ (es fs : List (List UInt8)) (last : Nat), textJ last (es ++ fs) = textJ last es ++ textJ (es.foldl chainP last) fs
  | [], _, _ => rfl
  | e :: es, fs, last => by
    rw [List.cons_append, textJ, textJ, textJ_app es fs, List.append_assoc, List.foldl_cons]
theorem textJ_take {es : List (List UInt8)} {k : Nat} {e : List UInt8} (h : es[k]? = some e) (last : Nat) : textJ last (es.take (k + 1)) = textJ last (es.take k) ++ lineJ ((es.take k).foldl chainP last) e := by
  rw [List.take_add_one, h, Option.toList_some, textJ_app, textJ, textJ, List.append_nil]
theorem chain_take {es : List (List UInt8)} {k : Nat} {e : List UInt8} (h : es[k]? = some e) (last : Nat) : (es.take (k + 1)).foldl chainP last = chainP ((es.take k).foldl chainP last) e := by
  rw [List.take_add_one, h, Option.toList_some, List.foldl_append, List.foldl_cons, List.foldl_nil]
theorem chains_lt (es : List (List UInt8)) {last : Nat} (h : last < pM) : es.foldl chainP last < pM := by
  induction es generalizing last with
  | nil => exact h
  | cons e es ih => exact ih (chainP_lt last e)
theorem textJ_mono (es : List (List UInt8)) (last k : Nat) : (textJ last (es.take k)).length ≤ (textJ last es).length := by
  have := textJ_app (es.take k) (es.drop k) last
  rw [List.take_append_drop] at this
  rw [this, List.length_append]
  omega
end Go.Proofs.YthomflbjijjhaaaGreatDoor

/- The example of TopWages, plainly. No program in sight. -/
namespace Go.Proofs.YthomflbjijjhaaaGreatDoor

def twEdges : List PEdge := [⟨⟨#[97]⟩, [(0, 0), (10, 0)]⟩, ⟨⟨#[98]⟩, [(10, 0), (0, 10), (0, 0)]⟩]
def twPiece : PPiece := ⟨⟨#[98, 97, 99, 107]⟩, twEdges, 1, [], [(0, 0), (0, 0)], [0, 0], false⟩
def twOps : List POp := [⟨⟨#[104, 101, 109]⟩, 0, 120, [], [0]⟩, ⟨⟨#[112, 114, 101, 115, 115]⟩, 1, 80, [0], []⟩]
def twStyle : PStyle := ⟨⟨#[118, 101, 115, 116]⟩, [⟨#[83]⟩], [0], [twPiece], [⟨0, 1, false⟩], [], twOps⟩
def twBundles : List PBundle := [⟨7, 0, 0, 0, 0, 10⟩]
def twWorkers : List PWorker := [⟨⟨#[97, 110, 110]⟩, [0, 1]⟩]
def twScans : List PScan := [⟨7, 0, 0, 5⟩, ⟨7, 0, 0, 6⟩, ⟨7, 1, 0, 9⟩]
def twTariff : PTariff := ⟨250, 0⟩
theorem tw_check : scanE twStyle twBundles twWorkers = 0 := by decide +kernel
theorem tw_judge : judgeP twStyle twBundles twWorkers twScans = [1, 2, 1] := by decide +kernel
theorem tw_pays : paysP twStyle twBundles twWorkers twTariff twScans = [⟨0, 50, 0⟩] := by decide +kernel
theorem tw_err : paysE twStyle twBundles twWorkers twTariff 3 = 0 := by decide +kernel
theorem tw_in : ∀ x ∈ twScans, scanIn x := by
  intro x hx
  simp only [twScans, List.mem_cons, List.not_mem_nil, or_false] at hx
  rcases hx with rfl | rfl | rfl <;> exact ⟨by decide, by decide, by decide, by decide⟩
theorem tw_small : StyleS twStyle := by
  refine ⟨by decide, by decide, by decide, by decide, by decide, fun p hp => ?_, by decide, by decide, by decide, fun o ho => ?_⟩
  · obtain rfl : p = twPiece := by simpa [twStyle] using hp
    refine ⟨by decide, by decide, fun e he => ?_, by decide, by decide, by decide⟩
    simp only [twPiece, twEdges, List.mem_cons, List.not_mem_nil, or_false] at he
    rcases he with rfl | rfl <;> exact ⟨by decide, by decide⟩
  · simp only [twStyle, twOps, List.mem_cons, List.not_mem_nil, or_false] at ho
    rcases ho with rfl | rfl <;> exact ⟨by decide, by decide, by decide⟩
theorem tw_workers : ∀ x ∈ twWorkers, WorkerS x := by
  intro x hx
  simp only [twWorkers, List.mem_cons, List.not_mem_nil, or_false] at hx
  subst hx
  exact ⟨by decide, by decide⟩
end Go.Proofs.YthomflbjijjhaaaGreatDoor

/- garmentlaw57.Two returns the example. Conditions: none. -/
namespace Go.Proofs.YthomflbjijjhaaaGreatDoor
open Go.RowKit
open Go.Lib hiding intOf

theorem Recs.lit {α : Type} {s : Nat} {G : World → α → List Value → Prop} {w : World} {g : Nat} {t : TypeId} {cs : Array Value} {xs : List α} {n : Nat} (h : Blk w g t cs) (hn : xs.length = n)
    (hG : ∀ (j : Nat) (x : α), xs[j]? = some x → ∃ vs, G w x vs ∧ ∀ (i : Nat) (u : Value), vs[i]? = some u → cs[j * s + i]? = some u) : Recs s G w (some ⟨g, 0, none⟩) n xs := by
  refine ⟨hn, fun _ => ⟨g, 0, rfl, h.lt, fun j x hx => ?_⟩⟩
  obtain ⟨vs, h1, h2⟩ := hG j x hx
  refine ⟨vs, h1, fun i u hu => ?_⟩
  rw [Nat.zero_add]
  exact h.c (h2 i u hu)
theorem Sl.blk {w : World} {g : Nat} {t : TypeId} {cs : Array Value} {xs : List Value} {n : Nat} (h : Blk w g t cs) (hx : cs.toList = xs) (hn : xs.length = n) : Sl w w.heap.size (some ⟨g, 0, none⟩) n xs := by
  refine ⟨hn, fun _ => ⟨g, 0, rfl, h.lt, fun j u hu => ?_⟩⟩
  rw [Nat.zero_add]
  refine h.c ?_
  rw [← hx, Array.getElem?_toList] at hu
  exact hu
theorem Blk.differ {w : World} {g g' : Nat} {t t' : TypeId} {cs cs' : Array Value} (h : Blk w g t cs) (h' : Blk w g' t' cs') (hne : t ≠ t') : g ≠ g' := by
  rintro rfl
  unfold Blk at h h'
  rw [h] at h'
  injection h' with h'
  injection h' with _ e _
  exact hne e
/-- The piece of the example. -/
def twPc (w : World) (e c d : Nat) : Prop := ∃ a b, Blk w e 82 #[.string ⟨#[97]⟩, .slice (some ⟨a, 0, none⟩) 2 2, .string ⟨#[98]⟩, .slice (some ⟨b, 0, none⟩) 3 3] ∧ Blk w a 79 #[.int .i64 0, .int .i64 0, .int .i64 10, .int .i64 0] ∧ Blk w b 79 #[.int .i64 10, .int .i64 0, .int .i64 0, .int .i64 10, .int .i64 0, .int .i64 0] ∧ Blk w c 79 #[.int .i64 0, .int .i64 0, .int .i64 0, .int .i64 0] ∧ Blk w d 3 #[.int .i64 0, .int .i64 0]
theorem twPc.keep {w w' : World} {e c d : Nat} (h : twPc w e c d) (hk : ∀ (g : Nat) (t : TypeId) (cs : Array Value), Blk w g t cs → t ≠ 34 → Blk w' g t cs) : twPc w' e c d := by
  obtain ⟨a, b, h1, h2, h3, h4, h5⟩ := h
  exact ⟨a, b, hk _ _ _ h1 (by decide), hk _ _ _ h2 (by decide), hk _ _ _ h3 (by decide), hk _ _ _ h4 (by decide), hk _ _ _ h5 (by decide)⟩
/-- The style of the example. -/
def twSt (w : World) (z m p u o : Nat) : Prop := ∃ e c d a b, Blk w z 9 #[.string ⟨#[83]⟩] ∧ Blk w m 3 #[.int .i64 0] ∧ Blk w p 86 #[.string ⟨#[98, 97, 99, 107]⟩, .slice (some ⟨e, 0, none⟩) 2 2, .int .i64 1, .slice none 0 0, .slice (some ⟨c, 0, none⟩) 2 2, .slice (some ⟨d, 0, none⟩) 2 2, .bool false] ∧ twPc w e c d ∧ Blk w u 88 #[.int .i64 0, .int .i64 1, .bool false] ∧ Blk w o 65 #[.string ⟨#[104, 101, 109]⟩, .int .i64 0, .int .i64 120, .slice none 0 0, .slice (some ⟨a, 0, none⟩) 1 1, .string ⟨#[112, 114, 101, 115, 115]⟩, .int .i64 1, .int .i64 80, .slice (some ⟨b, 0, none⟩) 1 1, .slice none 0 0] ∧ Blk w a 3 #[.int .i64 0] ∧ Blk w b 3 #[.int .i64 0]
theorem twSt.keep {w w' : World} {z m p u o : Nat} (h : twSt w z m p u o) (hk : ∀ (g : Nat) (t : TypeId) (cs : Array Value), Blk w g t cs → t ≠ 34 → Blk w' g t cs) : twSt w' z m p u o := by
  obtain ⟨e, c, d, a, b, h1, h2, h3, h4, h5, h6, h7, h8⟩ := h
  exact ⟨e, c, d, a, b, hk _ _ _ h1 (by decide), hk _ _ _ h2 (by decide), hk _ _ _ h3 (by decide), h4.keep hk, hk _ _ _ h5 (by decide), hk _ _ _ h6 (by decide), hk _ _ _ h7 (by decide), hk _ _ _ h8 (by decide)⟩
section
variable {w : World} {g : Nat} {t : TypeId}
theorem put10_blk {b0 b1 b2 b3 b4 b5 b6 b7 b8 b9 : Value} (h : Blk w g t #[b0, b1, b2, b3, b4, b5, b6, b7, b8, b9]) (a0 a1 a2 a3 a4 a5 a6 a7 a8 a9 : Value) : Blk ((((((((((w.setCell ⟨g, 0, none⟩ a0).setCell ⟨g, 1, none⟩ a1).setCell ⟨g, 2, none⟩ a2).setCell ⟨g, 3, none⟩ a3).setCell ⟨g, 4, none⟩ a4).setCell ⟨g, 5, none⟩ a5).setCell ⟨g, 6, none⟩ a6).setCell ⟨g, 7, none⟩ a7).setCell ⟨g, 8, none⟩ a8).setCell ⟨g, 9, none⟩ a9) g t #[a0, a1, a2, a3, a4, a5, a6, a7, a8, a9] := by
  have h1 : Blk _ g t #[a0, b1, b2, b3, b4, b5, b6, b7, b8, b9] := h.set_ 0 a0
  have h2 : Blk _ g t #[a0, a1, b2, b3, b4, b5, b6, b7, b8, b9] := h1.set_ 1 a1
  have h3 : Blk _ g t #[a0, a1, a2, b3, b4, b5, b6, b7, b8, b9] := h2.set_ 2 a2
  have h4 : Blk _ g t #[a0, a1, a2, a3, b4, b5, b6, b7, b8, b9] := h3.set_ 3 a3
  have h5 : Blk _ g t #[a0, a1, a2, a3, a4, b5, b6, b7, b8, b9] := h4.set_ 4 a4
  have h6 : Blk _ g t #[a0, a1, a2, a3, a4, a5, b6, b7, b8, b9] := h5.set_ 5 a5
  have h7 : Blk _ g t #[a0, a1, a2, a3, a4, a5, a6, b7, b8, b9] := h6.set_ 6 a6
  have h8 : Blk _ g t #[a0, a1, a2, a3, a4, a5, a6, a7, b8, b9] := h7.set_ 7 a7
  have h9 : Blk _ g t #[a0, a1, a2, a3, a4, a5, a6, a7, a8, b9] := h8.set_ 8 a8
  have h10 : Blk _ g t #[a0, a1, a2, a3, a4, a5, a6, a7, a8, a9] := h9.set_ 9 a9
  exact h10
theorem put10_keep {cs : Array Value} (hg : Blk w g 34 cs) (a0 a1 a2 a3 a4 a5 a6 a7 a8 a9 : Value) : ∀ (k : Nat) (t : TypeId) (cs : Array Value), Blk w k t cs → t ≠ 34 → Blk ((((((((((w.setCell ⟨g, 0, none⟩ a0).setCell ⟨g, 1, none⟩ a1).setCell ⟨g, 2, none⟩ a2).setCell ⟨g, 3, none⟩ a3).setCell ⟨g, 4, none⟩ a4).setCell ⟨g, 5, none⟩ a5).setCell ⟨g, 6, none⟩ a6).setCell ⟨g, 7, none⟩ a7).setCell ⟨g, 8, none⟩ a8).setCell ⟨g, 9, none⟩ a9) k t cs := fun _ _ _ h hne => by
  have hn := h.differ hg hne
  exact ((((((((((h.far (p := ⟨g, 0, none⟩) hn a0).far (p := ⟨g, 1, none⟩) hn a1).far (p := ⟨g, 2, none⟩) hn a2).far (p := ⟨g, 3, none⟩) hn a3).far (p := ⟨g, 4, none⟩) hn a4).far (p := ⟨g, 5, none⟩) hn a5).far (p := ⟨g, 6, none⟩) hn a6).far (p := ⟨g, 7, none⟩) hn a7).far (p := ⟨g, 8, none⟩) hn a8).far (p := ⟨g, 9, none⟩) hn a9)
theorem put10_below {B : Nat} {w0 : World} (h : Below B w0 w) (hg : B ≤ g) (a0 a1 a2 a3 a4 a5 a6 a7 a8 a9 : Value) : Below B w0 ((((((((((w.setCell ⟨g, 0, none⟩ a0).setCell ⟨g, 1, none⟩ a1).setCell ⟨g, 2, none⟩ a2).setCell ⟨g, 3, none⟩ a3).setCell ⟨g, 4, none⟩ a4).setCell ⟨g, 5, none⟩ a5).setCell ⟨g, 6, none⟩ a6).setCell ⟨g, 7, none⟩ a7).setCell ⟨g, 8, none⟩ a8).setCell ⟨g, 9, none⟩ a9) := ((((((((((h.setCell (p := ⟨g, 0, none⟩) hg a0).setCell (p := ⟨g, 1, none⟩) hg a1).setCell (p := ⟨g, 2, none⟩) hg a2).setCell (p := ⟨g, 3, none⟩) hg a3).setCell (p := ⟨g, 4, none⟩) hg a4).setCell (p := ⟨g, 5, none⟩) hg a5).setCell (p := ⟨g, 6, none⟩) hg a6).setCell (p := ⟨g, 7, none⟩) hg a7).setCell (p := ⟨g, 8, none⟩) hg a8).setCell (p := ⟨g, 9, none⟩) hg a9)
end
set_option maxRecDepth 100000 in
set_option maxHeartbeats 12800000 in
theorem two_walk (w : World) :
    Calls Tryz.prog 9 #[] w fun en w' => ∃ z m p u o b k g x, en = .returned (.agg #[.string ⟨#[118, 101, 115, 116]⟩, .slice (some ⟨z, 0, none⟩) 1 1, .slice (some ⟨m, 0, none⟩) 1 1, .slice (some ⟨p, 0, none⟩) 1 1, .slice (some ⟨u, 0, none⟩) 1 1, .slice none 0 0, .slice (some ⟨o, 0, none⟩) 2 2, .slice (some ⟨b, 0, none⟩) 1 1, .slice (some ⟨k, 0, none⟩) 1 1, .slice (some ⟨x, 0, none⟩) 3 3]) ∧ twSt w' z m p u o ∧ Blk w' b 60 #[.int .i64 7, .int .i64 0, .int .i64 0, .int .i64 0, .int .i64 0, .int .i64 10] ∧ Blk w' k 90 #[.string ⟨#[97, 110, 110]⟩, .slice (some ⟨g, 0, none⟩) 2 2] ∧ Blk w' g 3 #[.int .i64 0, .int .i64 1] ∧ Blk w' x 49 #[.int .i64 7, .int .i64 0, .int .i64 0, .int .i64 5, .int .i64 7, .int .i64 0, .int .i64 0, .int .i64 6, .int .i64 7, .int .i64 1, .int .i64 0, .int .i64 9] ∧ Below w.heap.size w w' := by
  have HB0 : Hid (Blk (w.alloc (.cells #[.string ⟨#[]⟩, .slice none 0 0, .slice none 0 0, .slice none 0 0, .slice none 0 0, .slice none 0 0, .slice none 0 0, .slice none 0 0, .slice none 0 0, .slice none 0 0] 34)) w.heap.size 34 #[.string ⟨#[]⟩, .slice none 0 0, .slice none 0 0, .slice none 0 0, .slice none 0 0, .slice none 0 0, .slice none 0 0, .slice none 0 0, .slice none 0 0, .slice none 0 0]) := Blk.new _ _ _
  have HL0 : Hid (Below w.heap.size w (w.alloc (.cells #[.string ⟨#[]⟩, .slice none 0 0, .slice none 0 0, .slice none 0 0, .slice none 0 0, .slice none 0 0, .slice none 0 0, .slice none 0 0, .slice none 0 0, .slice none 0 0] 34))) := (Below.refl _ _).alloc (Nat.le_refl _) _
  obtain ⟨W0, hW0⟩ : ∃ v, v = w.alloc (.cells #[.string ⟨#[]⟩, .slice none 0 0, .slice none 0 0, .slice none 0 0, .slice none 0 0, .slice none 0 0, .slice none 0 0, .slice none 0 0, .slice none 0 0, .slice none 0 0] 34) := ⟨_, rfl⟩
  rw [← hW0] at HB0 HL0
  go_enter Tryz.func9, Tryz.ntmps9
  go_upto_region 1 with fail
  rw [← hW0]
  clear hW0
  go_cut [1] (fun v1 wc => ∃ q e c d, v1 = .pointer (some ⟨q, 0, none⟩) ∧ Blk wc q 86 #[.string ⟨#[98, 97, 99, 107]⟩, .slice (some ⟨e, 0, none⟩) 2 2, .int .i64 1, .slice none 0 0, .slice (some ⟨c, 0, none⟩) 2 2, .slice (some ⟨d, 0, none⟩) 2 2, .bool false] ∧ twPc wc e c d ∧ Below W0.heap.size W0 wc)
  case first =>
    go_wp2_with fail
    go_meet
    exact ⟨_, _, _, _, rfl, (by repeat (first | (focus ((with_reducible refine Blk.new' _ _ _ ?_); (simp; done))) | (with_reducible exact Blk.new _ _ _) | (with_reducible refine Blk.alloc ?_ _))), ⟨_, _, (by repeat (first | (focus ((with_reducible refine Blk.new' _ _ _ ?_); (simp; done))) | (with_reducible exact Blk.new _ _ _) | (with_reducible refine Blk.alloc ?_ _))), (by repeat (first | (focus ((with_reducible refine Blk.new' _ _ _ ?_); (simp; done))) | (with_reducible exact Blk.new _ _ _) | (with_reducible refine Blk.alloc ?_ _))), (by repeat (first | (focus ((with_reducible refine Blk.new' _ _ _ ?_); (simp; done))) | (with_reducible exact Blk.new _ _ _) | (with_reducible refine Blk.alloc ?_ _))), (by repeat (first | (focus ((with_reducible refine Blk.new' _ _ _ ?_); (simp; done))) | (with_reducible exact Blk.new _ _ _) | (with_reducible refine Blk.alloc ?_ _))), (by repeat (first | (focus ((with_reducible refine Blk.new' _ _ _ ?_); (simp; done))) | (with_reducible exact Blk.new _ _ _) | (with_reducible refine Blk.alloc ?_ _)))⟩, (by repeat (first | (with_reducible exact Below.refl _ _) | (with_reducible refine Below.alo ?_ _)))⟩
  case rest =>
    obtain ⟨q, e, c, d, rfl, hq, hpc, hb⟩ := hcut
    obtain ⟨W1, rfl⟩ : ∃ v, v = wc := ⟨_, rfl⟩
    have HPC := Lib.hid hpc
    have HC1 := Lib.hid (HB0.out.below hb)
    have HL1 := Lib.hid (HL0.out.trans (hb.mono HL0.out.size))
    have hql := hq.lt
    have p0 := hq.c (i := 0) rfl
    have p1 := hq.c (i := 1) rfl
    have p2 := hq.c (i := 2) rfl
    have p3 := hq.c (i := 3) rfl
    have p4 := hq.c (i := 4) rfl
    have p5 := hq.c (i := 5) rfl
    have p6 := hq.c (i := 6) rfl
    clear hq hpc hb
    go_upto_region 2 with fail
    go_cut [2] (fun v2 wc => ∃ y z m p u o, v2 = .pointer (some ⟨y, 0, none⟩) ∧ Blk wc y 29 #[.string ⟨#[118, 101, 115, 116]⟩, .slice (some ⟨z, 0, none⟩) 1 1, .slice (some ⟨m, 0, none⟩) 1 1, .slice (some ⟨p, 0, none⟩) 1 1, .slice (some ⟨u, 0, none⟩) 1 1, .slice none 0 0, .slice (some ⟨o, 0, none⟩) 2 2] ∧ twSt wc z m p u o ∧ Below W1.heap.size W1 wc)
    case first =>
      go_wp2_with fail
      go_meet
      exact ⟨_, _, _, _, _, _, rfl, (by repeat (first | (focus ((with_reducible refine Blk.new' _ _ _ ?_); (simp; done))) | (with_reducible exact Blk.new _ _ _) | (with_reducible refine Blk.alloc ?_ _))), ⟨_, _, _, _, _, (by repeat (first | (focus ((with_reducible refine Blk.new' _ _ _ ?_); (simp; done))) | (with_reducible exact Blk.new _ _ _) | (with_reducible refine Blk.alloc ?_ _))), (by repeat (first | (focus ((with_reducible refine Blk.new' _ _ _ ?_); (simp; done))) | (with_reducible exact Blk.new _ _ _) | (with_reducible refine Blk.alloc ?_ _))), (by repeat (first | (focus ((with_reducible refine Blk.new' _ _ _ ?_); (simp; done))) | (with_reducible exact Blk.new _ _ _) | (with_reducible refine Blk.alloc ?_ _))), HPC.out.keep (fun g t cs h _ => h.below (by repeat (first | (with_reducible exact Below.refl _ _) | (with_reducible refine Below.alo ?_ _)))), (by repeat (first | (focus ((with_reducible refine Blk.new' _ _ _ ?_); (simp; done))) | (with_reducible exact Blk.new _ _ _) | (with_reducible refine Blk.alloc ?_ _))), (by repeat (first | (focus ((with_reducible refine Blk.new' _ _ _ ?_); (simp; done))) | (with_reducible exact Blk.new _ _ _) | (with_reducible refine Blk.alloc ?_ _))), (by repeat (first | (focus ((with_reducible refine Blk.new' _ _ _ ?_); (simp; done))) | (with_reducible exact Blk.new _ _ _) | (with_reducible refine Blk.alloc ?_ _))), (by repeat (first | (focus ((with_reducible refine Blk.new' _ _ _ ?_); (simp; done))) | (with_reducible exact Blk.new _ _ _) | (with_reducible refine Blk.alloc ?_ _)))⟩, (by repeat (first | (with_reducible exact Below.refl _ _) | (with_reducible refine Below.alo ?_ _)))⟩
    case rest =>
      obtain ⟨y, z, m, p, u, o, rfl, hy, hst, hb⟩ := hcut
      obtain ⟨W2, rfl⟩ : ∃ v, v = wc := ⟨_, rfl⟩
      have HST := Lib.hid hst
      have HC2 := Lib.hid (HC1.out.below hb)
      have HL2 := Lib.hid (HL1.out.trans (hb.mono HL1.out.size))
      have hyl := hy.lt
      have q0 := hy.c (i := 0) rfl
      have q1 := hy.c (i := 1) rfl
      have q2 := hy.c (i := 2) rfl
      have q3 := hy.c (i := 3) rfl
      have q4 := hy.c (i := 4) rfl
      have q5 := hy.c (i := 5) rfl
      have q6 := hy.c (i := 6) rfl
      clear hy hst hb p0 p1 p2 p3 p4 p5 p6
      go_upto_region 3 with fail
      have HB3 := Lib.hid (show Below W2.heap.size W2 ((((W2.alloc (.cells #[.int .i64 7, .int .i64 0, .int .i64 0, .int .i64 0, .int .i64 0, .int .i64 10] 60)).alloc (.cells #[.int .i64 0, .int .i64 1] 3)).alloc (.cells #[.string ⟨#[97, 110, 110]⟩, .slice (some ⟨W2.heap.size + 1, 0, none⟩) 2 2] 90)).alloc (.cells #[.int .i64 7, .int .i64 0, .int .i64 0, .int .i64 5, .int .i64 7, .int .i64 0, .int .i64 0, .int .i64 6, .int .i64 7, .int .i64 1, .int .i64 0, .int .i64 9] 49)) by repeat (first | (with_reducible exact Below.refl _ _) | (with_reducible refine Below.alo ?_ _)))
      have HC3 := Lib.hid (HC2.out.below HB3.out)
      have HL3 := Lib.hid (HL2.out.trans (HB3.out.mono HL2.out.size))
      have HS3 := Lib.hid (HST.out.keep (fun g t cs h _ => h.below HB3.out))
      have hb1 : Blk ((((W2.alloc (.cells #[.int .i64 7, .int .i64 0, .int .i64 0, .int .i64 0, .int .i64 0, .int .i64 10] 60)).alloc (.cells #[.int .i64 0, .int .i64 1] 3)).alloc (.cells #[.string ⟨#[97, 110, 110]⟩, .slice (some ⟨W2.heap.size + 1, 0, none⟩) 2 2] 90)).alloc (.cells #[.int .i64 7, .int .i64 0, .int .i64 0, .int .i64 5, .int .i64 7, .int .i64 0, .int .i64 0, .int .i64 6, .int .i64 7, .int .i64 1, .int .i64 0, .int .i64 9] 49)) W2.heap.size 60 #[.int .i64 7, .int .i64 0, .int .i64 0, .int .i64 0, .int .i64 0, .int .i64 10] := (by repeat (first | (focus ((with_reducible refine Blk.new' _ _ _ ?_); (simp; done))) | (with_reducible exact Blk.new _ _ _) | (with_reducible refine Blk.alloc ?_ _)))
      have hb2 : Blk ((((W2.alloc (.cells #[.int .i64 7, .int .i64 0, .int .i64 0, .int .i64 0, .int .i64 0, .int .i64 10] 60)).alloc (.cells #[.int .i64 0, .int .i64 1] 3)).alloc (.cells #[.string ⟨#[97, 110, 110]⟩, .slice (some ⟨W2.heap.size + 1, 0, none⟩) 2 2] 90)).alloc (.cells #[.int .i64 7, .int .i64 0, .int .i64 0, .int .i64 5, .int .i64 7, .int .i64 0, .int .i64 0, .int .i64 6, .int .i64 7, .int .i64 1, .int .i64 0, .int .i64 9] 49)) (W2.heap.size + 1 + 1) 90 #[.string ⟨#[97, 110, 110]⟩, .slice (some ⟨W2.heap.size + 1, 0, none⟩) 2 2] := (by repeat (first | (focus ((with_reducible refine Blk.new' _ _ _ ?_); (simp; done))) | (with_reducible exact Blk.new _ _ _) | (with_reducible refine Blk.alloc ?_ _)))
      have hb3 : Blk ((((W2.alloc (.cells #[.int .i64 7, .int .i64 0, .int .i64 0, .int .i64 0, .int .i64 0, .int .i64 10] 60)).alloc (.cells #[.int .i64 0, .int .i64 1] 3)).alloc (.cells #[.string ⟨#[97, 110, 110]⟩, .slice (some ⟨W2.heap.size + 1, 0, none⟩) 2 2] 90)).alloc (.cells #[.int .i64 7, .int .i64 0, .int .i64 0, .int .i64 5, .int .i64 7, .int .i64 0, .int .i64 0, .int .i64 6, .int .i64 7, .int .i64 1, .int .i64 0, .int .i64 9] 49)) (W2.heap.size + 1) 3 #[.int .i64 0, .int .i64 1] := (by repeat (first | (focus ((with_reducible refine Blk.new' _ _ _ ?_); (simp; done))) | (with_reducible exact Blk.new _ _ _) | (with_reducible refine Blk.alloc ?_ _)))
      have hb4 : Blk ((((W2.alloc (.cells #[.int .i64 7, .int .i64 0, .int .i64 0, .int .i64 0, .int .i64 0, .int .i64 10] 60)).alloc (.cells #[.int .i64 0, .int .i64 1] 3)).alloc (.cells #[.string ⟨#[97, 110, 110]⟩, .slice (some ⟨W2.heap.size + 1, 0, none⟩) 2 2] 90)).alloc (.cells #[.int .i64 7, .int .i64 0, .int .i64 0, .int .i64 5, .int .i64 7, .int .i64 0, .int .i64 0, .int .i64 6, .int .i64 7, .int .i64 1, .int .i64 0, .int .i64 9] 49)) (W2.heap.size + 1 + 1 + 1) 49 #[.int .i64 7, .int .i64 0, .int .i64 0, .int .i64 5, .int .i64 7, .int .i64 0, .int .i64 0, .int .i64 6, .int .i64 7, .int .i64 1, .int .i64 0, .int .i64 9] := (by repeat (first | (focus ((with_reducible refine Blk.new' _ _ _ ?_); (simp; done))) | (with_reducible exact Blk.new _ _ _) | (with_reducible refine Blk.alloc ?_ _)))
      have HN := Lib.hid (And.intro hb1 (And.intro hb2 (And.intro hb3 hb4)))
      clear hb1 hb2 hb3 hb4
      have k0 := HC3.out.c (i := 0) rfl
      have f0 := HC3.out.frozen 0
      have k1 := HC3.out.c (i := 1) rfl
      have f1 := HC3.out.frozen 1
      have k2 := HC3.out.c (i := 2) rfl
      have f2 := HC3.out.frozen 2
      have k3 := HC3.out.c (i := 3) rfl
      have f3 := HC3.out.frozen 3
      have k4 := HC3.out.c (i := 4) rfl
      have f4 := HC3.out.frozen 4
      have k5 := HC3.out.c (i := 5) rfl
      have f5 := HC3.out.frozen 5
      have k6 := HC3.out.c (i := 6) rfl
      have f6 := HC3.out.frozen 6
      have k7 := HC3.out.c (i := 7) rfl
      have f7 := HC3.out.frozen 7
      have k8 := HC3.out.c (i := 8) rfl
      have f8 := HC3.out.frozen 8
      have k9 := HC3.out.c (i := 9) rfl
      have f9 := HC3.out.frozen 9
      go_wp2_with fail
      clear k0 f0 k1 f1 k2 f2 k3 f3 k4 f4 k5 f5 k6 f6 k7 f7 k8 f8 k9 f9 q0 q1 q2 q3 q4 q5 q6
      obtain ⟨W3, hW3⟩ : ∃ v, v = (((W2.alloc (.cells #[.int .i64 7, .int .i64 0, .int .i64 0, .int .i64 0, .int .i64 0, .int .i64 10] 60)).alloc (.cells #[.int .i64 0, .int .i64 1] 3)).alloc (.cells #[.string ⟨#[97, 110, 110]⟩, .slice (some ⟨W2.heap.size + 1, 0, none⟩) 2 2] 90)).alloc (.cells #[.int .i64 7, .int .i64 0, .int .i64 0, .int .i64 5, .int .i64 7, .int .i64 0, .int .i64 0, .int .i64 6, .int .i64 7, .int .i64 1, .int .i64 0, .int .i64 9] 49) := ⟨_, rfl⟩
      rw [← hW3] at HB3 HC3 HL3 HS3 HN ⊢
      clear hW3
      obtain ⟨W4, hW4⟩ : ∃ v, v = ((((((((((W3.setCell ⟨w.heap.size, 0, none⟩ (.string ⟨#[118, 101, 115, 116]⟩)).setCell ⟨w.heap.size, 1, none⟩ (.slice (some ⟨z, 0, none⟩) 1 1)).setCell ⟨w.heap.size, 2, none⟩ (.slice (some ⟨m, 0, none⟩) 1 1)).setCell ⟨w.heap.size, 3, none⟩ (.slice (some ⟨p, 0, none⟩) 1 1)).setCell ⟨w.heap.size, 4, none⟩ (.slice (some ⟨u, 0, none⟩) 1 1)).setCell ⟨w.heap.size, 5, none⟩ (.slice none 0 0)).setCell ⟨w.heap.size, 6, none⟩ (.slice (some ⟨o, 0, none⟩) 2 2)).setCell ⟨w.heap.size, 7, none⟩ (.slice (some ⟨W2.heap.size, 0, none⟩) 1 1)).setCell ⟨w.heap.size, 8, none⟩ (.slice (some ⟨W2.heap.size + 1 + 1, 0, none⟩) 1 1)).setCell ⟨w.heap.size, 9, none⟩ (.slice (some ⟨W2.heap.size + 1 + 1 + 1, 0, none⟩) 3 3)) := ⟨_, rfl⟩
      have h4 : Blk W4 w.heap.size 34 #[.string ⟨#[118, 101, 115, 116]⟩, .slice (some ⟨z, 0, none⟩) 1 1, .slice (some ⟨m, 0, none⟩) 1 1, .slice (some ⟨p, 0, none⟩) 1 1, .slice (some ⟨u, 0, none⟩) 1 1, .slice none 0 0, .slice (some ⟨o, 0, none⟩) 2 2, .slice (some ⟨W2.heap.size, 0, none⟩) 1 1, .slice (some ⟨W2.heap.size + 1 + 1, 0, none⟩) 1 1, .slice (some ⟨W2.heap.size + 1 + 1 + 1, 0, none⟩) 3 3] := by rw [hW4]; exact put10_blk HC3.out _ _ _ _ _ _ _ _ _ _
      have hk : ∀ (g : Nat) (t : TypeId) (cs : Array Value), Blk W3 g t cs → t ≠ 34 → Blk W4 g t cs := by rw [hW4]; exact put10_keep HC3.out _ _ _ _ _ _ _ _ _ _
      have hB4 : Below w.heap.size w W4 := by rw [hW4]; exact put10_below HL3.out (Nat.le_refl _) _ _ _ _ _ _ _ _ _ _
      rw [← hW4]
      clear hW4
      have k0 := h4.c (i := 0) rfl
      have k1 := h4.c (i := 1) rfl
      have k2 := h4.c (i := 2) rfl
      have k3 := h4.c (i := 3) rfl
      have k4 := h4.c (i := 4) rfl
      have k5 := h4.c (i := 5) rfl
      have k6 := h4.c (i := 6) rfl
      have k7 := h4.c (i := 7) rfl
      have k8 := h4.c (i := 8) rfl
      have k9 := h4.c (i := 9) rfl
      refine bodyPost_ret (v := .agg #[.string ⟨#[118, 101, 115, 116]⟩, .slice (some ⟨z, 0, none⟩) 1 1, .slice (some ⟨m, 0, none⟩) 1 1, .slice (some ⟨p, 0, none⟩) 1 1, .slice (some ⟨u, 0, none⟩) 1 1, .slice none 0 0, .slice (some ⟨o, 0, none⟩) 2 2, .slice (some ⟨W2.heap.size, 0, none⟩) 1 1, .slice (some ⟨W2.heap.size + 1 + 1, 0, none⟩) 1 1, .slice (some ⟨W2.heap.size + 1 + 1 + 1, 0, none⟩) 3 3]) (by simp [results, Tryz.results9, go_sem, k0, k1, k2, k3, k4, k5, k6, k7, k8, k9]) rfl ?_
      exact ⟨z, m, p, u, o, _, _, _, _, rfl, HS3.out.keep hk, hk _ _ _ HN.out.1 (by decide), hk _ _ _ HN.out.2.1 (by decide), hk _ _ _ HN.out.2.2.1 (by decide), hk _ _ _ HN.out.2.2.2 (by decide), hB4⟩
end Go.Proofs.YthomflbjijjhaaaGreatDoor

/- The example of Two as it lies: a floor and scans. Nothing here walks the program. -/
namespace Go.Proofs.YthomflbjijjhaaaGreatDoor
open Go.RowKit
open Go.Lib hiding intOf

theorem tw_spots1 {w : World} {g : Nat} (h : Blk w g 79 #[.int .i64 0, .int .i64 0, .int .i64 10, .int .i64 0]) : Recs 2 spotG w (some ⟨g, 0, none⟩) 2 [((0 : Int), (0 : Int)), (10, 0)] := by
  refine Recs.lit h rfl fun j x hx => ?_
  match j, hx with
  | 0, hx =>
    obtain rfl := Option.some.inj hx
    refine ⟨_, rfl, fun i u hu => ?_⟩
    match i, hu with
    | 0, hu => exact hu
    | 1, hu => exact hu
    | i + 2, hu => simp at hu
  | 1, hx =>
    obtain rfl := Option.some.inj hx
    refine ⟨_, rfl, fun i u hu => ?_⟩
    match i, hu with
    | 0, hu => exact hu
    | 1, hu => exact hu
    | i + 2, hu => simp at hu
  | j + 2, hx => simp [List.length] at hx
theorem tw_spots2 {w : World} {g : Nat} (h : Blk w g 79 #[.int .i64 10, .int .i64 0, .int .i64 0, .int .i64 10, .int .i64 0, .int .i64 0]) : Recs 2 spotG w (some ⟨g, 0, none⟩) 3 [((10 : Int), (0 : Int)), (0, 10), (0, 0)] := by
  refine Recs.lit h rfl fun j x hx => ?_
  match j, hx with
  | 0, hx =>
    obtain rfl := Option.some.inj hx
    refine ⟨_, rfl, fun i u hu => ?_⟩
    match i, hu with
    | 0, hu => exact hu
    | 1, hu => exact hu
    | i + 2, hu => simp at hu
  | 1, hx =>
    obtain rfl := Option.some.inj hx
    refine ⟨_, rfl, fun i u hu => ?_⟩
    match i, hu with
    | 0, hu => exact hu
    | 1, hu => exact hu
    | i + 2, hu => simp at hu
  | 2, hx =>
    obtain rfl := Option.some.inj hx
    refine ⟨_, rfl, fun i u hu => ?_⟩
    match i, hu with
    | 0, hu => exact hu
    | 1, hu => exact hu
    | i + 2, hu => simp at hu
  | j + 3, hx => simp [List.length] at hx
theorem tw_corn {w : World} {g : Nat} (h : Blk w g 79 #[.int .i64 0, .int .i64 0, .int .i64 0, .int .i64 0]) : Recs 2 spotG w (some ⟨g, 0, none⟩) 2 [((0 : Int), (0 : Int)), (0, 0)] := by
  refine Recs.lit h rfl fun j x hx => ?_
  match j, hx with
  | 0, hx =>
    obtain rfl := Option.some.inj hx
    refine ⟨_, rfl, fun i u hu => ?_⟩
    match i, hu with
    | 0, hu => exact hu
    | 1, hu => exact hu
    | i + 2, hu => simp at hu
  | 1, hx =>
    obtain rfl := Option.some.inj hx
    refine ⟨_, rfl, fun i u hu => ?_⟩
    match i, hu with
    | 0, hu => exact hu
    | 1, hu => exact hu
    | i + 2, hu => simp at hu
  | j + 2, hx => simp [List.length] at hx
theorem tw_edges {w : World} {g a b : Nat} (h : Blk w g 82 #[.string ⟨#[97]⟩, .slice (some ⟨a, 0, none⟩) 2 2, .string ⟨#[98]⟩, .slice (some ⟨b, 0, none⟩) 3 3]) (h1 : Blk w a 79 #[.int .i64 0, .int .i64 0, .int .i64 10, .int .i64 0]) (h2 : Blk w b 79 #[.int .i64 10, .int .i64 0, .int .i64 0, .int .i64 10, .int .i64 0, .int .i64 0]) : Recs 2 edgeG w (some ⟨g, 0, none⟩) 2 twEdges := by
  refine Recs.lit h rfl fun j x hx => ?_
  match j, hx with
  | 0, hx =>
    obtain rfl := Option.some.inj hx
    refine ⟨_, ⟨_, 2, 2, rfl, tw_spots1 h1, Nat.le_refl _⟩, fun i u hu => ?_⟩
    match i, hu with
    | 0, hu => exact hu
    | 1, hu => exact hu
    | i + 2, hu => simp at hu
  | 1, hx =>
    obtain rfl := Option.some.inj hx
    refine ⟨_, ⟨_, 3, 3, rfl, tw_spots2 h2, Nat.le_refl _⟩, fun i u hu => ?_⟩
    match i, hu with
    | 0, hu => exact hu
    | 1, hu => exact hu
    | i + 2, hu => simp at hu
  | j + 2, hx => simp [twEdges] at hx
theorem tw_pieces {w : World} {g e c d : Nat} (h : Blk w g 86 #[.string ⟨#[98, 97, 99, 107]⟩, .slice (some ⟨e, 0, none⟩) 2 2, .int .i64 1, .slice none 0 0, .slice (some ⟨c, 0, none⟩) 2 2, .slice (some ⟨d, 0, none⟩) 2 2, .bool false]) (hp : twPc w e c d) : Recs 7 pieceG w (some ⟨g, 0, none⟩) 1 [twPiece] := by
  refine Recs.lit h rfl fun j x hx => ?_
  match j, hx with
  | 0, hx =>
    obtain rfl := Option.some.inj hx
    refine ⟨_, (by obtain ⟨a, b, h1, h2, h3, h4, h5⟩ := hp; exact ⟨_, 2, 2, none, 0, 0, _, 2, 2, _, 2, 2, rfl, tw_edges h1 h2 h3, Nat.le_refl _, Recs.nil _ _ _ _, Nat.le_refl _, tw_corn h4, Nat.le_refl _, Sl.blk h5 rfl rfl, Nat.le_refl _⟩), fun i u hu => ?_⟩
    match i, hu with
    | 0, hu => exact hu
    | 1, hu => exact hu
    | 2, hu => exact hu
    | 3, hu => exact hu
    | 4, hu => exact hu
    | 5, hu => exact hu
    | 6, hu => exact hu
    | i + 7, hu => simp at hu
  | j + 1, hx => simp [List.length] at hx
theorem tw_uses {w : World} {g : Nat} (h : Blk w g 88 #[.int .i64 0, .int .i64 1, .bool false]) : Recs 3 useG w (some ⟨g, 0, none⟩) 1 twStyle.uses := by
  refine Recs.lit h rfl fun j x hx => ?_
  match j, hx with
  | 0, hx =>
    obtain rfl := Option.some.inj hx
    refine ⟨_, rfl, fun i u hu => ?_⟩
    match i, hu with
    | 0, hu => exact hu
    | 1, hu => exact hu
    | 2, hu => exact hu
    | i + 3, hu => simp at hu
  | j + 1, hx => simp [twStyle] at hx
theorem tw_ops {w : World} {g a b : Nat} (h : Blk w g 65 #[.string ⟨#[104, 101, 109]⟩, .int .i64 0, .int .i64 120, .slice none 0 0, .slice (some ⟨a, 0, none⟩) 1 1, .string ⟨#[112, 114, 101, 115, 115]⟩, .int .i64 1, .int .i64 80, .slice (some ⟨b, 0, none⟩) 1 1, .slice none 0 0]) (h1 : Blk w a 3 #[.int .i64 0]) (h2 : Blk w b 3 #[.int .i64 0]) : Recs 5 opG w (some ⟨g, 0, none⟩) 2 twOps := by
  refine Recs.lit h rfl fun j x hx => ?_
  match j, hx with
  | 0, hx =>
    obtain rfl := Option.some.inj hx
    refine ⟨_, ⟨none, 0, 0, _, 1, 1, rfl, Sl.none_, Nat.le_refl _, Sl.blk h1 rfl rfl, Nat.le_refl _⟩, fun i u hu => ?_⟩
    match i, hu with
    | 0, hu => exact hu
    | 1, hu => exact hu
    | 2, hu => exact hu
    | 3, hu => exact hu
    | 4, hu => exact hu
    | i + 5, hu => simp at hu
  | 1, hx =>
    obtain rfl := Option.some.inj hx
    refine ⟨_, ⟨_, 1, 1, none, 0, 0, rfl, Sl.blk h2 rfl rfl, Nat.le_refl _, Sl.none_, Nat.le_refl _⟩, fun i u hu => ?_⟩
    match i, hu with
    | 0, hu => exact hu
    | 1, hu => exact hu
    | 2, hu => exact hu
    | 3, hu => exact hu
    | 4, hu => exact hu
    | i + 5, hu => simp at hu
  | j + 2, hx => simp [twOps] at hx
theorem tw_buns {w : World} {g : Nat} (h : Blk w g 60 #[.int .i64 7, .int .i64 0, .int .i64 0, .int .i64 0, .int .i64 0, .int .i64 10]) : Recs 6 bundleG w (some ⟨g, 0, none⟩) 1 twBundles := by
  refine Recs.lit h rfl fun j x hx => ?_
  match j, hx with
  | 0, hx =>
    obtain rfl := Option.some.inj hx
    refine ⟨_, ⟨rfl, by unfold inI; decide, by unfold inI; decide⟩, fun i u hu => ?_⟩
    match i, hu with
    | 0, hu => exact hu
    | 1, hu => exact hu
    | 2, hu => exact hu
    | 3, hu => exact hu
    | 4, hu => exact hu
    | 5, hu => exact hu
    | i + 6, hu => simp at hu
  | j + 1, hx => simp [twBundles] at hx
theorem tw_works {w : World} {g a : Nat} (h : Blk w g 90 #[.string ⟨#[97, 110, 110]⟩, .slice (some ⟨a, 0, none⟩) 2 2]) (h1 : Blk w a 3 #[.int .i64 0, .int .i64 1]) : Recs 2 workerG w (some ⟨g, 0, none⟩) 1 twWorkers := by
  refine Recs.lit h rfl fun j x hx => ?_
  match j, hx with
  | 0, hx =>
    obtain rfl := Option.some.inj hx
    refine ⟨_, ⟨_, 2, 2, rfl, Sl.blk h1 rfl rfl, Nat.le_refl _⟩, fun i u hu => ?_⟩
    match i, hu with
    | 0, hu => exact hu
    | 1, hu => exact hu
    | i + 2, hu => simp at hu
  | j + 1, hx => simp [twWorkers] at hx
theorem tw_scans {w : World} {g : Nat} (h : Blk w g 49 #[.int .i64 7, .int .i64 0, .int .i64 0, .int .i64 5, .int .i64 7, .int .i64 0, .int .i64 0, .int .i64 6, .int .i64 7, .int .i64 1, .int .i64 0, .int .i64 9]) : Recs 4 scanG w (some ⟨g, 0, none⟩) 3 twScans := by
  refine Recs.lit h rfl fun j x hx => ?_
  match j, hx with
  | 0, hx =>
    obtain rfl := Option.some.inj hx
    refine ⟨_, rfl, fun i u hu => ?_⟩
    match i, hu with
    | 0, hu => exact hu
    | 1, hu => exact hu
    | 2, hu => exact hu
    | 3, hu => exact hu
    | i + 4, hu => simp at hu
  | 1, hx =>
    obtain rfl := Option.some.inj hx
    refine ⟨_, rfl, fun i u hu => ?_⟩
    match i, hu with
    | 0, hu => exact hu
    | 1, hu => exact hu
    | 2, hu => exact hu
    | 3, hu => exact hu
    | i + 4, hu => simp at hu
  | 2, hx =>
    obtain rfl := Option.some.inj hx
    refine ⟨_, rfl, fun i u hu => ?_⟩
    match i, hu with
    | 0, hu => exact hu
    | 1, hu => exact hu
    | 2, hu => exact hu
    | 3, hu => exact hu
    | i + 4, hu => simp at hu
  | j + 3, hx => simp [twScans] at hx
/-- The example comes back. -/
def RetTwo (w : World) (en : Ending) (w' : World) : Prop := ∃ (F : FH) (X : Option Addr), en = .returned (.agg #[.string twStyle.name, .slice F.Z F.z F.zc, .slice F.M F.m F.mc, .slice F.P F.p F.pc, .slice F.U F.u F.uc, .slice F.E F.e F.ec, .slice F.O F.o F.oc, .slice F.L F.n F.c, .slice F.V F.k F.kc, .slice X 3 3]) ∧ FloorA w' twStyle twBundles twWorkers F ∧ Recs 4 scanG w' X 3 twScans ∧ F.k ≤ 1000 ∧ Below w.heap.size w w'
theorem two_any (w : World) : Calls Tryz.prog 9 #[] w (RetTwo w) := by
  refine (two_walk w).mono ?_
  rintro en w' ⟨z, m, p, u, o, b, k, g, x, rfl, ⟨e, c, d, a1, a2, h1, h2, h3, h4, h5, h6, h7, h8⟩, k1, k2, k3, k4, hb⟩
  refine ⟨⟨some ⟨z, 0, none⟩, some ⟨m, 0, none⟩, some ⟨p, 0, none⟩, some ⟨u, 0, none⟩, none, some ⟨o, 0, none⟩, some ⟨b, 0, none⟩, some ⟨k, 0, none⟩, 1, 1, 1, 1, 1, 1, 1, 1, 0, 0, 2, 2, 1, 1, 1, 1⟩, some ⟨x, 0, none⟩, rfl, ⟨⟨Sl.blk h1 rfl rfl, Sl.blk h2 rfl rfl, tw_pieces h3 h4, tw_uses h5, Recs.nil _ _ _ _, tw_ops h6 h7 h8, Nat.le_refl _, Nat.le_refl _, Nat.le_refl _, Nat.le_refl _, Nat.le_refl _, Nat.le_refl _⟩, tw_buns k1, Nat.le_refl _, tw_works k2 k3, Nat.le_refl _⟩, tw_scans k4, (by show 1 ≤ 1000; omega), hb⟩
end Go.Proofs.YthomflbjijjhaaaGreatDoor
