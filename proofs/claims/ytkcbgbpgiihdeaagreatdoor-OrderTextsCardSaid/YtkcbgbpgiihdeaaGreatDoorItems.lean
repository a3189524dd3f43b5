/-
  R35.items returns the pieces of a text. Conditions: a text of at most 1,000,000 bytes.
-/
import Derived.Test.YtkcbgbpgiihdeaaGreatDoorRItem
namespace Go.Proofs.YtkcbgbpgiihdeaaGreatDoor
open Go.RowKit
open Go.Lib hiding intOf

theorem split_first {l : List UInt8} {fr i : Nat} (hfi : fr ≤ i) (h1 : l[i]? = some 44) (h2 : l[i + 1]? = some 32) (hn : ∀ j, fr ≤ j → j < i → ¬ (l[j]? = some 44 ∧ l[j + 1]? = some 32)) :
    split (l.drop fr) [44, 32] = (l.drop fr).take (i - fr) :: split (l.drop (i + 2)) [44, 32] := by
  have hlt : i + 1 < l.length := (List.getElem?_eq_some_iff.1 h2).1
  have hx : index (l.drop fr) [44, 32] = ((i - fr : Nat) : Int) := by
    refine index_first (by rw [List.length_drop]; omega) ?_ fun j hj => ?_
    · rw [occ_two, List.getElem?_drop, List.getElem?_drop, show fr + (i - fr) = i by omega, show fr + (i - fr + 1) = i + 1 by omega]
      exact ⟨h1, h2⟩
    · cases ho : occAt (l.drop fr) [44, 32] j
      · rfl
      · rw [occ_two, List.getElem?_drop, List.getElem?_drop, ← Nat.add_assoc] at ho
        exact absurd ho (hn (fr + j) (by omega) (by omega))
  have e : fr + (i - fr + ([44, 32] : List UInt8).length) = i + 2 := by simp; omega
  rw [split_hit (by simp) hx, List.drop_drop, e]
theorem split_last {l : List UInt8} {fr i : Nat} (hi : l.length ≤ i + 1) (hn : ∀ j, fr ≤ j → j < i → ¬ (l[j]? = some 44 ∧ l[j + 1]? = some 32)) : split (l.drop fr) [44, 32] = [l.drop fr] := by
  refine split_miss (index_none fun j _ => ?_)
  cases ho : occAt (l.drop fr) [44, 32] j
  · rfl
  · rw [occ_two, List.getElem?_drop, List.getElem?_drop, ← Nat.add_assoc] at ho
    have := (List.getElem?_eq_some_iff.1 ho.2).1
    exact absurd ho (hn (fr + j) (by omega) (by omega))
theorem map_inj {xs ys : List ByteArray} (h : xs.map (·.data.toList) = ys.map (·.data.toList)) : xs = ys := by
  induction xs generalizing ys with
  | nil => cases ys with
    | nil => rfl
    | cons y ys => simp at h
  | cons x xs ih => cases ys with
    | nil => simp at h
    | cons y ys =>
      simp only [List.map_cons, List.cons.injEq] at h
      rw [eq_of_data h.1, ih h.2]
theorem strs_snoc (ps : List ByteArray) (p : ByteArray) : strs (ps ++ [p]) = strs ps ++ [.string p] := by simp [strs]

theorem str_info : (Tryz.prog.info? 9).map (fun i => (i.zero, i.size, i.bytes)) = some (some (.string ByteArray.empty), 1, 16) := by kernel_rfl

/-- The address lies from block B on. -/
def Fresh (B : Nat) (A : Option Addr) : Prop := ∀ a, A = some a → B ≤ a.block
/-- A list of strings comes back, in new memory. -/
def RetS (l : List ByteArray) (w : World) (e : Ending) (w' : World) : Prop :=
  ∃ A n c, e = .returned (.slice A n c) ∧ Sl w' w'.heap.size A n (strs l) ∧ Fresh w.heap.size A ∧ Below w.heap.size w w'
theorem Fresh.of_own {w : World} {base size n c : Nat} {e : TypeId} {A : Option Addr} {xs : List Value} (h : w.ownsRow base e size (.slice A n c) n xs) : Fresh base A := by
  intro a ha
  subst ha
  rcases h.2 with ⟨h1, _⟩ | ⟨g, cap, cur, h1, hg, _⟩
  · cases h1
  · injection h1 with h1
    injection h1 with h1
    subst h1
    exact hg
theorem Sl.setFar {w : World} {B n : Nat} {A : Option Addr} {xs : List Value} (h : Sl w B A n xs) {p : Addr} (hp : ∀ a, A = some a → a.block ≠ p.block) (u : Value) : Sl (w.setCell p u) B A n xs :=
  ⟨h.1, fun hn => by
    obtain ⟨b, off, e, hb, hc⟩ := h.2 hn
    refine ⟨b, off, e, hb, fun j x hx => ?_⟩
    exact (World.cell?_setCell_other w p ⟨b, off + j, none⟩ u (fun e2 => hp _ e (by rw [e2]))).trans (hc j x hx)⟩

set_option maxRecDepth 100000 in
set_option maxHeartbeats 1600000 in
theorem items_any (s : ByteArray) (w : World) (hs : s.size ≤ 1000000) :
    Calls Tryz.prog 24 #[.string s] w (RetS (pieces s) w) := by
  have HL := Lib.hid (size_eq s)
  obtain ⟨i0, hi, hz0, hz1, hz2⟩ := info_parts str_info
  go_enter Tryz.func24, Tryz.ntmps24
  go_wp2
  go_loopw [3, 4, 5] (fun v f i wr => ∃ (k fr m : Nat) (ps : List ByteArray), k ≤ s.size ∧ i = .int .i64 k ∧ f = .int .i64 fr ∧ fr ≤ s.size ∧ Hid (fr ≤ k ∨ (fr = k + 1 ∧ s.data.toList[k]? = some 32)) ∧ m ≤ k ∧ Hid (split s.data.toList [44, 32] = ps.map (·.data.toList) ++ split (s.data.toList.drop fr) [44, 32]) ∧ Hid (∀ j, fr ≤ j → j < k → ¬ (s.data.toList[j]? = some 44 ∧ s.data.toList[j + 1]? = some 32)) ∧ wr.ownsRow w.heap.size 9 1 v m (strs ps) ∧ Below w.heap.size w wr) (fun _ _ i _ => s.size - (intOf i).toNat)
  case atStart => exact ⟨0, 0, 0, [], Nat.zero_le _, rfl, rfl, Nat.zero_le _, .inl (Nat.le_refl _), Nat.le_refl _, by simp [Hid], (fun j h1 h2 => by omega), ⟨by simp [strs], .inl ⟨rfl, rfl⟩⟩, Below.refl _ _⟩
  case round =>
    obtain ⟨k, fr, m, ps, hk, rfl, rfl, hfr, hor, hm, hsp, hno, hown, hbel⟩ := hrel
    have hN := hbel.size
    by_cases hlt : k + 1 < s.size
    · have hlt0 : k < s.size := by omega
      obtain ⟨c, hc⟩ : ∃ c, s[k] = c := ⟨_, rfl⟩
      have hck := at_data s k hlt0
      rw [hc] at hck
      have HC := Lib.hid hck; clear hck
      obtain ⟨d, hd⟩ : ∃ d, s[k + 1] = d := ⟨_, rfl⟩
      have hdk := at_data s (k + 1) hlt
      rw [hd] at hdk
      have HD := Lib.hid hdk; clear hdk
      by_cases hcc : c = 44 ∧ d = 32
      · obtain ⟨rfl, rfl⟩ := hcc
        have hfk : fr ≤ k := by
          rcases hor.out with h | ⟨_, h⟩
          · exact h
          · rw [HC.out] at h
            cases h
        have HS := Lib.hid (split_first hfk HC.out HD.out hno.out)
        have HX := Lib.hid (extract_data s fr k)
        have hcq : (((44 : UInt8).toNat : Int) == 44) = true := rfl
        have hdq : (((32 : UInt8).toNat : Int) == 32) = true := rfl
        obtain ⟨p, hp⟩ : ∃ p, s.extract fr k = p := ⟨_, rfl⟩
        have HP : Hid (p.data.toList = (s.data.toList.drop fr).take (k - fr)) := by rw [← hp]; exact HX
        clear hfr
        go_wp2_with (at_builtin; refine wpList_append_lies _ rfl _ _ _ rfl w.heap.size 9 i0 _ 1 16 Tryz.underlying22 hi hz0 hz1 hz2 rfl (by omega) _ m (strs ps) rfl (hown.alloc _) ⟨wr.heap.size, 0, none⟩ 1 1 [.string p] rfl rfl (World.news_of_block (cs := #[.string p]) (t := 9) (fr := (0, 0)) (heap_alloc_new wr _)) (by simp [Value.oneCell']) (by omega) (by unfold maxLen; omega) (by omega) (by simp; omega) (wr.heap.size + 1) (by simp) ?_; intro gg cap w1 hown1 hgrow hat hlt1)
        go_roundw
        case rel =>
          refine ⟨k + 1, k + 2, m + 1, ps ++ [p], by omega, by go_num, by go_num, by omega, .inr ⟨rfl, HD.out⟩, by omega, ?_, (fun j h1 h2 => by omega), by rw [strs_snoc]; exact hown1, (hbel.alloc hN _).grown hgrow (by simp; omega) fun q hq => own_ge hown hq⟩
          show split s.data.toList [44, 32] = (ps ++ [p]).map (·.data.toList) ++ split (s.data.toList.drop (k + 2)) [44, 32]
          rw [hsp.out, HS.out, List.map_append, List.append_assoc, ← HP.out]
          rfl
        case measure => simp [intOf]; omega
      · have HN : Hid (∀ j, fr ≤ j → j < k + 1 → ¬ (s.data.toList[j]? = some 44 ∧ s.data.toList[j + 1]? = some 32)) := fun j h1 h2 => by
          by_cases hj : j = k
          · subst hj
            rintro ⟨a1, a2⟩
            rw [HC.out] at a1
            rw [HD.out] at a2
            exact hcc ⟨Option.some.inj a1, Option.some.inj a2⟩
          · exact hno.out j h1 (by omega)
        have HO : Hid (fr ≤ k + 1 ∨ (fr = k + 1 + 1 ∧ s.data.toList[k + 1]? = some 32)) := by
          rcases hor.out with h | ⟨h, _⟩
          · exact .inl (by omega)
          · exact .inl (by omega)
        by_cases hc44 : c = 44
        · have hcq : ((c.toNat : Int) == 44) = true := by rw [hc44]; rfl
          have hdq : ((d.toNat : Int) == 32) = false := by
            rw [beq_eq_false_iff_ne]
            intro e
            exact hcc ⟨hc44, UInt8.toNat_inj.1 (by have : d.toNat = 32 := by omega
                                                   exact this)⟩
          clear hcc hc44
          go_wp2
          go_roundw
          case rel => exact ⟨k + 1, fr, m, ps, by omega, by go_num, rfl, hfr, HO, by omega, hsp, HN, hown, hbel⟩
          case measure => simp [intOf]; omega
        · have hcq : ((c.toNat : Int) == 44) = false := by
            rw [beq_eq_false_iff_ne]
            intro e
            exact hc44 (UInt8.toNat_inj.1 (by have : c.toNat = 44 := by omega
                                              exact this))
          clear hcc hc44
          go_wp2
          go_roundw
          case rel => exact ⟨k + 1, fr, m, ps, by omega, by go_num, rfl, hfr, HO, by omega, hsp, HN, hown, hbel⟩
          case measure => simp [intOf]; omega
    · have HS := Lib.hid (split_last (l := s.data.toList) (fr := fr) (i := k) (by rw [← HL.out]; omega) hno.out)
      obtain ⟨p, hp⟩ : ∃ p, s.extract fr s.size = p := ⟨_, rfl⟩
      have HP : Hid (p.data.toList = s.data.toList.drop fr) := by rw [← hp]; exact extract_to_end s fr
      go_wp2_with (at_builtin; refine wpList_append_lies _ rfl _ _ _ rfl w.heap.size 9 i0 _ 1 16 Tryz.underlying22 hi hz0 hz1 hz2 rfl (by omega) _ m (strs ps) rfl (hown.alloc _) ⟨wr.heap.size, 0, none⟩ 1 1 [.string p] rfl rfl (World.news_of_block (cs := #[.string p]) (t := 9) (fr := (0, 0)) (heap_alloc_new wr _)) (by simp [Value.oneCell']) (by omega) (by unfold maxLen; omega) (by omega) (by simp; omega) (wr.heap.size + 1) (by simp) ?_; intro gg cap w1 hown1 hgrow hat hlt1)
      go_ret
      have hps : pieces s = ps ++ [p] := map_inj (by
        rw [pieces_data, hsp.out, HS.out, List.map_append, ← HP.out]
        rfl)
      rw [hps]
      have hown2 : w1.ownsRow w.heap.size 9 1 (.slice (some ⟨gg, 0, none⟩) (m + 1) cap) (m + 1) (strs (ps ++ [p])) := by rw [strs_snoc]; exact hown1
      exact ⟨_, _, _, rfl, Sl.of_own hown2, Fresh.of_own hown2, (hbel.alloc hN _).grown hgrow (by simp; omega) fun q hq => own_ge hown hq⟩
end Go.Proofs.YtkcbgbpgiihdeaaGreatDoor
