/-
  Plain laws of chapter 35: Parse inverts Print, and Print inverts Parse. No program in sight.
-/
import Derived.Test.YtkcbgbpgiihdeaaGreatDoorRound
namespace Go.Proofs.YtkcbgbpgiihdeaaGreatDoor
open Go.Lib

theorem noDup_at {zs : List ByteArray} {k : Nat} {z : ByteArray} (h : noDup zs = true) (hz : zs[k]? = some z) : z ∉ zs.take k := fun hm => by
  rw [noDup_not hz hm] at h
  cases h
theorem sized_at {zs : List ByteArray} {k : Nat} {z : ByteArray} (h : sized zs = true) (hz : zs[k]? = some z) : szOk z.data.toList = true := by
  cases hs : szOk z.data.toList
  · rw [sized_not hz hs] at h
    cases h
  · rfl
theorem idxFromS_of (x : ByteArray) : ∀ (zs : List ByteArray) (k i : Nat), zs[k]? = some x → x ∉ zs.take k → idxFromS zs x i = ((i + k : Nat) : Int)
  | [], k, i, h, _ => by simp at h
  | z :: zs, 0, i, h, _ => by
    have : z = x := by simpa using h
    simp [idxFromS, this]
  | z :: zs, k + 1, i, h, hn => by
    simp only [List.take_succ_cons, List.mem_cons, not_or] at hn
    have hz : ¬ z = x := fun e => hn.1 e.symm
    rw [idxFromS, if_neg hz, idxFromS_of x zs k (i + 1) (by simpa using h) hn.2]
    omega
theorem idx_of {zs : List ByteArray} {x : ByteArray} {k : Nat} (h : zs[k]? = some x) (hn : x ∉ zs.take k) : idxOfS zs x = k := by
  unfold idxOfS
  rw [idxFromS_of x zs k 0 h hn, Nat.zero_add]

def asB (l : List UInt8) : ByteArray := ⟨l.toArray⟩
theorem asB_data (l : List UInt8) : (asB l).data.toList = l := by simp [asB]
theorem asB_map (xs : List (List UInt8)) : (xs.map asB).map (·.data.toList) = xs := by
  rw [List.map_map]
  conv => rhs; rw [← List.map_id xs]
  exact List.map_congr_left fun x _ => asB_data x

/-! ### Parse inverts Print -/
theorem run_texts {cs : List Int} {zs : List ByteArray} {n : Nat} (hc : cs.length = n) (hz : zs.length = n) (hw : within cs = true) (hs : sized zs = true) (hd : noDup zs = true) :
    ∀ (m k : Nat) (last : Int), k + m = n → last < k → ∃ l', run zs ((texts (cs.drop k) (zs.drop k)).map asB) (cs.take k ++ List.replicate m 0, last) = .ok (cs, l') := by
  intro m
  induction m with
  | zero =>
    intro k last hk hl
    rw [List.drop_of_length_le (by omega), List.take_of_length_le (by omega)]
    exact ⟨last, by simp [texts, run]⟩
  | succ m ih =>
    intro k last hk hl
    have hkc : k < cs.length := by omega
    have hkz : k < zs.length := by omega
    have hxc : cs[k]? = some cs[k] := List.getElem?_eq_getElem hkc
    have hxz : zs[k]? = some zs[k] := List.getElem?_eq_getElem hkz
    rw [List.drop_eq_getElem_cons hkc, List.drop_eq_getElem_cons hkz, texts]
    have htk : cs.take (k + 1) = cs.take k ++ [cs[k]] := by rw [List.take_add_one, hxc]; rfl
    by_cases hx : cs[k] = 0
    · rw [if_pos hx]
      obtain ⟨l', h⟩ := ih (k + 1) last (by omega) (by omega)
      refine ⟨l', ?_⟩
      rw [← h, htk, hx, List.append_assoc]
      rfl
    · rw [if_neg hx, List.map_cons, run]
      have hcc := isC_true.1 (within_at hw hxc)
      obtain ⟨i1, i2, i3⟩ := item_itemL (sized_at hs hxz) (by omega : 1 ≤ cs[k]) hcc.2
      have hlen : (cs.take k).length = k := by rw [List.length_take]; omega
      have hst : step zs (cs.take k ++ List.replicate (m + 1) 0, last) (asB (itemL zs[k] cs[k])) = .ok ((cs.take k ++ List.replicate (m + 1) 0).set k cs[k], (k : Int)) := by
        have h := step_ok (sizes := zs) (st := (cs.take k ++ List.replicate (m + 1) 0, last)) (t := asB (itemL zs[k] cs[k])) (k := k) (by rw [asB_data]; exact i1) (by rw [asB_data, i2]; exact idx_of hxz (noDup_at hd hxz)) (by rw [asB_data, i3]; omega)
          (by simp [hlen]) (by show ¬ (k : Int) < last; omega)
        rw [asB_data, i3] at h
        exact h
      rw [hst]
      obtain ⟨l', h⟩ := ih (k + 1) (k : Int) (by omega) (by omega)
      refine ⟨l', ?_⟩
      rw [← h, htk]
      have e : (cs.take k ++ List.replicate (m + 1) 0).set k cs[k] = cs.take k ++ [cs[k]] ++ List.replicate m 0 := by
        rw [List.set_append_right _ _ (by omega), hlen, Nat.sub_self, List.replicate_succ, List.set_cons_zero, List.append_assoc]
        rfl
      rw [e]
theorem texts_no_comma : ∀ {cs : List Int} {zs : List ByteArray}, within cs = true → sized zs = true → ∀ t ∈ texts cs zs, ∀ j : Nat, t[j]? ≠ some 44
  | [], _, _, _, t, h => by simp [texts] at h
  | _ :: _, [], _, _, t, h => by simp [texts] at h
  | n :: cs, z :: zs, hw, hs, t, h => by
    have hw2 : isC n = true ∧ within cs = true := by simpa [within] using hw
    have hs2 : szOk z.data.toList = true ∧ sized zs = true := by simpa [sized] using hs
    rw [texts] at h
    by_cases hn : n = 0
    · rw [if_pos hn] at h
      exact texts_no_comma hw2.2 hs2.2 t h
    · rw [if_neg hn] at h
      rcases List.mem_cons.1 h with h | h
      · rw [h]
        exact itemL_comma hs2.1 (isC_true.1 hw2.1).1
      · exact texts_no_comma hw2.2 hs2.2 t h
theorem texts_short : ∀ {cs : List Int} {zs : List ByteArray}, within cs = true → sized zs = true → ∀ t ∈ texts cs zs, t.length ≤ 13
  | [], _, _, _, t, h => by simp [texts] at h
  | _ :: _, [], _, _, t, h => by simp [texts] at h
  | n :: cs, z :: zs, hw, hs, t, h => by
    have hw2 : isC n = true ∧ within cs = true := by simpa [within] using hw
    have hs2 : szOk z.data.toList = true ∧ sized zs = true := by simpa [sized] using hs
    rw [texts] at h
    by_cases hn : n = 0
    · rw [if_pos hn] at h
      exact texts_short hw2.2 hs2.2 t h
    · rw [if_neg hn] at h
      rcases List.mem_cons.1 h with h | h
      · rw [h]
        have hc := isC_true.1 hw2.1
        have hi := itoa_len hc.1 hc.2
        have hz := hs2.1
        simp only [szOk, Bool.and_eq_true, decide_eq_true_eq] at hz
        simp only [itemL, List.length_append, List.length_cons, List.length_nil]
        omega
      · exact texts_short hw2.2 hs2.2 t h
theorem texts_count : ∀ (cs : List Int) (zs : List ByteArray), (texts cs zs).length ≤ zs.length
  | [], _ => by simp [texts]
  | _ :: _, [] => by simp [texts]
  | n :: cs, z :: zs => by
    have := texts_count cs zs
    rw [texts]
    by_cases hn : n = 0
    · rw [if_pos hn]
      simp
      omega
    · rw [if_neg hn]
      simp
      omega
theorem texts_none : ∀ {cs : List Int} {zs : List ByteArray}, cs.length = zs.length → texts cs zs = [] → cs = List.replicate cs.length 0
  | [], _, _, _ => rfl
  | _ :: _, [], h, _ => by simp at h
  | n :: cs, z :: zs, h, ht => by
    rw [texts] at ht
    by_cases hn : n = 0
    · rw [if_pos hn] at ht
      have := texts_none (by simpa using h) ht
      rw [List.length_cons, List.replicate_succ, hn, ← this]
    · rw [if_neg hn] at ht
      cases ht
theorem join_mem {xs : List (List UInt8)} {x : List UInt8} {c : UInt8} (hx : x ∈ xs) (hc : c ∈ x) : c ∈ join xs [44, 32] := by
  induction xs with
  | nil => cases hx
  | cons y r ih =>
    rw [join_cons, List.mem_append]
    rcases List.mem_cons.1 hx with rfl | h
    · exact .inl hc
    · have := ih h
      right
      cases r with
      | nil => cases h
      | cons z r =>
        rw [join_cons] at this
        simp only [joinTail, List.map_cons, List.flatten_cons, List.mem_append] at this ⊢
        rcases this with h1 | h1
        · exact .inl (.inr h1)
        · exact .inr h1
theorem pieces_asB (l : List UInt8) : pieces (asB l) = (split l [44, 32]).map asB := by
  have h := pieces_data (asB l)
  rw [asB_data] at h
  have h2 : (pieces (asB l)).map (·.data.toList) = ((split l [44, 32]).map asB).map (·.data.toList) := by rw [h, asB_map]
  have h3 := congrArg (List.map asB) h2
  rw [List.map_map, List.map_map] at h3
  have e : (asB ∘ fun x : ByteArray => x.data.toList) = id := by
    funext x
    exact mk_data x
  rw [e, List.map_id, List.map_id] at h3
  exact h3
theorem round_trip {cs : List Int} {zs : List ByteArray} (h : printE cs zs = 0) : parseE (printS cs zs) zs = 0 ∧ parseL (printS cs zs) zs = cs := by
  obtain ⟨hlen, hs, h12, hw, hd⟩ := printE_parts h
  rw [printS, if_pos h]
  show parseE (asB (printT cs zs)) zs = 0 ∧ parseL (asB (printT cs zs)) zs = cs
  by_cases ht : texts cs zs = []
  · have hT : printT cs zs = noneL := by rw [printT, if_pos ht]
    have := parse_none (s := asB (printT cs zs)) (sizes := zs) (by rw [size_eq, asB_data, hT]; simp [noneL]; omega) (by rw [asB_data, hT]; rfl)
    refine ⟨this.1, ?_⟩
    rw [this.2, ← hlen]
    exact (texts_none hlen ht).symm
  · have hT : printT cs zs = join (texts cs zs) [44, 32] := by rw [printT, if_neg ht]
    obtain ⟨l', hr⟩ := run_texts hlen rfl hw hs hd zs.length 0 (-1) (by omega) (by omega)
    rw [List.drop_zero, List.drop_zero, List.take_zero, List.nil_append] at hr
    have hp : pieces (asB (printT cs zs)) = (texts cs zs).map asB := by
      rw [pieces_asB, hT, split_join _ ht (texts_no_comma hw hs)]
    have hsz : ¬ (400 < (asB (printT cs zs)).size ∨ 12 < zs.length) := by
      rw [size_eq, asB_data, hT]
      have h1 := join_le (sep := [44, 32]) (texts cs zs) 13 (texts_short hw hs)
      have h2 := texts_count cs zs
      have h3 : (texts cs zs).length * (13 + ([44, 32] : List UInt8).length) ≤ 12 * 15 := Nat.mul_le_mul (by omega) (Nat.le_refl _)
      omega
    have hno : (asB (printT cs zs)).data.toList ≠ [110, 111, 110, 101] := by
      rw [asB_data, hT]
      intro e
      cases hx : texts cs zs with
      | nil => exact ht hx
      | cons x r =>
        have hx1 : ∃ t, x = t ∧ (32 : UInt8) ∈ t := by
          refine ⟨x, rfl, ?_⟩
          have : ∀ (cs : List Int) (zs : List ByteArray) (t : List UInt8), t ∈ texts cs zs → (32 : UInt8) ∈ t := by
            intro cs
            induction cs with
            | nil => intro zs t h; simp [texts] at h
            | cons n cs ih =>
              intro zs t h
              cases zs with
              | nil => simp [texts] at h
              | cons z zs =>
                rw [texts] at h
                by_cases hn : n = 0
                · rw [if_pos hn] at h
                  exact ih zs t h
                · rw [if_neg hn] at h
                  rcases List.mem_cons.1 h with h | h
                  · rw [h]
                    simp [itemL]
                  · exact ih zs t h
          exact this cs zs x (by rw [hx]; simp)
        obtain ⟨t, rfl, hm⟩ := hx1
        have := join_mem (xs := texts cs zs) (x := x) (by rw [hx]; simp) hm
        rw [e] at this
        revert this
        decide
    exact parse_ok hsz hno (by rw [hp]; exact hr)

/-! ### Print inverts Parse -/
theorem parse_fail {s : ByteArray} {zs : List ByteArray} (h : parseE s zs ≠ 0) : parseL s zs = [] := by
  unfold parseE at h
  unfold parseL
  split at h
  · rename_i h1
    rw [if_pos h1]
  · rename_i h1
    rw [if_neg h1]
    split at h
    · exact absurd rfl h
    · rename_i h2
      rw [if_neg h2]
      split at h
      · exact absurd rfl h
      · rfl
theorem texts_zero : ∀ (cs : List Int) (zs : List ByteArray), (∀ j : Nat, cs.getD j 0 = 0) → texts cs zs = []
  | [], _, _ => by simp [texts]
  | _ :: _, [], _ => by simp [texts]
  | n :: cs, z :: zs, h => by
    have h0 : n = 0 := by simpa using h 0
    rw [texts, if_pos h0]
    exact texts_zero cs zs fun j => by simpa using h (j + 1)
theorem texts_set : ∀ (i : Nat) (cs : List Int) (zs : List ByteArray) (z : ByteArray) (n : Int), i < cs.length → zs[i]? = some z → n ≠ 0 → (∀ j : Nat, i ≤ j → cs.getD j 0 = 0) → texts (cs.set i n) zs = texts cs zs ++ [itemL z n]
  | _, [], _, _, _, h, _, _, _ => by simp at h
  | _, _ :: _, [], _, _, _, h, _, _ => by simp at h
  | 0, c :: cs, y :: zs, z, n, _, hz, hn, h => by
    have e : y = z := by simpa using hz
    have h0 : c = 0 := by simpa using h 0 (Nat.le_refl _)
    have hr := texts_zero cs zs fun j => by simpa using h (j + 1) (by omega)
    rw [List.set_cons_zero, texts, texts, if_neg hn, if_pos h0, hr, e]
    rfl
  | i + 1, c :: cs, y :: zs, z, n, hi, hz, hn, h => by
    have ih := texts_set i cs zs z n (by simpa using hi) (by simpa using hz) hn fun j hj => by simpa using h (j + 1) (by omega)
    rw [List.set_cons_succ, texts, texts, ih]
    by_cases hc : c = 0
    · rw [if_pos hc, if_pos hc]
    · rw [if_neg hc, if_neg hc, List.cons_append]
theorem run_back {zs : List ByteArray} : ∀ (ts : List ByteArray) (c : List Int) (last : Int) (c' : List Int) (l' : Int), c.length = zs.length → within c = true → (∀ j : Nat, last < j → c.getD j 0 = 0) → (last = -1 ∨ (0 ≤ last ∧ c.getD last.toNat 0 ≠ 0)) →
    run zs ts (c, last) = .ok (c', l') → texts c' zs = texts c zs ++ ts.map (·.data.toList) ∧ within c' = true ∧ c'.length = zs.length
  | [], c, last, c', l', hl, hw, _, _, h => by
    rw [run] at h
    injection h with h
    injection h with h1 h2
    subst h1
    exact ⟨by simp, hw, hl⟩
  | t :: ts, c, last, c', l', hl, hw, h0, hla, h => by
    rw [run] at h
    cases hok : itemOk t.data.toList
    · rw [step_syntax hok] at h
      cases h
    rcases idx_cases zs (itemS t.data.toList) with ⟨hi, _⟩ | ⟨i, hil, hi, hzi, _⟩
    · rw [step_found hok hi] at h
      cases h
    by_cases hr : itemN t.data.toList = 0 ∨ 1000 < itemN t.data.toList
    · rw [step_range hok hi hr] at h
      cases h
    by_cases hy : c.getD i 0 = 0
    · by_cases hlt : (i : Int) < last
      · rw [step_order hok hi hr hy hlt] at h
        cases h
      · rw [step_ok hok hi hr hy hlt] at h
        have hgt : last < (i : Int) := by
          rcases hla with h1 | ⟨h1, h2⟩
          · omega
          · have hne : last ≠ (i : Int) := fun e => by
              rw [e, Int.toNat_natCast] at h2
              exact h2 hy
            omega
        obtain ⟨_, _, _, _, hnum, _, hN⟩ := item_parts hok
        have hN0 : 0 ≤ itemN t.data.toList := by rw [hN]; exact (num_all hnum).1
        have ih := run_back ts (c.set i (itemN t.data.toList)) (i : Int) c' l' (by simpa using hl) (within_set hw hr hN0)
          (fun j hj => by
            have hji : j ≠ i := by omega
            rw [List.getD_eq_getElem?_getD, List.getElem?_set_ne (Ne.symm hji), ← List.getD_eq_getElem?_getD]
            exact h0 j (by omega))
          (.inr ⟨by omega, by
            rw [Int.toNat_natCast, List.getD_eq_getElem?_getD, List.getElem?_set_self (by omega)]
            simp
            omega⟩) h
        refine ⟨?_, ih.2⟩
        rw [ih.1, texts_set i c zs _ _ (by omega) hzi (by omega) (fun j hj => h0 j (by omega)), itemL_item hok, List.append_assoc]
        rfl
    · rw [step_exists hok hi hr hy] at h
      cases h
theorem parse_back {s : ByteArray} {zs : List ByteArray} (hp : printE (List.replicate zs.length 0) zs = 0) (h : parseE s zs = 0) : printE (parseL s zs) zs = 0 ∧ printS (parseL s zs) zs = s := by
  obtain ⟨_, hs, h12, _, hd⟩ := printE_parts hp
  by_cases hlong : 400 < s.size ∨ 12 < zs.length
  · rw [(parse_long hlong).1] at h
    cases h
  by_cases hno : s.data.toList = [110, 111, 110, 101]
  · rw [(parse_none hlong hno).2]
    refine ⟨hp, ?_⟩
    have ht : texts (List.replicate zs.length 0) zs = [] := texts_zero _ _ fun j => by
      by_cases hj : j < zs.length
      · simp [hj]
      · simp [hj]
    rw [printS, if_pos hp, printT, if_pos ht]
    rw [← mk_data s, hno]
    rfl
  · cases hr : run zs (pieces s) (start zs) with
    | error e =>
      have he := parse_err hlong hno hr
      rw [he.1] at h
      exfalso
      have : ∀ (ts : List ByteArray) (st : St), run zs ts st ≠ .error 0 := by
        intro ts
        induction ts with
        | nil => intro st h; rw [run] at h; cases h
        | cons t ts ih =>
          intro st h
          rw [run] at h
          cases hst : step zs st t with
          | ok st' => rw [hst] at h; exact ih st' h
          | error e' =>
            rw [hst] at h
            injection h with h
            subst h
            unfold step at hst
            split at hst
            · split at hst
              · cases hst
              · split at hst
                · cases hst
                · split at hst
                  · cases hst
                  · split at hst
                    · cases hst
                    · cases hst
            · cases hst
      rw [h] at hr
      exact this _ _ hr
    | ok st =>
      obtain ⟨c', l'⟩ := st
      have hb := run_back (zs := zs) (pieces s) (List.replicate zs.length 0) (-1) c' l' (by simp) (within_zero _) (fun j _ => by
        by_cases hj : j < zs.length
        · simp [hj]
        · simp [hj]) (.inl rfl) hr
      have hz0 : texts (List.replicate zs.length 0) zs = [] := texts_zero _ _ fun j => by
        by_cases hj : j < zs.length
        · simp [hj]
        · simp [hj]
      rw [hz0, List.nil_append, pieces_data] at hb
      have hL := (parse_ok hlong hno hr).2
      rw [hL]
      have hE : printE c' zs = 0 := printE_ok hb.2.2 hs h12 hb.2.1 hd
      refine ⟨hE, ?_⟩
      rw [printS, if_pos hE, printT, hb.1, if_neg (split_ne _ _), join_split _ _ (Nat.le_refl _), mk_data]
end Go.Proofs.YtkcbgbpgiihdeaaGreatDoor
