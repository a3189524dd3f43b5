/-
  Several texts in one: Plain facts on bytes: a text cut at the first of a byte, a text divided at a byte. No program in sight. Plain digests: chains of texts, and what one changed byte does to them. No program in sight. Plain journals: what is written is read, a journal that is cut off or has a changed byte is read up to there. No program in sight.
-/
import Derived.Lib.SlicesS
import Derived.Lib.SplitLaws
import Derived.Lib.Walk

/- Plain facts on bytes: a text cut at the first of a byte, a text divided at a byte. No program in sight. -/
namespace Go.Proofs.YthomflbjijjhaaaGreatDoor
open Go.Lib

/-! ### bytes -/
theorem at_data (s : ByteArray) (k : Nat) (h : k < s.size) : s.data.toList[k]? = some (s[k]'h) := by
  rw [Array.getElem?_toList]
  exact Array.getElem?_eq_getElem h
theorem empty_of (s : ByteArray) (h : s.size = 0) : s.toList = [] ∧ s.toList.isEmpty = true := by
  have : s.toList = [] := by
    rw [toList_data]
    exact List.eq_nil_of_length_eq_zero (by rw [← size_eq]; exact h)
  exact ⟨this, by rw [this]; rfl⟩
theorem full_of (s : ByteArray) (h : 0 < s.size) : (¬ s.toList = []) ∧ s.toList.isEmpty = false := by
  have : ¬ s.toList = [] := fun e => by
    rw [toList_data] at e
    have h2 := size_eq s
    rw [e, List.length_nil] at h2
    omega
  exact ⟨this, by simpa using this⟩
theorem eq_of_data {a b : ByteArray} (h : a.data.toList = b.data.toList) : a = b := by rw [← mk_data a, ← mk_data b, h]

/-! ### a text cut at its first space -/
theorem occ_one (l : List UInt8) (c : UInt8) (i : Nat) : occAt l [c] i = true ↔ l[i]? = some c := by
  unfold occAt
  cases h : l.drop i with
  | nil =>
    have : l[i]? = none := List.getElem?_eq_none (by simpa using h)
    simp [this]
  | cons a t =>
    have : l[i]? = some a := by
      have := congrArg (·[0]?) h
      simpa using this
    rw [this]
    simp [List.isPrefixOf]
    exact eq_comm
theorem cut_hit {l : List UInt8} {c : UInt8} {i : Nat} (h : l[i]? = some c) (hn : ∀ j, j < i → l[j]? ≠ some c) : cut l [c] = (l.take i, l.drop (i + 1), true) := by
  have hlt : i < l.length := (List.getElem?_eq_some_iff.1 h).1
  have hi : index l [c] = i := index_first (by omega) ((occ_one l c i).2 h) fun j hj => by
    cases ho : occAt l [c] j
    · rfl
    · exact absurd ((occ_one l c j).1 ho) (hn j hj)
  unfold cut
  rw [if_pos (by omega), hi]
  simp
theorem cut_miss {l : List UInt8} {c : UInt8} (hn : ∀ j : Nat, l[j]? ≠ some c) : cut l [c] = (l, [], false) := by
  have hi : index l [c] = -1 := index_none fun j _ => by
    cases ho : occAt l [c] j
    · rfl
    · exact absurd ((occ_one l c j).1 ho) (hn j)
  unfold cut
  rw [if_neg (by omega)]

/-! ### a text divided -/
theorem split_hit {u sep : List UInt8} {i : Nat} (hs : sep ≠ []) (h : index u sep = i) : split u sep = u.take i :: split (u.drop (i + sep.length)) sep := by
  unfold split
  rw [count_hit hs h, Nat.add_comm, splitK, if_neg (by rw [h]; simp), h]
  simp
theorem split_miss {u sep : List UInt8} (h : index u sep = -1) : split u sep = [u] := by
  unfold split
  rw [count_miss h]
  rfl
end Go.Proofs.YthomflbjijjhaaaGreatDoor

/- Plain digests: chains of texts, and what one changed byte does to them. No program in sight. -/
namespace Go.Proofs.YthomflbjijjhaaaGreatDoor

def pM : Nat := 2305843009213693951
def bM : Nat := 1099511628211
def iM : Nat := 1886636988539514303
def stD (d c : Nat) : Nat := (d * bM + c + 1) % pM
def ofP (d : Nat) (l : List UInt8) : Nat := l.foldl (fun d c => stD d c.toNat) d
def chainP (prev : Nat) (s : List UInt8) : Nat := (prev * bM ^ (s.length + 1) + ofP 0 (10 :: s)) % pM

theorem pM_pos : 0 < pM := by decide
theorem bM_inv : bM * iM % pM = 1 := by decide
theorem stD_lt (d c : Nat) : stD d c < pM := Nat.mod_lt _ pM_pos
theorem ofP_lt : ∀ (l : List UInt8) (d : Nat), d < pM → ofP d l < pM
  | [], _, h => h
  | c :: l, d, _ => ofP_lt l (stD d c.toNat) (stD_lt _ _)
theorem chainP_lt (prev : Nat) (s : List UInt8) : chainP prev s < pM := Nat.mod_lt _ pM_pos
/-- Multiplying by the base loses nothing. -/
theorem mulB_inj {a b : Nat} (ha : a < pM) (hb : b < pM) (h : a * bM % pM = b * bM % pM) : a = b := by
  have h1 : a * bM * iM % pM = b * bM * iM % pM := by rw [Nat.mul_mod, h, ← Nat.mul_mod]
  rw [Nat.mul_assoc, Nat.mul_assoc, Nat.mul_mod, bM_inv, Nat.mul_one, Nat.mod_mod, Nat.mul_mod b, bM_inv, Nat.mul_one, Nat.mod_mod, Nat.mod_eq_of_lt ha, Nat.mod_eq_of_lt hb] at h1
  exact h1
theorem add_mod_inj {a b k : Nat} (h : (a + k) % pM = (b + k) % pM) : a % pM = b % pM := by
  have h1 : (a + k) % 2305843009213693951 = (b + k) % 2305843009213693951 := h
  show a % 2305843009213693951 = b % 2305843009213693951
  omega
theorem stD_inj {d e c : Nat} (hd : d < pM) (he : e < pM) (h : stD d c = stD e c) : d = e := by
  unfold stD at h
  rw [Nat.add_assoc, Nat.add_assoc] at h
  exact mulB_inj hd he (add_mod_inj h)
theorem stD_byte {d b c : Nat} (hb : b < 256) (hc : c < 256) (h : stD d b = stD d c) : b = c := by
  unfold stD at h
  rw [Nat.add_assoc, Nat.add_assoc, Nat.add_comm (d * bM), Nat.add_comm (d * bM)] at h
  have h1 := add_mod_inj h
  have hp : pM = 2305843009213693951 := rfl
  rw [Nat.mod_eq_of_lt (by omega), Nat.mod_eq_of_lt (by omega)] at h1
  omega
theorem ofP_inj : ∀ (l : List UInt8) {d e : Nat}, d < pM → e < pM → ofP d l = ofP e l → d = e
  | [], _, _, _, _, h => h
  | _ :: l, _, _, hd, he, h => stD_inj hd he (ofP_inj l (stD_lt _ _) (stD_lt _ _) h)
theorem ofP_app (d : Nat) (l k : List UInt8) : ofP d (l ++ k) = ofP (ofP d l) k := List.foldl_append ..
/-- Another byte at one place: another digest. -/
theorem ofP_byte (d : Nat) (u v : List UInt8) {b c : UInt8} (h : ofP d (u ++ b :: v) = ofP d (u ++ c :: v)) : b = c := by
  rw [ofP_app, ofP_app] at h
  have h1 := ofP_inj v (stD_lt _ _) (stD_lt _ _) (show ofP (stD (ofP d u) b.toNat) v = ofP (stD (ofP d u) c.toNat) v from h)
  exact UInt8.toNat_inj.1 (stD_byte b.toNat_lt c.toNat_lt h1)
theorem chainP_byte (prev : Nat) (u v : List UInt8) {b c : UInt8} (h : chainP prev (u ++ b :: v) = chainP prev (u ++ c :: v)) : b = c := by
  unfold chainP at h
  have e : (u ++ b :: v).length = (u ++ c :: v).length := by simp
  rw [e, Nat.add_comm, Nat.add_comm _ (ofP 0 (10 :: (u ++ c :: v)))] at h
  have h1 := add_mod_inj h
  rw [Nat.mod_eq_of_lt (ofP_lt _ _ pM_pos), Nat.mod_eq_of_lt (ofP_lt _ _ pM_pos)] at h1
  exact ofP_byte 0 (10 :: u) v h1

/-! ### hexadecimal digits -/
def hexC (n : Nat) : UInt8 := UInt8.ofNat (if n < 10 then 48 + n else 87 + n)
def hexV (c : UInt8) : Nat := if c.toNat < 58 then c.toNat - 48 else c.toNat - 87
def isHex (c : UInt8) : Bool := (decide (48 ≤ c.toNat) && decide (c.toNat ≤ 57)) || (decide (97 ≤ c.toNat) && decide (c.toNat ≤ 102))
/-- The digits of a number below 16 ^ k, at least one. -/
def hexD : Nat → Nat → List UInt8
  | 0, _ => []
  | k + 1, n => if n < 16 then [hexC n] else hexD k (n / 16) ++ [hexC (n % 16)]
theorem hexC_ok : ∀ n, n < 16 → isHex (hexC n) = true ∧ hexV (hexC n) = n := by decide
theorem hexD_len : ∀ (k n : Nat), (hexD k n).length ≤ k
  | 0, _ => Nat.le_refl _
  | k + 1, n => by
    unfold hexD
    split
    · simp
    · have := hexD_len k (n / 16)
      simp only [List.length_append, List.length_cons, List.length_nil]
      omega
theorem hexD_hex : ∀ (k n : Nat), (hexD k n).all isHex = true
  | 0, _ => rfl
  | k + 1, n => by
    unfold hexD
    split
    · rename_i h
      simp [(hexC_ok n h).1]
    · rw [List.all_append, hexD_hex k, List.all_cons, List.all_nil, (hexC_ok (n % 16) (Nat.mod_lt _ (by omega))).1]
      rfl
def hexVal (l : List UInt8) : Nat := l.foldl (fun v c => v * 16 + hexV c) 0
theorem hexD_val : ∀ (k n : Nat), n < 16 ^ k → hexVal (hexD k n) = n
  | 0, n, h => by
    have : n = 0 := by simpa using h
    subst this
    rfl
  | k + 1, n, h => by
    unfold hexD
    split
    · rename_i h1
      have := (hexC_ok n h1).2
      simp only [hexVal, List.foldl_cons, List.foldl_nil]
      omega
    · have h2 : n / 16 < 16 ^ k := by
        rw [Nat.div_lt_iff_lt_mul (by omega)]
        rw [Nat.pow_succ] at h
        exact h
      have ih := hexD_val k (n / 16) h2
      unfold hexVal at ih ⊢
      rw [List.foldl_append, ih]
      have := (hexC_ok (n % 16) (Nat.mod_lt _ (by omega))).2
      simp only [List.foldl_cons, List.foldl_nil]
      omega
def hexP (d : Nat) : List UInt8 := List.replicate (16 - (hexD 16 d).length) 48 ++ hexD 16 d
theorem hexP_len (d : Nat) : (hexP d).length = 16 := by
  have := hexD_len 16 d
  simp only [hexP, List.length_append, List.length_replicate]
  omega
theorem hexP_hex (d : Nat) : (hexP d).all isHex = true := by
  rw [hexP, List.all_append, hexD_hex, Bool.and_true, List.all_eq_true]
  intro c hc
  rw [(List.mem_replicate.1 hc).2]
  decide
theorem hexVal_zeros (l : List UInt8) : ∀ k, hexVal (List.replicate k 48 ++ l) = hexVal l
  | 0 => rfl
  | k + 1 => by
    have := hexVal_zeros l k
    rw [List.replicate_succ, List.cons_append]
    unfold hexVal at this ⊢
    rw [List.foldl_cons]
    exact this
theorem hexP_inj {d e : Nat} (hd : d < pM) (he : e < pM) (h : hexP d = hexP e) : d = e := by
  have hp : pM = 2305843009213693951 := rfl
  have h1 := congrArg hexVal h
  rw [hexP, hexP, hexVal_zeros, hexVal_zeros, hexD_val 16 d (by omega), hexD_val 16 e (by omega)] at h1
  exact h1
end Go.Proofs.YthomflbjijjhaaaGreatDoor

/- Plain journals: what is written is read, a journal that is cut off or has a changed byte is read up to there. No program in sight. -/
namespace Go.Proofs.YthomflbjijjhaaaGreatDoor
open Go.Lib hiding intOf

/-! ### cut at a line feed -/
theorem jcut_nil (c : UInt8) : cut [] [c] = ([], [], false) := by
  unfold cut
  rfl
theorem jindex_eq (c : UInt8) (t : List UInt8) : index (c :: t) [c] = 0 := by
  unfold index
  rw [if_pos (by simp [List.isPrefixOf])]
theorem jindex_ne {b c : UInt8} (t : List UInt8) (h : b ≠ c) : index (b :: t) [c] = if index t [c] = -1 then -1 else index t [c] + 1 := by
  rw [index]
  have : List.isPrefixOf [c] (b :: t) = false := by simp [List.isPrefixOf]; exact fun e => h e.symm
  rw [this]
  simp
theorem jcut_eq (c : UInt8) (t : List UInt8) : cut (c :: t) [c] = ([], t, true) := by
  unfold cut
  rw [jindex_eq]
  simp
theorem jcut_ne {b c : UInt8} (t : List UInt8) (h : b ≠ c) : cut (b :: t) [c] = (b :: (cut t [c]).1, (cut t [c]).2.1, (cut t [c]).2.2) := by
  have hg := index_ge t [c]
  unfold cut
  rw [jindex_ne t h]
  by_cases hi : index t [c] = -1
  · rw [if_pos hi, hi]
    simp
  · rw [if_neg hi]
    have e2 : (index t [c] + 1).toNat = (index t [c]).toNat + 1 := by omega
    have e3 : 0 ≤ index t [c] := by omega
    have e4 : 0 ≤ index t [c] + 1 := by omega
    simp [e2, e3, e4]
theorem jcut_word {c : UInt8} (t : List UInt8) : ∀ (u : List UInt8), c ∉ u → cut (u ++ t) [c] = (u ++ (cut t [c]).1, (cut t [c]).2.1, (cut t [c]).2.2)
  | [], _ => rfl
  | b :: u, h => by
    have hb : b ≠ c := fun e => h (by simp [e])
    have hu : c ∉ u := fun e => h (by simp [e])
    rw [List.cons_append, jcut_ne _ hb, jcut_word t u hu]
    rfl
theorem jcut_line {c : UInt8} (t u : List UInt8) (h : c ∉ u) : cut (u ++ c :: t) [c] = (u, t, true) := by
  rw [jcut_word _ u h, jcut_eq]
  simp
theorem jcut_none {c : UInt8} (u : List UInt8) (h : c ∉ u) : cut u [c] = (u, [], false) := by
  have := jcut_word (c := c) [] u h
  rw [jcut_nil, List.append_nil] at this
  rw [this]
theorem jcut_less {c : UInt8} : ∀ (l : List UInt8), (cut l [c]).2.2 = true → (cut l [c]).1.length + 1 + (cut l [c]).2.1.length = l.length ∧ (cut l [c]).2.1 = l.drop ((cut l [c]).1.length + 1)
  | [], h => by rw [jcut_nil] at h; cases h
  | b :: t, h => by
    by_cases hb : b = c
    · subst hb
      rw [jcut_eq]
      simp
      omega
    · rw [jcut_ne t hb] at h ⊢
      obtain ⟨h1, h2⟩ := jcut_less t h
      simp only [List.length_cons]
      refine ⟨by omega, ?_⟩
      rw [List.drop_succ_cons]
      exact h2

/-! ### entries, lines, journals -/
def isEnt (c : UInt8) : Bool := decide (32 ≤ c.toNat) && decide (c.toNat ≤ 126)
def entryOk (s : List UInt8) : Bool := decide (s.length ≤ 200) && s.all isEnt
def splitJ (l : List UInt8) : Option (List UInt8 × List UInt8) :=
  if l.length ≤ 16 then none else if l[16]? ≠ some 32 then none else if entryOk (l.drop 17) = false then none else if (l.take 16).all isHex = false then none else some (l.take 16, l.drop 17)
/-- The entries of the good lines. -/
def readJ : Nat → Nat → List UInt8 → List (List UInt8)
  | 0, _, _ => []
  | k + 1, last, j =>
    if j = [] then [] else if (cut j [10]).2.2 = false then [] else
    match splitJ (cut j [10]).1 with
    | none => []
    | some (s, e) => if s = hexP (chainP last e) then e :: readJ k (chainP last e) (cut j [10]).2.1 else []
def lineJ (last : Nat) (e : List UInt8) : List UInt8 := hexP (chainP last e) ++ 32 :: (e ++ [10])
def textJ : Nat → List (List UInt8) → List UInt8
  | _, [] => []
  | last, e :: es => lineJ last e ++ textJ (chainP last e) es

theorem readJ_step {k last : Nat} {j l t s e : List UInt8} (hj : j ≠ []) (hc : cut j [10] = (l, t, true)) (hs : splitJ l = some (s, e)) : readJ (k + 1) last j = if s = hexP (chainP last e) then e :: readJ k (chainP last e) t else [] := by
  rw [readJ, if_neg hj, hc]
  simp only
  rw [if_neg (by simp), hs]
theorem readJ_nosplit {k last : Nat} {j l t : List UInt8} (hc : cut j [10] = (l, t, true)) (hs : splitJ l = none) : readJ (k + 1) last j = [] := by
  rw [readJ, hc]
  simp only
  split
  · rfl
  · rw [if_neg (by simp), hs]
theorem readJ_nocut {k last : Nat} {j : List UInt8} (hc : (cut j [10]).2.2 = false) : readJ (k + 1) last j = [] := by
  rw [readJ, if_pos hc]
  split <;> rfl
theorem readJ_nil : ∀ (k last : Nat), readJ k last [] = []
  | 0, _ => rfl
  | k + 1, last => by rw [readJ, if_pos rfl]
/-- More fuel than bytes changes nothing. -/
theorem readJ_fuel : ∀ (k m last : Nat) (j : List UInt8), j.length ≤ k → j.length ≤ m → readJ k last j = readJ m last j
  | 0, m, last, j, h, _ => by
    have : j = [] := List.eq_nil_of_length_eq_zero (by omega)
    subst this
    rw [readJ_nil, readJ_nil]
  | k + 1, 0, last, j, _, h => by
    have : j = [] := List.eq_nil_of_length_eq_zero (by omega)
    subst this
    rw [readJ_nil, readJ_nil]
  | k + 1, m + 1, last, j, h, h' => by
    by_cases hj : j = []
    · subst hj
      rw [readJ_nil, readJ_nil]
    by_cases hc : (cut j [10]).2.2 = false
    · rw [readJ_nocut hc, readJ_nocut hc]
    · have hc' : (cut j [10]).2.2 = true := by simpa using hc
      have hl := (jcut_less j hc').1
      have hq : cut j [10] = ((cut j [10]).1, (cut j [10]).2.1, true) := by rw [← hc']
      cases hp : splitJ (cut j [10]).1 with
      | none => rw [readJ_nosplit hq hp, readJ_nosplit hq hp]
      | some p =>
        obtain ⟨s, e⟩ := p
        rw [readJ_step hj hq hp, readJ_step hj hq hp, readJ_fuel k m (chainP last e) (cut j [10]).2.1 (by omega) (by omega)]

theorem hex_not {c : UInt8} (h : isHex c = true) : c ≠ 10 ∧ c ≠ 11 := by
  refine ⟨fun e => ?_, fun e => ?_⟩ <;> subst e <;> revert h <;> decide
theorem ent_not {c : UInt8} (h : isEnt c = true) : c ≠ 10 ∧ c ≠ 11 := by
  refine ⟨fun e => ?_, fun e => ?_⟩ <;> subst e <;> revert h <;> decide
theorem hexP_no (d : Nat) : (10 : UInt8) ∉ hexP d := fun h => (hex_not (List.all_eq_true.1 (hexP_hex d) _ h)).1 rfl
theorem entry_all {e : List UInt8} (h : entryOk e = true) : e.length ≤ 200 ∧ e.all isEnt = true := by
  unfold entryOk at h
  rw [Bool.and_eq_true, decide_eq_true_eq] at h
  exact h
theorem entry_no {e : List UInt8} (h : entryOk e = true) : (10 : UInt8) ∉ e := fun hm => (ent_not (List.all_eq_true.1 (entry_all h).2 _ hm)).1 rfl
theorem front_no (d : Nat) {e : List UInt8} (h : entryOk e = true) : (10 : UInt8) ∉ hexP d ++ 32 :: e := by
  intro hm
  rcases List.mem_append.1 hm with hm | hm
  · exact hexP_no d hm
  · rcases List.mem_cons.1 hm with e1 | hm
    · revert e1; decide
    · exact entry_no h hm
theorem split_at (s e : List UInt8) (c : UInt8) (hs : s.length = 16) : splitJ (s ++ c :: e) = if c ≠ 32 then none else if entryOk e = false then none else if s.all isHex = false then none else some (s, e) := by
  have h1 : ¬ (s ++ c :: e).length ≤ 16 := by simp; omega
  have h2 : (s ++ c :: e)[16]? = some c := by rw [List.getElem?_append_right (by omega), hs]; rfl
  have h3 : (s ++ c :: e).take 16 = s := by rw [← hs, List.take_left]
  have h4 : (s ++ c :: e).drop 17 = e := by
    rw [List.drop_append, List.drop_eq_nil_of_le (by omega), hs]
    rfl
  unfold splitJ
  rw [if_neg h1, h2, h3, h4]
  simp
theorem split_line (d : Nat) {e : List UInt8} (h : entryOk e = true) : splitJ (hexP d ++ 32 :: e) = some (hexP d, e) := by
  rw [split_at _ _ _ (hexP_len d), if_neg (by simp), h, hexP_hex]
  simp
theorem line_eq (last : Nat) (e t : List UInt8) : lineJ last e ++ t = (hexP (chainP last e) ++ 32 :: e) ++ 10 :: t := by
  simp [lineJ]
theorem line_len (last : Nat) (e : List UInt8) : (lineJ last e).length = e.length + 18 := by
  simp only [lineJ, List.length_append, List.length_cons, hexP_len, List.length_nil]
  omega
theorem read_line (k last : Nat) {e : List UInt8} (t : List UInt8) (h : entryOk e = true) : readJ (k + 1) last (lineJ last e ++ t) = e :: readJ k (chainP last e) t := by
  rw [line_eq, readJ_step (by simp) (jcut_line _ _ (front_no _ h)) (split_line _ h), if_pos rfl]
theorem read_text : ∀ (es : List (List UInt8)) (last k : Nat), (∀ e ∈ es, entryOk e = true) → es.length ≤ k → readJ k last (textJ last es) = es
  | [], _, _, _, _ => readJ_nil _ _
  | e :: es, last, 0, _, hk => absurd hk (by simp)
  | e :: es, last, k + 1, h, hk => by
    rw [textJ, read_line k last _ (h e (by simp)), read_text es _ k (fun x hx => h x (by simp [hx])) (by simpa using hk)]
theorem text_len : ∀ (es : List (List UInt8)) (last : Nat), es.length ≤ (textJ last es).length
  | [], _ => Nat.zero_le _
  | e :: es, last => by
    have := text_len es (chainP last e)
    rw [textJ, List.length_append, line_len, List.length_cons]
    omega
/-- A journal that is cut off is read up to a place. -/
theorem read_cut : ∀ (es : List (List UInt8)) (last k n : Nat), (∀ e ∈ es, entryOk e = true) → ∃ m, m ≤ es.length ∧ readJ k last ((textJ last es).take n) = es.take m
  | es, last, 0, n, _ => ⟨0, Nat.zero_le _, rfl⟩
  | [], last, k + 1, n, _ => ⟨0, Nat.zero_le _, by rw [textJ, List.take_nil, readJ_nil]; rfl⟩
  | e :: es, last, k + 1, n, h => by
    have he := h e (by simp)
    rw [textJ]
    by_cases hn : (lineJ last e).length ≤ n
    · obtain ⟨m, hm, hr⟩ := read_cut es (chainP last e) k (n - (lineJ last e).length) (fun x hx => h x (by simp [hx]))
      refine ⟨m + 1, by simpa using hm, ?_⟩
      rw [List.take_append, List.take_of_length_le hn, read_line k last _ he, hr]
      rfl
    · refine ⟨0, Nat.zero_le _, ?_⟩
      have e1 : (lineJ last e ++ textJ (chainP last e) es).take n = (hexP (chainP last e) ++ 32 :: e).take n := by
        rw [line_len] at hn
        rw [line_eq, List.take_append_of_le_length]
        simp only [List.length_append, List.length_cons, hexP_len]
        omega
      rw [e1, readJ_nocut (by rw [jcut_none _ (fun hm => front_no _ he (List.mem_of_mem_take hm))])]
      rfl

/-! ### one changed byte -/
theorem xor_ne (b : UInt8) : b ^^^ 1 ≠ b := by
  have h : ∀ n, n < 256 → UInt8.ofNat n ^^^ 1 ≠ UInt8.ofNat n := by decide +kernel
  have := h b.toNat b.toNat_lt
  rwa [UInt8.ofNat_toNat] at this
theorem xor_ten {b : UInt8} (h : b ≠ 11) : b ^^^ 1 ≠ 10 := by
  have h1 : ∀ n, n < 256 → UInt8.ofNat n ≠ 11 → UInt8.ofNat n ^^^ 1 ≠ 10 := by decide +kernel
  have := h1 b.toNat b.toNat_lt
  rw [UInt8.ofNat_toNat] at this
  exact this h
def flipJ (n : Nat) (j : List UInt8) : List UInt8 := j.set n (j.getD n 0 ^^^ 1)
theorem flip_mid (u v : List UInt8) (b : UInt8) : flipJ u.length (u ++ b :: v) = u ++ (b ^^^ 1) :: v := by
  unfold flipJ
  rw [List.set_append_right _ _ (Nat.le_refl _), Nat.sub_self, List.getD_eq_getElem?_getD, List.getElem?_append_right (Nat.le_refl _), Nat.sub_self]
  rfl
theorem mid_of : ∀ (l : List UInt8) (n : Nat), n < l.length → ∃ u b v, l = u ++ b :: v ∧ u.length = n
  | [], _, h => absurd h (by simp)
  | b :: l, 0, _ => ⟨[], b, l, rfl, rfl⟩
  | b :: l, n + 1, h => by
    obtain ⟨u, c, v, h1, h2⟩ := mid_of l n (by simpa using h)
    exact ⟨b :: u, c, v, by rw [h1]; rfl, by simp [h2]⟩
/-- A line that is no good line stops the reading. -/
theorem bad_line (k last : Nat) (l t : List UInt8) (hn : (10 : UInt8) ∉ l) (hs : ∀ s e, splitJ l = some (s, e) → s ≠ hexP (chainP last e)) : readJ (k + 1) last (l ++ 10 :: t) = [] := by
  cases hp : splitJ l with
  | none => exact readJ_nosplit (jcut_line _ _ hn) hp
  | some p =>
    obtain ⟨s, e⟩ := p
    rw [readJ_step (by simp) (jcut_line _ _ hn) hp, if_neg (hs s e hp)]
theorem read_bad : ∀ (es : List (List UInt8)) (last k n : Nat), (∀ e ∈ es, entryOk e = true) → n < (textJ last es).length → ∃ m, m < es.length ∧ readJ k last (flipJ n (textJ last es)) = es.take m
  | [], _, _, _, _, h => absurd h (by simp [textJ])
  | e :: es, last, 0, n, _, _ => ⟨0, by simp, rfl⟩
  | e :: es, last, k + 1, n, h, hn => by
    have he := h e (by simp)
    obtain ⟨he1, he2⟩ := entry_all he
    rw [textJ] at hn ⊢
    by_cases hl : (lineJ last e).length ≤ n
    · rw [List.length_append] at hn
      obtain ⟨m, hm, hr⟩ := read_bad es (chainP last e) k (n - (lineJ last e).length) (fun x hx => h x (by simp [hx])) (by omega)
      refine ⟨m + 1, by simpa using hm, ?_⟩
      have e1 : flipJ n (lineJ last e ++ textJ (chainP last e) es) = lineJ last e ++ flipJ (n - (lineJ last e).length) (textJ (chainP last e) es) := by
        unfold flipJ
        rw [List.set_append_right _ _ hl, List.getD_eq_getElem?_getD, List.getD_eq_getElem?_getD, List.getElem?_append_right hl]
      rw [e1, read_line k last _ he, hr]
      rfl
    · refine ⟨0, by simp, ?_⟩
      rw [line_len] at hl
      show _ = []
      have hx := hexP_len (chainP last e)
      have hhex := hexP_hex (chainP last e)
      have hfront := front_no (chainP last e) he
      have hno := hexP_no (chainP last e)
      have hbyte : ∀ (u v : List UInt8) (b : UInt8), e = u ++ b :: v → hexP (chainP last e) ≠ hexP (chainP last (u ++ (b ^^^ 1) :: v)) := by
        intro u v b hu heq
        have hc := hexP_inj (chainP_lt _ _) (chainP_lt _ _) heq
        rw [hu] at hc
        exact xor_ne b (chainP_byte last u v hc).symm
      obtain ⟨T, hT⟩ : ∃ T, textJ (chainP last e) es = T := ⟨_, rfl⟩
      rw [line_eq, hT]
      have hbad : ∀ (l : List UInt8), (10 : UInt8) ∉ l → (∀ s e', splitJ l = some (s, e') → s ≠ hexP (chainP last e')) → readJ (k + 1) last (l ++ 10 :: T) = [] := fun l h1 h2 => bad_line k last l T h1 h2
      have hsame : ∀ e', e' = e → hexP (chainP last e') = hexP (chainP last e) := fun e' h => by rw [h]
      generalize hexP (chainP last e) = H at *
      clear hT hn
      by_cases h1 : n < 16
      · obtain ⟨u, b, v, rfl, rfl⟩ := mid_of H n (by omega)
        have hb : isHex b = true := List.all_eq_true.1 hhex b (by simp)
        have e1 : flipJ u.length ((u ++ b :: v) ++ 32 :: e ++ 10 :: T) = ((u ++ (b ^^^ 1) :: v) ++ 32 :: e) ++ 10 :: T := by
          have := flip_mid u (v ++ 32 :: e ++ 10 :: T) b
          simpa only [List.append_assoc, List.cons_append] using this
        have hlen : (u ++ (b ^^^ 1) :: v).length = 16 := by simpa using hx
        rw [e1]
        refine hbad _ ?_ ?_
        · intro hm
          rcases List.mem_append.1 hm with hm | hm
          · rcases List.mem_append.1 hm with hm | hm
            · exact hno (List.mem_append_left _ hm)
            · rcases List.mem_cons.1 hm with e2 | hm
              · exact xor_ten (hex_not hb).2 e2.symm
              · exact hno (List.mem_append_right _ (List.mem_cons_of_mem _ hm))
          · exact hfront (List.mem_append_right _ hm)
        · intro s e' hs
          rw [split_at _ _ _ hlen, if_neg (by simp), he, if_neg (by simp)] at hs
          split at hs
          · cases hs
          · cases hs
            rw [hsame e rfl]
            intro heq
            exact xor_ne b (List.cons.inj (List.append_cancel_left heq)).1
      by_cases h2 : n = 16
      · have e1 : flipJ n (H ++ 32 :: e ++ 10 :: T) = (H ++ 33 :: e) ++ 10 :: T := by
          have := flip_mid H (e ++ 10 :: T) 32
          rw [h2, ← hx]
          rw [List.append_assoc, List.append_assoc]
          exact this
        rw [e1]
        refine hbad _ ?_ ?_
        · intro hm
          rcases List.mem_append.1 hm with hm | hm
          · exact hno hm
          · rcases List.mem_cons.1 hm with e2 | hm
            · revert e2; decide
            · exact entry_no he hm
        · intro s e' hs
          rw [split_at _ _ _ hx, if_pos (by decide)] at hs
          cases hs
      by_cases h3 : n < 17 + e.length
      · obtain ⟨u, b, v, hu, hul⟩ := mid_of e (n - 17) (by omega)
        have hb : isEnt b = true := List.all_eq_true.1 he2 b (by rw [hu]; simp)
        have hne := hbyte u v b hu
        have hnoe := entry_no he
        have e1 : flipJ n (H ++ 32 :: e ++ 10 :: T) = (H ++ 32 :: (u ++ (b ^^^ 1) :: v)) ++ 10 :: T := by
          have := flip_mid (H ++ 32 :: u) (v ++ 10 :: T) b
          have hq : (H ++ 32 :: u).length = n := by
            simp only [List.length_append, List.length_cons, hx]
            omega
          rw [hq] at this
          rw [hu]
          simpa only [List.append_assoc, List.cons_append] using this
        rw [e1]
        refine hbad _ ?_ ?_
        · intro hm
          rw [hu] at hnoe
          rcases List.mem_append.1 hm with hm | hm
          · exact hno hm
          · rcases List.mem_cons.1 hm with e2 | hm
            · revert e2; decide
            · rcases List.mem_append.1 hm with hm | hm
              · exact hnoe (List.mem_append_left _ hm)
              · rcases List.mem_cons.1 hm with e2 | hm
                · exact xor_ten (ent_not hb).2 e2.symm
                · exact hnoe (List.mem_append_right _ (List.mem_cons_of_mem _ hm))
        · intro s e' hs
          rw [split_at _ _ _ hx, if_neg (by simp), hhex] at hs
          split at hs
          · cases hs
          · rw [if_neg (by simp)] at hs
            cases hs
            exact hne
      · have e1 : flipJ n (H ++ 32 :: e ++ 10 :: T) = (H ++ 32 :: e) ++ 11 :: T := by
          have := flip_mid (H ++ 32 :: e) T 10
          have hq : (H ++ 32 :: e).length = n := by
            simp only [List.length_append, List.length_cons, hx]
            omega
          rw [hq] at this
          exact this
        rw [e1]
        have hc := jcut_word (11 :: T) _ hfront
        rw [jcut_ne T (by decide)] at hc
        cases hf : (cut T [10]).2.2 with
        | false => exact readJ_nocut (by rw [hc]; exact hf)
        | true =>
          rw [hf] at hc
          refine readJ_nosplit hc ?_
          rw [List.append_assoc, List.cons_append, split_at _ _ _ hx, if_neg (by simp)]
          have : entryOk (e ++ 11 :: (cut T [10]).1) = false := by
            unfold entryOk
            rw [List.all_append, List.all_cons]
            have : isEnt 11 = false := by decide
            rw [this]
            simp
          rw [if_pos this]
end Go.Proofs.YthomflbjijjhaaaGreatDoor
