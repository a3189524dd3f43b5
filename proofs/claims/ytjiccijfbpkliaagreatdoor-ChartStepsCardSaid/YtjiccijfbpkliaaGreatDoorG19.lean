/-
  Several texts in one: natural.Text returns the decimal digits of a number. Conditions: Std; slices of at most 1,000,000 limbs. integer.signed, Norm, Neg return the integer in normal form. Conditions: slices of at most 1,000,000 limbs. integer.Mul, Add, Cmp. Conditions: slices of at most 400,000 limbs. integer.Add where the signs differ; integer.Add; integer.Cmp. Conditions: slices of at most 400,000 limbs. integer.Cmp. Conditions: slices of at most 1,000,000 limbs. integer.Text and integer.Parse. Conditions: Std for Text; slices of at most 1,000,000 limbs; a text of at most 2^63 - 1 bytes. integer.Parse returns the integer that a text denotes, or the error. Conditions: a text of at most 2^63 - 1 bytes. ratio.zero, positive, value, reduce. Conditions: slices of at most 1,000,000 limbs. ratio.Norm and ratio.Neg return ratios in normal form. Conditions: numbers of at most 100,000 limbs. ratio.Neg returns the negative in normal form. Conditions: numbers of at most 100,000 limbs. Two ratios stand in their boxes with denominators that are not 0. Conditions: none. ratio.Cmp compares. Conditions: numbers of at most 100,000 limbs. ratio.Add returns the sum in normal form. Conditions: numbers of at most 100,000 limbs. ratio.Text returns the text of a ratio. Conditions: Std; numbers of at most 100,000 limbs. ratio.Parse returns the ratio that a text denotes, or the error. Conditions: Std; a text of at most 1,000,000 bytes. garmentref01.DivMod, Gcd. Conditions: slices of at most 100,000 limbs. garmentref01.Mul, small (by 10). Conditions: slices of at most 1,000,000 limbs. garmentref01.Text, Digits. Conditions: slices of at most 100,000 limbs; strings whose length is an int. ratio.Sub returns the difference in normal form. Conditions: numbers of at most 100,000 limbs.
-/
import Derived.Deep.RegionHeld3
import Derived.Laws.Concat
import Derived.Lib.Join
import Derived.Lib.OwnBridge
import Derived.Lib.Repeat
import Derived.Test.YtjiccijfbpkliaaGreatDoorG01
import Derived.Test.YtjiccijfbpkliaaGreatDoorG02
import Derived.Test.YtjiccijfbpkliaaGreatDoorG08
import Derived.Test.YtjiccijfbpkliaaGreatDoorG14
import Derived.Test.YtjiccijfbpkliaaGreatDoorG17
import Derived.Test.YtjiccijfbpkliaaGreatDoorG18

/- natural.Text returns the decimal digits of a number. Conditions: Std; slices of at most 1,000,000 limbs. -/
namespace Go.Proofs.YtjiccijfbpkliaaGreatDoor
open Go.RowKit Go.Sort
open Go.Lib hiding intOf

/-! ### plain -/
/-- The text of which the groups G are written, and Y is left. -/
def textOf (Y : Nat) (G : List (List UInt8)) : List UInt8 := (if Y = 0 then [] else decDigits Y) ++ G.reverse.flatten
theorem text_start {x : Nat} (h : x ≠ 0) : textOf x [] = decDigits x := by simp [textOf, h]
theorem text_last {Y : Nat} (G : List (List UInt8)) (h0 : Y ≠ 0) (hq : Y / 1000000000 = 0) : textOf (Y / 1000000000) (G ++ [decDigits (Y % 1000000000)]) = textOf Y G := by
  have hr : Y % 1000000000 = Y := by omega
  rw [hr, hq]
  simp [textOf, h0]
theorem text_more {Y : Nat} (G : List (List UInt8)) (hq : Y / 1000000000 ≠ 0) : textOf (Y / 1000000000) (G ++ [padD 9 (Y % 1000000000)]) = textOf Y G := by
  have h0 : Y ≠ 0 := fun e => hq (by rw [e])
  have hg := dec_group (Y / 1000000000) (by omega) 9 (Y % 1000000000) (by omega) (by omega)
  have e : Y / 1000000000 * 10 ^ 9 + Y % 1000000000 = Y := by omega
  rw [e] at hg
  simp only [textOf, if_neg hq, if_neg h0, hg, List.reverse_append, List.reverse_cons, List.reverse_nil, List.nil_append, List.flatten_append, List.flatten_cons, List.flatten_nil, List.append_nil, List.append_assoc]
theorem text_end (G : List (List UInt8)) : textOf 0 G = G.reverse.flatten := by simp [textOf]
theorem join_nil_sep (xs : List (List UInt8)) : Lib.join xs [] = xs.flatten := by
  unfold Lib.join
  induction xs with
  | nil => rfl
  | cons x xs ih =>
    cases xs with
    | nil => simp [List.intercalate]
    | cons y ys =>
      rw [List.flatten_cons, ← ih]
      simp [List.intercalate]
theorem flat_len {G : List (List UInt8)} (h : ∀ g ∈ G, 1 ≤ g.length) : G.length ≤ G.flatten.length := by
  induction G with
  | nil => simp
  | cons x G ih =>
    have h1 := h x (by simp)
    have h2 := ih fun g hg => h g (by simp [hg])
    simp only [List.length_cons, List.flatten_cons, List.length_append]
    omega
theorem text_len {x Y : Nat} {G : List (List UInt8)} (h : textOf Y G = decDigits x) (hg : ∀ g ∈ G, 1 ≤ g.length) : G.length ≤ nDigits x := by
  have h1 := congrArg List.length h
  rw [decDigits_length, textOf, List.length_append] at h1
  have h2 := flat_len (G := G.reverse) (fun g hg' => hg g (by simpa using hg'))
  rw [List.length_reverse] at h2
  omega
theorem nDigits_nl (x : Nat) : nDigits x ≤ 10 * nl x + 1 := by
  rcases Nat.eq_zero_or_pos (nl x) with h0 | h0
  · rw [eq_zero_of_nl h0]
    rw [nDigits_small (by omega)]
    omega
  · have h1 := nl_lt x
    have h2 : bs ^ nl x ≤ (10 ^ 10) ^ nl x := Nat.pow_le_pow_left (by unfold bs; omega) _
    rw [← Nat.pow_mul] at h2
    have := nDigits_le (r := x) (k := 10 * nl x) (by omega) (by omega)
    omega
theorem repeat_one (c : UInt8) (n : Nat) : repeatL [c] n = List.replicate n c := by
  induction n with
  | zero => rfl
  | succ n ih => rw [repeatL, ih]; rfl
/-- The digits of a group, and how they are filled up. -/
theorem group_parts (r : Nat) (hr : r < 1000000000) : ∃ (D R p : ByteArray) (rep : Nat), (⟨(decDigits r).toArray⟩ : ByteArray) = D ∧ (⟨(repeatL [48] rep).toArray⟩ : ByteArray) = R ∧ rep ≤ 9 ∧ (9 : Int) - (D.size : Int) = (rep : Int) ∧ D.size ≤ 9 ∧ (∀ W, (Op.stringOp .add R D).run Tryz.prog W = .ok (.string p) W) ∧ p.data.toList = padD 9 r := by
  have hn := nDigits_le (r := r) (k := 9) (by omega) (by omega)
  have hs : (⟨(decDigits r).toArray⟩ : ByteArray).size = nDigits r := by
    show (decDigits r).length = _
    exact decDigits_length r
  have hR : (⟨(repeatL [48] (9 - nDigits r)).toArray⟩ : ByteArray).size = 9 - nDigits r := by
    show (repeatL [48] (9 - nDigits r)).length = _
    rw [repeat_one, List.length_replicate]
  refine ⟨_, _, _, 9 - nDigits r, rfl, rfl, by omega, by rw [hs]; omega, by omega, fun W => run_string_add_sum W _ _ (by rw [hs, hR]; omega), ?_⟩
  rw [ByteArray.data_append, Array.toList_append, repeat_one]
  rfl

theorem own_below {w w' : World} {base size n : Nat} {e : TypeId} {v : Value} {xs : List Value} (h : w.ownsRow base e size v n xs) (hb : Below w.heap.size w w') : w'.ownsRow base e size v n xs :=
  h.kept ⟨hb.os, hb.tape, hb.output, hb.size, fun k hk _ => hb.block k hk⟩ (row := none) (by cases v.ownBlock <;> simp)
theorem str_info : (Tryz.prog.info? 9).map (fun i => (i.zero, i.size, i.bytes)) = some (some (.string ByteArray.empty), 1, 16) := by kernel_rfl
theorem append_str {w : World} {ops : Array Oper} {rest : List Oper} {o : Oper} {a : Act} {Q : Exit → Act → World → Prop} (hgd : o.guard = none) (s x : Operand)
    (ho : o.op = Op.call { callee := Callee.builtin Builtin.append, args := #[s, x], argTypes := #[22, 22] })
    (base n : Nat) (v : Value) (l : List Value) (hs : a.eval s = v) (hown : w.ownsRow base 9 1 v n l)
    (ad : Addr) (hx : a.eval x = .slice (some ad) 1 1) (t : ByteArray) (hc : w.cell? ad = some (.string t)) (hn : n ≤ 100000000) (hbase : base ≤ w.heap.size)
    (h : ∀ v' w', w'.ownsRow base 9 1 v' (n + 1) (l ++ [.string t]) → w.grownBy w' v.ownBlock → wpList Tryz.prog ops Q rest (a.put o.dst v') w') :
    wpList Tryz.prog ops Q (o :: rest) a w := by
  obtain ⟨i0, hi, hz0, hz1, hz2⟩ := info_parts str_info
  refine wpList_append_own w hgd s x _ ho base 9 i0 _ 1 16 Tryz.underlying22 hi hz0 hz1 hz2 rfl (by decide) v n l hs hown ad 1 1 [.string t] hx rfl ?_ ?_ (by unfold maxLen; omega) (by omega) hbase ?_
  · intro j u hu
    cases j with
    | zero =>
      obtain rfl : Value.string t = u := by simpa using hu
      have e : ad.add 0 = ad := by simp [Addr.add]
      rw [e]
      exact hc
    | succ j => simp at hu
  · intro u hu
    obtain rfl : u = .string t := by simpa using hu
    rfl
  · intro v' w' h1 h2 _
    exact h v' w' h1 h2

theorem own_nil {w : World} {base n : Nat} {e : TypeId} {xs : List Value} (h : w.ownsRow base e 1 (.slice none 0 0) n xs) : xs = [] := by
  rcases h.2 with ⟨_, h2⟩ | ⟨g, cap, cur, h1, _⟩
  · subst h2
    exact List.eq_nil_of_length_eq_zero (by simpa using h.1)
  · cases h1
theorem join_own (g cap : Nat) (G : List (List UInt8)) (q : Nat) (wr : World) {base : Nat} (h : wr.ownsRow base 9 1 (.slice (some ⟨g, 0, none⟩) G.length cap) G.length (G.map encStr)) (hcap : G.length ≤ cap) (hG : G.length ≤ 10000001) (hlen : G.reverse.flatten.length ≤ 100000000) :
    Calls Tryz.prog 54 #[.slice (some ⟨g, 0, none⟩) G.length cap, .string ⟨#[]⟩] (putRow encStr (Sort.ahead wr q) g 0 G.reverse.toArray) fun e w' => e = .returned (.string ⟨G.reverse.flatten.toArray⟩) ∧ Below (putRow encStr (Sort.ahead wr q) g 0 G.reverse.toArray).heap.size (putRow encStr (Sort.ahead wr q) g 0 G.reverse.toArray) w' := by
  have ho := ownsRow_putRow (q := q) (k := G.length) (ys := G.reverse) h (by simp) (Nat.le_refl _)
  rw [List.take_of_length_le (by simp)] at ho
  generalize putRow encStr (Sort.ahead wr q) g 0 G.reverse.toArray = W at *
  have hx : (G.reverse.map fun l => (⟨l.toArray⟩ : ByteArray)).length = G.length := by simp
  have hm : (G.reverse.map fun l => (⟨l.toArray⟩ : ByteArray)).map (·.data.toList) = G.reverse := by
    rw [List.map_map]
    exact (List.map_congr_left (fun x _ => rfl)).trans (List.map_id _)
  have hJ := Tryz.strings_Join g 0 cap (G.reverse.map fun l => (⟨l.toArray⟩ : ByteArray)) ⟨#[]⟩ W (fun j x hj => by
    have hc := ho.cells (g := g) rfl j (.string x) (by
      rw [List.getElem?_map] at hj ⊢
      cases hr : G.reverse[j]? with
      | none => rw [hr] at hj; cases hj
      | some l =>
        rw [hr] at hj
        have hj : (⟨l.toArray⟩ : ByteArray) = x := Option.some.inj hj
        rw [← hj]
        rfl)
    rw [Go.WideShapes.add_plain] at hc
    exact hc) (ho.lt _ rfl).2 (by omega) (by omega) (by rw [hm, show (⟨#[]⟩ : ByteArray).data.toList = [] from rfl, join_nil_sep]; omega)
  rw [hx, hm, show (⟨#[]⟩ : ByteArray).data.toList = [] from rfl, join_nil_sep] at hJ
  exact hJ
/-- What natural.Text's loop keeps; the ghost is what is left. -/
def textRel (x : Nat) (w : World) (Y : Nat) (s0 s3 : Value) (wr : World) : Prop :=
  ∃ (A : Option Addr) (n c : Nat) (G : List (List UInt8)), s0 = .slice A n c ∧ Sl wr wr.heap.size A n (u32s (limbs Y)) ∧ n ≤ c ∧ n ≤ 1000000 ∧ wr.ownsRow w.heap.size 9 1 s3 G.length (G.map encStr) ∧ Hid (textOf Y G = decDigits x) ∧ Hid (∀ g ∈ G, 1 ≤ g.length) ∧ Below w.heap.size w wr

theorem textRel_next {x Y : Nat} {w wr W w4 : World} {A : Option Addr} {n c : Nat} {G : List (List UInt8)} {gr : List UInt8} {t : ByteArray} {v v4 : Value} {T : Obj} (hn : n ≤ 1000000) (hc : n ≤ c) (hQ : Sl W W.heap.size A n (u32s (limbs Y))) (hfr : Fresh wr.heap.size A)
    (hown4 : w4.ownsRow w.heap.size 9 1 v4 (G.length + 1) (G.map encStr ++ [.string t])) (hgr : (W.alloc T).grownBy w4 v.ownBlock) (hown : wr.ownsRow w.heap.size 9 1 v G.length (G.map encStr)) (hbel : Below w.heap.size w wr) (hb : Below wr.heap.size wr W)
    (ht : t.data.toList = gr) (htx : textOf Y (G ++ [gr]) = decDigits x) (hl : 1 ≤ gr.length) (hgs : ∀ g ∈ G, 1 ≤ g.length) : textRel x w Y (.slice A n c) v4 w4 := by
  refine ⟨A, n, c, G ++ [gr], rfl, ?_, hc, hn, ?_, htx, ?_, ?_⟩
  · refine ⟨hQ.1, fun h0 => ?_⟩
    obtain ⟨b, off, e, hbw, hcell⟩ := hQ.2 h0
    have hbf := hfr _ e
    refine ⟨b, off, e, Nat.lt_of_lt_of_le hbw (Nat.le_trans (by simp) hgr.size), fun j u hu => ?_⟩
    rw [World.cell?_of_block (w := W.alloc T) (hgr.block b (by simp; omega) (fun e2 => by have := (hown.lt _ e2.symm).2; simp at hbf; omega)), World.cell?_alloc_lt _ _ _ hbw]
    exact hcell j u hu
  · have e : (G ++ [gr]).map encStr = G.map encStr ++ [.string t] := by
      rw [List.map_append, ← ht]
      simp [encStr]
    rw [e, List.length_append]
    exact hown4
  · intro g hg
    rcases List.mem_append.1 hg with h | h
    · exact hgs g h
    · rw [List.mem_singleton.1 h]
      exact hl
  · refine ((hbel.trans (hb.mono hbel.size)).alloc (Nat.le_trans hbel.size hb.size) T).grown hgr (Nat.le_trans hbel.size (Nat.le_trans hb.size (by simp))) fun g e => (hown.lt _ e).1

set_option maxRecDepth 100000 in
set_option maxHeartbeats 3200000 in
theorem text_any (A : Option Addr) (n c x : Nat) (w : World) (hw : Std w) (ha : NatA w A n c x) (hn : n ≤ 1000000) :
    Calls Tryz.prog 94 #[.slice A n c] w fun e w' => e = .returned (.string ⟨(decDigits x).toArray⟩) ∧ Below w.heap.size w w' := by
  have HW := Lib.hid hw; clear hw
  obtain ⟨t1, t2⟩ := ha.trimmed
  by_cases h0 : x = 0
  · subst h0
    have hz : nl 0 = 0 := nl_zero
    have HE : Hid (decDigits 0 = [48]) := dec_small (by omega)
    clear t1 t2
    go_enter Tryz.func94, Tryz.ntmps94
    go_wp2_with (go_at_call 108; (with_reducible refine (trim_nat _ _ _ _ _ (by assumption) (by omega)).mono ?_); rintro e w' ⟨rfl, rfl⟩)
    go_ret
    exact ⟨by rw [HE.out]; rfl, Below.refl _ _⟩
  have hp := nl_pos h0
  have hp0 : ((nl x : Int) == 0) = false := by simp; omega
  have hc := ha.cap
  go_enter Tryz.func94, Tryz.ntmps94
  go_wp2_with (go_at_call 108; (with_reducible refine (trim_nat _ _ _ _ _ (by assumption) (by omega)).mono ?_); rintro e w' ⟨rfl, rfl⟩)
  have HT := Lib.hid t2
  clear t2 ha
  go_loopg [0, 3] x (fun Y s0 s3 wr => textRel x w Y s0 s3 wr)
  case atStart => exact ⟨_, _, _, [], rfl, HT.out, by omega, by omega, World.ownsRow_nil _ _ _ _, text_start h0, (fun g hg => by simp at hg), Below.refl _ _⟩
  case round =>
    clear HT
    obtain ⟨A1, k1, c1, G, rfl, hA, hc1, l1, hown, htx, hgs, hbel⟩ := hrel
    have hk1 : k1 = nl gk := hA.ulen.symm
    have hGn : G.length ≤ 10000001 := by
      have h1 := text_len htx.out hgs.out
      have h2 := nDigits_nl x
      omega
    by_cases hg0 : gk = 0
    · subst hg0
      rw [nl_zero] at hk1
      subst hk1
      have hfl : G.reverse.flatten = decDigits x := by rw [← text_end]; exact htx.out
      have hne : u3 ≠ Value.slice none 0 0 := by
        rintro rfl
        have h1 : G = [] := by
          have := own_nil hown
          simpa using this
        rw [h1] at hfl
        have h2 := dec_len_pos x
        rw [← hfl] at h2
        simp at h2
      obtain ⟨g, cap, rfl, hgB, hgl, hcap, hcm, hGl, hH⟩ := holds_of_ownsRow hown hne
      have HR := Lib.hid (Tryz.slices_Reverse_string g 0 cap G wr hH (by omega))
      have HO := Lib.hid hown
      have HF := Lib.hid hfl
      have hcap2 := hcap
      clear hH hown hne hfl hA hGl
      go_wp2_with (first | (go_at_call 126; go_must ((refine HR.out.mono ?_); rintro e w1 ⟨rfl, nr, rfl⟩)) | (go_at_call 54; go_must (refine (join_own g cap G nr wr HO.out hcap2 hGn (by rw [HF.out, decDigits_length]; have h2 := nDigits_nl x; omega)).mono ?_); rintro e w2 ⟨rfl, hb2⟩))
      go_ret
      rw [HF.out]
      exact ⟨rfl, (below_putRow hbel hgB).trans (hb2.mono (by rw [size_putRow]; exact hbel.size))⟩
    · have hpk := nl_pos hg0
      have hk0 : 0 < k1 := by omega
      obtain ⟨q, hq⟩ : ∃ q, gk / 1000000000 = q := ⟨_, rfl⟩
      obtain ⟨r, hr⟩ : ∃ r, gk % 1000000000 = r := ⟨_, rfl⟩
      have hrb : r < 1000000000 := by omega
      have HC := short_any A1 k1 c1 gk 1000000000 wr (.of_limbs hA hc1) l1 (by omega) (by omega)
      rw [hq, hr] at HC
      have HC := Lib.hid HC
      have HG := Lib.hid (And.intro hq (And.intro hr hk1))
      obtain ⟨D, R, p, rep, hD, hR, hrep, hsub, hDs, hadd, hp⟩ := group_parts r hrb
      have HP := Lib.hid (And.intro hD (And.intro hR hp))
      have HS := Lib.hid (HW.out.below hbel)
      clear hA hq hr hk1 hD hR hp
      have hown0 := Lib.hid hown
      by_cases hq0 : q = 0
      · subst hq0
        go_wp2_with (first
          | (go_at_call 123; refine HC.out.mono ?_; rintro e w1 ⟨A2, n2, c2, rfl, h2, hc2, hb1, hfr⟩; have hk2 : n2 = 0 := (by rw [← h2.ulen]; exact nl_zero); subst hk2; have HB1 := Lib.hid hb1; have HS1 := Lib.hid (HS.out.below hb1); have HQ1 := Lib.hid h2; have HO1 := Lib.hid (own_below hown hb1); clear h2 hb1 hown)
          | (go_at_call 124; go_must ((refine (fmt_any r (by omega) _ HS1.out).mono ?_); rintro e w2 ⟨rfl, hb2⟩; rw [HP.out.1]; have HB2 := Lib.hid (HB1.out.trans (hb2.mono HB1.out.size)); have HQ2 := Lib.hid (HQ1.out.on hb2); have HO2 := Lib.hid (own_below HO1.out hb2); have hz2 : w.heap.size ≤ w2.heap.size := Nat.le_trans hbel.size (Nat.le_trans HB1.out.size hb2.size); clear hb2))
          | (at_builtin; go_must ((refine append_str rfl (.tmp 31) (.tmp 33) rfl w.heap.size G.length _ _ rfl (HO2.out.alloc _) ⟨w2.heap.size, 0, none⟩ rfl D (cell_one _ _ _) (by omega) (by simp; omega) ?_); intro v4 w4 hown4 hgr4)))
        go_roundg 0
        case measure => have := HG.out.1; omega
        case rel =>
          have hn2 : 0 ≤ 1000000 := by
            omega
          refine textRel_next (gr := decDigits r) hn2 hc2 HQ2.out hfr hown4 hgr4 hown0.out hbel HB2.out (by rw [← HP.out.1]) ?_ (dec_len_pos r) hgs.out
          have h1 := (text_last G hg0 HG.out.1).trans htx.out
          rw [HG.out.1, HG.out.2.1] at h1
          exact h1
      · go_wp2_with (first
          | (go_at_call 123; refine HC.out.mono ?_; rintro e w1 ⟨A2, n2, c2, rfl, h2, hc2, hb1, hfr⟩; have hk2 : 0 < n2 := (by rw [← h2.ulen]; exact nl_pos hq0); have HB1 := Lib.hid hb1; have HS1 := Lib.hid (HS.out.below hb1); have HQ1 := Lib.hid h2; have HO1 := Lib.hid (own_below hown hb1); clear h2 hb1 hown)
          | (go_at_call 124; go_must ((refine (fmt_any r (by omega) _ HS1.out).mono ?_); rintro e w2 ⟨rfl, hb2⟩; rw [HP.out.1]; have HB2 := Lib.hid (HB1.out.trans (hb2.mono HB1.out.size)); have HQ2 := Lib.hid (HQ1.out.on hb2); have HO2 := Lib.hid (own_below HO1.out hb2); have hz2 : w.heap.size ≤ w2.heap.size := Nat.le_trans hbel.size (Nat.le_trans HB1.out.size hb2.size); clear hb2))
          | (go_at_call 125; go_must ((refine (Tryz.strings_Repeat ⟨#[48]⟩ rep _ (by omega) (by show 1 * rep ≤ _; omega)).mono ?_); rintro e w3 ⟨rfl, hb3⟩; rw [show (⟨#[48]⟩ : ByteArray).data.toList = [48] from rfl, HP.out.2.1]; have HB3 := Lib.hid (HB2.out.trans (hb3.mono HB2.out.size)); have HQ3 := Lib.hid (HQ2.out.on hb3); have HO3 := Lib.hid (own_below HO2.out hb3); have hz3 : w.heap.size ≤ w3.heap.size := Nat.le_trans hz2 hb3.size; clear hb3))
          | (at_builtin; go_must ((refine append_str rfl (.tmp 31) (.tmp 33) rfl w.heap.size G.length _ _ rfl (HO3.out.alloc _) ⟨w3.heap.size, 0, none⟩ rfl p (cell_one _ _ _) (by omega) (by simp; omega) ?_); intro v4 w4 hown4 hgr4)))
        go_roundg q
        case measure => have := HG.out.1; omega
        case rel =>
          have hn2 : n2 ≤ 1000000 := by
            have h1 := HQ3.out.ulen
            have h2 : n2 = nl q := h1.symm
            have h3 := nl_mono (Nat.div_le_self gk 1000000000)
            rw [HG.out.1] at h3
            have := HG.out.2.2
            omega
          refine textRel_next (gr := padD 9 r) hn2 hc2 HQ3.out hfr hown4 hgr4 hown0.out hbel HB3.out HP.out.2.2 ?_ (by rw [padD, List.length_append]; have := dec_len_pos r; omega) hgs.out
          have h1 := (text_more G (by rw [HG.out.1]; exact hq0)).trans htx.out
          rw [HG.out.1, HG.out.2.1] at h1
          exact h1
end Go.Proofs.YtjiccijfbpkliaaGreatDoor

/- integer.signed, Norm, Neg return the integer in normal form. Conditions: slices of at most 1,000,000 limbs. -/
namespace Go.Proofs.YtjiccijfbpkliaaGreatDoor
open Go.RowKit

/-- An integer in normal form comes back. -/
def RetZ (i : Int) (w : World) (e : Ending) (w' : World) : Prop :=
  ∃ A n c, e = .returned (.agg #[.bool (ineg i), .slice A n c]) ∧ Sl w' w'.heap.size A n (u32s (limbs i.natAbs)) ∧ n ≤ c ∧ Below w.heap.size w w'

theorem bcell {W w1 : World} (hb : Below W.heap.size W w1) : (∀ b o, b < W.heap.size → w1.cell? ⟨b, o, none⟩ = W.cell? ⟨b, o, none⟩) ∧ (∀ b o, b < W.heap.size → w1.frozen? ⟨b, o, none⟩ = W.frozen? ⟨b, o, none⟩) :=
  ⟨fun b o h => hb.cell (p := ⟨b, o, none⟩) h, fun b o h => hb.frozen (p := ⟨b, o, none⟩) h⟩

theorem Sl.setFar {w : World} {B n : Nat} {A : Option Addr} {xs : List Value} (h : Sl w B A n xs) {p : Addr} (hp : ∀ a, A = some a → a.block ≠ p.block) (u : Value) : Sl (w.setCell p u) B A n xs :=
  ⟨h.1, fun hn => by
    obtain ⟨b, off, e, hb, hc⟩ := h.2 hn
    refine ⟨b, off, e, hb, fun j x hx => ?_⟩
    exact (World.cell?_setCell_other w p ⟨b, off + j, none⟩ u (fun e2 => hp _ e (by rw [e2]))).trans (hc j x hx)⟩
/-- Over a store into a block that the slice doesn't lie in. -/
theorem Sl.set_ {w : World} {n : Nat} {A : Option Addr} {xs : List Value} (h : Sl w w.heap.size A n xs) {p : Addr} (hp : Fresh (p.block + 1) A) (u : Value) : Sl (w.setCell p u) (w.setCell p u).heap.size A n xs := by
  rw [World.size_setCell]
  exact h.setFar (fun a e => by have := hp a e; omega) u
theorem fresh_some {B g o : Nat} (h : B ≤ g) : Fresh B (some ⟨g, o, none⟩) := fun a e => by
  injection e with e
  subst e
  exact h

set_option maxRecDepth 100000 in
set_option maxHeartbeats 1600000 in
theorem signed_any (neg : Bool) (A : Option Addr) (n c m : Nat) (w : World) (ha : NatA w A n c m) (hn : n ≤ 1000000) :
    Calls Tryz.prog 107 #[.bool neg, .slice A n c] w (RetZ (sgn neg m) w) := by
  have HA := Lib.hid ha; clear ha
  cases neg
  · go_enter Tryz.func107, Tryz.ntmps107
    go_wp2_with (go_at_call 140; refine (norm_nat A n c m _ (HA.out.on ((Below.refl _ _).alloc (Nat.le_refl _) _)) hn).mono ?_; rintro e w1 ⟨g, k, rfl, hg, hs, hb⟩; obtain ⟨hcl, hfr⟩ := bcell hb)
    refine bodyPost_ret (v := .agg #[.bool false, .slice (some ⟨g, 0, none⟩) k k]) (by simp [results, Tryz.results107, go_sem, hcl]) rfl ?_
    have hg2 : w.heap.size + 1 ≤ g := by simpa using hg
    exact ⟨some ⟨g, 0, none⟩, k, k, by rw [ineg_sgn]; rfl, by rw [sgn_abs]; exact (hs.set_ (p := ⟨w.heap.size, 0, none⟩) (fresh_some hg2) _).set_ (p := ⟨w.heap.size, 1, none⟩) (fresh_some hg2) _, Nat.le_refl _, ((((Below.refl _ _).alloc (Nat.le_refl _) _).trans (hb.mono (by simp))).setCell (Nat.le_refl _) _).setCell (Nat.le_refl _) _⟩
  · go_enter Tryz.func107, Tryz.ntmps107
    go_wp2_with (go_at_call 140; refine (norm_nat A n c m _ (HA.out.on ((Below.refl _ _).alloc (Nat.le_refl _) _)) hn).mono ?_; rintro e w1 ⟨g, k, rfl, hg, hs, hb⟩; obtain ⟨hcl, hfr⟩ := bcell hb)
    refine bodyPost_ret (v := .agg #[.bool (decide (0 < k)), .slice (some ⟨g, 0, none⟩) k k]) (by simp [results, Tryz.results107, go_sem, hcl]) rfl ?_
    have hg2 : w.heap.size + 1 ≤ g := by simpa using hg
    have hk : decide (0 < k) = decide (0 < m) := by
      have h1 : k = nl m := hs.ulen.symm
      have h2 := eq_zero_of_nl (v := m)
      by_cases h0 : m = 0
      · subst h0
        rw [nl_zero] at h1
        subst h1
        rfl
      · have := nl_pos h0
        rw [decide_eq_decide]
        omega
    exact ⟨some ⟨g, 0, none⟩, k, k, by rw [ineg_sgn, Bool.true_and, hk], by rw [sgn_abs]; exact (hs.set_ (p := ⟨w.heap.size, 0, none⟩) (fresh_some hg2) _).set_ (p := ⟨w.heap.size, 1, none⟩) (fresh_some hg2) _, Nat.le_refl _, ((((Below.refl _ _).alloc (Nat.le_refl _) _).trans (hb.mono (by simp))).setCell (Nat.le_refl _) _).setCell (Nat.le_refl _) _⟩

/-! ### blocks that hold no limb -/
/-- Block r holds no limb: a slice of limbs doesn't lie there. -/
def NoU (w : World) (r : Nat) : Prop := ∀ (o : Nat) (x : Int), w.cell? ⟨r, o, none⟩ ≠ some (.int .u32 x)
theorem NoU.new (w : World) (cs : Array Value) (t : TypeId) (h : ∀ v ∈ cs.toList, ∀ x, v ≠ .int .u32 x) : NoU (w.alloc (.cells cs t)) w.heap.size := by
  intro o x e
  rw [World.cell?_alloc_new] at e
  have hm : Value.int .u32 x ∈ cs := Array.mem_of_getElem? e
  exact h _ (by simpa using hm) x rfl
theorem NoU.below {w w' : World} {r : Nat} (h : NoU w r) (hb : Below w.heap.size w w') (hr : r < w.heap.size) : NoU w' r := fun o x e => h o x (by rw [← hb.cell (p := ⟨r, o, none⟩) hr]; exact e)
theorem NoU.alloc {w : World} {r : Nat} (h : NoU w r) (hr : r < w.heap.size) (o : Obj) : NoU (w.alloc o) r := h.below ((Below.refl _ _).alloc (Nat.le_refl _) _) hr
theorem NoU.set {w : World} {r : Nat} (h : NoU w r) (p : Addr) {u : Value} (hu : ∀ x, u ≠ .int .u32 x) : NoU (w.setCell p u) r := by
  intro o x e
  by_cases hp : p = ⟨r, o, none⟩
  · subst hp
    simp only [World.setCell, World.cell?, Array.getElem?_modify, if_true] at e
    cases hh : w.heap[r]? with
    | none => simp [hh] at e
    | some ob =>
      cases ob with
      | cells c t f =>
        simp only [hh, Option.map_some, Option.isSome_none, Bool.false_eq_true, if_false] at e
        rw [Array.getElem?_setIfInBounds] at e
        simp only [if_true] at e
        split at e
        · exact hu x (Option.some.inj e)
        · cases e
      | _ => simp [hh] at e
  · rw [World.cell?_setCell_other _ _ _ _ hp] at e
    exact h o x e
theorem Sl.no {w : World} {n r : Nat} {A : Option Addr} {l : List Nat} (h : Sl w w.heap.size A n (u32s l)) (hr : NoU w r) (k : Nat) (u : Value) : Sl (w.setCell ⟨r, k, none⟩ u) (w.setCell ⟨r, k, none⟩ u).heap.size A n (u32s l) := by
  rw [World.size_setCell]
  refine ⟨h.1, fun hn => ?_⟩
  obtain ⟨b, off, e, hb, hc⟩ := h.2 hn
  refine ⟨b, off, e, hb, fun j x hx => ?_⟩
  have h1 := hc j x hx
  simp only [u32s, List.getElem?_map, Option.map_eq_some_iff] at hx
  obtain ⟨y, _, rfl⟩ := hx
  by_cases hp : (⟨r, k, none⟩ : Addr) = ⟨b, off + j, none⟩
  · exfalso
    injection hp with e1 e2
    subst e1
    exact hr _ _ h1
  · rw [World.cell?_setCell_other _ _ _ _ hp]
    exact h1

/-- An integer has been stored into the result's block. -/
theorem int_end {i : Int} {w W w1 : World} {r n c : Nat} {A : Option Addr} (hs : Sl w1 w1.heap.size A n (u32s (limbs i.natAbs))) (hc : n ≤ c) (hN : NoU w1 r) (hB : Below w.heap.size w W) (hb : Below W.heap.size W w1) (hr : w.heap.size ≤ r := by simp) :
    RetZ i w (.returned (.agg #[.bool (ineg i), .slice A n c])) ((w1.setCell ⟨r, 0, none⟩ (.bool (ineg i))).setCell ⟨r, 1, none⟩ (.slice A n c)) := by
  refine ⟨A, n, c, rfl, (hs.no hN 0 _).no (hN.set _ (by simp)) 1 _, hc, ?_⟩
  exact ((hB.trans (hb.mono hB.size)).setCell (p := ⟨r, 0, none⟩) hr _).setCell (p := ⟨r, 1, none⟩) hr _

set_option maxRecDepth 100000 in
set_option maxHeartbeats 1600000 in
theorem inorm_any (neg : Bool) (A : Option Addr) (n c m : Nat) (w : World) (ha : NatA w A n c m) (hn : n ≤ 1000000) :
    Calls Tryz.prog 106 #[.agg #[.bool neg, .slice A n c]] w (RetZ (sgn neg m) w) := by
  have HA := Lib.hid ha; clear ha
  go_enter Tryz.func106, Tryz.ntmps106
  go_wp2_with fail
  have hB : Below w.heap.size w ((w.alloc (.cells #[.bool neg, .slice A n c] 34)).alloc (.cells #[.bool false, .slice none 0 0] 34)) := ((Below.refl _ _).alloc (Nat.le_refl _) _).alloc (by simp) _
  have hN := NoU.new (w.alloc (.cells #[.bool neg, .slice A n c] 34)) #[.bool false, .slice none 0 0] 34 (by simp)
  refine (signed_any neg A n c m _ (HA.out.on hB) hn).mono ?_
  rintro e w1 ⟨A1, n1, c1, rfl, hs, hc1, hb⟩
  have HE := Lib.hid (int_end hs hc1 (hN.below hb (by simp)) hB hb)
  obtain ⟨hcl, hfr⟩ := bcell hb
  clear hs hN hB
  go_wp2_with fail
  refine bodyPost_ret (v := .agg #[.bool (ineg (sgn neg m)), .slice A1 n1 c1]) (by simp [results, Tryz.results106, go_sem, hcl]) rfl ?_
  simpa using HE.out
set_option maxRecDepth 100000 in
set_option maxHeartbeats 1600000 in
theorem ineg_any (neg : Bool) (A : Option Addr) (n c m : Nat) (w : World) (ha : NatA w A n c m) (hn : n ≤ 1000000) :
    Calls Tryz.prog 110 #[.agg #[.bool neg, .slice A n c]] w (RetZ (sgn (!neg) m) w) := by
  have HA := Lib.hid ha; clear ha
  go_enter Tryz.func110, Tryz.ntmps110
  go_wp2_with fail
  have hB : Below w.heap.size w ((w.alloc (.cells #[.bool neg, .slice A n c] 34)).alloc (.cells #[.bool false, .slice none 0 0] 34)) := ((Below.refl _ _).alloc (Nat.le_refl _) _).alloc (by simp) _
  have hN := NoU.new (w.alloc (.cells #[.bool neg, .slice A n c] 34)) #[.bool false, .slice none 0 0] 34 (by simp)
  refine (signed_any (!neg) A n c m _ (HA.out.on hB) hn).mono ?_
  rintro e w1 ⟨A1, n1, c1, rfl, hs, hc1, hb⟩
  have HE := Lib.hid (int_end hs hc1 (hN.below hb (by simp)) hB hb)
  obtain ⟨hcl, hfr⟩ := bcell hb
  clear hs hN hB
  go_wp2_with fail
  refine bodyPost_ret (v := .agg #[.bool (ineg (sgn (!neg) m)), .slice A1 n1 c1]) (by simp [results, Tryz.results110, go_sem, hcl]) rfl ?_
  simpa using HE.out
end Go.Proofs.YtjiccijfbpkliaaGreatDoor

/- integer.Mul, Add, Cmp. Conditions: slices of at most 400,000 limbs. -/
namespace Go.Proofs.YtjiccijfbpkliaaGreatDoor
open Go.RowKit

/-- The world in which two integers are boxed and a result is laid. -/
def box2 (w : World) (p q r : Array Value) : World := ((w.alloc (.cells p 34)).alloc (.cells q 34)).alloc (.cells r 34)
theorem box2_below (w : World) (p q r : Array Value) : Below w.heap.size w (box2 w p q r) := (((Below.refl _ _).alloc (Nat.le_refl _) _).alloc (by simp) _).alloc (by simp; omega) _

theorem box2_no (w : World) (p q : Array Value) : NoU (box2 w p q #[.bool false, .slice none 0 0]) (w.heap.size + 1 + 1) := by
  have h := NoU.new ((w.alloc (.cells p 34)).alloc (.cells q 34)) #[.bool false, .slice none 0 0] 34 (by simp)
  simpa [box2] using h
theorem sgn_mul' (m n : Bool) (a b : Nat) : sgn (!m == n) (a * b) = sgn m a * sgn n b := by rw [← sgn_mul]; cases m <;> cases n <;> rfl

set_option maxRecDepth 100000 in
set_option maxHeartbeats 3200000 in
theorem imul_any (neg : Bool) (A : Option Addr) (n c x : Nat) (neg2 : Bool) (B : Option Addr) (m d y : Nat) (w : World) (ha : NatA w A n c x) (hb : NatA w B m d y) (hn : n ≤ 400000) (hm : m ≤ 400000) :
    Calls Tryz.prog 70 #[.agg #[.bool neg, .slice A n c], .agg #[.bool neg2, .slice B m d]] w (RetZ (sgn neg x * sgn neg2 y) w) := by
  have hxy : nl (x * y) ≤ 800000 := by
    have h1 := nl_mul x y
    have h2 := ha.trimmed.1
    have h3 := hb.trimmed.1
    omega
  have HA := Lib.hid (And.intro ha hb); clear ha hb
  go_enter Tryz.func70, Tryz.ntmps70
  go_wp2_with fail
  have hB := box2_below w #[.bool neg, .slice A n c] #[.bool neg2, .slice B m d] #[.bool false, .slice none 0 0]
  have hl0 : w.heap.size < w.heap.size + 1 + 1 + 1 := by omega
  have hl1 : w.heap.size < w.heap.size + 1 + 1 := by omega
  have hq0 : ¬ w.heap.size + 1 + 1 = w.heap.size := by omega
  have hq1 : ¬ w.heap.size = w.heap.size + 1 + 1 := by omega
  go_region_held3 (fun w' => w'.cell? ⟨w.heap.size, 0, none⟩ = some (.bool neg) ∧ w'.cell? ⟨w.heap.size, 1, none⟩ = some (.slice A n c) ∧ w'.cell? ⟨w.heap.size + 1, 0, none⟩ = some (.bool neg2) ∧ w'.cell? ⟨w.heap.size + 1, 1, none⟩ = some (.slice B m d))
    (go_keep)
    (first
    | (go_at_call 71; go_must ((refine (mul_any A B n m c d x y _ (by exact HA.out.1.on hB.drew) (by exact HA.out.2.on hB.drew) (by omega) (by omega)).mono ?_); rintro e w1 ⟨A1, n1, c1, rfl, h1, hc1, hb1⟩; obtain ⟨hcl, hfr⟩ := bcell hb1; have hz1 : w.heap.size + 1 + 1 < w1.heap.size := (by have := hb1.size; simp at this; omega); have hz2 : w.heap.size + 1 < w1.heap.size := (by omega); have hz3 : w.heap.size < w1.heap.size := (by omega)))
    | (go_at_call 107; go_must ((refine (signed_any _ A1 n1 c1 (x * y) _ (by exact .of_limbs h1 hc1) (by rw [← h1.ulen]; exact Nat.le_trans hxy (by omega))).mono ?_); rintro e w2 ⟨A2, n2, c2, rfl, h2, hc2, hb2⟩; obtain ⟨hcl2, hfr2⟩ := bcell hb2)))
  have k0 : w2.cell? ⟨w.heap.size + 1 + 1, 0, none⟩ = some (.bool false) := by rw [hcl2 _ _ hz1, hcl _ _ (by simp)]; simp [go_sem]
  have k1 : w2.cell? ⟨w.heap.size + 1 + 1, 1, none⟩ = some (.slice none 0 0) := by rw [hcl2 _ _ hz1, hcl _ _ (by simp)]; simp [go_sem]
  have hN2 : NoU w2 (w.heap.size + 1 + 1) := by
    have h3 : NoU w1 (w.heap.size + 1 + 1) := NoU.below (w := box2 w #[.bool neg, .slice A n c] #[.bool neg2, .slice B m d] #[.bool false, .slice none 0 0]) (box2_no w _ _) ⟨hb1.os, hb1.tape, hb1.output, hb1.size, hb1.block⟩ (by simp [box2])
    exact h3.below hb2 hz1
  have HE := Lib.hid (int_end (i := sgn neg x * sgn neg2 y) (by rw [← sgn_mul']; exact h2) hc2 hN2 (w := w) (hB.trans (Below.mono ⟨hb1.os, hb1.tape, hb1.output, hb1.size, hb1.block⟩ hB.size)) hb2 (by omega))
  clear hN2 hcl hcl2 hfr2 hfr
  go_wp2_with fail
  refine bodyPost_ret (v := .agg #[.bool (ineg (sgn neg x * sgn neg2 y)), .slice A2 n2 c2]) (by simp [results, Tryz.results70, go_sem, k0, k1, sgn_mul']) rfl ?_
  rw [sgn_mul']
  exact HE.out
set_option maxRecDepth 100000 in
set_option maxHeartbeats 3200000 in
theorem iadd_same (neg : Bool) (A : Option Addr) (n c x : Nat) (B : Option Addr) (m d y : Nat) (w : World) (ha : NatA w A n c x) (hb : NatA w B m d y) (hn : n ≤ 400000) (hm : m ≤ 400000) :
    Calls Tryz.prog 76 #[.agg #[.bool neg, .slice A n c], .agg #[.bool neg, .slice B m d]] w (RetZ (sgn neg (x + y)) w) := by
  have hxy : nl (x + y) ≤ 800000 := by
    have h1 := nl_add x y
    have h2 := ha.trimmed.1
    have h3 := hb.trimmed.1
    omega
  have HA := Lib.hid (And.intro ha hb); clear ha hb
  go_enter Tryz.func76, Tryz.ntmps76
  go_wp2_with fail
  have hB := box2_below w #[.bool neg, .slice A n c] #[.bool neg, .slice B m d] #[.bool false, .slice none 0 0]
  have hl0 : w.heap.size < w.heap.size + 1 + 1 + 1 := by omega
  have hl1 : w.heap.size < w.heap.size + 1 + 1 := by omega
  have hq0 : ¬ w.heap.size + 1 + 1 = w.heap.size := by omega
  have hq1 : ¬ w.heap.size = w.heap.size + 1 + 1 := by omega
  go_region_held3 (fun w' => w'.cell? ⟨w.heap.size, 0, none⟩ = some (.bool neg) ∧ w'.cell? ⟨w.heap.size, 1, none⟩ = some (.slice A n c) ∧ w'.cell? ⟨w.heap.size + 1, 0, none⟩ = some (.bool neg) ∧ w'.cell? ⟨w.heap.size + 1, 1, none⟩ = some (.slice B m d))
    (go_keep)
    (first
    | (go_at_call 111; go_must ((refine (add_any A B n m c d x y _ (by exact HA.out.1.on hB.drew) (by exact HA.out.2.on hB.drew) (by omega) (by omega)).mono ?_); rintro e w1 ⟨A1, n1, c1, rfl, h1, hc1, hb1⟩; obtain ⟨hcl, hfr⟩ := bcell hb1; have hz1 : w.heap.size + 1 + 1 < w1.heap.size := (by have := hb1.size; simp at this; omega); have hz2 : w.heap.size + 1 < w1.heap.size := (by omega); have hz3 : w.heap.size < w1.heap.size := (by omega)))
    | (go_at_call 107; go_must ((refine (signed_any _ A1 n1 c1 (x + y) _ (by exact .of_limbs h1 hc1) (by rw [← h1.ulen]; exact Nat.le_trans hxy (by omega))).mono ?_); rintro e w2 ⟨A2, n2, c2, rfl, h2, hc2, hb2⟩; obtain ⟨hcl2, hfr2⟩ := bcell hb2)))
  have k0 : w2.cell? ⟨w.heap.size + 1 + 1, 0, none⟩ = some (.bool false) := by rw [hcl2 _ _ hz1, hcl _ _ (by simp)]; simp [go_sem]
  have k1 : w2.cell? ⟨w.heap.size + 1 + 1, 1, none⟩ = some (.slice none 0 0) := by rw [hcl2 _ _ hz1, hcl _ _ (by simp)]; simp [go_sem]
  have hN2 : NoU w2 (w.heap.size + 1 + 1) := by
    have h3 : NoU w1 (w.heap.size + 1 + 1) := NoU.below (w := box2 w #[.bool neg, .slice A n c] #[.bool neg, .slice B m d] #[.bool false, .slice none 0 0]) (box2_no w _ _) ⟨hb1.os, hb1.tape, hb1.output, hb1.size, hb1.block⟩ (by simp [box2])
    exact h3.below hb2 hz1
  have HE := Lib.hid (int_end (i := sgn neg (x + y)) h2 hc2 hN2 (w := w) (hB.trans (Below.mono ⟨hb1.os, hb1.tape, hb1.output, hb1.size, hb1.block⟩ hB.size)) hb2 (by omega))
  clear hN2 hcl hcl2 hfr2 hfr
  go_wp2_with fail
  refine bodyPost_ret (v := .agg #[.bool (ineg (sgn neg (x + y))), .slice A2 n2 c2]) (by simp [results, Tryz.results76, go_sem, k0, k1]) rfl ?_
  exact HE.out
end Go.Proofs.YtjiccijfbpkliaaGreatDoor

/- integer.Add where the signs differ; integer.Add; integer.Cmp. Conditions: slices of at most 400,000 limbs. -/
namespace Go.Proofs.YtjiccijfbpkliaaGreatDoor
open Go.RowKit

set_option maxRecDepth 100000 in
set_option maxHeartbeats 3200000 in
theorem iadd_ge (neg : Bool) (A : Option Addr) (n c x : Nat) (neg2 : Bool) (B : Option Addr) (m d y : Nat) (w : World) (ha : NatA w A n c x) (hb : NatA w B m d y) (hn : n ≤ 400000) (hm : m ≤ 400000) (hne : neg ≠ neg2) (hle : y ≤ x) :
    Calls Tryz.prog 76 #[.agg #[.bool neg, .slice A n c], .agg #[.bool neg2, .slice B m d]] w (RetZ (sgn neg (x - y)) w) := by
  have hxy : nl (x - y) ≤ 400000 := by
    have h1 := nl_mono (Nat.sub_le x y)
    have h2 := ha.trimmed.1
    omega
  have HA := Lib.hid (And.intro ha hb); clear ha hb
  have hB := box2_below w #[.bool neg, .slice A n c] #[.bool neg2, .slice B m d] #[.bool false, .slice none 0 0]
  have hl0 : w.heap.size < w.heap.size + 1 + 1 + 1 := by omega
  have hl1 : w.heap.size < w.heap.size + 1 + 1 := by omega
  have heq : (neg == neg2) = false := by simpa using hne
  clear hne
  go_enter Tryz.func76, Tryz.ntmps76
  go_wp2_with (first
    | (go_at_call 112; go_must ((refine (sub_yes A B n m c d x y _ (by exact HA.out.1.on hB) (by exact HA.out.2.on hB) (by omega) (by omega) hle).mono ?_); rintro e w1 ⟨A1, n1, c1, rfl, h1, hc1, hb1⟩; obtain ⟨hcl, hfr⟩ := bcell hb1; have hz1 : w.heap.size + 1 + 1 < w1.heap.size := (by have := hb1.size; simp at this; omega)))
    | (go_at_call 107; go_must ((refine (signed_any _ A1 n1 c1 (x - y) _ (by exact .of_limbs h1 hc1) (by rw [← h1.ulen]; exact Nat.le_trans hxy (by omega))).mono ?_); rintro e w2 ⟨A2, n2, c2, rfl, h2, hc2, hb2⟩; obtain ⟨hcl2, hfr2⟩ := bcell hb2)))
  have k0 : w2.cell? ⟨w.heap.size + 1 + 1, 0, none⟩ = some (.bool false) := by rw [hcl2 _ _ hz1, hcl _ _ (by simp)]; simp [go_sem]
  have k1 : w2.cell? ⟨w.heap.size + 1 + 1, 1, none⟩ = some (.slice none 0 0) := by rw [hcl2 _ _ hz1, hcl _ _ (by simp)]; simp [go_sem]
  have hN2 : NoU w2 (w.heap.size + 1 + 1) := by
    have h3 : NoU w1 (w.heap.size + 1 + 1) := NoU.below (w := box2 w #[.bool neg, .slice A n c] #[.bool neg2, .slice B m d] #[.bool false, .slice none 0 0]) (box2_no w _ _) ⟨hb1.os, hb1.tape, hb1.output, hb1.size, hb1.block⟩ (by simp [box2])
    exact h3.below hb2 hz1
  refine bodyPost_ret (v := .agg #[.bool (ineg (sgn neg (x - y))), .slice A2 n2 c2]) (by simp [results, Tryz.results76, go_sem, k0, k1]) rfl ?_
  exact int_end (i := sgn neg (x - y)) h2 hc2 hN2 (w := w) (hB.trans (Below.mono ⟨hb1.os, hb1.tape, hb1.output, hb1.size, hb1.block⟩ hB.size)) hb2 (by omega)

set_option maxRecDepth 100000 in
set_option maxHeartbeats 3200000 in
theorem iadd_lt (neg : Bool) (A : Option Addr) (n c x : Nat) (neg2 : Bool) (B : Option Addr) (m d y : Nat) (w : World) (ha : NatA w A n c x) (hb : NatA w B m d y) (hn : n ≤ 400000) (hm : m ≤ 400000) (hne : neg ≠ neg2) (hlt : x < y) :
    Calls Tryz.prog 76 #[.agg #[.bool neg, .slice A n c], .agg #[.bool neg2, .slice B m d]] w (RetZ (sgn neg2 (y - x)) w) := by
  have hxy : nl (y - x) ≤ 400000 := by
    have h1 := nl_mono (Nat.sub_le y x)
    have h2 := hb.trimmed.1
    omega
  have HA := Lib.hid (And.intro ha hb); clear ha hb
  have hB := box2_below w #[.bool neg, .slice A n c] #[.bool neg2, .slice B m d] #[.bool false, .slice none 0 0]
  have hl0 : w.heap.size < w.heap.size + 1 + 1 + 1 := by omega
  have hl1 : w.heap.size < w.heap.size + 1 + 1 := by omega
  have heq : (neg == neg2) = false := by simpa using hne
  clear hne
  go_enter Tryz.func76, Tryz.ntmps76
  go_wp2_with fail
  refine (sub_no A B n m c d x y _ (by exact HA.out.1.on hB) (by exact HA.out.2.on hB) (by omega) (by omega) hlt).mono ?_
  rintro e w' ⟨rfl, nq, rfl⟩
  go_wp2_with fail
  refine (sub_yes B A m n d c y x _ (by exact HA.out.2.on (below_drewN hB nq)) (by exact HA.out.1.on (below_drewN hB nq)) (by omega) (by omega) (by omega)).mono ?_
  rintro e w1 ⟨A1, n1, c1, rfl, h1, hc1, hb1⟩
  obtain ⟨hcl, hfr⟩ := bcell hb1
  have hz1 : w.heap.size + 1 + 1 < w1.heap.size := by have := hb1.size; simp at this; omega
  go_wp2_with (go_at_call 107; go_must ((refine (signed_any _ A1 n1 c1 (y - x) _ (by exact .of_limbs h1 hc1) (by rw [← h1.ulen]; exact Nat.le_trans hxy (by omega))).mono ?_); rintro e w2 ⟨A2, n2, c2, rfl, h2, hc2, hb2⟩; obtain ⟨hcl2, hfr2⟩ := bcell hb2))
  have k0 : w2.cell? ⟨w.heap.size + 1 + 1, 0, none⟩ = some (.bool false) := by rw [hcl2 _ _ hz1, hcl _ _ (by simp)]; simp [go_sem]
  have k1 : w2.cell? ⟨w.heap.size + 1 + 1, 1, none⟩ = some (.slice none 0 0) := by rw [hcl2 _ _ hz1, hcl _ _ (by simp)]; simp [go_sem]
  have hN2 : NoU w2 (w.heap.size + 1 + 1) := by
    have h3 : NoU w1 (w.heap.size + 1 + 1) := NoU.below (w := box2 w #[.bool neg, .slice A n c] #[.bool neg2, .slice B m d] #[.bool false, .slice none 0 0]) (box2_no w _ _) ⟨hb1.os, hb1.tape, hb1.output, hb1.size, hb1.block⟩ (by simp [box2])
    exact h3.below hb2 hz1
  refine bodyPost_ret (v := .agg #[.bool (ineg (sgn neg2 (y - x))), .slice A2 n2 c2]) (by simp [results, Tryz.results76, go_sem, k0, k1]) rfl ?_
  exact int_end (i := sgn neg2 (y - x)) h2 hc2 hN2 (w := w) (hB.trans (Below.mono ⟨hb1.os, hb1.tape, hb1.output, hb1.size, hb1.block⟩ hB.size)) hb2 (by omega)

theorem iadd_any (neg : Bool) (A : Option Addr) (n c x : Nat) (neg2 : Bool) (B : Option Addr) (m d y : Nat) (w : World) (ha : NatA w A n c x) (hb : NatA w B m d y) (hn : n ≤ 400000) (hm : m ≤ 400000) :
    Calls Tryz.prog 76 #[.agg #[.bool neg, .slice A n c], .agg #[.bool neg2, .slice B m d]] w (RetZ (sgn neg x + sgn neg2 y) w) := by
  by_cases h : neg = neg2
  · subst h
    rw [← sgn_add_same]
    exact iadd_same neg A n c x B m d y w ha hb hn hm
  · by_cases hle : y ≤ x
    · rw [← sgn_add_ge h hle]
      exact iadd_ge neg A n c x neg2 B m d y w ha hb hn hm h hle
    · rw [← sgn_add_lt h (by omega)]
      exact iadd_lt neg A n c x neg2 B m d y w ha hb hn hm h (by omega)
end Go.Proofs.YtjiccijfbpkliaaGreatDoor

/- integer.Cmp. Conditions: slices of at most 1,000,000 limbs. -/
namespace Go.Proofs.YtjiccijfbpkliaaGreatDoor
open Go.RowKit

/-- A number comes back; memory was made. -/
def RetC (v : Int) (w : World) (e : Ending) (w' : World) : Prop := e = .returned (.int .i64 v) ∧ Below w.heap.size w w'
theorem ineg_true {i : Int} (h : ineg i = true) : i < 0 := by simpa [ineg] using h
theorem ineg_false {i : Int} (h : ineg i = false) : 0 ≤ i := by
  have : ¬ i < 0 := by simpa [ineg] using h
  omega
theorem cmpI_ff {i j : Int} (hi : 0 ≤ i) (hj : 0 ≤ j) : cmpI i j = cmpN i.natAbs j.natAbs := by
  unfold cmpI cmpN
  repeat' split
  all_goals omega
theorem cmpI_tt {i j : Int} (hi : i < 0) (hj : j < 0) : cmpI i j = cmpN j.natAbs i.natAbs := by
  unfold cmpI cmpN
  repeat' split
  all_goals omega
theorem cmpI_lt {i j : Int} (h : i < j) : cmpI i j = -1 := by rw [cmpI, if_pos h]
theorem cmpI_gt {i j : Int} (h : j < i) : cmpI i j = 1 := by rw [cmpI, if_neg (by omega), if_pos h]

/-- Both integers stand in normal form in their boxes. -/
def cmpCut (i j : Int) (w : World) (wx : World) : Prop :=
  ∃ (A : Option Addr) (n c : Nat) (B : Option Addr) (m d : Nat), wx.cell? ⟨w.heap.size, 0, none⟩ = some (.bool (ineg i)) ∧ wx.cell? ⟨w.heap.size, 1, none⟩ = some (.slice A n c) ∧ wx.cell? ⟨w.heap.size + 1, 0, none⟩ = some (.bool (ineg j)) ∧ wx.cell? ⟨w.heap.size + 1, 1, none⟩ = some (.slice B m d) ∧
    Sl wx wx.heap.size A n (u32s (limbs i.natAbs)) ∧ n ≤ c ∧ Sl wx wx.heap.size B m (u32s (limbs j.natAbs)) ∧ m ≤ d ∧ Below w.heap.size w wx

theorem cmp_end {i j : Int} {w w2 : World} {A B : Option Addr} {n c m d : Nat} {u0 u1 u2 u3 : Value} (h1 : Sl w2 w2.heap.size A n (u32s (limbs i.natAbs))) (h2 : Sl w2 w2.heap.size B m (u32s (limbs j.natAbs))) (hc : n ≤ c) (hd : m ≤ d) (hN0 : NoU w2 w.heap.size) (hN1 : NoU w2 (w.heap.size + 1)) (hb : Below w.heap.size w w2)
    (k0 : w2.cell? ⟨w.heap.size, 0, none⟩ = some u0) (k1 : w2.cell? ⟨w.heap.size, 1, none⟩ = some u1) (k2 : w2.cell? ⟨w.heap.size + 1, 0, none⟩ = some u2) (k3 : w2.cell? ⟨w.heap.size + 1, 1, none⟩ = some u3) :
    cmpCut i j w ((((w2.setCell ⟨w.heap.size, 0, none⟩ (.bool (ineg i))).setCell ⟨w.heap.size, 1, none⟩ (.slice A n c)).setCell ⟨w.heap.size + 1, 0, none⟩ (.bool (ineg j))).setCell ⟨w.heap.size + 1, 1, none⟩ (.slice B m d)) := by
  refine ⟨A, n, c, B, m, d, by simp [go_sem, k0], by simp [go_sem, k1], by simp [go_sem, k2], by simp [go_sem, k3], ?_, hc, ?_, hd, ?_⟩
  · exact (((h1.no hN0 0 _).no (hN0.set _ (by simp)) 1 _).no ((hN1.set _ (by simp)).set _ (by simp)) 0 _).no (((hN1.set _ (by simp)).set _ (by simp)).set _ (by simp)) 1 _
  · exact (((h2.no hN0 0 _).no (hN0.set _ (by simp)) 1 _).no ((hN1.set _ (by simp)).set _ (by simp)) 0 _).no (((hN1.set _ (by simp)).set _ (by simp)).set _ (by simp)) 1 _
  · exact (((hb.setCell (p := ⟨w.heap.size, 0, none⟩) (Nat.le_refl _) _).setCell (p := ⟨w.heap.size, 1, none⟩) (Nat.le_refl _) _).setCell (p := ⟨w.heap.size + 1, 0, none⟩) (Nat.le_succ _) _).setCell (p := ⟨w.heap.size + 1, 1, none⟩) (Nat.le_succ _) _

set_option maxRecDepth 100000 in
set_option maxHeartbeats 3200000 in
theorem icmp_any (neg : Bool) (A : Option Addr) (n c x : Nat) (neg2 : Bool) (B : Option Addr) (m d y : Nat) (w : World) (ha : NatA w A n c x) (hb : NatA w B m d y) (hn : n ≤ 1000000) (hm : m ≤ 1000000) :
    Calls Tryz.prog 72 #[.agg #[.bool neg, .slice A n c], .agg #[.bool neg2, .slice B m d]] w (RetC (cmpI (sgn neg x) (sgn neg2 y)) w) := by
  have t1 := ha.trimmed.1
  have t2 := hb.trimmed.1
  have HA := Lib.hid (And.intro ha hb); clear ha hb
  have hB : Below w.heap.size w ((w.alloc (.cells #[.bool neg, .slice A n c] 34)).alloc (.cells #[.bool neg2, .slice B m d] 34)) := ((Below.refl _ _).alloc (Nat.le_refl _) _).alloc (by simp) _
  have hl1 : w.heap.size < w.heap.size + 1 + 1 := by omega
  have hq0 : ¬ w.heap.size + 1 = w.heap.size := by omega
  go_enter Tryz.func72, Tryz.ntmps72
  go_upto_region 1 with fail
  go_cut [4] (fun s4 wx => s4 = .int .i64 0 ∧ cmpCut (sgn neg x) (sgn neg2 y) w wx)
  case first =>
    go_region_with (first
      | (go_at_call_of 106 (Value.agg #[.bool neg, .slice A n c]); go_must ((refine (inorm_any neg A n c x _ (by exact HA.out.1.on hB.drew) hn).mono ?_); rintro e w1 ⟨A1, n1, c1, rfl, h1, hc1, hb1⟩; obtain ⟨hcl, hfr⟩ := bcell hb1; have hz1 : w.heap.size + 1 < w1.heap.size := (by have := hb1.size; simp at this; omega); have hz2 : w.heap.size < w1.heap.size := (by omega)))
      | (go_at_call 106; go_must ((refine (inorm_any neg2 B m d y _ (by exact (HA.out.2.on hB.drew).on hb1) hm).mono ?_); rintro e w2 ⟨A2, n2, c2, rfl, h2, hc2, hb2⟩; obtain ⟨hcl2, hfr2⟩ := bcell hb2)))
    all_goals
      have k00 : w2.cell? ⟨w.heap.size, 0, none⟩ = some (.bool neg) := by rw [hcl2 _ _ hz2, hcl _ _ (by simp; omega)]; simp [go_sem]
      have k01 : w2.cell? ⟨w.heap.size, 1, none⟩ = some (.slice A n c) := by rw [hcl2 _ _ hz2, hcl _ _ (by simp; omega)]; simp [go_sem]
      have k10 : w2.cell? ⟨w.heap.size + 1, 0, none⟩ = some (.bool neg2) := by rw [hcl2 _ _ hz1, hcl _ _ (by simp)]; simp [go_sem]
      have k11 : w2.cell? ⟨w.heap.size + 1, 1, none⟩ = some (.slice B m d) := by rw [hcl2 _ _ hz1, hcl _ _ (by simp)]; simp [go_sem]
      have hb1' : Below w.heap.size w w1 := hB.trans (Below.mono ⟨hb1.os, hb1.tape, hb1.output, hb1.size, hb1.block⟩ hB.size)
      have hN0 : NoU w2 w.heap.size := NoU.below (w := w1) (NoU.below (w := (w.alloc (.cells #[.bool neg, .slice A n c] 34)).alloc (.cells #[.bool neg2, .slice B m d] 34)) ((NoU.new w _ _ (by simp)).alloc (by simp) _) ⟨hb1.os, hb1.tape, hb1.output, hb1.size, hb1.block⟩ (by simp; omega)) hb2 hz2
      have hN1 : NoU w2 (w.heap.size + 1) := NoU.below (w := w1) (NoU.below (w := (w.alloc (.cells #[.bool neg, .slice A n c] 34)).alloc (.cells #[.bool neg2, .slice B m d] 34)) (by simpa using NoU.new (w.alloc (.cells #[.bool neg, .slice A n c] 34)) #[.bool neg2, .slice B m d] 34 (by simp)) ⟨hb1.os, hb1.tape, hb1.output, hb1.size, hb1.block⟩ (by simp)) hb2 hz1
      have HE := Lib.hid (cmp_end (h1.on hb2) h2 hc1 hc2 hN0 hN1 (hb1'.trans (hb2.mono hb1'.size)) k00 k01 k10 k11)
      clear hN0 hN1 hb1'
      go_wp2_with fail
      go_meet
      exact ⟨rfl, HE.out⟩
  case rest =>
    obtain ⟨rfl, A1, n1, c1, B1, m1, d1, k0, k1, k2, k3, hs1, hc1, hs2, hd1, hbel⟩ := hcut
    have l1 : n1 ≤ 1000000 := by
      have h := hs1.ulen
      rw [sgn_abs] at h
      have : n1 = nl x := h.symm
      omega
    have l2 : m1 ≤ 1000000 := by
      have h := hs2.ulen
      rw [sgn_abs] at h
      have : m1 = nl y := h.symm
      omega
    have HS := Lib.hid (And.intro hs1 hs2)
    clear hs1 hs2 hB
    generalize hi : sgn neg x = i at *
    generalize hj : sgn neg2 y = j at *
    clear hi hj
    cases hp : ineg i <;> cases hq : ineg j
    · have HE := Lib.hid (cmpI_ff (ineg_false hp) (ineg_false hq))
      rw [hp] at k0
      rw [hq] at k2
      clear hp hq
      go_wp2_with (go_at_call 91; go_must ((refine (cmp_any A1 B1 n1 m1 c1 d1 _ _ _ (.of_limbs HS.out.1 hc1) (.of_limbs HS.out.2 hd1) l1 l2).mono ?_); rintro e w' ⟨rfl, nq, rfl⟩))
      go_ret
      exact ⟨by rw [HE.out]; rfl, below_drewN hbel nq⟩
    · have HE := Lib.hid (cmpI_gt (i := i) (j := j) (by have := ineg_false hp; have := ineg_true hq; omega))
      rw [hp] at k0
      rw [hq] at k2
      clear hp hq
      go_wp2_with fail
      go_ret
      exact ⟨by rw [HE.out]; rfl, hbel⟩
    · have HE := Lib.hid (cmpI_lt (i := i) (j := j) (by have := ineg_true hp; have := ineg_false hq; omega))
      rw [hp] at k0
      rw [hq] at k2
      clear hp hq
      go_wp2_with fail
      go_ret
      exact ⟨by rw [HE.out]; rfl, hbel⟩
    · have HE := Lib.hid (cmpI_tt (ineg_true hp) (ineg_true hq))
      rw [hp] at k0
      rw [hq] at k2
      clear hp hq
      go_wp2_with (go_at_call 91; go_must ((refine (cmp_any B1 A1 m1 n1 d1 c1 _ _ _ (.of_limbs HS.out.2 hd1) (.of_limbs HS.out.1 hc1) l2 l1).mono ?_); rintro e w' ⟨rfl, nq, rfl⟩))
      go_ret
      exact ⟨by rw [HE.out]; rfl, below_drewN hbel nq⟩
end Go.Proofs.YtjiccijfbpkliaaGreatDoor

/- integer.Text and integer.Parse. Conditions: Std for Text; slices of at most 1,000,000 limbs; a text of at most 2^63 - 1 bytes. -/
namespace Go.Proofs.YtjiccijfbpkliaaGreatDoor
open Go.RowKit
open Go.Lib hiding intOf

/-- A text comes back. -/
def RetT (l : List UInt8) (w : World) (e : Ending) (w' : World) : Prop := e = .returned (.string ⟨l.toArray⟩) ∧ Below w.heap.size w w'
theorem itoa_neg' {i : Int} (h : ineg i = true) : itoa i = 45 :: decDigits i.natAbs := by rw [itoa, if_pos (ineg_true h)]
theorem itoa_pos' {i : Int} (h : ineg i = false) : itoa i = decDigits i.natAbs := by
  have := ineg_false h
  rw [itoa, if_neg (by omega)]
  congr 1
  omega
theorem minus_add (D : ByteArray) (hD : D.size ≤ 100000000) : ∃ p : ByteArray, (∀ W, (Op.stringOp .add ⟨#[45]⟩ D).run Tryz.prog W = .ok (.string p) W) ∧ p.data.toList = 45 :: D.data.toList := by
  refine ⟨⟨#[45]⟩ ++ D, fun W => run_string_add_sum W _ _ (by show 1 + D.size ≤ _; omega), ?_⟩
  rw [ByteArray.data_append, Array.toList_append]
  rfl
theorem dec_size (x : Nat) : (⟨(decDigits x).toArray⟩ : ByteArray).size = nDigits x := decDigits_length x

set_option maxRecDepth 100000 in
set_option maxHeartbeats 3200000 in
theorem itext_any (neg : Bool) (A : Option Addr) (n c x : Nat) (w : World) (hw : Std w) (ha : NatA w A n c x) (hn : n ≤ 1000000) :
    Calls Tryz.prog 93 #[.agg #[.bool neg, .slice A n c]] w (RetT (itoa (sgn neg x)) w) := by
  have t1 := ha.trimmed.1
  have HA := Lib.hid (And.intro ha hw); clear ha hw
  have hB : Below w.heap.size w (w.alloc (.cells #[.bool neg, .slice A n c] 34)) := (Below.refl _ _).alloc (Nat.le_refl _) _
  go_enter Tryz.func93, Tryz.ntmps93
  go_wp2_with fail
  refine (inorm_any neg A n c x _ (HA.out.1.on hB) hn).mono ?_
  rintro e w1 ⟨A1, n1, c1, rfl, h1, hc1, hb1⟩
  obtain ⟨hcl, hfr⟩ := bcell hb1
  have hb1' : Below w.heap.size w w1 := hB.trans (hb1.mono hB.size)
  have hN := (NoU.new w #[.bool neg, .slice A n c] 34 (by simp)).below hb1 (by simp)
  have h1' := (h1.no hN 0 (.bool (ineg (sgn neg x)))).no (hN.set _ (by simp)) 1 (.slice A1 n1 c1)
  have hb2' := (hb1'.setCell (p := ⟨w.heap.size, 0, none⟩) (Nat.le_refl _) (.bool (ineg (sgn neg x)))).setCell (p := ⟨w.heap.size, 1, none⟩) (Nat.le_refl _) (.slice A1 n1 c1)
  have hn1 : n1 = nl x := by have := h1.ulen; rw [sgn_abs] at this; exact this.symm
  have HX := text_any A1 n1 c1 x _ (HA.out.2.below hb2') (.of_limbs (by rw [sgn_abs] at h1'; exact h1') hc1) (by omega)
  generalize hi : sgn neg x = i at *
  have hix : i.natAbs = x := by rw [← hi, sgn_abs]
  obtain ⟨D, hD⟩ : ∃ D : ByteArray, (⟨(decDigits x).toArray⟩ : ByteArray) = D := ⟨_, rfl⟩
  have hDs : D.size ≤ 100000000 := by
    rw [← hD, dec_size]
    have := nDigits_nl x
    omega
  obtain ⟨p, hp, hpd⟩ := minus_add D hDs
  rw [hD] at HX
  have HX := Lib.hid HX
  have HF := Lib.hid (And.intro hix (And.intro hD (And.intro hpd hb2')))
  clear h1 h1' hN hb1' hb2' hn1 hi hix hD hpd
  cases hs : ineg i
  · have HE := Lib.hid (itoa_pos' hs)
    rw [hs] at HX HF
    clear hs
    go_wp2_with (go_at_call 94; go_must ((refine HX.out.mono ?_); rintro e w2 ⟨rfl, hb2⟩))
    go_ret
    rw [HE.out, HF.out.1, RetT, HF.out.2.1]
    exact ⟨rfl, HF.out.2.2.2.trans (hb2.mono HF.out.2.2.2.size)⟩
  · have HE := Lib.hid (itoa_neg' hs)
    rw [hs] at HX HF
    clear hs
    go_wp2_with (go_at_call 94; go_must ((refine HX.out.mono ?_); rintro e w2 ⟨rfl, hb2⟩))
    go_ret
    refine ⟨?_, HF.out.2.2.2.trans (hb2.mono HF.out.2.2.2.size)⟩
    rw [HE.out, HF.out.1]
    have : p = ⟨(45 :: decDigits x).toArray⟩ := eq_of_data (by rw [HF.out.2.2.1, ← HF.out.2.1])
    rw [← this]
    rfl
end Go.Proofs.YtjiccijfbpkliaaGreatDoor

/- integer.Parse returns the integer that a text denotes, or the error. Conditions: a text of at most 2^63 - 1 bytes. -/
namespace Go.Proofs.YtjiccijfbpkliaaGreatDoor
open Go.RowKit
open Go.Lib hiding intOf

/-- The error of an integer's text. -/
def intE (l : List UInt8) : Int := if natE (trimPrefix l [45]) ≠ 0 then natE (trimPrefix l [45]) else if hasPrefix l [45] = true ∧ valD (trimPrefix l [45]) = 0 then 2 else 0
/-- The integer that a text denotes, 0 where it denotes none. -/
def intV (l : List UInt8) : Int := if intE l = 0 then sgn (hasPrefix l [45]) (valD (trimPrefix l [45])) else 0
/-- An integer and an error come back. -/
def RetZE (i : Int) (err : Int) (w : World) (e : Ending) (w' : World) : Prop :=
  ∃ A n c, e = .returned (.tuple #[.agg #[.bool (ineg i), .slice A n c], .int .i64 err]) ∧ Sl w' w'.heap.size A n (u32s (limbs i.natAbs)) ∧ n ≤ c ∧ Below w.heap.size w w'
theorem RetZE.bad {l : List UInt8} {err : Int} {w w' : World} (he : intE l = err) (h0 : err ≠ 0) (hb : Below w.heap.size w w') : RetZE (intV l) (intE l) w (.returned (.tuple #[.agg #[.bool false, .slice none 0 0], .int .i64 err])) w' := by
  rw [intV, he, if_neg h0]
  exact ⟨none, 0, 0, rfl, by rw [show (0 : Int).natAbs = 0 from rfl, limbs_zero]; exact Sl.none_, Nat.le_refl _, hb⟩
theorem trim_len (l p : List UInt8) : (trimPrefix l p).length ≤ l.length := by
  unfold trimPrefix
  split
  · simp
  · exact Nat.le_refl _

set_option maxRecDepth 100000 in
set_option maxHeartbeats 3200000 in
theorem iparse_any (s : ByteArray) (w : World) (hs : s.size ≤ 9223372036854775807) :
    Calls Tryz.prog 134 #[.string s] w (RetZE (intV s.data.toList) (intE s.data.toList) w) := by
  obtain ⟨t, ht⟩ : ∃ t : ByteArray, (⟨(trimPrefix s.data.toList [45]).toArray⟩ : ByteArray) = t := ⟨_, rfl⟩
  have htd : t.data.toList = trimPrefix s.data.toList [45] := by rw [← ht]
  have hts : t.size ≤ 9223372036854775807 := by
    rw [size_eq, htd]
    have h1 := trim_len s.data.toList [45]
    have h2 := size_eq s
    omega
  have HC := Tryz.strings_CutPrefix s ⟨#[45]⟩ (w.alloc (.cells #[.bool false, .slice none 0 0] 34))
  rw [show (⟨#[45]⟩ : ByteArray).data.toList = [45] from rfl, ht] at HC
  have HP := fun W => nparse_any t W hts
  rw [htd] at HP
  generalize hng : hasPrefix s.data.toList [45] = ng at *
  obtain ⟨E, hE⟩ : ∃ E, natE (trimPrefix s.data.toList [45]) = E := ⟨_, rfl⟩
  obtain ⟨v, hv⟩ : ∃ v, natV (trimPrefix s.data.toList [45]) = v := ⟨_, rfl⟩
  simp only [hE, hv] at HP
  have HP := Lib.hid HP
  have HC := Lib.hid HC
  have HV := Lib.hid (And.intro hng (And.intro hE hv))
  have hB : Below w.heap.size w (w.alloc (.cells #[.bool false, .slice none 0 0] 34)) := (Below.refl _ _).alloc (Nat.le_refl _) _
  clear ht htd hng hE hv
  by_cases h0 : E = 0
  · have hvb : v < 10 ^ 200 := by
      have h1 : natE (trimPrefix s.data.toList [45]) = 0 := by rw [HV.out.2.1]; exact h0
      rw [← HV.out.2.2, natV, if_pos h1]
      have hl : (trimPrefix s.data.toList [45]).length ≤ 200 := by
        rcases Nat.lt_or_ge 200 (trimPrefix s.data.toList [45]).length with h | h
        · rw [natE_long h] at h1
          cases h1
        · exact h
      have hok : digOk (trimPrefix s.data.toList [45]) = true := by
        cases hq : digOk (trimPrefix s.data.toList [45])
        · rw [natE_no (by omega) hq] at h1
          cases h1
        · rfl
      exact Nat.lt_of_lt_of_le (valD_lt _ (digOk_iff.1 hok).2.2) (Nat.pow_le_pow_right (by omega) hl)
    have hnv : nl v ≤ 200 := nl_le (Nat.lt_of_lt_of_le hvb (Nat.pow_le_pow_left (by unfold bs; omega) _))
    clear hvb
    have hvv : Hid (valD (trimPrefix s.data.toList [45]) = v) := by
      have h1 : natE (trimPrefix s.data.toList [45]) = 0 := by rw [HV.out.2.1]; exact h0
      rw [Hid, ← HV.out.2.2, natV, if_pos h1]
    by_cases hz : ng = true ∧ v = 0
    · have HE : Hid (intE s.data.toList = 2) := by rw [Hid, intE, HV.out.1, HV.out.2.1, hvv.out, if_neg (by simpa using h0), if_pos hz]
      obtain ⟨rfl, rfl⟩ := hz
      subst h0
      go_enter Tryz.func134, Tryz.ntmps134
      go_wp2_with (first
        | (go_at_call 165; go_must ((refine HC.out.mono ?_); rintro e w' ⟨rfl, rfl⟩))
        | (go_at_call 135; go_must ((refine (HP.out _).mono ?_); rintro e w1 ⟨A1, n1, c1, rfl, h1, hc1, hb1⟩; have hn1 : n1 = 0 := (by rw [← h1.ulen]; exact nl_zero); subst hn1; obtain ⟨hcl, hfr⟩ := bcell hb1)))
      refine bodyPost_ret (v := .tuple #[.agg #[.bool false, .slice none 0 0], .int .i64 2]) (by simp [results, Tryz.results134, go_sem, hcl]) rfl ?_
      exact RetZE.bad HE.out (by omega) (((hB.trans (hb1.mono hB.size)).setCell (p := ⟨w.heap.size, 0, none⟩) (Nat.le_refl _) _).setCell (p := ⟨w.heap.size, 1, none⟩) (Nat.le_refl _) _)
    · have HE : Hid (intE s.data.toList = 0) := by rw [Hid, intE, HV.out.1, HV.out.2.1, hvv.out, if_neg (by simpa using h0), if_neg hz]
      have hcase : ng = false ∨ (ng = true ∧ v ≠ 0) := by
        cases ng
        · exact .inl rfl
        · exact .inr ⟨rfl, fun e => hz ⟨rfl, e⟩⟩
      clear hz
      subst h0
      rcases hcase with hng | ⟨hng, hv0⟩
      · subst hng
        go_enter Tryz.func134, Tryz.ntmps134
        go_wp2_with (first
          | (go_at_call 165; go_must ((refine HC.out.mono ?_); rintro e w' ⟨rfl, rfl⟩))
          | (go_at_call 135; go_must ((refine (HP.out _).mono ?_); rintro e w1 ⟨A1, n1, c1, rfl, h1, hc1, hb1⟩; obtain ⟨hcl, hfr⟩ := bcell hb1; have hz1 : w.heap.size < w1.heap.size := (by have := hb1.size; simp at this; omega)))
          | (go_at_call 107; go_must ((refine (signed_any _ A1 n1 c1 v _ (.of_limbs h1 hc1) (by rw [← h1.ulen]; exact Nat.le_trans hnv (by omega))).mono ?_); rintro e w2 ⟨A2, n2, c2, rfl, h2, hc2, hb2⟩; obtain ⟨hcl2, hfr2⟩ := bcell hb2)))
        have k0 : w2.cell? ⟨w.heap.size, 0, none⟩ = some (.bool false) := by rw [hcl2 _ _ hz1, hcl _ _ (by simp)]; simp [go_sem]
        have k1 : w2.cell? ⟨w.heap.size, 1, none⟩ = some (.slice none 0 0) := by rw [hcl2 _ _ hz1, hcl _ _ (by simp)]; simp [go_sem]
        have hN := ((NoU.new w #[.bool false, .slice none 0 0] 34 (by simp)).below hb1 (by simp)).below hb2 hz1
        refine bodyPost_ret (v := .tuple #[.agg #[.bool (ineg (sgn false v)), .slice A2 n2 c2], .int .i64 0]) (by simp [results, Tryz.results134, go_sem, k0, k1]) rfl ?_
        obtain ⟨A3, n3, c3, he, hs3, hc3, hb3⟩ := int_end h2 hc2 hN (w := w) (hB.trans (hb1.mono hB.size)) hb2 (Nat.le_refl _)
        injection he with he
        injection he with he
        simp only [Array.mk.injEq, List.cons.injEq, Value.slice.injEq, and_true, true_and] at he
        obtain ⟨rfl, rfl, rfl⟩ := he
        rw [intV, if_pos HE.out, HE.out, HV.out.1, hvv.out]
        exact ⟨_, _, _, rfl, hs3, hc3, hb3⟩
      · subst hng
        go_enter Tryz.func134, Tryz.ntmps134
        go_wp2_with (first
          | (go_at_call 165; go_must ((refine HC.out.mono ?_); rintro e w' ⟨rfl, rfl⟩))
          | (go_at_call 135; go_must ((refine (HP.out _).mono ?_); rintro e w1 ⟨A1, n1, c1, rfl, h1, hc1, hb1⟩; have hp1 : 0 < n1 := (by rw [← h1.ulen]; exact nl_pos hv0); obtain ⟨hcl, hfr⟩ := bcell hb1; have hz1 : w.heap.size < w1.heap.size := (by have := hb1.size; simp at this; omega)))
          | (go_at_call 107; go_must ((refine (signed_any _ A1 n1 c1 v _ (.of_limbs h1 hc1) (by rw [← h1.ulen]; exact Nat.le_trans hnv (by omega))).mono ?_); rintro e w2 ⟨A2, n2, c2, rfl, h2, hc2, hb2⟩; obtain ⟨hcl2, hfr2⟩ := bcell hb2)))
        have k0 : w2.cell? ⟨w.heap.size, 0, none⟩ = some (.bool false) := by rw [hcl2 _ _ hz1, hcl _ _ (by simp)]; simp [go_sem]
        have k1 : w2.cell? ⟨w.heap.size, 1, none⟩ = some (.slice none 0 0) := by rw [hcl2 _ _ hz1, hcl _ _ (by simp)]; simp [go_sem]
        have hN := ((NoU.new w #[.bool false, .slice none 0 0] 34 (by simp)).below hb1 (by simp)).below hb2 hz1
        refine bodyPost_ret (v := .tuple #[.agg #[.bool (ineg (sgn true v)), .slice A2 n2 c2], .int .i64 0]) (by simp [results, Tryz.results134, go_sem, k0, k1]) rfl ?_
        obtain ⟨A3, n3, c3, he, hs3, hc3, hb3⟩ := int_end h2 hc2 hN (w := w) (hB.trans (hb1.mono hB.size)) hb2 (Nat.le_refl _)
        injection he with he
        injection he with he
        simp only [Array.mk.injEq, List.cons.injEq, Value.slice.injEq, and_true, true_and] at he
        obtain ⟨rfl, rfl, rfl⟩ := he
        rw [intV, if_pos HE.out, HE.out, HV.out.1, hvv.out]
        exact ⟨_, _, _, rfl, hs3, hc3, hb3⟩
  · have HE : Hid (intE s.data.toList = E) := by rw [Hid, intE, HV.out.2.1, if_pos h0]
    have h0' : (E != 0) = true := by simpa using h0
    go_enter Tryz.func134, Tryz.ntmps134
    go_wp2_with (first
      | (go_at_call 165; go_must ((refine HC.out.mono ?_); rintro e w' ⟨rfl, rfl⟩))
      | (go_at_call 135; go_must ((refine (HP.out _).mono ?_); rintro e w1 ⟨A1, n1, c1, rfl, h1, hc1, hb1⟩; obtain ⟨hcl, hfr⟩ := bcell hb1)))
    refine bodyPost_ret (v := .tuple #[.agg #[.bool false, .slice none 0 0], .int .i64 E]) (by simp [results, Tryz.results134, go_sem, hcl]) rfl ?_
    exact RetZE.bad HE.out h0 (((hB.trans (hb1.mono hB.size)).setCell (p := ⟨w.heap.size, 0, none⟩) (Nat.le_refl _) _).setCell (p := ⟨w.heap.size, 1, none⟩) (Nat.le_refl _) _)
end Go.Proofs.YtjiccijfbpkliaaGreatDoor

/- ratio.zero, positive, value, reduce. Conditions: slices of at most 1,000,000 limbs. -/
namespace Go.Proofs.YtjiccijfbpkliaaGreatDoor
open Go.RowKit

/-- A ratio in normal form comes back. -/
def RetQ (q : Rat) (w : World) (e : Ending) (w' : World) : Prop :=
  ∃ A n c B m d, e = .returned (.agg #[.bool (ineg q.num), .slice A n c, .slice B m d]) ∧ Sl w' w'.heap.size A n (u32s (limbs q.num.natAbs)) ∧ n ≤ c ∧ Sl w' w'.heap.size B m (u32s (limbs q.den)) ∧ m ≤ d ∧ Below w.heap.size w w'
/-- A ratio of a given value comes back, whose denominator is not 0. -/
def RetV (q : Rat) (k : Nat) (w : World) (e : Ending) (w' : World) : Prop :=
  ∃ neg A n c B m d x y, e = .returned (.agg #[.bool neg, .slice A n c, .slice B m d]) ∧ NatA w' A n c x ∧ NatA w' B m d y ∧ y ≠ 0 ∧ rv (sgn neg x) y = q ∧ n ≤ k ∧ m ≤ k ∧ Below w.heap.size w w'

theorem NoU.blk {w : World} {g : Nat} {t : TypeId} {cs : Array Value} (h : Blk w g t cs) (hc : ∀ v ∈ cs.toList, ∀ x, v ≠ .int .u32 x) : NoU w g := by
  intro o x e
  rw [h.cell] at e
  have hm : Value.int .u32 x ∈ cs := Array.mem_of_getElem? e
  exact hc _ (by simpa using hm) x rfl
theorem Sl.no3 {w : World} {n r : Nat} {A : Option Addr} {l : List Nat} (h : Sl w w.heap.size A n (u32s l)) (hr : NoU w r) {u0 u1 : Value} (u2 : Value) (h0 : ∀ x, u0 ≠ .int .u32 x := by simp) (h1 : ∀ x, u1 ≠ .int .u32 x := by simp) :
    Sl (((w.setCell ⟨r, 0, none⟩ u0).setCell ⟨r, 1, none⟩ u1).setCell ⟨r, 2, none⟩ u2) (((w.setCell ⟨r, 0, none⟩ u0).setCell ⟨r, 1, none⟩ u1).setCell ⟨r, 2, none⟩ u2).heap.size A n (u32s l) :=
  ((h.no hr 0 _).no (hr.set _ h0) 1 _).no ((hr.set _ h0).set _ h1) 2 _
theorem NatA.no3 {w : World} {n c v r : Nat} {A : Option Addr} (h : NatA w A n c v) (hr : NoU w r) {u0 u1 : Value} (u2 : Value) (h0 : ∀ x, u0 ≠ .int .u32 x := by simp) (h1 : ∀ x, u1 ≠ .int .u32 x := by simp) :
    NatA (((w.setCell ⟨r, 0, none⟩ u0).setCell ⟨r, 1, none⟩ u1).setCell ⟨r, 2, none⟩ u2) A n c v := by
  obtain ⟨l, g1, g2, g3, g4⟩ := h
  exact ⟨l, g1.no3 hr u2 h0 h1, g2, g3, g4⟩
theorem below3 {B : Nat} {a w : World} (h : Below B a w) {r : Nat} (hr : B ≤ r) (u0 u1 u2 : Value) : Below B a (((w.setCell ⟨r, 0, none⟩ u0).setCell ⟨r, 1, none⟩ u1).setCell ⟨r, 2, none⟩ u2) :=
  ((h.setCell (p := ⟨r, 0, none⟩) hr _).setCell (p := ⟨r, 1, none⟩) hr _).setCell (p := ⟨r, 2, none⟩) hr _
theorem zero_any (A : Option Addr) (n c x : Nat) (w : World) (ha : NatA w A n c x) (hn : n ≤ 1000000) :
    Calls Tryz.prog 103 #[.slice A n c] w fun e w' => e = .returned (.bool (decide (x = 0))) ∧ ∃ k, w' = w.drewN k := by
  have hc : (cmpN x 0 == 0) = decide (x = 0) := by
    by_cases h : x = 0
    · subst h; rfl
    · rw [cmpN_gt (by omega)]
      simp [h]
  have HC := Lib.hid hc; clear hc
  go_enter Tryz.func103, Tryz.ntmps103
  go_wp2_with (go_at_call 91; refine (cmp_any A none n 0 c 0 x 0 _ ha (NatA.nil w none 0) hn (by omega)).mono ?_; rintro e w' ⟨rfl, nq, rfl⟩; rw [show cmpN x 0 = cmpN x 0 from rfl])
  go_ret
  exact ⟨by rw [← HC.out]; rfl, nq, rfl⟩

set_option maxRecDepth 100000 in
theorem positive_any (A : Option Addr) (n c : Nat) (w : World) :
    Calls Tryz.prog 73 #[.slice A n c] w fun e w' => e = .returned (.agg #[.bool false, .slice A n c]) ∧ Below w.heap.size w w' := by
  go_enter Tryz.func73, Tryz.ntmps73
  go_wp2
  refine bodyPost_ret (v := .agg #[.bool false, .slice A n c]) (by simp [results, Tryz.results73, go_sem]) rfl ⟨rfl, ?_⟩
  exact (Below.refl _ _).alloc (Nat.le_refl _) _

set_option maxRecDepth 100000 in
set_option maxHeartbeats 1600000 in
theorem value_any (neg : Bool) (A : Option Addr) (n c x : Nat) (B : Option Addr) (m d y : Nat) (w : World) (ha : NatA w A n c x) (hb : NatA w B m d y) (k : Nat) (hn : n ≤ k) (hm : m ≤ k) (hk : 1 ≤ k) (hk2 : k ≤ 1000000) :
    Calls Tryz.prog 68 #[.agg #[.bool neg, .slice A n c, .slice B m d]] w (RetV (rv (sgn neg x) y) k w) := by
  have HA := Lib.hid (And.intro ha hb); clear ha hb
  have hB : Below w.heap.size w ((w.alloc (.cells #[.bool neg, .slice A n c, .slice B m d] 36)).alloc (.cells #[.bool false, .slice none 0 0, .slice none 0 0] 36)) := ((Below.refl _ _).alloc (Nat.le_refl _) _).alloc (by simp) _
  by_cases h0 : y = 0
  · have hd : decide (y = 0) = true := by simpa using h0
    go_enter Tryz.func68, Tryz.ntmps68
    go_wp2_with (first
      | (go_at_call 103; go_must ((refine (zero_any B m d y _ (HA.out.2.on hB) (by omega)).mono ?_); rintro e w' ⟨rfl, nq, rfl⟩; rw [hd]))
      | (go_at_call 92; go_must ((refine (of_any 1 _ (by omega)).mono ?_); rintro e w1 ⟨A1, n1, c1, rfl, h1, hc1, hb1⟩; obtain ⟨hcl, hfr⟩ := bcell hb1)))
    refine bodyPost_ret (v := .agg #[.bool false, .slice none 0 0, .slice A1 n1 c1]) (by simp [results, Tryz.results68, go_sem, hcl]) rfl ?_
    have hN : NoU w1 (w.heap.size + 1) := by
      have h := NoU.new (w.alloc (.cells #[.bool neg, .slice A n c, .slice B m d] 36)) #[.bool false, .slice none 0 0, .slice none 0 0] 36 (by simp)
      have h2 := (show NoU _ _ from h).below (w' := w1) ⟨hb1.os, hb1.tape, hb1.output, hb1.size, hb1.block⟩ (by simp)
      simpa using h2
    have hb1' : Below w.heap.size w w1 := hB.trans (Below.mono ⟨hb1.os, hb1.tape, hb1.output, hb1.size, hb1.block⟩ hB.size)
    have hn1 : n1 ≤ 1 := by rw [← h1.ulen]; exact nl_small (by unfold bs; omega)
    refine ⟨false, none, 0, 0, A1, n1, c1, 0, 1, rfl, NatA.nil _ _ _, (NatA.of_limbs h1 hc1).no3 hN _, by omega, ?_, by omega, by omega, below3 hb1' (by omega) _ _ _⟩
    rw [h0, rv_zero]
    exact Rat.zero_mkRat 1
  · have hd : decide (y = 0) = false := by simpa using h0
    go_enter Tryz.func68, Tryz.ntmps68
    go_wp2_with (go_at_call 103; go_must ((refine (zero_any B m d y _ (HA.out.2.on hB) (by omega)).mono ?_); rintro e w' ⟨rfl, nq, rfl⟩; rw [hd]))
    refine bodyPost_ret (v := .agg #[.bool neg, .slice A n c, .slice B m d]) (by simp [results, Tryz.results68, go_sem]) rfl ?_
    have hB' := below3 (below_drewN hB nq) (r := w.heap.size + 1) (by omega) (.bool neg) (.slice A n c) (.slice B m d)
    exact ⟨neg, A, n, c, B, m, d, x, y, rfl, HA.out.1.on hB', HA.out.2.on hB', h0, rfl, hn, hm, hB'⟩

/-! ### the normal form -/
theorem ineg_div (neg : Bool) (x g : Nat) : ineg (sgn (ineg (sgn neg x)) (x / g)) = ineg (sgn neg (x / g)) := by
  rw [ineg_sgn, ineg_sgn, ineg_sgn]
  cases neg
  · rfl
  · by_cases h : 0 < x / g
    · have : 0 < x := by
        rcases Nat.eq_zero_or_pos x with h0 | h0
        · rw [h0, Nat.zero_div] at h
          omega
        · exact h0
      simp [h, this]
    · simp [h]
theorem nl_div (a b : Nat) : nl (a / b) ≤ nl a := nl_mono (Nat.div_le_self a b)
set_option maxRecDepth 100000 in
set_option maxHeartbeats 1600000 in
theorem reduce_any (neg : Bool) (A : Option Addr) (n c x : Nat) (B : Option Addr) (m d y : Nat) (w : World) (ha : NatA w A n c x) (hb : NatA w B m d y) (hn : n ≤ 1000000) (hm : m ≤ 1000000) (hy : y ≠ 0) :
    Calls Tryz.prog 69 #[.agg #[.bool neg, .slice A n c], .slice B m d] w (RetQ (rv (sgn neg x) y) w) := by
  have t1 := ha.trimmed.1
  have t2 := hb.trimmed.1
  have HA := Lib.hid (And.intro ha hb); clear ha hb
  have hB : Below w.heap.size w ((w.alloc (.cells #[.bool neg, .slice A n c] 34)).alloc (.cells #[.bool false, .slice none 0 0, .slice none 0 0] 36)) := ((Below.refl _ _).alloc (Nat.le_refl _) _).alloc (by simp) _
  have hg0 : x.gcd y ≠ 0 := by have := gcd_pos' (a := x) hy; omega
  have hgy : nl (x.gcd y) ≤ 1000000 := by
    have := nl_mono (Nat.gcd_le_right x (by omega : 0 < y))
    omega
  obtain ⟨r1, r2⟩ := rv_num (i := sgn neg x) (d := y) hy
  have r3 := rv_neg (i := sgn neg x) (d := y) hy
  rw [sgn_abs] at r1 r2 r3
  rw [ineg_div] at r3
  generalize hq : rv (sgn neg x) y = q at *
  have HQ := Lib.hid (And.intro r1 (And.intro r2 r3))
  clear r1 r2 r3 hq
  have X0 : Blk ((w.alloc (.cells #[.bool neg, .slice A n c] 34)).alloc (.cells #[.bool false, .slice none 0 0, .slice none 0 0] 36)) w.heap.size 34 #[.bool neg, .slice A n c] := (Blk.new w _ _).alloc _
  have Y0 : Blk ((w.alloc (.cells #[.bool neg, .slice A n c] 34)).alloc (.cells #[.bool false, .slice none 0 0, .slice none 0 0] 36)) (w.heap.size + 1) 36 #[.bool false, .slice none 0 0, .slice none 0 0] := Blk.new' _ _ _ (by simp)
  go_enter Tryz.func69, Tryz.ntmps69
  go_wp2_with fail
  refine (gcd_any A B n m c d x y _ (HA.out.1.on hB) (HA.out.2.on hB) hn hm).mono ?_
  rintro e w1 ⟨G, gn, gc, rfl, hG, hgc, hb1⟩
  have B1 := hB.trans (hb1.mono hB.size)
  have X1 := X0.below hb1
  have Y1 := Y0.below hb1
  have c0 := X1.c (i := 0) rfl
  have c1 := X1.c (i := 1) rfl
  have hgn : gn ≤ 1000000 := by rw [← hG.ulen]; exact hgy
  clear X0 Y0 hb1 hB
  go_wp2_with fail
  refine (divmod_any A G n gn c gc x (x.gcd y) _ (HA.out.1.on B1) (.of_limbs hG hgc) hn hgn hg0).mono ?_
  rintro e w2 ⟨A2, n2, c2, R2, rn2, rc2, rfl, h2, hc2, _, _, hb2⟩
  have hG2 := hG.on hb2
  have B2 := B1.trans (hb2.mono B1.size)
  have X2 := X1.below hb2
  have Y2 := Y1.below hb2
  clear hG B1 X1 Y1 c0 c1 hb2
  go_wp2_with fail
  refine (divmod_any B G m gn d gc y (x.gcd y) _ (HA.out.2.on B2) (.of_limbs hG2 hgc) hm hgn hg0).mono ?_
  rintro e w3 ⟨A3, n3, c3, R3, rn3, rc3, rfl, h3, hc3, _, _, hb3⟩
  have h2' := h2.on hb3
  have B3 := B2.trans (hb3.mono B2.size)
  have X3 := X2.below hb3
  have Y3 := Y2.below hb3
  have c0 := X3.c (i := 0) rfl
  have hn2 : n2 ≤ 1000000 := by
    have h := h2.ulen
    have h' : n2 = nl (x / x.gcd y) := h.symm
    have := nl_div x (x.gcd y)
    omega
  clear h2 hG2 B2 X2 Y2 hb3
  go_wp2_with fail
  refine (inorm_any neg A2 n2 c2 (x / x.gcd y) _ (.of_limbs h2' hc2) hn2).mono ?_
  rintro e w4 ⟨A4, n4, c4, rfl, h4, hc4, hb4⟩
  have h3' := h3.on hb4
  have B4 := B3.trans (hb4.mono B3.size)
  have Y4 := Y3.below hb4
  have f0 := Y4.c (i := 0) rfl
  have f1 := Y4.c (i := 1) rfl
  have f2 := Y4.c (i := 2) rfl
  have g0 := Y4.frozen 0
  have g1 := Y4.frozen 1
  have g2 := Y4.frozen 2
  clear h3 h2' B3 X3 Y3 c0 hb4
  have HF : Hid (RetQ q w (.returned (.agg #[.bool (ineg (sgn neg (x / x.gcd y))), .slice A4 n4 c4, .slice A3 n3 c3])) (((w4.setCell ⟨w.heap.size + 1, 0, none⟩ (.bool (ineg (sgn neg (x / x.gcd y))))).setCell ⟨w.heap.size + 1, 1, none⟩ (.slice A4 n4 c4)).setCell ⟨w.heap.size + 1, 2, none⟩ (.slice A3 n3 c3))) := by
    have hN := NoU.blk Y4 (by simp)
    rw [sgn_abs] at h4
    exact ⟨A4, n4, c4, A3, n3, c3, by rw [HQ.out.2.2], by rw [HQ.out.1]; exact h4.no3 hN _, hc4, by rw [HQ.out.2.1]; exact h3'.no3 hN _, hc3, below3 B4 (by omega) _ _ _⟩
  clear h4 h3' B4 Y4
  go_wp2_with fail
  refine bodyPost_ret (v := .agg #[.bool (ineg (sgn neg (x / x.gcd y))), .slice A4 n4 c4, .slice A3 n3 c3]) (by simp [results, Tryz.results69, go_sem, f0, f1, f2]) rfl ?_
  exact HF.out
end Go.Proofs.YtjiccijfbpkliaaGreatDoor

/- ratio.Norm and ratio.Neg return ratios in normal form. Conditions: numbers of at most 100,000 limbs. -/
namespace Go.Proofs.YtjiccijfbpkliaaGreatDoor
open Go.RowKit

/-- A ratio as an argument: numbers of at most k limbs. -/
def RatA (w : World) (v : Value) (k : Nat) (q : Rat) : Prop :=
  ∃ neg A n c B m d x y, v = .agg #[.bool neg, .slice A n c, .slice B m d] ∧ NatA w A n c x ∧ NatA w B m d y ∧ n ≤ k ∧ m ≤ k ∧ rv (sgn neg x) y = q
theorem RatA.on {w w' : World} {v : Value} {k : Nat} {q : Rat} (h : RatA w v k q) (hb : Below w.heap.size w w') : RatA w' v k q := by
  obtain ⟨neg, A, n, c, B, m, d, x, y, h1, h2, h3, h4⟩ := h
  exact ⟨neg, A, n, c, B, m, d, x, y, h1, h2.on hb, h3.on hb, h4⟩
/-- The numbers of a ratio in normal form have at most k limbs. -/
def qk (q : Rat) (k : Nat) : Prop := nl q.num.natAbs ≤ k ∧ nl q.den ≤ k
theorem qk_rv {i : Int} {d k : Nat} (h1 : nl i.natAbs ≤ k) (h2 : nl d ≤ k) (hk : 1 ≤ k) : qk (rv i d) k := by
  by_cases hd : d = 0
  · subst hd
    rw [rv_zero]
    refine ⟨?_, ?_⟩
    · show nl 0 ≤ k
      rw [nl_zero]
      omega
    · exact Nat.le_trans (nl_small (v := 1) (by unfold bs; omega)) hk
  · obtain ⟨e1, e2⟩ := rv_num (i := i) hd
    rw [qk, e1, e2]
    exact ⟨Nat.le_trans (nl_div _ _) h1, Nat.le_trans (nl_div _ _) h2⟩
theorem qk.mono {q : Rat} {j k : Nat} (h : qk q j) (hk : j ≤ k) : qk q k := ⟨Nat.le_trans h.1 hk, Nat.le_trans h.2 hk⟩
theorem qk_one {q : Rat} {k : Nat} (h : qk q k) : 1 ≤ k := Nat.le_trans (nl_pos q.den_nz) h.2
theorem RatA.qk {w : World} {v : Value} {k : Nat} {q : Rat} (h : RatA w v k q) (hk : 1 ≤ k) : qk q k := by
  obtain ⟨neg, A, n, c, B, m, d, x, y, _, h2, h3, h4, h5, rfl⟩ := h
  exact qk_rv (by rw [sgn_abs]; exact Nat.le_trans h2.trimmed.1 h4) (Nat.le_trans h3.trimmed.1 h5) hk
theorem nl_abs_add (a b : Int) {k : Nat} (h1 : nl a.natAbs ≤ k) (h2 : nl b.natAbs ≤ k) : nl (a + b).natAbs ≤ k + 1 := by
  have h := nl_mono (Int.natAbs_add_le a b)
  have := nl_add a.natAbs b.natAbs
  omega
theorem nl_abs_mul (a b : Int) {j k : Nat} (h1 : nl a.natAbs ≤ j) (h2 : nl b.natAbs ≤ k) : nl (a * b).natAbs ≤ j + k := by
  rw [Int.natAbs_mul]
  have := nl_mul a.natAbs b.natAbs
  omega
theorem qk_add {p q : Rat} {j k : Nat} (h1 : qk p j) (h2 : qk q k) : qk (p + q) (j + k + 1) := by
  have e : p + q = rv (p.num * q.den + q.num * p.den) (p.den * q.den) := by rw [← rv_add _ _ p.den_nz q.den_nz, rv_self, rv_self]
  rw [e]
  refine qk_rv (nl_abs_add _ _ ?_ ?_) (Nat.le_trans (nl_mul _ _) (by have := h1.2; have := h2.2; omega)) (by omega)
  · exact nl_abs_mul _ _ h1.1 (by simpa using h2.2)
  · rw [Nat.add_comm]
    exact nl_abs_mul _ _ h2.1 (by simpa using h1.2)
theorem qk_neg {q : Rat} {k : Nat} (h : qk q k) : qk (-q) k := by
  refine ⟨?_, h.2⟩
  rw [Rat.neg_num, Int.natAbs_neg]
  exact h.1
theorem qk_mul {p q : Rat} {j k : Nat} (h1 : qk p j) (h2 : qk q k) : qk (p * q) (j + k) := by
  have e : p * q = rv (p.num * q.num) (p.den * q.den) := by rw [← rv_mul, rv_self, rv_self]
  rw [e]
  have := qk_one h1
  exact qk_rv (nl_abs_mul _ _ h1.1 h2.1) (Nat.le_trans (nl_mul _ _) (by have := h1.2; have := h2.2; omega)) (by omega)
/-- What comes back may go in. -/
theorem RatA.of {w : World} {q : Rat} {k : Nat} {A : Option Addr} {n c : Nat} {B : Option Addr} {m d : Nat} (h1 : Sl w w.heap.size A n (u32s (limbs q.num.natAbs))) (h2 : n ≤ c) (h3 : Sl w w.heap.size B m (u32s (limbs q.den))) (h4 : m ≤ d) (hk : Go.Proofs.YtjiccijfbpkliaaGreatDoor.qk q k) :
    RatA w (.agg #[.bool (ineg q.num), .slice A n c, .slice B m d]) k q := by
  refine ⟨_, A, n, c, B, m, d, _, _, rfl, .of_limbs h1 h2, .of_limbs h3 h4, ?_, ?_, by rw [sgn_self]; exact rv_self q⟩
  · rw [← h1.ulen]; exact hk.1
  · rw [← h3.ulen]; exact hk.2

/-- A ratio has been stored into the result's block. -/
theorem rat_end {q : Rat} {w w4 : World} {r n c m d : Nat} {A B : Option Addr} {t : TypeId} {cs : Array Value} (h1 : Sl w4 w4.heap.size A n (u32s (limbs q.num.natAbs))) (hc : n ≤ c) (h2 : Sl w4 w4.heap.size B m (u32s (limbs q.den))) (hd : m ≤ d) (hY : Blk w4 r t cs) (hcs : ∀ v ∈ cs.toList, ∀ x, v ≠ .int .u32 x) (hb : Below w.heap.size w w4) (hr : w.heap.size ≤ r) :
    RetQ q w (.returned (.agg #[.bool (ineg q.num), .slice A n c, .slice B m d])) (((w4.setCell ⟨r, 0, none⟩ (.bool (ineg q.num))).setCell ⟨r, 1, none⟩ (.slice A n c)).setCell ⟨r, 2, none⟩ (.slice B m d)) :=
  ⟨A, n, c, B, m, d, rfl, h1.no3 (NoU.blk hY hcs) _, hc, h2.no3 (NoU.blk hY hcs) _, hd, below3 hb hr _ _ _⟩

set_option maxRecDepth 100000 in
set_option maxHeartbeats 1600000 in
theorem rnorm_any (v : Value) (k : Nat) (q : Rat) (w : World) (ha : RatA w v k q) (hk : 1 ≤ k) (hk2 : k ≤ 100000) :
    Calls Tryz.prog 87 #[v] w (RetQ q w) := by
  obtain ⟨neg, A, n, c, B, m, d, x, y, rfl, h1, h2, h3, h4, h5⟩ := ha
  have HA := Lib.hid (And.intro h1 h2)
  have HV := fun W (hB : Below w.heap.size w W) => value_any neg A n c x B m d y W (HA.out.1.on hB) (HA.out.2.on hB) k h3 h4 hk (by omega)
  rw [h5] at HV
  have HV := Lib.hid HV
  have hB : Below w.heap.size w ((w.alloc (.cells #[.bool neg, .slice A n c, .slice B m d] 36)).alloc (.cells #[.bool false, .slice none 0 0, .slice none 0 0] 36)) := ((Below.refl _ _).alloc (Nat.le_refl _) _).alloc (by simp) _
  have X0 : Blk ((w.alloc (.cells #[.bool neg, .slice A n c, .slice B m d] 36)).alloc (.cells #[.bool false, .slice none 0 0, .slice none 0 0] 36)) w.heap.size 36 #[.bool neg, .slice A n c, .slice B m d] := (Blk.new w _ _).alloc _
  have Y0 : Blk ((w.alloc (.cells #[.bool neg, .slice A n c, .slice B m d] 36)).alloc (.cells #[.bool false, .slice none 0 0, .slice none 0 0] 36)) (w.heap.size + 1) 36 #[.bool false, .slice none 0 0, .slice none 0 0] := Blk.new' _ _ _ (by simp)
  clear h1 h2 h3 h4 h5
  go_enter Tryz.func87, Tryz.ntmps87
  go_wp2_with fail
  refine (HV.out _ hB).mono ?_
  rintro e w1 ⟨neg', A', n', c', B', m', d', x', y', rfl, g1, g2, g3, g4, g5, g6, hb1⟩
  have B1 := below3 (hB.trans (hb1.mono hB.size)) (r := w.heap.size) (Nat.le_refl _) (.bool neg') (.slice A' n' c') (.slice B' m' d')
  have X1 := X0.below hb1
  have hN := NoU.blk X1 (by simp)
  have Y1 := (((Y0.below hb1).far (p := ⟨w.heap.size, 0, none⟩) (by simp) (.bool neg')).far (p := ⟨w.heap.size, 1, none⟩) (by simp) (.slice A' n' c')).far (p := ⟨w.heap.size, 2, none⟩) (by simp) (.slice B' m' d')
  have g1' := g1.no3 hN (u0 := .bool neg') (u1 := .slice A' n' c') (.slice B' m' d')
  have g2' := g2.no3 hN (u0 := .bool neg') (u1 := .slice A' n' c') (.slice B' m' d')
  have f0 := X1.c (i := 0) rfl
  have f1 := X1.c (i := 1) rfl
  have f2 := X1.c (i := 2) rfl
  have z0 := X1.frozen 0
  have z1 := X1.frozen 1
  have z2 := X1.frozen 2
  have HR := reduce_any neg' A' n' c' x' B' m' d' y' _ g1' g2' (by omega) (by omega) g3
  rw [g4] at HR
  have HR := Lib.hid HR
  clear X0 Y0 hb1 hB hN g1 g2 g1' g2' X1 g4
  go_wp2_with fail
  refine HR.out.mono ?_
  rintro e w2 ⟨A2, n2, c2, B2, m2, d2, rfl, r1, r2, r3, r4, hb2⟩
  have Y2 := Y1.below hb2
  have HF := Lib.hid (rat_end r1 r2 r3 r4 Y2 (by simp) (B1.trans (hb2.mono B1.size)) (by omega))
  have k0 := Y2.c (i := 0) rfl
  have k1 := Y2.c (i := 1) rfl
  have k2 := Y2.c (i := 2) rfl
  have y0 := Y2.frozen 0
  have y1 := Y2.frozen 1
  have y2 := Y2.frozen 2
  clear r1 r3 Y1 Y2 B1 hb2
  go_wp2_with fail
  refine bodyPost_ret (v := .agg #[.bool (ineg q.num), .slice A2 n2 c2, .slice B2 m2 d2]) (by simp [results, Tryz.results87, go_sem, k0, k1, k2]) rfl ?_
  exact HF.out
end Go.Proofs.YtjiccijfbpkliaaGreatDoor

/- ratio.Neg returns the negative in normal form. Conditions: numbers of at most 100,000 limbs. -/
namespace Go.Proofs.YtjiccijfbpkliaaGreatDoor
open Go.RowKit

set_option maxRecDepth 100000 in
set_option maxHeartbeats 1600000 in
theorem rneg_any (v : Value) (k : Nat) (q : Rat) (w : World) (ha : RatA w v k q) (hk : 1 ≤ k) (hk2 : k ≤ 100000) :
    Calls Tryz.prog 75 #[v] w (RetQ (-q) w) := by
  obtain ⟨neg, A, n, c, B, m, d, x, y, rfl, h1, h2, h3, h4, h5⟩ := ha
  have HA := Lib.hid (And.intro h1 h2)
  have HV := fun W (hB : Below w.heap.size w W) => value_any neg A n c x B m d y W (HA.out.1.on hB) (HA.out.2.on hB) k h3 h4 hk (by omega)
  rw [h5] at HV
  have HV := Lib.hid HV
  have hB : Below w.heap.size w ((w.alloc (.cells #[.bool neg, .slice A n c, .slice B m d] 36)).alloc (.cells #[.bool false, .slice none 0 0, .slice none 0 0] 36)) := ((Below.refl _ _).alloc (Nat.le_refl _) _).alloc (by simp) _
  have X0 : Blk ((w.alloc (.cells #[.bool neg, .slice A n c, .slice B m d] 36)).alloc (.cells #[.bool false, .slice none 0 0, .slice none 0 0] 36)) w.heap.size 36 #[.bool neg, .slice A n c, .slice B m d] := (Blk.new w _ _).alloc _
  have Y0 : Blk ((w.alloc (.cells #[.bool neg, .slice A n c, .slice B m d] 36)).alloc (.cells #[.bool false, .slice none 0 0, .slice none 0 0] 36)) (w.heap.size + 1) 36 #[.bool false, .slice none 0 0, .slice none 0 0] := Blk.new' _ _ _ (by simp)
  clear h1 h2 h3 h4 h5
  go_enter Tryz.func75, Tryz.ntmps75
  go_wp2_with fail
  refine (HV.out _ hB).mono ?_
  rintro e w1 ⟨neg', A', n', c', B', m', d', x', y', rfl, g1, g2, g3, g4, g5, g6, hb1⟩
  have B1 := below3 (hB.trans (hb1.mono hB.size)) (r := w.heap.size) (Nat.le_refl _) (.bool neg') (.slice A' n' c') (.slice B' m' d')
  have X1 := X0.below hb1
  have hN := NoU.blk X1 (by simp)
  have Y1 := (((Y0.below hb1).far (p := ⟨w.heap.size, 0, none⟩) (by simp) (.bool neg')).far (p := ⟨w.heap.size, 1, none⟩) (by simp) (.slice A' n' c')).far (p := ⟨w.heap.size, 2, none⟩) (by simp) (.slice B' m' d')
  have g1' := g1.no3 hN (u0 := .bool neg') (u1 := .slice A' n' c') (.slice B' m' d')
  have g2' := g2.no3 hN (u0 := .bool neg') (u1 := .slice A' n' c') (.slice B' m' d')
  have f0 := X1.c (i := 0) rfl
  have f1 := X1.c (i := 1) rfl
  have f2 := X1.c (i := 2) rfl
  have z0 := X1.frozen 0
  have z1 := X1.frozen 1
  have z2 := X1.frozen 2
  have X2 := ((X1.set_ 0 (.bool neg')).set_ 1 (.slice A' n' c')).set_ 2 (.slice B' m' d')
  have HX := Lib.hid X2
  have HY := Lib.hid Y1
  have HG := Lib.hid (And.intro g1' g2')
  have HB1 := Lib.hid B1
  have hq : rv (sgn (!neg') x') y' = -q := by rw [sgn_not, ← rv_minus, g4]
  have HR := fun W hW1 hW2 A n c (h : Sl W W.heap.size A n (u32s (limbs (sgn (!neg') x').natAbs))) (hc : n ≤ c) (hn : n ≤ 1000000) => reduce_any (ineg (sgn (!neg') x')) A n c (sgn (!neg') x').natAbs B' m' d' y' W (.of_limbs h hc) hW1 hn hW2 g3
  rw [sgn_self, hq] at HR
  have HR := Lib.hid HR
  clear X0 Y0 hb1 hB hN g1 g2 g1' g2' X1 g4 X2 Y1 B1 hq
  go_wp2_with fail
  have v0 := HX.out.c (i := 0) (v := .bool neg') rfl
  have v1 := HX.out.c (i := 1) (v := .slice A' n' c') rfl
  have v2 := HX.out.c (i := 2) (v := .slice B' m' d') rfl
  have q0 : ¬ w.heap.size + 1 = w.heap.size := by omega
  have q1 : ¬ w.heap.size = w.heap.size + 1 := by omega
  go_region_held3 (fun w' => w'.cell? ⟨w.heap.size, 0, none⟩ = some (.bool neg') ∧ w'.cell? ⟨w.heap.size, 1, none⟩ = some (.slice A' n' c') ∧ w'.cell? ⟨w.heap.size, 2, none⟩ = some (.slice B' m' d'))
    (go_keep)
    (first
    | (go_at_call 110; go_must ((refine (ineg_any neg' A' n' c' x' _ (by exact HG.out.1) (by omega)).mono ?_); rintro e w2 ⟨A2, n2, c2, rfl, r1, r2, hb2⟩; have HB2 := Lib.hid hb2; have HX2 := Lib.hid (HX.out.below (w' := w2) ⟨hb2.os, hb2.tape, hb2.output, hb2.size, hb2.block⟩); have HY2 := Lib.hid (HY.out.below (w' := w2) ⟨hb2.os, hb2.tape, hb2.output, hb2.size, hb2.block⟩); have HBB := Lib.hid (HB1.out.trans (Below.mono (w' := w2) ⟨hb2.os, hb2.tape, hb2.output, hb2.size, hb2.block⟩ HB1.out.size)); have HD := Lib.hid (HG.out.2.on (w' := w2) ⟨hb2.os, hb2.tape, hb2.output, hb2.size, hb2.block⟩); have s0 := HX2.out.c (i := 0) (v := .bool neg') rfl; have s1 := HX2.out.c (i := 1) (v := .slice A' n' c') rfl; have s2 := HX2.out.c (i := 2) (v := .slice B' m' d') rfl; have hn2 : n2 ≤ 1000000 := (by rw [← r1.ulen, sgn_abs]; exact Nat.le_trans HG.out.1.trimmed.1 (by omega)); have HZ := Lib.hid r1; clear r1 hb2))
    | (go_at_call 69; go_must ((refine (HR.out _ HD.out (by omega) A2 n2 c2 HZ.out r2 hn2).mono ?_); rintro e w3 ⟨A3, n3, c3, B3, m3, d3, rfl, r3, r4, r5, r6, hb3⟩; have Y3 := HY2.out.below hb3; have X3 := HX2.out.below hb3; have HF := Lib.hid (rat_end r3 r4 r5 r6 Y3 (by simp) (HBB.out.trans (hb3.mono HBB.out.size)) (by omega)); have t0 := X3.c (i := 0) (v := .bool neg') rfl; have t1 := X3.c (i := 1) (v := .slice A' n' c') rfl; have t2 := X3.c (i := 2) (v := .slice B' m' d') rfl; have k0 := Y3.c (i := 0) rfl; have k1 := Y3.c (i := 1) rfl; have k2 := Y3.c (i := 2) rfl; have y0 := Y3.frozen 0; have y1 := Y3.frozen 1; have y2 := Y3.frozen 2; clear r3 r5 Y3 X3 hb3)))
  go_wp2_with fail
  refine bodyPost_ret (v := .agg #[.bool (ineg (-q).num), .slice A3 n3 c3, .slice B3 m3 d3]) (by simp [results, Tryz.results75, go_sem, k0, k1, k2]) rfl ?_
  exact HF.out
end Go.Proofs.YtjiccijfbpkliaaGreatDoor

/- Two ratios stand in their boxes with denominators that are not 0. Conditions: none. -/
namespace Go.Proofs.YtjiccijfbpkliaaGreatDoor
open Go.RowKit

/-- Both ratios stand in their boxes with denominators that are not 0. -/
def val2 (t : Bool) (p q : Rat) (j k : Nat) (w wx : World) : Prop :=
  ∃ neg1 A1 n1 c1 B1 m1 d1 x1 y1 neg2 A2 n2 c2 B2 m2 d2 x2 y2, Blk wx w.heap.size 36 #[.bool neg1, .slice A1 n1 c1, .slice B1 m1 d1] ∧ Blk wx (w.heap.size + 1) 36 #[.bool neg2, .slice A2 n2 c2, .slice B2 m2 d2] ∧ (t = true → Blk wx (w.heap.size + 1 + 1) 36 #[.bool false, .slice none 0 0, .slice none 0 0]) ∧
    NatA wx A1 n1 c1 x1 ∧ NatA wx B1 m1 d1 y1 ∧ y1 ≠ 0 ∧ rv (sgn neg1 x1) y1 = p ∧ n1 ≤ j ∧ m1 ≤ j ∧ NatA wx A2 n2 c2 x2 ∧ NatA wx B2 m2 d2 y2 ∧ y2 ≠ 0 ∧ rv (sgn neg2 x2) y2 = q ∧ n2 ≤ k ∧ m2 ≤ k ∧ Below w.heap.size w wx
theorem NoU.set3 {w : World} {r : Nat} (h : NoU w r) (g : Nat) {u0 u1 u2 : Value} (h0 : ∀ x, u0 ≠ .int .u32 x) (h1 : ∀ x, u1 ≠ .int .u32 x) (h2 : ∀ x, u2 ≠ .int .u32 x) : NoU (((w.setCell ⟨g, 0, none⟩ u0).setCell ⟨g, 1, none⟩ u1).setCell ⟨g, 2, none⟩ u2) r := ((h.set _ h0).set _ h1).set _ h2
theorem Blk.far3 {w : World} {g r : Nat} {t : TypeId} {cs : Array Value} (h : Blk w g t cs) (hr : g ≠ r) (u0 u1 u2 : Value) : Blk (((w.setCell ⟨r, 0, none⟩ u0).setCell ⟨r, 1, none⟩ u1).setCell ⟨r, 2, none⟩ u2) g t cs :=
  ((h.far (p := ⟨r, 0, none⟩) hr _).far (p := ⟨r, 1, none⟩) hr _).far (p := ⟨r, 2, none⟩) hr _
theorem Blk.put3 {w : World} {g : Nat} {t : TypeId} {e0 e1 e2 : Value} (h : Blk w g t #[e0, e1, e2]) (u0 u1 u2 : Value) : Blk (((w.setCell ⟨g, 0, none⟩ u0).setCell ⟨g, 1, none⟩ u1).setCell ⟨g, 2, none⟩ u2) g t #[u0, u1, u2] :=
  ((h.set_ 0 u0).set_ 1 u1).set_ 2 u2
theorem val2_end {t : Bool} {p q : Rat} {j k : Nat} {w w2 : World} {neg1 neg2 : Bool} {A1 B1 A2 B2 : Option Addr} {n1 c1 m1 d1 x1 y1 n2 c2 m2 d2 x2 y2 : Nat} {e0 e1 e2 f0 f1 f2 : Value}
    (a1 : NatA w2 A1 n1 c1 x1) (a2 : NatA w2 B1 m1 d1 y1) (a3 : y1 ≠ 0) (a4 : rv (sgn neg1 x1) y1 = p) (a5 : n1 ≤ j) (a6 : m1 ≤ j) (b1 : NatA w2 A2 n2 c2 x2) (b2 : NatA w2 B2 m2 d2 y2) (b3 : y2 ≠ 0) (b4 : rv (sgn neg2 x2) y2 = q) (b5 : n2 ≤ k) (b6 : m2 ≤ k)
    (hX : Blk w2 w.heap.size 36 #[e0, e1, e2]) (hY : Blk w2 (w.heap.size + 1) 36 #[f0, f1, f2]) (hZ : t = true → Blk w2 (w.heap.size + 1 + 1) 36 #[.bool false, .slice none 0 0, .slice none 0 0]) (hb : Below w.heap.size w w2)
    (hNX : NoU w2 w.heap.size) (hNY : NoU w2 (w.heap.size + 1)) :
    val2 t p q j k w ((((((w2.setCell ⟨w.heap.size, 0, none⟩ (.bool neg1)).setCell ⟨w.heap.size, 1, none⟩ (.slice A1 n1 c1)).setCell ⟨w.heap.size, 2, none⟩ (.slice B1 m1 d1)).setCell ⟨w.heap.size + 1, 0, none⟩ (.bool neg2)).setCell ⟨w.heap.size + 1, 1, none⟩ (.slice A2 n2 c2)).setCell ⟨w.heap.size + 1, 2, none⟩ (.slice B2 m2 d2)) := by
  have hNY' := hNY.set3 w.heap.size (u0 := .bool neg1) (u1 := .slice A1 n1 c1) (u2 := .slice B1 m1 d1) (by simp) (by simp) (by simp)
  refine ⟨neg1, A1, n1, c1, B1, m1, d1, x1, y1, neg2, A2, n2, c2, B2, m2, d2, x2, y2, (hX.put3 _ _ _).far3 (by omega) _ _ _, (hY.far3 (by omega) _ _ _).put3 _ _ _, fun h => ((hZ h).far3 (by omega) _ _ _).far3 (by omega) _ _ _, ?_⟩
  exact ⟨(a1.no3 hNX _).no3 hNY' _, (a2.no3 hNX _).no3 hNY' _, a3, a4, a5, a6, (b1.no3 hNX _).no3 hNY' _, (b2.no3 hNX _).no3 hNY' _, b3, b4, b5, b6, below3 (below3 hb (Nat.le_refl _) _ _ _) (by omega) _ _ _⟩

end Go.Proofs.YtjiccijfbpkliaaGreatDoor

/- ratio.Cmp compares. Conditions: numbers of at most 100,000 limbs. -/
namespace Go.Proofs.YtjiccijfbpkliaaGreatDoor
open Go.RowKit

theorem six {w : World} {g h : Nat} {t s : TypeId} {a b c d e f : Value} (hX : Blk w g t #[a, b, c]) (hY : Blk w h s #[d, e, f]) : w.cell? ⟨g, 0, none⟩ = some a ∧ w.cell? ⟨g, 1, none⟩ = some b ∧ w.cell? ⟨g, 2, none⟩ = some c ∧ w.cell? ⟨h, 0, none⟩ = some d ∧ w.cell? ⟨h, 1, none⟩ = some e ∧ w.cell? ⟨h, 2, none⟩ = some f :=
  ⟨hX.c rfl, hX.c rfl, hX.c rfl, hY.c rfl, hY.c rfl, hY.c rfl⟩
theorem cmpI_zero {i j : Int} : cmpI i j = 0 ↔ i = j := by
  unfold cmpI
  split
  · exact ⟨fun h => absurd h (by decide), fun h => by omega⟩
  · split
    · exact ⟨fun h => absurd h (by decide), fun h => by omega⟩
    · exact ⟨fun _ => by omega, fun _ => rfl⟩
/-- A number comes back that is 0 just where two ratios are equal. -/
def RetCz (p q : Rat) (w : World) (e : Ending) (w' : World) : Prop := ∃ c : Int, e = .returned (.int .i64 c) ∧ (c = 0 ↔ p = q) ∧ Below w.heap.size w w'

set_option maxRecDepth 100000 in
set_option maxHeartbeats 6400000 in
theorem rcmp_any (v u : Value) (j k : Nat) (p q : Rat) (w : World) (ha : RatA w v j p) (hb : RatA w u k q) (hj : 1 ≤ j) (hk : 1 ≤ k) (hj2 : j ≤ 100000) (hk2 : k ≤ 100000) :
    Calls Tryz.prog 32 #[v, u] w (RetCz p q w) := by
  obtain ⟨neg, A, n, c, B, m, d, x, y, rfl, h1, h2, h3, h4, h5⟩ := ha
  obtain ⟨neg2, A2, n2, c2, B2, m2, d2, x2, y2, rfl, g1, g2, g3, g4, g5⟩ := hb
  have HV := fun W (hB : Below w.heap.size w W) => value_any neg A n c x B m d y W (h1.on hB) (h2.on hB) j h3 h4 hj (by omega)
  rw [h5] at HV
  have HU := fun W (hB : Below w.heap.size w W) => value_any neg2 A2 n2 c2 x2 B2 m2 d2 y2 W (g1.on hB) (g2.on hB) k g3 g4 hk (by omega)
  rw [g5] at HU
  have HV := Lib.hid HV
  have HU := Lib.hid HU
  have hB : Below w.heap.size w ((w.alloc (.cells #[.bool neg, .slice A n c, .slice B m d] 36)).alloc (.cells #[.bool neg2, .slice A2 n2 c2, .slice B2 m2 d2] 36)) := ((Below.refl _ _).alloc (Nat.le_refl _) _).alloc (by simp) _
  have X0 : Blk ((w.alloc (.cells #[.bool neg, .slice A n c, .slice B m d] 36)).alloc (.cells #[.bool neg2, .slice A2 n2 c2, .slice B2 m2 d2] 36)) w.heap.size 36 #[.bool neg, .slice A n c, .slice B m d] := ((Blk.new w _ _).alloc _)
  have Y0 : Blk ((w.alloc (.cells #[.bool neg, .slice A n c, .slice B m d] 36)).alloc (.cells #[.bool neg2, .slice A2 n2 c2, .slice B2 m2 d2] 36)) (w.heap.size + 1) 36 #[.bool neg2, .slice A2 n2 c2, .slice B2 m2 d2] := Blk.new' (w.alloc (.cells #[.bool neg, .slice A n c, .slice B m d] 36)) 36 #[.bool neg2, .slice A2 n2 c2, .slice B2 m2 d2] (by simp)
  have HX := Lib.hid X0
  have HY := Lib.hid Y0

  clear h1 h2 h3 h4 h5 g1 g2 g3 g4 g5 X0 Y0
  have hl1 : w.heap.size < w.heap.size + 1 + 1 := by omega

  have hq0 : ¬ w.heap.size + 1 = w.heap.size := by omega
  go_enter Tryz.func32, Tryz.ntmps32
  go_upto_region 1 with fail
  go_cut [4] (fun s4 wx => s4 = .int .i64 0 ∧ val2 false p q j k w wx)
  case first =>
    go_region_with (first
      | (go_at_call_of 68 (Value.agg #[.bool neg, .slice A n c, .slice B m d]); go_must ((refine (HV.out _ (by exact hB.drew)).mono ?_); rintro e w1 ⟨ng, C, cn, cc, E, en, ec, xx, yy, rfl, a1, a2, a3, a4, a5, a6, hb1⟩; obtain ⟨hcl, hfr⟩ := bcell hb1; have hz1 : w.heap.size + 1 < w1.heap.size := (by have := hb1.size; simp at this; omega); have hz2 : w.heap.size < w1.heap.size := (by omega); have hz3 : w.heap.size + 1 < w1.heap.size := (by omega)))
      | (go_at_call 68; go_must ((refine (HU.out _ (by exact hB.drew.trans (hb1.mono hB.drew.size))).mono ?_); rintro e w2 ⟨ng2, C2, cn2, cc2, E2, en2, ec2, xx2, yy2, rfl, b1, b2, b3, b4, b5, b6, hb2⟩; obtain ⟨hcl2, hfr2⟩ := bcell hb2)))
    all_goals
      have X2 := (HX.out.below (w' := w1) ⟨hb1.os, hb1.tape, hb1.output, hb1.size, hb1.block⟩).below hb2
      have Y2 := (HY.out.below (w' := w1) ⟨hb1.os, hb1.tape, hb1.output, hb1.size, hb1.block⟩).below hb2

      have hb1' : Below w.heap.size w w1 := hB.trans (Below.mono ⟨hb1.os, hb1.tape, hb1.output, hb1.size, hb1.block⟩ hB.size)
      have HE := Lib.hid (val2_end (t := false) (w := w) (a1.on hb2) (a2.on hb2) a3 a4 a5 a6 b1 b2 b3 b4 b5 b6 X2 Y2 (by intro h; cases h) (hb1'.trans (hb2.mono hb1'.size)) (NoU.blk X2 (by simp)) (NoU.blk Y2 (by simp)))
      clear X2 Y2 a1 a2 b1 b2 hb1'
      go_wp2_with fail
      go_meet
      exact ⟨rfl, HE.out⟩
  case rest =>
    clear HX HY HV HU hB
    obtain ⟨rfl, neg1, A1, n1, c1, B1, m1, d1, x1, y1, neg3, A3, n3, c3, B3, m3, d3, x3, y3, hX, hY, hZ, a1, a2, a3, a4, a5, a6, b1, b2, b3, b4, b5, b6, hbel⟩ := hcut
    have HX := Lib.hid hX
    have HY := Lib.hid hY
    have HN := Lib.hid (And.intro a1 (And.intro a2 (And.intro b1 b2)))
    have hs := six hX hY
    have l1 : nl (sgn neg1 x1 * sgn false y3).natAbs ≤ 1000000 := by
      refine Nat.le_trans (nl_abs_mul _ _ (j := j) (k := k) ?_ ?_) (by omega)
      · rw [sgn_abs]; exact Nat.le_trans a1.trimmed.1 a5
      · rw [sgn_abs]; exact Nat.le_trans b2.trimmed.1 b6
    have l2 : nl (sgn neg3 x3 * sgn false y1).natAbs ≤ 1000000 := by
      refine Nat.le_trans (nl_abs_mul _ _ (j := k) (k := j) ?_ ?_) (by omega)
      · rw [sgn_abs]; exact Nat.le_trans b1.trimmed.1 b5
      · rw [sgn_abs]; exact Nat.le_trans a2.trimmed.1 a6
    have HE : Hid (cmpI (sgn neg1 x1 * sgn false y3) (sgn neg3 x3 * sgn false y1) = 0 ↔ p = q) := by
      rw [Hid, cmpI_zero, ← a4, ← b4, rv_eq a3 b3]
      rfl
    clear hX hY hZ a1 a2 b1 b2
    obtain ⟨s0, s1, s2, s3, s4, s5⟩ := hs
    go_wp2_with fail
    go_region_held3 (fun w' => w'.cell? ⟨w.heap.size, 0, none⟩ = some (.bool neg1) ∧ w'.cell? ⟨w.heap.size, 1, none⟩ = some (.slice A1 n1 c1) ∧ w'.cell? ⟨w.heap.size, 2, none⟩ = some (.slice B1 m1 d1) ∧ w'.cell? ⟨w.heap.size + 1, 0, none⟩ = some (.bool neg3) ∧ w'.cell? ⟨w.heap.size + 1, 1, none⟩ = some (.slice A3 n3 c3) ∧ w'.cell? ⟨w.heap.size + 1, 2, none⟩ = some (.slice B3 m3 d3))
      (go_keep)
      (first
      | (go_at_call_of 73 (Value.slice B3 m3 d3); go_must ((refine (positive_any B3 m3 d3 _).mono ?_); rintro e w2 ⟨rfl, hb2⟩; have HBw2 := Lib.hid (show Below wc.heap.size wc w2 from ⟨hb2.os, hb2.tape, hb2.output, hb2.size, hb2.block⟩); have hsw2 := six (HX.out.below HBw2.out) (HY.out.below HBw2.out); clear hb2))
      | (go_at_call_of 70 (Value.agg #[.bool neg1, .slice A1 n1 c1]); go_must ((refine (imul_any neg1 A1 n1 c1 x1 false B3 m3 d3 y3 _ (by exact HN.out.1.on HBw2.out) (by exact HN.out.2.2.2.on HBw2.out) (by omega) (by omega)).mono ?_); rintro e w3 ⟨C3, k3, e3, rfl, r3, hc3, hb3⟩; have HBw3 := Lib.hid (show Below wc.heap.size wc w3 from HBw2.out.trans ((hb3 : Below w2.heap.size w2 w3).mono HBw2.out.size)); have hsw3 := six (HX.out.below HBw3.out) (HY.out.below HBw3.out); have HM := Lib.hid r3; clear r3; clear hb3))
      | (go_at_call_of 73 (Value.slice B1 m1 d1); go_must ((refine (positive_any B1 m1 d1 _).mono ?_); rintro e w4 ⟨rfl, hb4⟩; have HBw4 := Lib.hid (show Below wc.heap.size wc w4 from HBw3.out.trans ((hb4 : Below w3.heap.size w3 w4).mono HBw3.out.size)); have hsw4 := six (HX.out.below HBw4.out) (HY.out.below HBw4.out); have HM4 := Lib.hid (HM.out.on hb4); clear hb4))
      | (go_at_call_of 70 (Value.agg #[.bool neg3, .slice A3 n3 c3]); go_must ((refine (imul_any neg3 A3 n3 c3 x3 false B1 m1 d1 y1 _ (by exact HN.out.2.2.1.on HBw4.out) (by exact HN.out.2.1.on HBw4.out) (by omega) (by omega)).mono ?_); rintro e w5 ⟨C5, k5, e5, rfl, r5, hc5, hb5⟩; have HBw5 := Lib.hid (show Below wc.heap.size wc w5 from HBw4.out.trans ((hb5 : Below w4.heap.size w4 w5).mono HBw4.out.size)); have hsw5 := six (HX.out.below HBw5.out) (HY.out.below HBw5.out); have HM5 := Lib.hid (HM4.out.on hb5); have HQ5 := Lib.hid r5; clear r5; clear hb5))
      | (go_at_call 72; go_must ((refine (icmp_any _ C3 k3 e3 (sgn neg1 x1 * sgn false y3).natAbs _ C5 k5 e5 (sgn neg3 x3 * sgn false y1).natAbs _ (by exact .of_limbs HM5.out hc3) (by exact .of_limbs HQ5.out hc5) (by rw [← HM5.out.ulen]; exact l1) (by rw [← HQ5.out.ulen]; exact l2)).mono ?_); rintro e w6 ⟨rfl, hb6⟩; have HBw6 := Lib.hid (show Below wc.heap.size wc w6 from HBw5.out.trans ((hb6 : Below w5.heap.size w5 w6).mono HBw5.out.size)); have hsw6 := six (HX.out.below HBw6.out) (HY.out.below HBw6.out); rw [sgn_self, sgn_self]; clear hb6)))
    go_wp2_with fail
    go_ret
    exact ⟨_, rfl, HE.out, hbel.trans (HBw6.out.mono hbel.size)⟩
end Go.Proofs.YtjiccijfbpkliaaGreatDoor

/- ratio.Add returns the sum in normal form. Conditions: numbers of at most 100,000 limbs. -/
namespace Go.Proofs.YtjiccijfbpkliaaGreatDoor
open Go.RowKit

set_option maxRecDepth 100000 in
set_option maxHeartbeats 6400000 in
theorem radd_any (v u : Value) (j k : Nat) (p q : Rat) (w : World) (ha : RatA w v j p) (hb : RatA w u k q) (hj : 1 ≤ j) (hk : 1 ≤ k) (hj2 : j ≤ 100000) (hk2 : k ≤ 100000) :
    Calls Tryz.prog 35 #[v, u] w (RetQ (p + q) w) := by
  obtain ⟨neg, A, n, c, B, m, d, x, y, rfl, h1, h2, h3, h4, h5⟩ := ha
  obtain ⟨neg2, A2, n2, c2, B2, m2, d2, x2, y2, rfl, g1, g2, g3, g4, g5⟩ := hb
  have HV := fun W (hB : Below w.heap.size w W) => value_any neg A n c x B m d y W (h1.on hB) (h2.on hB) j h3 h4 hj (by omega)
  rw [h5] at HV
  have HU := fun W (hB : Below w.heap.size w W) => value_any neg2 A2 n2 c2 x2 B2 m2 d2 y2 W (g1.on hB) (g2.on hB) k g3 g4 hk (by omega)
  rw [g5] at HU
  have HV := Lib.hid HV
  have HU := Lib.hid HU
  have hB : Below w.heap.size w (((w.alloc (.cells #[.bool neg, .slice A n c, .slice B m d] 36)).alloc (.cells #[.bool neg2, .slice A2 n2 c2, .slice B2 m2 d2] 36)).alloc (.cells #[.bool false, .slice none 0 0, .slice none 0 0] 36)) := (((Below.refl _ _).alloc (Nat.le_refl _) _).alloc (by simp) _).alloc (by simp; omega) _
  have X0 : Blk (((w.alloc (.cells #[.bool neg, .slice A n c, .slice B m d] 36)).alloc (.cells #[.bool neg2, .slice A2 n2 c2, .slice B2 m2 d2] 36)).alloc (.cells #[.bool false, .slice none 0 0, .slice none 0 0] 36)) w.heap.size 36 #[.bool neg, .slice A n c, .slice B m d] := ((Blk.new w _ _).alloc _).alloc _
  have Y0 : Blk (((w.alloc (.cells #[.bool neg, .slice A n c, .slice B m d] 36)).alloc (.cells #[.bool neg2, .slice A2 n2 c2, .slice B2 m2 d2] 36)).alloc (.cells #[.bool false, .slice none 0 0, .slice none 0 0] 36)) (w.heap.size + 1) 36 #[.bool neg2, .slice A2 n2 c2, .slice B2 m2 d2] := (Blk.new' (w.alloc (.cells #[.bool neg, .slice A n c, .slice B m d] 36)) 36 #[.bool neg2, .slice A2 n2 c2, .slice B2 m2 d2] (by simp)).alloc _
  have R0 : Blk (((w.alloc (.cells #[.bool neg, .slice A n c, .slice B m d] 36)).alloc (.cells #[.bool neg2, .slice A2 n2 c2, .slice B2 m2 d2] 36)).alloc (.cells #[.bool false, .slice none 0 0, .slice none 0 0] 36)) (w.heap.size + 1 + 1) 36 #[.bool false, .slice none 0 0, .slice none 0 0] := Blk.new' ((w.alloc (.cells #[.bool neg, .slice A n c, .slice B m d] 36)).alloc (.cells #[.bool neg2, .slice A2 n2 c2, .slice B2 m2 d2] 36)) 36 #[.bool false, .slice none 0 0, .slice none 0 0] (by simp)
  have HX := Lib.hid X0
  have HY := Lib.hid Y0
  have HZ := Lib.hid R0
  clear h1 h2 h3 h4 h5 g1 g2 g3 g4 g5 X0 Y0 R0
  have hl1 : w.heap.size < w.heap.size + 1 + 1 := by omega
  have hl2 : w.heap.size < w.heap.size + 1 + 1 + 1 := by omega
  have hq0 : ¬ w.heap.size + 1 = w.heap.size := by omega
  go_enter Tryz.func35, Tryz.ntmps35
  go_upto_region 1 with fail
  go_cut [4] (fun s4 wx => s4 = .pointer (some ⟨w.heap.size + 1 + 1, 0, none⟩) ∧ val2 true p q j k w wx)
  case first =>
    go_region_with (first
      | (go_at_call_of 68 (Value.agg #[.bool neg, .slice A n c, .slice B m d]); go_must ((refine (HV.out _ (by exact hB.drew)).mono ?_); rintro e w1 ⟨ng, C, cn, cc, E, en, ec, xx, yy, rfl, a1, a2, a3, a4, a5, a6, hb1⟩; obtain ⟨hcl, hfr⟩ := bcell hb1; have hz1 : w.heap.size + 1 + 1 < w1.heap.size := (by have := hb1.size; simp at this; omega); have hz2 : w.heap.size < w1.heap.size := (by omega); have hz3 : w.heap.size + 1 < w1.heap.size := (by omega)))
      | (go_at_call 68; go_must ((refine (HU.out _ (by exact hB.drew.trans (hb1.mono hB.drew.size))).mono ?_); rintro e w2 ⟨ng2, C2, cn2, cc2, E2, en2, ec2, xx2, yy2, rfl, b1, b2, b3, b4, b5, b6, hb2⟩; obtain ⟨hcl2, hfr2⟩ := bcell hb2)))
    all_goals
      have X2 := (HX.out.below (w' := w1) ⟨hb1.os, hb1.tape, hb1.output, hb1.size, hb1.block⟩).below hb2
      have Y2 := (HY.out.below (w' := w1) ⟨hb1.os, hb1.tape, hb1.output, hb1.size, hb1.block⟩).below hb2
      have R2 := (HZ.out.below (w' := w1) ⟨hb1.os, hb1.tape, hb1.output, hb1.size, hb1.block⟩).below hb2
      have hb1' : Below w.heap.size w w1 := hB.trans (Below.mono ⟨hb1.os, hb1.tape, hb1.output, hb1.size, hb1.block⟩ hB.size)
      have HE := Lib.hid (val2_end (t := true) (w := w) (a1.on hb2) (a2.on hb2) a3 a4 a5 a6 b1 b2 b3 b4 b5 b6 X2 Y2 (by intro _; exact R2) (hb1'.trans (hb2.mono hb1'.size)) (NoU.blk X2 (by simp)) (NoU.blk Y2 (by simp)))
      clear X2 Y2 R2 a1 a2 b1 b2 hb1'
      go_wp2_with fail
      go_meet
      exact ⟨rfl, HE.out⟩
  case rest =>
    clear HX HY HZ HV HU hB
    obtain ⟨rfl, neg1, A1, n1, c1, B1, m1, d1, x1, y1, neg3, A3, n3, c3, B3, m3, d3, x3, y3, hX, hY, hZ, a1, a2, a3, a4, a5, a6, b1, b2, b3, b4, b5, b6, hbel⟩ := hcut
    have HX := Lib.hid hX
    have HY := Lib.hid hY
    have HZ := Lib.hid (hZ rfl)
    have HN := Lib.hid (And.intro a1 (And.intro a2 (And.intro b1 b2)))
    have hs := six hX hY
    have hne : y1 * y3 ≠ 0 := Nat.mul_ne_zero a3 b3
    have ld : nl (y1 * y3) ≤ 1000000 := by
      have h1 := nl_mul y1 y3
      have h2 := a2.trimmed.1
      have h3 := b2.trimmed.1
      omega
    have l1 : nl (sgn neg1 x1 * sgn false y3).natAbs ≤ 300000 := by
      refine Nat.le_trans (nl_abs_mul _ _ (j := j) (k := k) ?_ ?_) (by omega)
      · rw [sgn_abs]; exact Nat.le_trans a1.trimmed.1 a5
      · rw [sgn_abs]; exact Nat.le_trans b2.trimmed.1 b6
    have l2 : nl (sgn neg3 x3 * sgn false y1).natAbs ≤ 300000 := by
      refine Nat.le_trans (nl_abs_mul _ _ (j := k) (k := j) ?_ ?_) (by omega)
      · rw [sgn_abs]; exact Nat.le_trans b1.trimmed.1 b5
      · rw [sgn_abs]; exact Nat.le_trans a2.trimmed.1 a6
    have l3 : nl (sgn neg1 x1 * sgn false y3 + sgn neg3 x3 * sgn false y1).natAbs ≤ 1000000 := Nat.le_trans (nl_abs_add _ _ l1 l2) (by omega)
    have HR := fun W C cn cc D dn dc (h : Sl W W.heap.size C cn (u32s (limbs (sgn neg1 x1 * sgn false y3 + sgn neg3 x3 * sgn false y1).natAbs))) (hc : cn ≤ cc) (hcn : cn ≤ 1000000) (g : Sl W W.heap.size D dn (u32s (limbs (y1 * y3)))) (hd : dn ≤ dc) (hdn : dn ≤ 1000000) => reduce_any (ineg (sgn neg1 x1 * sgn false y3 + sgn neg3 x3 * sgn false y1)) C cn cc (sgn neg1 x1 * sgn false y3 + sgn neg3 x3 * sgn false y1).natAbs D dn dc (y1 * y3) W (.of_limbs h hc) (.of_limbs g hd) hcn hdn hne
    rw [sgn_self, sgn_false, sgn_false, ← rv_add _ _ a3 b3, a4, b4] at HR
    have HR := Lib.hid HR
    clear hX hY hZ a1 a2 b1 b2
    obtain ⟨s0, s1, s2, s3, s4, s5⟩ := hs
    have hxw := HX.out.lt
    have hyw := HY.out.lt
    go_wp2_with fail
    go_cut [5] (fun s5 wx => ∃ (g : Nat) (C : Option Addr) (cn cc : Nat), s5 = .pointer (some ⟨g, 0, none⟩) ∧ Blk wx g 34 #[.bool (ineg (sgn neg1 x1 * sgn false y3 + sgn neg3 x3 * sgn false y1)), .slice C cn cc] ∧ Sl wx wx.heap.size C cn (u32s (limbs (sgn neg1 x1 * sgn false y3 + sgn neg3 x3 * sgn false y1).natAbs)) ∧ cn ≤ cc ∧ Below wc.heap.size wc wx ∧ wc.heap.size ≤ g)
    case first =>
      have ne0 : ¬ w.heap.size + 1 + 1 = w.heap.size := by omega
      have ne1 : ¬ w.heap.size = w.heap.size + 1 + 1 := by omega
      have ne2 : ¬ w.heap.size + 1 + 1 = w.heap.size + 1 := by omega
      have ne3 : ¬ w.heap.size + 1 = w.heap.size + 1 + 1 := by omega
      go_region_held3 (fun w' => w'.cell? ⟨w.heap.size, 0, none⟩ = some (.bool neg1) ∧ w'.cell? ⟨w.heap.size, 1, none⟩ = some (.slice A1 n1 c1) ∧ w'.cell? ⟨w.heap.size, 2, none⟩ = some (.slice B1 m1 d1) ∧ w'.cell? ⟨w.heap.size + 1, 0, none⟩ = some (.bool neg3) ∧ w'.cell? ⟨w.heap.size + 1, 1, none⟩ = some (.slice A3 n3 c3) ∧ w'.cell? ⟨w.heap.size + 1, 2, none⟩ = some (.slice B3 m3 d3))
        (go_keep)
        (first
        | (go_at_call_of 73 (Value.slice B3 m3 d3); (refine (positive_any B3 m3 d3 _).mono ?_); rintro e w2 ⟨rfl, hb2⟩; have HBw2 := Lib.hid (show Below wc.heap.size wc w2 from ⟨hb2.os, hb2.tape, hb2.output, hb2.size, hb2.block⟩); (try (have hD := Lib.hid (hD.out.below (show Below wc.heap.size wc w2 from ⟨hb2.os, hb2.tape, hb2.output, hb2.size, hb2.block⟩)))); have hsw2 := six (HX.out.below HBw2.out) (HY.out.below HBw2.out); clear hb2)
        | (go_at_call_of 73 (Value.slice B3 m3 d3); go_must ((refine (positive_any B3 m3 d3 _).mono ?_); rintro e w2 ⟨rfl, hb2⟩; have HBw2 := Lib.hid (((Below.refl _ _).alloc (Nat.le_refl _) (.cells #[.bool false, .slice none 0 0] 34)).trans (Below.mono (show Below (wc.alloc (.cells #[.bool false, .slice none 0 0] 34)).heap.size (wc.alloc (.cells #[.bool false, .slice none 0 0] 34)) w2 from ⟨hb2.os, hb2.tape, hb2.output, hb2.size, hb2.block⟩) (by simp)) : Below wc.heap.size wc w2); have hD := Lib.hid ((Blk.new wc 34 #[.bool false, .slice none 0 0]).below (show Below (wc.alloc (.cells #[.bool false, .slice none 0 0] 34)).heap.size (wc.alloc (.cells #[.bool false, .slice none 0 0] 34)) w2 from ⟨hb2.os, hb2.tape, hb2.output, hb2.size, hb2.block⟩)); have hDs := Lib.hid (show wc.heap.size ≤ wc.heap.size from Nat.le_refl _); have nz0 : ¬ wc.heap.size = w.heap.size := (by have := hDs.out; omega); have nz1 : ¬ wc.heap.size = w.heap.size + 1 := (by have := hDs.out; omega); have hsw2 := six (HX.out.below HBw2.out) (HY.out.below HBw2.out); clear hb2))
        | (go_at_call_of 70 (Value.agg #[.bool neg1, .slice A1 n1 c1]); (refine (imul_any neg1 A1 n1 c1 x1 false B3 m3 d3 y3 _ (HN.out.1.on HBw2.out) (HN.out.2.2.2.on HBw2.out) (by omega) (by omega)).mono ?_); rintro e w3 ⟨C3, k3, e3, rfl, r3, hc3, hb3⟩; have HBw3 := Lib.hid (HBw2.out.trans (Below.mono (show Below w2.heap.size w2 w3 from ⟨hb3.os, hb3.tape, hb3.output, hb3.size, hb3.block⟩) HBw2.out.size)); (try (have hD := Lib.hid (hD.out.below (show Below w2.heap.size w2 w3 from ⟨hb3.os, hb3.tape, hb3.output, hb3.size, hb3.block⟩)))); have hsw3 := six (HX.out.below HBw3.out) (HY.out.below HBw3.out); have lk3 : k3 ≤ 300000 := (by rw [← r3.ulen]; exact l1); have HM := Lib.hid r3; clear r3; clear hb3)
        | (go_at_call_of 70 (Value.agg #[.bool neg1, .slice A1 n1 c1]); go_must ((refine (imul_any neg1 A1 n1 c1 x1 false B3 m3 d3 y3 _ (HN.out.1.on (HBw2.out.alloc HBw2.out.size _)) (HN.out.2.2.2.on (HBw2.out.alloc HBw2.out.size _)) (by omega) (by omega)).mono ?_); rintro e w3 ⟨C3, k3, e3, rfl, r3, hc3, hb3⟩; have HBw3 := Lib.hid (HBw2.out.trans (Below.mono (((Below.refl _ _).alloc (Nat.le_refl _) (.cells #[.bool false, .slice none 0 0] 34)).trans (Below.mono (show Below (w2.alloc (.cells #[.bool false, .slice none 0 0] 34)).heap.size (w2.alloc (.cells #[.bool false, .slice none 0 0] 34)) w3 from ⟨hb3.os, hb3.tape, hb3.output, hb3.size, hb3.block⟩) (by simp)) : Below w2.heap.size w2 w3) HBw2.out.size)); have hD := Lib.hid ((Blk.new w2 34 #[.bool false, .slice none 0 0]).below (show Below (w2.alloc (.cells #[.bool false, .slice none 0 0] 34)).heap.size (w2.alloc (.cells #[.bool false, .slice none 0 0] 34)) w3 from ⟨hb3.os, hb3.tape, hb3.output, hb3.size, hb3.block⟩)); have hDs := Lib.hid (show wc.heap.size ≤ w2.heap.size from HBw2.out.size); have nz0 : ¬ w2.heap.size = w.heap.size := (by have := hDs.out; omega); have nz1 : ¬ w2.heap.size = w.heap.size + 1 := (by have := hDs.out; omega); have hsw3 := six (HX.out.below HBw3.out) (HY.out.below HBw3.out); have lk3 : k3 ≤ 300000 := (by rw [← r3.ulen]; exact l1); have HM := Lib.hid r3; clear r3; clear hb3))
        | (go_at_call_of 73 (Value.slice B1 m1 d1); (refine (positive_any B1 m1 d1 _).mono ?_); rintro e w4 ⟨rfl, hb4⟩; have HBw4 := Lib.hid (HBw3.out.trans (Below.mono (show Below w3.heap.size w3 w4 from ⟨hb4.os, hb4.tape, hb4.output, hb4.size, hb4.block⟩) HBw3.out.size)); (try (have hD := Lib.hid (hD.out.below (show Below w3.heap.size w3 w4 from ⟨hb4.os, hb4.tape, hb4.output, hb4.size, hb4.block⟩)))); have hsw4 := six (HX.out.below HBw4.out) (HY.out.below HBw4.out); have HM4 := Lib.hid (HM.out.on (show Below w3.heap.size w3 w4 from ⟨hb4.os, hb4.tape, hb4.output, hb4.size, hb4.block⟩)); clear hb4)
        | (go_at_call_of 73 (Value.slice B1 m1 d1); go_must ((refine (positive_any B1 m1 d1 _).mono ?_); rintro e w4 ⟨rfl, hb4⟩; have HBw4 := Lib.hid (HBw3.out.trans (Below.mono (((Below.refl _ _).alloc (Nat.le_refl _) (.cells #[.bool false, .slice none 0 0] 34)).trans (Below.mono (show Below (w3.alloc (.cells #[.bool false, .slice none 0 0] 34)).heap.size (w3.alloc (.cells #[.bool false, .slice none 0 0] 34)) w4 from ⟨hb4.os, hb4.tape, hb4.output, hb4.size, hb4.block⟩) (by simp)) : Below w3.heap.size w3 w4) HBw3.out.size)); have hD := Lib.hid ((Blk.new w3 34 #[.bool false, .slice none 0 0]).below (show Below (w3.alloc (.cells #[.bool false, .slice none 0 0] 34)).heap.size (w3.alloc (.cells #[.bool false, .slice none 0 0] 34)) w4 from ⟨hb4.os, hb4.tape, hb4.output, hb4.size, hb4.block⟩)); have hDs := Lib.hid (show wc.heap.size ≤ w3.heap.size from HBw3.out.size); have nz0 : ¬ w3.heap.size = w.heap.size := (by have := hDs.out; omega); have nz1 : ¬ w3.heap.size = w.heap.size + 1 := (by have := hDs.out; omega); have hsw4 := six (HX.out.below HBw4.out) (HY.out.below HBw4.out); have HM4 := Lib.hid (HM.out.on (((Below.refl _ _).alloc (Nat.le_refl _) (.cells #[.bool false, .slice none 0 0] 34)).trans (Below.mono (show Below (w3.alloc (.cells #[.bool false, .slice none 0 0] 34)).heap.size (w3.alloc (.cells #[.bool false, .slice none 0 0] 34)) w4 from ⟨hb4.os, hb4.tape, hb4.output, hb4.size, hb4.block⟩) (by simp)) : Below w3.heap.size w3 w4)); clear hb4))
        | (go_at_call_of 70 (Value.agg #[.bool neg3, .slice A3 n3 c3]); (refine (imul_any neg3 A3 n3 c3 x3 false B1 m1 d1 y1 _ (HN.out.2.2.1.on HBw4.out) (HN.out.2.1.on HBw4.out) (by omega) (by omega)).mono ?_); rintro e w5 ⟨C5, k5, e5, rfl, r5, hc5, hb5⟩; have HBw5 := Lib.hid (HBw4.out.trans (Below.mono (show Below w4.heap.size w4 w5 from ⟨hb5.os, hb5.tape, hb5.output, hb5.size, hb5.block⟩) HBw4.out.size)); (try (have hD := Lib.hid (hD.out.below (show Below w4.heap.size w4 w5 from ⟨hb5.os, hb5.tape, hb5.output, hb5.size, hb5.block⟩)))); have hsw5 := six (HX.out.below HBw5.out) (HY.out.below HBw5.out); have lk5 : k5 ≤ 300000 := (by rw [← r5.ulen]; exact l2); have HM5 := Lib.hid (HM4.out.on (show Below w4.heap.size w4 w5 from ⟨hb5.os, hb5.tape, hb5.output, hb5.size, hb5.block⟩)); have HQ5 := Lib.hid r5; clear r5; clear hb5)
        | (go_at_call_of 70 (Value.agg #[.bool neg3, .slice A3 n3 c3]); go_must ((refine (imul_any neg3 A3 n3 c3 x3 false B1 m1 d1 y1 _ (HN.out.2.2.1.on (HBw4.out.alloc HBw4.out.size _)) (HN.out.2.1.on (HBw4.out.alloc HBw4.out.size _)) (by omega) (by omega)).mono ?_); rintro e w5 ⟨C5, k5, e5, rfl, r5, hc5, hb5⟩; have HBw5 := Lib.hid (HBw4.out.trans (Below.mono (((Below.refl _ _).alloc (Nat.le_refl _) (.cells #[.bool false, .slice none 0 0] 34)).trans (Below.mono (show Below (w4.alloc (.cells #[.bool false, .slice none 0 0] 34)).heap.size (w4.alloc (.cells #[.bool false, .slice none 0 0] 34)) w5 from ⟨hb5.os, hb5.tape, hb5.output, hb5.size, hb5.block⟩) (by simp)) : Below w4.heap.size w4 w5) HBw4.out.size)); have hD := Lib.hid ((Blk.new w4 34 #[.bool false, .slice none 0 0]).below (show Below (w4.alloc (.cells #[.bool false, .slice none 0 0] 34)).heap.size (w4.alloc (.cells #[.bool false, .slice none 0 0] 34)) w5 from ⟨hb5.os, hb5.tape, hb5.output, hb5.size, hb5.block⟩)); have hDs := Lib.hid (show wc.heap.size ≤ w4.heap.size from HBw4.out.size); have nz0 : ¬ w4.heap.size = w.heap.size := (by have := hDs.out; omega); have nz1 : ¬ w4.heap.size = w.heap.size + 1 := (by have := hDs.out; omega); have hsw5 := six (HX.out.below HBw5.out) (HY.out.below HBw5.out); have lk5 : k5 ≤ 300000 := (by rw [← r5.ulen]; exact l2); have HM5 := Lib.hid (HM4.out.on (((Below.refl _ _).alloc (Nat.le_refl _) (.cells #[.bool false, .slice none 0 0] 34)).trans (Below.mono (show Below (w4.alloc (.cells #[.bool false, .slice none 0 0] 34)).heap.size (w4.alloc (.cells #[.bool false, .slice none 0 0] 34)) w5 from ⟨hb5.os, hb5.tape, hb5.output, hb5.size, hb5.block⟩) (by simp)) : Below w4.heap.size w4 w5)); have HQ5 := Lib.hid r5; clear r5; clear hb5))
        | (go_at_call 76; (refine (iadd_any _ C3 k3 e3 (sgn neg1 x1 * sgn false y3).natAbs _ C5 k5 e5 (sgn neg3 x3 * sgn false y1).natAbs _ (NatA.of_limbs (HM5.out.on (Below.refl _ _)) hc3) (NatA.of_limbs (HQ5.out.on (Below.refl _ _)) hc5) (by omega) (by omega)).mono ?_); rintro e w6 ⟨C6, k6, e6, rfl, r6, hc6, hb6⟩; have HBw6 := Lib.hid (HBw5.out.trans (Below.mono (show Below w5.heap.size w5 w6 from ⟨hb6.os, hb6.tape, hb6.output, hb6.size, hb6.block⟩) HBw5.out.size)); (try (have hD := Lib.hid (hD.out.below (show Below w5.heap.size w5 w6 from ⟨hb6.os, hb6.tape, hb6.output, hb6.size, hb6.block⟩)))); have hsw6 := six (HX.out.below HBw6.out) (HY.out.below HBw6.out); rw [sgn_self, sgn_self] at r6 ⊢; have HS6 := Lib.hid (And.intro r6 hc6); clear r6; (try (have d0 := hD.out.c (i := 0) (v := .bool false) rfl; have d1' := hD.out.c (i := 1) (v := .slice none 0 0) rfl; have y0' := hD.out.frozen 0; have y1' := hD.out.frozen 1)); clear hb6)
        | (go_at_call 76; go_must ((refine (iadd_any _ C3 k3 e3 (sgn neg1 x1 * sgn false y3).natAbs _ C5 k5 e5 (sgn neg3 x3 * sgn false y1).natAbs _ (NatA.of_limbs (HM5.out.on ((Below.refl _ _).alloc (Nat.le_refl _) _)) hc3) (NatA.of_limbs (HQ5.out.on ((Below.refl _ _).alloc (Nat.le_refl _) _)) hc5) (by omega) (by omega)).mono ?_); rintro e w6 ⟨C6, k6, e6, rfl, r6, hc6, hb6⟩; have HBw6 := Lib.hid (HBw5.out.trans (Below.mono (((Below.refl _ _).alloc (Nat.le_refl _) (.cells #[.bool false, .slice none 0 0] 34)).trans (Below.mono (show Below (w5.alloc (.cells #[.bool false, .slice none 0 0] 34)).heap.size (w5.alloc (.cells #[.bool false, .slice none 0 0] 34)) w6 from ⟨hb6.os, hb6.tape, hb6.output, hb6.size, hb6.block⟩) (by simp)) : Below w5.heap.size w5 w6) HBw5.out.size)); have hD := Lib.hid ((Blk.new w5 34 #[.bool false, .slice none 0 0]).below (show Below (w5.alloc (.cells #[.bool false, .slice none 0 0] 34)).heap.size (w5.alloc (.cells #[.bool false, .slice none 0 0] 34)) w6 from ⟨hb6.os, hb6.tape, hb6.output, hb6.size, hb6.block⟩)); have hDs := Lib.hid (show wc.heap.size ≤ w5.heap.size from HBw5.out.size); have nz0 : ¬ w5.heap.size = w.heap.size := (by have := hDs.out; omega); have nz1 : ¬ w5.heap.size = w.heap.size + 1 := (by have := hDs.out; omega); have hsw6 := six (HX.out.below HBw6.out) (HY.out.below HBw6.out); rw [sgn_self, sgn_self] at r6 ⊢; have HS6 := Lib.hid (And.intro r6 hc6); clear r6; (try (have d0 := hD.out.c (i := 0) (v := .bool false) rfl; have d1' := hD.out.c (i := 1) (v := .slice none 0 0) rfl; have y0' := hD.out.frozen 0; have y1' := hD.out.frozen 1)); clear hb6)))
      all_goals
        go_wp2_with fail
        go_meet
        first
        | exact ⟨w6.heap.size, C6, k6, e6, rfl, Blk.new _ _ _, HS6.out.1.on ((Below.refl _ _).alloc (Nat.le_refl _) _), HS6.out.2, HBw6.out.alloc HBw6.out.size _, HBw6.out.size⟩
        | exact ⟨_, C6, k6, e6, rfl, (hD.out.set_ 0 _).set_ 1 _, (HS6.out.1.no (NoU.blk hD.out (by simp)) 0 _).no ((NoU.blk hD.out (by simp)).set _ (by simp)) 1 _, HS6.out.2, (HBw6.out.setCell (p := ⟨_, 0, none⟩) hDs.out _).setCell (p := ⟨_, 1, none⟩) hDs.out _, hDs.out⟩
    case rest =>
      obtain ⟨g, C, cn, cc, rfl, hG, hS, hcc, hbx, hgw⟩ := hcut
      have lc : cn ≤ 1000000 := by rw [← hS.ulen]; exact l3
      have hzw := HZ.out.lt
      have HGb := Lib.hid hG
      have HSc := Lib.hid hS
      have HBx := Lib.hid hbx
      have gg := hG.lt
      have hX2 := HX.out.below hbx
      have hY2 := HY.out.below hbx
      have v0 := hG.c (i := 0) rfl
      have v1 := hG.c (i := 1) rfl
      have v2 := hX2.c (i := 2) rfl
      have v3 := hY2.c (i := 2) rfl
      have HX2 := Lib.hid hX2
      have HY2 := Lib.hid hY2
      have HZ2 := Lib.hid (HZ.out.below hbx)
      have HBt := Lib.hid (hbel.trans (hbx.mono hbel.size))
      have HD := Lib.hid (And.intro (HN.out.2.1.on hbx) (HN.out.2.2.2.on hbx))
      have nz0 : ¬ w.heap.size + 1 + 1 = g := by omega
      have nz1 : ¬ g = w.heap.size + 1 + 1 := by omega
      have ne0 : ¬ w.heap.size + 1 + 1 = w.heap.size := by omega
      have ne1 : ¬ w.heap.size = w.heap.size + 1 + 1 := by omega
      have ne2 : ¬ w.heap.size + 1 + 1 = w.heap.size + 1 := by omega
      have ne3 : ¬ w.heap.size + 1 = w.heap.size + 1 + 1 := by omega
      clear hG hS hbx hX2 hY2 s0 s1 s2 s3 s4 s5
      obtain ⟨wo, rfl⟩ : ∃ wo : World, wo = wc := ⟨_, rfl⟩
      go_wp2_with fail
      go_region_held3 (fun w' => w'.cell? ⟨g, 0, none⟩ = some (.bool (ineg (sgn neg1 x1 * sgn false y3 + sgn neg3 x3 * sgn false y1))) ∧ w'.cell? ⟨g, 1, none⟩ = some (.slice C cn cc) ∧ w'.cell? ⟨w.heap.size, 2, none⟩ = some (.slice B1 m1 d1) ∧ w'.cell? ⟨w.heap.size + 1, 2, none⟩ = some (.slice B3 m3 d3))
        (go_keep)
        (first
        | (go_at_call 71; go_must ((refine (mul_any B1 B3 m1 m3 d1 d3 y1 y3 _ (by exact HD.out.1) (by exact HD.out.2) (by omega) (by omega)).mono ?_); rintro e w4 ⟨C4, k4, e4, rfl, r4, hc4, hb4⟩; have HB4 := Lib.hid (show Below wo.heap.size wo w4 from ⟨hb4.os, hb4.tape, hb4.output, hb4.size, hb4.block⟩); have lk4 : k4 ≤ 1000000 := (by rw [← r4.ulen]; exact ld); have HS4 := Lib.hid (HSc.out.on HB4.out); have HM4 := Lib.hid r4; have G4 := HGb.out.below HB4.out; have X4 := HX2.out.below HB4.out; have Y4 := HY2.out.below HB4.out; have t0 := G4.c (i := 0) rfl; have t1 := G4.c (i := 1) rfl; have t2 := X4.c (i := 2) rfl; have t3 := Y4.c (i := 2) rfl; have HG4 := Lib.hid G4; have HX4 := Lib.hid X4; have HY4 := Lib.hid Y4; clear r4 hb4 G4 X4 Y4))
        | (go_at_call 69; go_must ((refine (HR.out _ C cn cc C4 k4 e4 HS4.out hcc lc HM4.out hc4 lk4).mono ?_); rintro e w5 ⟨Cf, nf, cf, Ef, mf, df, rfl, rf1, rf2, rf3, rf4, hb5⟩; have HB5 := Lib.hid (HB4.out.trans (hb5.mono HB4.out.size)); have Zf := HZ2.out.below HB5.out; have HF := Lib.hid (rat_end rf1 rf2 rf3 rf4 Zf (by simp) (HBt.out.trans (HB5.out.mono HBt.out.size)) (by omega)); have k0 := Zf.c (i := 0) rfl; have k1 := Zf.c (i := 1) rfl; have k2 := Zf.c (i := 2) rfl; have y0' := Zf.frozen 0; have y1' := Zf.frozen 1; have y2' := Zf.frozen 2; have G5 := HG4.out.below hb5; have X5 := HX4.out.below hb5; have Y5 := HY4.out.below hb5; have p0 := G5.c (i := 0) rfl; have p1 := G5.c (i := 1) rfl; have p2 := X5.c (i := 2) rfl; have p3 := Y5.c (i := 2) rfl; clear rf1 rf3 Zf hb5 G5 X5 Y5)))
      go_wp2_with fail
      refine bodyPost_ret (v := .agg #[.bool (ineg (p + q).num), .slice Cf nf cf, .slice Ef mf df]) (by simp [results, Tryz.results35, go_sem, k0, k1, k2]) rfl ?_
      exact HF.out
end Go.Proofs.YtjiccijfbpkliaaGreatDoor

/- ratio.Text returns the text of a ratio. Conditions: Std; numbers of at most 100,000 limbs. -/
namespace Go.Proofs.YtjiccijfbpkliaaGreatDoor
open Go.RowKit
open Go.Lib hiding intOf

/-- The text of a ratio. -/
def ratText (q : Rat) : List UInt8 := if q.den = 1 then itoa q.num else itoa q.num ++ ([47] ++ decDigits q.den)
theorem itoa_len (i : Int) : (itoa i).length ≤ 10 * nl i.natAbs + 2 := by
  have := nDigits_nl i.natAbs
  cases h : ineg i
  · rw [itoa_pos' h, decDigits_length]
    omega
  · rw [itoa_neg' h, List.length_cons, decDigits_length]
    omega
theorem slash_add (i : Int) (d : Nat) (hi : nl i.natAbs ≤ 100000) (hd : nl d ≤ 100000) : ∃ I D y p : ByteArray, (⟨(itoa i).toArray⟩ : ByteArray) = I ∧ (⟨(decDigits d).toArray⟩ : ByteArray) = D ∧ (∀ W, (Op.stringOp .add I ⟨#[47]⟩).run Tryz.prog W = .ok (.string y) W) ∧ (∀ W, (Op.stringOp .add y D).run Tryz.prog W = .ok (.string p) W) ∧ p = ⟨(itoa i ++ ([47] ++ decDigits d)).toArray⟩ := by
  have h1 := itoa_len i
  have h2 := nDigits_nl d
  have e1 : (⟨(itoa i).toArray⟩ : ByteArray).size = (itoa i).length := rfl
  refine ⟨_, _, ⟨(itoa i).toArray⟩ ++ ⟨#[47]⟩, ⟨(itoa i).toArray⟩ ++ ⟨#[47]⟩ ++ ⟨(decDigits d).toArray⟩, rfl, rfl, fun W => run_string_add_sum W _ _ (by show (itoa i).length + 1 ≤ _; omega), fun W => run_string_add_sum W _ _ ?_, ?_⟩
  · rw [ByteArray.size_append, dec_size, e1]
    show (itoa i).length + 1 + _ ≤ _
    omega
  · apply eq_of_data
    simp [ByteArray.data_append]
theorem cmp_one {d : Nat} : (cmpN d 1 == 0) = decide (d = 1) := by
  rcases Nat.lt_trichotomy d 1 with h | h | h
  · rw [cmpN_lt h]
    have : d ≠ 1 := by omega
    simp [this]
  · subst h; rfl
  · rw [cmpN_gt h]
    have : d ≠ 1 := by omega
    simp [this]

set_option maxRecDepth 100000 in
set_option maxHeartbeats 3200000 in
theorem rtext_any (v : Value) (k : Nat) (q : Rat) (w : World) (hw : Std w) (ha : RatA w v k q) (hk : 1 ≤ k) (hk2 : k ≤ 100000) :
    Calls Tryz.prog 55 #[v] w (RetT (ratText q) w) := by
  have hqk := ha.qk hk
  have HA := Lib.hid (And.intro ha hw)
  have hN0 := fun W (hB : Below w.heap.size w W) => rnorm_any v k q W (ha.on hB) hk hk2
  obtain ⟨neg, A, n, c, B, m, d, x, y, rfl, _, _, _, _, _⟩ := ha
  have HN0 := Lib.hid hN0
  have hB : Below w.heap.size w (w.alloc (.cells #[.bool neg, .slice A n c, .slice B m d] 36)) := (Below.refl _ _).alloc (Nat.le_refl _) _
  have X0 := Blk.new w 36 #[.bool neg, .slice A n c, .slice B m d]
  clear hN0
  go_enter Tryz.func55, Tryz.ntmps55
  go_wp2_with fail
  refine (HN0.out _ hB).mono ?_
  rintro e w1 ⟨A1, n1, c1, B1, m1, d1, rfl, r1, r2, r3, r4, hb1⟩
  have X1 := X0.below hb1
  have hN := NoU.blk X1 (by simp)
  have HP := Lib.hid (X1.put3 (.bool (ineg q.num)) (.slice A1 n1 c1) (.slice B1 m1 d1))
  have HS := Lib.hid (And.intro (r1.no3 hN (u0 := .bool (ineg q.num)) (u1 := .slice A1 n1 c1) (.slice B1 m1 d1)) (r3.no3 hN (u0 := .bool (ineg q.num)) (u1 := .slice A1 n1 c1) (.slice B1 m1 d1)))
  have HB := Lib.hid (below3 (hB.trans (hb1.mono hB.size)) (r := w.heap.size) (Nat.le_refl _) (.bool (ineg q.num)) (.slice A1 n1 c1) (.slice B1 m1 d1))
  have f0 := X1.c (i := 0) rfl
  have f1 := X1.c (i := 1) rfl
  have f2 := X1.c (i := 2) rfl
  have z0 := X1.frozen 0
  have z1 := X1.frozen 1
  have z2 := X1.frozen 2
  have ln : n1 ≤ 100000 := by rw [← r1.ulen]; exact Nat.le_trans hqk.1 hk2
  have lm : m1 ≤ 100000 := by rw [← r3.ulen]; exact Nat.le_trans hqk.2 hk2
  clear X0 X1 hN r1 r3 hb1 hB
  go_upto_region 2 with fail
  go_cut [9] (fun s9 wx => s9 = .bool (decide (q.den = 1)) ∧ Blk wx w.heap.size 36 #[.bool (ineg q.num), .slice A1 n1 c1, .slice B1 m1 d1] ∧ Sl wx wx.heap.size A1 n1 (u32s (limbs q.num.natAbs)) ∧ Sl wx wx.heap.size B1 m1 (u32s (limbs q.den)) ∧ Below w.heap.size w wx)
  case first =>
    generalize hW : ((w1.setCell ⟨w.heap.size, 0, none⟩ (Value.bool (ineg q.num))).setCell ⟨w.heap.size, 1, none⟩ (Value.slice A1 n1 c1)).setCell ⟨w.heap.size, 2, none⟩ (Value.slice B1 m1 d1) = W at *
    have v2 := HP.out.c (i := 2) rfl
    have HC := Lib.hid (cmp_one (d := q.den))
    clear hW f0 f1 f2 z0 z1 z2
    go_region_held3 (fun w' => w'.cell? ⟨w.heap.size, 2, none⟩ = some (.slice B1 m1 d1))
      (go_keep)
      (first
      | (go_at_call 92; go_must ((refine (of_any 1 _ (by omega)).mono ?_); rintro e w2 ⟨O, on, oc, rfl, o1, o2, hb2⟩; have HB2 := Lib.hid (show Below W.heap.size W w2 from ⟨hb2.os, hb2.tape, hb2.output, hb2.size, hb2.block⟩); have P2 := HP.out.below HB2.out; have t2 := P2.c (i := 2) rfl; have HO := Lib.hid o1; have lo : on ≤ 1 := (by rw [← o1.ulen]; exact nl_small (by unfold bs; omega)); clear hb2 o1 P2))
      | (go_at_call 91; go_must ((refine (cmp_any B1 O m1 on d1 oc q.den 1 _ (by exact .of_limbs (HS.out.2.on HB2.out) r4) (by exact .of_limbs HO.out o2) (by omega) (by omega)).mono ?_); rintro e w3 ⟨rfl, nq, rfl⟩)))
    all_goals
      go_wp2_with fail
      go_meet
      exact ⟨by rw [HC.out], HP.out.below (below_drewN HB2.out nq), HS.out.1.on (below_drewN HB2.out nq), HS.out.2.on (below_drewN HB2.out nq), HB.out.trans ((below_drewN HB2.out nq).mono HB.out.size)⟩
  case rest =>
    obtain ⟨rfl, hX, hS1, hS2, hbel⟩ := hcut
    clear HP HS HB f0 f1 f2 z0 z1 z2
    have g0 := hX.c (i := 0) rfl
    have g1 := hX.c (i := 1) rfl
    have g2 := hX.c (i := 2) rfl
    have HT := Lib.hid (itext_any (ineg q.num) A1 n1 c1 q.num.natAbs _ (HA.out.2.below hbel) (.of_limbs hS1 r2) (by omega))
    have HX := Lib.hid hX
    have HS := Lib.hid (And.intro hS1 hS2)
    clear hX hS1 hS2
    by_cases h1 : q.den = 1
    · have hd : decide (q.den = 1) = true := by simpa using h1
      have HE : Hid (ratText q = itoa q.num) := by rw [Hid, ratText, if_pos h1]
      rw [hd]
      clear hd h1
      go_wp2_with (go_at_call 93; go_must ((refine HT.out.mono ?_); rintro e w2 ⟨rfl, hb2⟩; rw [sgn_self]))
      go_ret
      exact ⟨by rw [HE.out]; rfl, hbel.trans (hb2.mono hbel.size)⟩
    · have hd : decide (q.den = 1) = false := by simpa using h1
      have HE : Hid (ratText q = itoa q.num ++ ([47] ++ decDigits q.den)) := by rw [Hid, ratText, if_neg h1]
      obtain ⟨I, D, y', p, hI, hD, ha1, ha2, hp⟩ := slash_add q.num q.den (Nat.le_trans hqk.1 hk2) (Nat.le_trans hqk.2 hk2)
      have HI := Lib.hid (And.intro hI (And.intro hD hp))
      rw [hd]
      clear hd h1 hI hD hp
      obtain ⟨wo, rfl⟩ : ∃ wo : World, wo = wc := ⟨_, rfl⟩
      go_wp2_with fail
      go_region_held3 (fun w' => w'.cell? ⟨w.heap.size, 0, none⟩ = some (.bool (ineg q.num)) ∧ w'.cell? ⟨w.heap.size, 1, none⟩ = some (.slice A1 n1 c1) ∧ w'.cell? ⟨w.heap.size, 2, none⟩ = some (.slice B1 m1 d1))
        (go_keep)
        (first
        | (go_at_call 93; go_must ((refine (itext_any (ineg q.num) A1 n1 c1 q.num.natAbs _ (by exact HA.out.2.below hbel.drew) (by exact .of_limbs HS.out.1 r2) (by omega)).mono ?_); rintro e w2 ⟨rfl, hb2⟩; rw [sgn_self, HI.out.1]; have HB2 := Lib.hid (show Below wo.heap.size wo w2 from ⟨hb2.os, hb2.tape, hb2.output, hb2.size, hb2.block⟩); have X2 := HX.out.below HB2.out; have t0 := X2.c (i := 0) rfl; have t1 := X2.c (i := 1) rfl; have t2 := X2.c (i := 2) rfl; clear hb2 X2))
        | (go_at_call 94; go_must ((refine (text_any B1 m1 d1 q.den _ (by exact (HA.out.2.below hbel).below HB2.out) (by exact .of_limbs (HS.out.2.on HB2.out) r4) (by omega)).mono ?_); rintro e w3 ⟨rfl, hb3⟩; rw [HI.out.2.1]; have HB3 := Lib.hid (HB2.out.trans (hb3.mono HB2.out.size)); have X3 := HX.out.below HB3.out; have u0 := X3.c (i := 0) rfl; have u1 := X3.c (i := 1) rfl; have u2 := X3.c (i := 2) rfl; clear hb3 X3)))
      go_wp2_with fail
      go_ret
      exact ⟨by rw [HE.out, ← HI.out.2.2]; rfl, hbel.trans (HB3.out.mono hbel.size)⟩
end Go.Proofs.YtjiccijfbpkliaaGreatDoor

/- ratio.Parse returns the ratio that a text denotes, or the error. Conditions: Std; a text of at most 1,000,000 bytes. -/
namespace Go.Proofs.YtjiccijfbpkliaaGreatDoor
open Go.RowKit
open Go.Lib hiding intOf

/-- The error of a ratio's text. -/
def ratE (l : List UInt8) : Int :=
  if intE (cut l [47]).1 ≠ 0 then intE (cut l [47]).1
  else if (cut l [47]).2.2 = false then 0
  else if natE (cut l [47]).2.1 ≠ 0 then natE (cut l [47]).2.1
  else if valD (cut l [47]).2.1 ≤ 1 ∨ (intV (cut l [47]).1).natAbs.gcd (valD (cut l [47]).2.1) ≠ 1 then 2 else 0
/-- The ratio that a text denotes. -/
def ratV (l : List UInt8) : Rat := rv (intV (cut l [47]).1) (if (cut l [47]).2.2 = true then valD (cut l [47]).2.1 else 1)
/-- A ratio in normal form and no error come back. -/
def RetQ0 (q : Rat) (w : World) (e : Ending) (w' : World) : Prop :=
  ∃ A n c B m d, e = .returned (.tuple #[.agg #[.bool (ineg q.num), .slice A n c, .slice B m d], .int .i64 0]) ∧ Sl w' w'.heap.size A n (u32s (limbs q.num.natAbs)) ∧ n ≤ c ∧ Sl w' w'.heap.size B m (u32s (limbs q.den)) ∧ m ≤ d ∧ Below w.heap.size w w'
/-- An error comes back. -/
def RetQx (err : Int) (w : World) (e : Ending) (w' : World) : Prop := e = .returned (.tuple #[.agg #[.bool false, .slice none 0 0, .slice none 0 0], .int .i64 err]) ∧ Below w.heap.size w w'
/-- The one or the other. -/
def RetQE (err : Int) (q : Rat) (w : World) (e : Ending) (w' : World) : Prop := (err = 0 → RetQ0 q w e w') ∧ (err ≠ 0 → RetQx err w e w')
theorem RetQE.bad {err : Int} {q : Rat} {w w' : World} (h0 : err ≠ 0) (hb : Below w.heap.size w w') : RetQE err q w (.returned (.tuple #[.agg #[.bool false, .slice none 0 0, .slice none 0 0], .int .i64 err])) w' := ⟨fun h => absurd h h0, fun _ => ⟨rfl, hb⟩⟩
theorem RetQE.good {q : Rat} {w w' : World} {v : Value} (h : RetQ0 q w (.returned v) w') : RetQE 0 q w (.returned v) w' := ⟨fun _ => h, fun h0 => absurd rfl h0⟩
theorem RetQ0.of {q : Rat} {w w' : World} {v : Value} (h : RetQ q w (.returned v) w') : RetQ0 q w (.returned (.tuple #[v, .int .i64 0])) w' := by
  obtain ⟨A, n, c, B, m, d, he, h1⟩ := h
  injection he with he
  subst he
  exact ⟨A, n, c, B, m, d, rfl, h1⟩
theorem cutQ (s p d : ByteArray) (f : Bool) (w : World) (hw : Std w) (hs : s.size ≤ 1000000) (h : cut s.data.toList [47] = (p.data.toList, d.data.toList, f)) :
    Calls Tryz.prog 59 #[.string s, .string ⟨#[47]⟩] w fun e w' => e = .returned (.tuple #[.string p, .string d, .bool f]) ∧ ∃ n, w' = w.drewN n := by
  obtain ⟨⟨m, hm⟩, _⟩ := hw
  refine (Tryz.strings_Cut s ⟨#[47]⟩ m w (by omega) hm).mono fun e w' ⟨he, hn⟩ => ⟨?_, hn⟩
  rw [he]
  have e1 : (⟨#[47]⟩ : ByteArray).data.toList = [47] := rfl
  rw [e1, h, mk_data, mk_data]
theorem cut_len (l : List UInt8) : (cut l [47]).1.length ≤ l.length ∧ (cut l [47]).2.1.length ≤ l.length := by
  unfold cut
  split
  · simp only [List.length_take, List.length_drop]
    omega
  · simp
theorem natE_zero {l : List UInt8} (h : natE l = 0) : l.length ≤ 200 ∧ digOk l = true := by
  unfold natE at h
  split at h
  · cases h
  · split at h
    · exact ⟨by omega, by assumption⟩
    · cases h
theorem intV_nl (l : List UInt8) : nl (intV l).natAbs ≤ 200 := by
  unfold intV
  split
  · rename_i h
    rw [sgn_abs]
    have h0 : natE (trimPrefix l [45]) = 0 := by
      unfold intE at h
      split at h
      · exact absurd h (by assumption)
      · rename_i h1
        simpa using h1
    obtain ⟨h1, h2⟩ := natE_zero h0
    apply nl_le
    have h3 := valD_lt _ (digOk_iff.1 h2).2.2
    exact Nat.lt_of_lt_of_le h3 (Nat.le_trans (Nat.pow_le_pow_right (by omega) h1) (Nat.pow_le_pow_left (by unfold bs; omega) _))
  · show nl 0 ≤ 200
    rw [nl_zero]
    omega

set_option maxRecDepth 100000 in
set_option maxHeartbeats 3200000 in
theorem rparse_walk (s p d : ByteArray) (f : Bool) (w : World) (hw : Std w) (hs : s.size ≤ 1000000) (h : cut s.data.toList [47] = (p.data.toList, d.data.toList, f)) :
    Calls Tryz.prog 101 #[.string s] w (RetQE (ratE s.data.toList) (ratV s.data.toList) w) := by
  have hlen := cut_len s.data.toList
  rw [h] at hlen
  simp only at hlen
  have hp : p.size ≤ 1000000 := by rw [size_eq]; have := size_eq s; omega
  have hd : d.size ≤ 1000000 := by rw [size_eq]; have := size_eq s; omega
  have hB : Below w.heap.size w (w.alloc (.cells #[.bool false, .slice none 0 0, .slice none 0 0] 36)) := (Below.refl _ _).alloc (Nat.le_refl _) _
  have X0 := Blk.new w 36 #[.bool false, .slice none 0 0, .slice none 0 0]
  have HCut := Lib.hid (cutQ s p d f _ (hw.below hB) hs h)
  have HP := fun W => iparse_any p W (by omega)
  have HD := fun W => nparse_any d W (by omega)
  have hiv := intV_nl p.data.toList
  obtain ⟨E, hE⟩ : ∃ E, intE p.data.toList = E := ⟨_, rfl⟩
  obtain ⟨i, hi⟩ : ∃ i, intV p.data.toList = i := ⟨_, rfl⟩
  obtain ⟨F, hF⟩ : ∃ F, natE d.data.toList = F := ⟨_, rfl⟩
  obtain ⟨y, hy⟩ : ∃ y, natV d.data.toList = y := ⟨_, rfl⟩
  simp only [hE, hi] at HP
  simp only [hF, hy] at HD
  rw [hi] at hiv
  have HP := Lib.hid HP
  have HD := Lib.hid HD
  have HR : Hid (ratE s.data.toList = if E ≠ 0 then E else if f = false then 0 else if F ≠ 0 then F else if valD d.data.toList ≤ 1 ∨ i.natAbs.gcd (valD d.data.toList) ≠ 1 then 2 else 0) := by
    rw [Hid, ratE, h]
    simp only [hE, hi, hF]
  have HV : Hid (ratV s.data.toList = rv i (if f = true then valD d.data.toList else 1)) := by
    rw [Hid, ratV, h]
    simp only [hi]
  have HY : Hid (F = 0 → valD d.data.toList = y ∧ nl y ≤ 200) := by
    intro h0
    have h1 : natE d.data.toList = 0 := by rw [hF]; exact h0
    rw [← hy, natV, if_pos h1]
    refine ⟨rfl, nl_le ?_⟩
    obtain ⟨h2, h3⟩ := natE_zero h1
    have h4 := valD_lt _ (digOk_iff.1 h3).2.2
    exact Nat.lt_of_lt_of_le h4 (Nat.le_trans (Nat.pow_le_pow_right (by omega) h2) (Nat.pow_le_pow_left (by unfold bs; omega) _))
  generalize ratE s.data.toList = rE at *
  generalize ratV s.data.toList = rV at *
  clear hE hi hF hy h hlen hw
  by_cases hE0 : E = 0
  · subst hE0
    cases f
    · have HR0 : Hid (rE = 0) := by rw [Hid, HR.out, if_neg (by simp), if_pos rfl]
      obtain ⟨q1, q2⟩ := rv_one i
      have HV0 : Hid (rV = rv i 1) := by rw [Hid, HV.out]; rfl
      have HQ := Lib.hid (And.intro q1 q2)
      clear q1 q2
      go_enter Tryz.func101, Tryz.ntmps101
      go_wp2_with (first
        | (go_at_call 59; go_must ((refine HCut.out.mono ?_); rintro e w' ⟨rfl, nq, rfl⟩))
        | (go_at_call 134; go_must ((refine (HP.out _).mono ?_); rintro e w1 ⟨A1, n1, c1, rfl, r1, hc1, hb1⟩; have HB1 := Lib.hid (hB.trans (Below.mono (show Below (w.alloc (.cells #[.bool false, .slice none 0 0, .slice none 0 0] 36)).heap.size (w.alloc (.cells #[.bool false, .slice none 0 0, .slice none 0 0] 36)) w1 from ⟨hb1.os, hb1.tape, hb1.output, hb1.size, hb1.block⟩) hB.size)); have X1 := X0.below (w' := w1) ⟨hb1.os, hb1.tape, hb1.output, hb1.size, hb1.block⟩; have HS1 := Lib.hid r1; have HX1 := Lib.hid X1; clear r1 hb1 X1))
        | (go_at_call 92; go_must ((refine (of_any 1 _ (by omega)).mono ?_); rintro e w2 ⟨O, on, oc, rfl, o1, o2, hb2⟩; have X2 := (HX1.out.alloc (.cells #[.bool (ineg i), .slice A1 n1 c1] 34)).below hb2; have Z2 := (Blk.new w1 34 #[.bool (ineg i), .slice A1 n1 c1]).below hb2; have HB2 := Lib.hid ((HB1.out.alloc HB1.out.size (.cells #[.bool (ineg i), .slice A1 n1 c1] 34)).trans (hb2.mono (Nat.le_trans HB1.out.size (by simp)))); have HS2 := Lib.hid (HS1.out.on (((Below.refl _ _).alloc (Nat.le_refl _) _).trans (hb2.mono (by simp)))); have HO := Lib.hid o1; have f0 := X2.c (i := 0) rfl; have f1 := X2.c (i := 1) rfl; have f2 := X2.c (i := 2) rfl; have z0 := X2.frozen 0; have z1 := X2.frozen 1; have z2 := X2.frozen 2; have g0 := Z2.c (i := 0) rfl; have g1 := Z2.c (i := 1) rfl; have HX2 := Lib.hid X2; have HZ2 := Lib.hid Z2; clear o1 hb2 X2 Z2)))
      have HF := Lib.hid (rat_end (q := rv i 1) (w := w) (by rw [HQ.out.1]; exact HS2.out) hc1 (by rw [HQ.out.2]; exact HO.out) o2 HX2.out (by simp) HB2.out (Nat.le_refl _))
      refine bodyPost_ret (v := .tuple #[.agg #[.bool (ineg i), .slice A1 n1 c1, .slice O on oc], .int .i64 0]) (by simp [results, Tryz.results101, go_sem, f0, f1, f2]) rfl ?_
      have hF := HF.out
      rw [HQ.out.1] at hF
      rw [HR0.out, HV0.out]
      exact RetQE.good (RetQ0.of hF)
    · by_cases hF0 : F = 0
      · subst hF0
        obtain ⟨y1, y2⟩ := HY.out rfl
        have HR0 : Hid (rE = if y ≤ 1 ∨ i.natAbs.gcd y ≠ 1 then 2 else 0) := by rw [Hid, HR.out, if_neg (by simp), if_neg (by simp), if_neg (by simp), y1]
        have HV0 : Hid (rV = rv i y) := by rw [Hid, HV.out, if_pos rfl, y1]
        clear y1
        by_cases hy1 : y ≤ 1
        · have hc : cmpN y 1 ≤ 0 := by
            rcases Nat.lt_or_ge y 1 with h | h
            · rw [cmpN_lt h]; omega
            · rw [cmpN_eq (by omega)]; omega
          have HR1 : Hid (rE = 2) := by rw [Hid, HR0.out, if_pos (.inl hy1)]
          obtain ⟨cv, hcv⟩ : ∃ cv, cmpN y 1 = cv := ⟨_, rfl⟩
          rw [hcv] at hc
          have HC1 := Lib.hid hcv
          clear hcv
          go_enter Tryz.func101, Tryz.ntmps101
          go_wp2_with (first
                | (go_at_call 59; go_must ((refine HCut.out.mono ?_); rintro e w' ⟨rfl, nq, rfl⟩))
                | (go_at_call 134; go_must ((refine (HP.out _).mono ?_); rintro e w1 ⟨A1, n1, c1, rfl, r1, hc1, hb1⟩; have HB1 := Lib.hid (hB.trans (Below.mono (show Below (w.alloc (.cells #[.bool false, .slice none 0 0, .slice none 0 0] 36)).heap.size (w.alloc (.cells #[.bool false, .slice none 0 0, .slice none 0 0] 36)) w1 from ⟨hb1.os, hb1.tape, hb1.output, hb1.size, hb1.block⟩) hB.size)); have X1 := X0.below (w' := w1) ⟨hb1.os, hb1.tape, hb1.output, hb1.size, hb1.block⟩; have HS1 := Lib.hid r1; have HX1 := Lib.hid X1; clear r1 hb1 X1))
                | (go_at_call 92; go_must ((refine (of_any 1 _ (by omega)).mono ?_); rintro e w2 ⟨O, on, oc, rfl, o1, o2, hb2⟩; have X2 := (HX1.out.alloc (.cells #[.bool (ineg i), .slice A1 n1 c1] 34)).below hb2; have Z2 := (Blk.new w1 34 #[.bool (ineg i), .slice A1 n1 c1]).below hb2; have HB2 := Lib.hid ((HB1.out.alloc HB1.out.size (.cells #[.bool (ineg i), .slice A1 n1 c1] 34)).trans (hb2.mono (Nat.le_trans HB1.out.size (by simp)))); have HS2 := Lib.hid (HS1.out.on (((Below.refl _ _).alloc (Nat.le_refl _) _).trans (hb2.mono (by simp)))); have HO := Lib.hid o1; have f0 := X2.c (i := 0) rfl; have f1 := X2.c (i := 1) rfl; have f2 := X2.c (i := 2) rfl; have z0 := X2.frozen 0; have z1 := X2.frozen 1; have z2 := X2.frozen 2; have g0 := Z2.c (i := 0) rfl; have g1 := Z2.c (i := 1) rfl; have HX2 := Lib.hid X2; have HZ2 := Lib.hid Z2; clear o1 hb2 X2 Z2))
                | (go_at_call 135; go_must ((refine (HD.out _).mono ?_); rintro e w3 ⟨A3, n3, c3, rfl, r3, hc3, hb3⟩; have X3 := HX2.out.below hb3; have Z3 := HZ2.out.below hb3; have HB3 := Lib.hid (HB2.out.trans (hb3.mono HB2.out.size)); have HS3 := Lib.hid (HS2.out.on hb3); have HO3 := Lib.hid (HO.out.on hb3); have HD3 := Lib.hid r3; have f0 := X3.c (i := 0) rfl; have f1 := X3.c (i := 1) rfl; have f2 := X3.c (i := 2) rfl; have z0 := X3.frozen 0; have z1 := X3.frozen 1; have z2 := X3.frozen 2; have g0 := Z3.c (i := 0) rfl; have g1 := Z3.c (i := 1) rfl; have HX3 := Lib.hid X3; have HZ3 := Lib.hid Z3; clear r3 hb3 X3 Z3))
                | (go_at_call_of 91 (Value.slice A3 n3 c3); go_must ((refine (cmp_any A3 O n3 on c3 oc y 1 _ (.of_limbs HD3.out hc3) (.of_limbs HO3.out o2) (by rw [← HD3.out.ulen]; exact Nat.le_trans y2 (by omega)) (by rw [← HO3.out.ulen]; exact Nat.le_trans (nl_small (by unfold bs; omega)) (by omega))).mono ?_); rintro e w' ⟨rfl, nq2, rfl⟩; rw [HC1.out])))
          refine bodyPost_ret (v := .tuple #[.agg #[.bool false, .slice none 0 0, .slice none 0 0], .int .i64 2]) (by simp [results, Tryz.results101, go_sem, f0, f1, f2]) rfl ?_
          rw [HR1.out]
          exact RetQE.bad (by omega) (below3 (below_drewN HB3.out nq2) (Nat.le_refl _) _ _ _)
        · have HC1 := Lib.hid (cmpN_gt (by omega : 1 < y))
          have hg0 : 0 < i.natAbs.gcd y := gcd_pos' (by omega)
          have hgl : nl (i.natAbs.gcd y) ≤ 1000000 := by
            have := nl_mono (Nat.gcd_le_right i.natAbs (by omega : 0 < y))
            omega
          by_cases hg1 : i.natAbs.gcd y = 1
          · have HR1 : Hid (rE = 0) := by
              rw [Hid, HR0.out, if_neg]
              rintro (h | h)
              · exact hy1 h
              · exact h hg1
            obtain ⟨q1, q2⟩ := rv_coprime (i := i) (d := y) (by omega) hg1
            have HQ := Lib.hid (And.intro q1 q2)
            have HC2 := Lib.hid (cmpN_eq hg1)
            clear q1 q2 hg1
            go_enter Tryz.func101, Tryz.ntmps101
            go_wp2_with (first
                | (go_at_call 59; go_must ((refine HCut.out.mono ?_); rintro e w' ⟨rfl, nq, rfl⟩))
                | (go_at_call 134; go_must ((refine (HP.out _).mono ?_); rintro e w1 ⟨A1, n1, c1, rfl, r1, hc1, hb1⟩; have HB1 := Lib.hid (hB.trans (Below.mono (show Below (w.alloc (.cells #[.bool false, .slice none 0 0, .slice none 0 0] 36)).heap.size (w.alloc (.cells #[.bool false, .slice none 0 0, .slice none 0 0] 36)) w1 from ⟨hb1.os, hb1.tape, hb1.output, hb1.size, hb1.block⟩) hB.size)); have X1 := X0.below (w' := w1) ⟨hb1.os, hb1.tape, hb1.output, hb1.size, hb1.block⟩; have HS1 := Lib.hid r1; have HX1 := Lib.hid X1; clear r1 hb1 X1))
                | (go_at_call 92; go_must ((refine (of_any 1 _ (by omega)).mono ?_); rintro e w2 ⟨O, on, oc, rfl, o1, o2, hb2⟩; have X2 := (HX1.out.alloc (.cells #[.bool (ineg i), .slice A1 n1 c1] 34)).below hb2; have Z2 := (Blk.new w1 34 #[.bool (ineg i), .slice A1 n1 c1]).below hb2; have HB2 := Lib.hid ((HB1.out.alloc HB1.out.size (.cells #[.bool (ineg i), .slice A1 n1 c1] 34)).trans (hb2.mono (Nat.le_trans HB1.out.size (by simp)))); have HS2 := Lib.hid (HS1.out.on (((Below.refl _ _).alloc (Nat.le_refl _) _).trans (hb2.mono (by simp)))); have HO := Lib.hid o1; have f0 := X2.c (i := 0) rfl; have f1 := X2.c (i := 1) rfl; have f2 := X2.c (i := 2) rfl; have z0 := X2.frozen 0; have z1 := X2.frozen 1; have z2 := X2.frozen 2; have g0 := Z2.c (i := 0) rfl; have g1 := Z2.c (i := 1) rfl; have HX2 := Lib.hid X2; have HZ2 := Lib.hid Z2; clear o1 hb2 X2 Z2))
                | (go_at_call 135; go_must ((refine (HD.out _).mono ?_); rintro e w3 ⟨A3, n3, c3, rfl, r3, hc3, hb3⟩; have X3 := HX2.out.below hb3; have Z3 := HZ2.out.below hb3; have HB3 := Lib.hid (HB2.out.trans (hb3.mono HB2.out.size)); have HS3 := Lib.hid (HS2.out.on hb3); have HO3 := Lib.hid (HO.out.on hb3); have HD3 := Lib.hid r3; have f0 := X3.c (i := 0) rfl; have f1 := X3.c (i := 1) rfl; have f2 := X3.c (i := 2) rfl; have z0 := X3.frozen 0; have z1 := X3.frozen 1; have z2 := X3.frozen 2; have g0 := Z3.c (i := 0) rfl; have g1 := Z3.c (i := 1) rfl; have HX3 := Lib.hid X3; have HZ3 := Lib.hid Z3; clear r3 hb3 X3 Z3))
                | (go_at_call_of 91 (Value.slice A3 n3 c3); go_must ((refine (cmp_any A3 O n3 on c3 oc y 1 _ (.of_limbs HD3.out hc3) (.of_limbs HO3.out o2) (by rw [← HD3.out.ulen]; exact Nat.le_trans y2 (by omega)) (by rw [← HO3.out.ulen]; exact Nat.le_trans (nl_small (by unfold bs; omega)) (by omega))).mono ?_); rintro e w' ⟨rfl, nq2, rfl⟩; rw [HC1.out]))
                | (go_at_call 104; go_must ((refine (gcd_any A1 A3 n1 n3 c1 c3 i.natAbs y _ (NatA.drewN (.of_limbs HS3.out hc1) nq2) (NatA.drewN (.of_limbs HD3.out hc3) nq2) (by rw [← HS3.out.ulen]; exact Nat.le_trans hiv (by omega)) (by rw [← HD3.out.ulen]; exact Nat.le_trans y2 (by omega))).mono ?_); rintro e w4 ⟨G, gn, gc, rfl, hG, hgc, hb4⟩; have HB34 := Lib.hid (show Below w3.heap.size w3 w4 from ⟨hb4.os, hb4.tape, hb4.output, hb4.size, hb4.block⟩); have X4 := HX3.out.below HB34.out; have Z4 := HZ3.out.below HB34.out; have f0 := X4.c (i := 0) rfl; have f1 := X4.c (i := 1) rfl; have f2 := X4.c (i := 2) rfl; have z0 := X4.frozen 0; have z1 := X4.frozen 1; have z2 := X4.frozen 2; have g0 := Z4.c (i := 0) rfl; have g1 := Z4.c (i := 1) rfl; have HG := Lib.hid hG; have HX4 := Lib.hid X4; clear hG hb4 X4 Z4))
                | (go_at_call 91; go_must ((refine (cmp_any G O gn on gc oc (i.natAbs.gcd y) 1 _ (.of_limbs HG.out hgc) (.of_limbs (HO3.out.on HB34.out) o2) (by rw [← HG.out.ulen]; exact hgl) (by rw [← HO3.out.ulen]; exact Nat.le_trans (nl_small (by unfold bs; omega)) (by omega))).mono ?_); rintro e w' ⟨rfl, nq3, rfl⟩; rw [HC2.out])))
            have hB4 := HB3.out.trans (HB34.out.mono HB3.out.size)
            have HF := Lib.hid (rat_end (q := rv i y) (w := w) (by rw [HQ.out.1]; exact HS3.out.on (below_drewN HB34.out nq3)) hc1 (by rw [HQ.out.2]; exact HD3.out.on (below_drewN HB34.out nq3)) hc3 (HX4.out.drewN nq3) (by simp) (below_drewN hB4 nq3) (Nat.le_refl _))
            refine bodyPost_ret (v := .tuple #[.agg #[.bool (ineg i), .slice A1 n1 c1, .slice A3 n3 c3], .int .i64 0]) (by simp [results, Tryz.results101, go_sem, f0, f1, f2]) rfl ?_
            have hF := HF.out
            rw [HQ.out.1] at hF
            rw [HR1.out, HV0.out]
            exact RetQE.good (RetQ0.of hF)
          · have HR1 : Hid (rE = 2) := by rw [Hid, HR0.out, if_pos (.inr hg1)]
            have HC2 := Lib.hid (cmpN_gt (by omega : 1 < i.natAbs.gcd y))
            go_enter Tryz.func101, Tryz.ntmps101
            go_wp2_with (first
                | (go_at_call 59; go_must ((refine HCut.out.mono ?_); rintro e w' ⟨rfl, nq, rfl⟩))
                | (go_at_call 134; go_must ((refine (HP.out _).mono ?_); rintro e w1 ⟨A1, n1, c1, rfl, r1, hc1, hb1⟩; have HB1 := Lib.hid (hB.trans (Below.mono (show Below (w.alloc (.cells #[.bool false, .slice none 0 0, .slice none 0 0] 36)).heap.size (w.alloc (.cells #[.bool false, .slice none 0 0, .slice none 0 0] 36)) w1 from ⟨hb1.os, hb1.tape, hb1.output, hb1.size, hb1.block⟩) hB.size)); have X1 := X0.below (w' := w1) ⟨hb1.os, hb1.tape, hb1.output, hb1.size, hb1.block⟩; have HS1 := Lib.hid r1; have HX1 := Lib.hid X1; clear r1 hb1 X1))
                | (go_at_call 92; go_must ((refine (of_any 1 _ (by omega)).mono ?_); rintro e w2 ⟨O, on, oc, rfl, o1, o2, hb2⟩; have X2 := (HX1.out.alloc (.cells #[.bool (ineg i), .slice A1 n1 c1] 34)).below hb2; have Z2 := (Blk.new w1 34 #[.bool (ineg i), .slice A1 n1 c1]).below hb2; have HB2 := Lib.hid ((HB1.out.alloc HB1.out.size (.cells #[.bool (ineg i), .slice A1 n1 c1] 34)).trans (hb2.mono (Nat.le_trans HB1.out.size (by simp)))); have HS2 := Lib.hid (HS1.out.on (((Below.refl _ _).alloc (Nat.le_refl _) _).trans (hb2.mono (by simp)))); have HO := Lib.hid o1; have f0 := X2.c (i := 0) rfl; have f1 := X2.c (i := 1) rfl; have f2 := X2.c (i := 2) rfl; have z0 := X2.frozen 0; have z1 := X2.frozen 1; have z2 := X2.frozen 2; have g0 := Z2.c (i := 0) rfl; have g1 := Z2.c (i := 1) rfl; have HX2 := Lib.hid X2; have HZ2 := Lib.hid Z2; clear o1 hb2 X2 Z2))
                | (go_at_call 135; go_must ((refine (HD.out _).mono ?_); rintro e w3 ⟨A3, n3, c3, rfl, r3, hc3, hb3⟩; have X3 := HX2.out.below hb3; have Z3 := HZ2.out.below hb3; have HB3 := Lib.hid (HB2.out.trans (hb3.mono HB2.out.size)); have HS3 := Lib.hid (HS2.out.on hb3); have HO3 := Lib.hid (HO.out.on hb3); have HD3 := Lib.hid r3; have f0 := X3.c (i := 0) rfl; have f1 := X3.c (i := 1) rfl; have f2 := X3.c (i := 2) rfl; have z0 := X3.frozen 0; have z1 := X3.frozen 1; have z2 := X3.frozen 2; have g0 := Z3.c (i := 0) rfl; have g1 := Z3.c (i := 1) rfl; have HX3 := Lib.hid X3; have HZ3 := Lib.hid Z3; clear r3 hb3 X3 Z3))
                | (go_at_call_of 91 (Value.slice A3 n3 c3); go_must ((refine (cmp_any A3 O n3 on c3 oc y 1 _ (.of_limbs HD3.out hc3) (.of_limbs HO3.out o2) (by rw [← HD3.out.ulen]; exact Nat.le_trans y2 (by omega)) (by rw [← HO3.out.ulen]; exact Nat.le_trans (nl_small (by unfold bs; omega)) (by omega))).mono ?_); rintro e w' ⟨rfl, nq2, rfl⟩; rw [HC1.out]))
                | (go_at_call 104; go_must ((refine (gcd_any A1 A3 n1 n3 c1 c3 i.natAbs y _ (NatA.drewN (.of_limbs HS3.out hc1) nq2) (NatA.drewN (.of_limbs HD3.out hc3) nq2) (by rw [← HS3.out.ulen]; exact Nat.le_trans hiv (by omega)) (by rw [← HD3.out.ulen]; exact Nat.le_trans y2 (by omega))).mono ?_); rintro e w4 ⟨G, gn, gc, rfl, hG, hgc, hb4⟩; have HB34 := Lib.hid (show Below w3.heap.size w3 w4 from ⟨hb4.os, hb4.tape, hb4.output, hb4.size, hb4.block⟩); have X4 := HX3.out.below HB34.out; have Z4 := HZ3.out.below HB34.out; have f0 := X4.c (i := 0) rfl; have f1 := X4.c (i := 1) rfl; have f2 := X4.c (i := 2) rfl; have z0 := X4.frozen 0; have z1 := X4.frozen 1; have z2 := X4.frozen 2; have g0 := Z4.c (i := 0) rfl; have g1 := Z4.c (i := 1) rfl; have HG := Lib.hid hG; have HX4 := Lib.hid X4; clear hG hb4 X4 Z4))
                | (go_at_call 91; go_must ((refine (cmp_any G O gn on gc oc (i.natAbs.gcd y) 1 _ (.of_limbs HG.out hgc) (.of_limbs (HO3.out.on HB34.out) o2) (by rw [← HG.out.ulen]; exact hgl) (by rw [← HO3.out.ulen]; exact Nat.le_trans (nl_small (by unfold bs; omega)) (by omega))).mono ?_); rintro e w' ⟨rfl, nq3, rfl⟩; rw [HC2.out])))
            have hB4 := HB3.out.trans (HB34.out.mono HB3.out.size)
            refine bodyPost_ret (v := .tuple #[.agg #[.bool false, .slice none 0 0, .slice none 0 0], .int .i64 2]) (by simp [results, Tryz.results101, go_sem, f0, f1, f2]) rfl ?_
            rw [HR1.out]
            exact RetQE.bad (by omega) (below3 (below_drewN hB4 nq3) (Nat.le_refl _) _ _ _)
      · have HR0 : Hid (rE = F) := by rw [Hid, HR.out, if_neg (by simp), if_neg (by simp), if_pos hF0]
        have hF1 : (F != 0) = true := by simpa using hF0
        go_enter Tryz.func101, Tryz.ntmps101
        go_wp2_with (first
          | (go_at_call 59; go_must ((refine HCut.out.mono ?_); rintro e w' ⟨rfl, nq, rfl⟩))
          | (go_at_call 134; go_must ((refine (HP.out _).mono ?_); rintro e w1 ⟨A1, n1, c1, rfl, r1, hc1, hb1⟩; have HB1 := Lib.hid (hB.trans (Below.mono (show Below (w.alloc (.cells #[.bool false, .slice none 0 0, .slice none 0 0] 36)).heap.size (w.alloc (.cells #[.bool false, .slice none 0 0, .slice none 0 0] 36)) w1 from ⟨hb1.os, hb1.tape, hb1.output, hb1.size, hb1.block⟩) hB.size)); have X1 := X0.below (w' := w1) ⟨hb1.os, hb1.tape, hb1.output, hb1.size, hb1.block⟩; have HS1 := Lib.hid r1; have HX1 := Lib.hid X1; clear r1 hb1 X1))
          | (go_at_call 92; go_must ((refine (of_any 1 _ (by omega)).mono ?_); rintro e w2 ⟨O, on, oc, rfl, o1, o2, hb2⟩; have X2 := (HX1.out.alloc (.cells #[.bool (ineg i), .slice A1 n1 c1] 34)).below hb2; have Z2 := (Blk.new w1 34 #[.bool (ineg i), .slice A1 n1 c1]).below hb2; have HB2 := Lib.hid ((HB1.out.alloc HB1.out.size (.cells #[.bool (ineg i), .slice A1 n1 c1] 34)).trans (hb2.mono (Nat.le_trans HB1.out.size (by simp)))); have HS2 := Lib.hid (HS1.out.on (((Below.refl _ _).alloc (Nat.le_refl _) _).trans (hb2.mono (by simp)))); have HO := Lib.hid o1; have f0 := X2.c (i := 0) rfl; have f1 := X2.c (i := 1) rfl; have f2 := X2.c (i := 2) rfl; have z0 := X2.frozen 0; have z1 := X2.frozen 1; have z2 := X2.frozen 2; have g0 := Z2.c (i := 0) rfl; have g1 := Z2.c (i := 1) rfl; have HX2 := Lib.hid X2; have HZ2 := Lib.hid Z2; clear o1 hb2 X2 Z2))
          | (go_at_call 135; go_must ((refine (HD.out _).mono ?_); rintro e w3 ⟨A3, n3, c3, rfl, r3, hc3, hb3⟩; have X3 := HX2.out.below hb3; have Z3 := HZ2.out.below hb3; have HB3 := Lib.hid (HB2.out.trans (hb3.mono HB2.out.size)); have HS3 := Lib.hid (HS2.out.on hb3); have HO3 := Lib.hid (HO.out.on hb3); have HD3 := Lib.hid r3; have f0 := X3.c (i := 0) rfl; have f1 := X3.c (i := 1) rfl; have f2 := X3.c (i := 2) rfl; have z0 := X3.frozen 0; have z1 := X3.frozen 1; have z2 := X3.frozen 2; have g0 := Z3.c (i := 0) rfl; have g1 := Z3.c (i := 1) rfl; have HX3 := Lib.hid X3; have HZ3 := Lib.hid Z3; clear r3 hb3 X3 Z3)))
        refine bodyPost_ret (v := .tuple #[.agg #[.bool false, .slice none 0 0, .slice none 0 0], .int .i64 F]) (by simp [results, Tryz.results101, go_sem, f0, f1, f2]) rfl ?_
        rw [HR0.out]
        exact RetQE.bad hF0 (below3 HB3.out (Nat.le_refl _) _ _ _)
  · have HR0 : Hid (rE = E) := by rw [Hid, HR.out, if_pos hE0]
    have hE1 : (E != 0) = true := by simpa using hE0
    go_enter Tryz.func101, Tryz.ntmps101
    go_wp2_with (first
      | (go_at_call 59; go_must ((refine HCut.out.mono ?_); rintro e w' ⟨rfl, nq, rfl⟩))
      | (go_at_call 134; go_must ((refine (HP.out _).mono ?_); rintro e w1 ⟨A1, n1, c1, rfl, r1, hc1, hb1⟩; have X1 := X0.below (w' := w1) ⟨hb1.os, hb1.tape, hb1.output, hb1.size, hb1.block⟩; have HB1 := Lib.hid (hB.trans (Below.mono (show Below (w.alloc (.cells #[.bool false, .slice none 0 0, .slice none 0 0] 36)).heap.size (w.alloc (.cells #[.bool false, .slice none 0 0, .slice none 0 0] 36)) w1 from ⟨hb1.os, hb1.tape, hb1.output, hb1.size, hb1.block⟩) hB.size)); have hzz : w.heap.size < w1.heap.size := X1.lt; have hzn : ¬ w1.heap.size = w.heap.size := (by omega); have f0 := X1.c (i := 0) rfl; have f1 := X1.c (i := 1) rfl; have f2 := X1.c (i := 2) rfl; have z0 := X1.frozen 0; have z1 := X1.frozen 1; have z2 := X1.frozen 2; clear r1 hb1 X1)))
    refine bodyPost_ret (v := .tuple #[.agg #[.bool false, .slice none 0 0, .slice none 0 0], .int .i64 E]) (by simp [results, Tryz.results101, go_sem, f0, f1, f2, hzz]) rfl ?_
    rw [HR0.out]
    exact RetQE.bad hE0 ((below3 HB1.out (Nat.le_refl _) _ _ _).alloc (by simp; exact HB1.out.size) _)
theorem rparse_any (s : ByteArray) (w : World) (hw : Std w) (hs : s.size ≤ 1000000) :
    Calls Tryz.prog 101 #[.string s] w (RetQE (ratE s.data.toList) (ratV s.data.toList) w) :=
  rparse_walk s ⟨(cut s.data.toList [47]).1.toArray⟩ ⟨(cut s.data.toList [47]).2.1.toArray⟩ (cut s.data.toList [47]).2.2 w hw hs (by simp)
end Go.Proofs.YtjiccijfbpkliaaGreatDoor

/- garmentref01.DivMod, Gcd. Conditions: slices of at most 100,000 limbs. -/
namespace Go.Proofs.YtjiccijfbpkliaaGreatDoor
open Go.RowKit

theorem bits_len {A : Option Addr} {w : World} {n c x : Nat} (h : NatA w A n c x) : bl x ≤ 32 * n := by
  obtain ⟨l, h1, h2, rfl, _⟩ := h
  have h3 := val_lt h2
  rw [h1.ulen, bs_pow] at h3
  rcases Nat.eq_zero_or_pos (val l) with h0 | h0
  · rw [h0, bl_zero]; omega
  · have h4 := bl_ge (v := val l) (by omega)
    have : bl (val l) - 1 < 32 * n := (Nat.pow_lt_pow_iff_right (a := 2) (by omega)).1 (by omega)
    omega
/-- What DivMod's loop keeps: the bits from j on are found. -/
def bdRel (g mm x y : Nat) (w : World) (s7 s10 s11 : Value) (wr : World) : Prop :=
  ∃ (j R P : Nat) (Q : List Nat) (A : Option Addr) (n c : Nat) (B : Option Addr) (m d : Nat), s11 = .int .i64 ((j : Int) - 1) ∧ s7 = .slice A n c ∧ s10 = .slice B m d ∧ Sl wr wr.heap.size A n (u32s (limbs R)) ∧ n ≤ c ∧ n ≤ 100000 ∧ Sl wr wr.heap.size B m (u32s (limbs P)) ∧ m ≤ d ∧ m ≤ 1000000 ∧
    RowU wr g Q ∧ Hid (Q.length = mm + 1 ∧ bdInv x y Q R j ∧ (1 ≤ j → P = y * 2 ^ (j - 1)) ∧ (0 < n → ∀ a, A = some a → a.block ≠ g) ∧ (∀ a, B = some a → a.block ≠ g)) ∧ j ≤ 32 * mm + 32 ∧ Below w.heap.size w wr

/-- What Gcd's loop keeps; the ghost is the second number. -/
def rgRel (x y : Nat) (w : World) (Y : Nat) (s0 s1 : Value) (wr : World) : Prop :=
  ∃ (A : Option Addr) (n c X : Nat) (B : Option Addr) (m d : Nat), s0 = .slice A n c ∧ s1 = .slice B m d ∧ Sl wr wr.heap.size A n (u32s (limbs X)) ∧ n ≤ c ∧ Sl wr wr.heap.size B m (u32s (limbs Y)) ∧ m ≤ d ∧ Hid (X.gcd Y = x.gcd y) ∧ n ≤ 100000 ∧ m ≤ 100000 ∧ Below w.heap.size w wr
theorem rf_dm_lt (A B : Option Addr) (n m c d x y : Nat) (w : World) (ha : NatA w A n c x) (hb : NatA w B m d y) (hn : n ≤ 100000) (hm : m ≤ 100000) (hlt : bl x < bl y) :
    Calls Tryz.prog 145 #[.slice A n c, .slice B m d] w (RetDM (x / y) (x % y) w) := by
  have hxy : x < y := by
    rcases Nat.lt_or_ge x y with h | h
    · exact h
    · have := bl_mono h; omega
  have hy0 : bl y ≠ 0 := by omega
  have l1 := bits_len ha
  have l2 := bits_len hb
  rw [Nat.div_eq_of_lt hxy, Nat.mod_eq_of_lt hxy]
  have HA := Lib.hid (And.intro ha hb)
  have hyb : ((bl y : Int) == 0) = false := by simpa using hy0
  generalize hbx : bl x = bx at *
  generalize hby : bl y = by_ at *
  have HB := Lib.hid (And.intro hbx hby)
  clear ha hb hbx hby
  go_enter Tryz.func145, Tryz.ntmps145
  go_wp2_with fail
  refine (rf_bits B m d y _ HA.out.2 (by omega)).mono ?_
  rintro e w1 ⟨rfl, hb1⟩
  rw [HB.out.2]
  go_wp2_with fail
  refine (rf_norm A n c x _ (HA.out.1.on hb1) (by omega)).mono ?_
  rintro e w2 ⟨A2, n2, c2, rfl, hs2, hc2, _, hb2⟩
  have hn2 : n2 ≤ 100000 := by
    have h1 := (HA.out.1).trimmed.1
    have h2 := hs2.ulen
    have : n2 = nl x := h2.symm
    omega
  have HS2 := Lib.hid hs2
  clear hs2
  have HB2 := Lib.hid (hb1.trans (hb2.mono hb1.size))
  clear hb1 hb2
  go_wp2_with fail
  refine (rf_bits A2 n2 c2 x _ (.of_limbs HS2.out hc2) (by omega)).mono ?_
  rintro e w3 ⟨rfl, hb3⟩
  rw [HB.out.1]
  go_wp2_with fail
  refine (rf_bits B m d y _ (HA.out.2.on (HB2.out.trans (hb3.mono HB2.out.size))) (by omega)).mono ?_
  rintro e w4 ⟨rfl, hb4⟩
  rw [HB.out.2]
  have HF := Lib.hid (And.intro ((HS2.out.on hb3).on hb4) ((HB2.out.trans (hb3.mono HB2.out.size)).trans (hb4.mono (Nat.le_trans HB2.out.size hb3.size))))
  clear hb3 hb4
  go_wp2
  go_ret3
  exact ⟨none, 0, 0, A2, n2, c2, rfl, by rw [limbs_zero]; exact Sl.none_, Nat.le_refl _, HF.out.1, hc2, HF.out.2⟩

set_option maxRecDepth 100000 in
set_option maxHeartbeats 1600000 in
theorem rf_dm_ge (A B : Option Addr) (n m c d x y : Nat) (w : World) (ha : NatA w A n c x) (hb : NatA w B m d y) (hn : n ≤ 100000) (hm : m ≤ 100000) (hy : y ≠ 0) (k : Nat) (hk : bl x = k + bl y) :
    Calls Tryz.prog 145 #[.slice A n c, .slice B m d] w (RetDM (x / y) (x % y) w) := by
  have hy0 : bl y ≠ 0 := by have := bl_pos hy; omega
  have l1 := bits_len ha
  have l2 := bits_len hb
  have HA := Lib.hid (And.intro ha hb)
  have hyb : ((bl y : Int) == 0) = false := by simpa using hy0
  have HI := Lib.hid (fun mm => bdInv_start (m := mm) hy hk)
  generalize hbx : bl x = bx at *
  generalize hby : bl y = by_ at *
  have HB := Lib.hid (And.intro hbx hby)
  obtain rfl := hk
  have hkb : k ≤ 10000000 := by omega
  obtain ⟨mm, hmm⟩ : ∃ mm, k / 32 = mm := ⟨_, rfl⟩
  have hmb : mm ≤ 1000000 := by omega
  have hk32 : k < 32 * mm + 32 := by omega
  have hd : (k : Int) / 32 = (mm : Int) := by omega
  have hmk := make_succ mm (by omega)
  clear ha hb hbx hby hmm
  go_enter Tryz.func145, Tryz.ntmps145
  go_wp2_with fail
  refine (rf_bits B m d y _ HA.out.2 (by omega)).mono ?_
  rintro e w1 ⟨rfl, hb1⟩
  rw [HB.out.2]
  go_wp2_with fail
  refine (rf_norm A n c x _ (HA.out.1.on hb1) (by omega)).mono ?_
  rintro e w2 ⟨A2, n2, c2, rfl, hs2, hc2, _, hb2⟩
  have hn2 : n2 ≤ 100000 := by
    have h1 := (HA.out.1).trimmed.1
    have h2 := hs2.ulen
    have : n2 = nl x := h2.symm
    omega
  have HS2 := Lib.hid hs2
  clear hs2
  have HB2 := Lib.hid (hb1.trans (hb2.mono hb1.size))
  clear hb1 hb2
  go_wp2_with fail
  refine (rf_bits A2 n2 c2 x _ (.of_limbs HS2.out hc2) (by omega)).mono ?_
  rintro e w3 ⟨rfl, hb3⟩
  rw [HB.out.1]
  go_wp2_with fail
  refine (rf_bits B m d y _ (HA.out.2.on (HB2.out.trans (hb3.mono HB2.out.size))) (by omega)).mono ?_
  rintro e w4 ⟨rfl, hb4⟩
  rw [HB.out.2]
  have HF := Lib.hid (And.intro ((HS2.out.on hb3).on hb4) ((HB2.out.trans (hb3.mono HB2.out.size)).trans (hb4.mono (Nat.le_trans HB2.out.size hb3.size))))
  clear hb3 hb4
  go_wp2_with fail
  have hBW := HF.out.2.alloc HF.out.2.size (.cells (madeCells #[Value.int .u32 0] (mm + 1)) 117)
  refine (rf_shift B m d y k _ (HA.out.2.on hBW) (by omega) hkb).mono ?_
  rintro e w5 ⟨B5, n5, c5, rfl, hs5, hc5, hf5, hb5⟩
  have hn5 : n5 ≤ 100000 := by
    have h1 := hs5.ulen
    have h2 : nl (y * 2 ^ k) ≤ n := nl_le (by
      rw [bs_pow]
      have h3 := bl_lt y
      rw [HB.out.2] at h3
      have h4 : y * 2 ^ k < 2 ^ by_ * 2 ^ k := Nat.mul_lt_mul_of_pos_right h3 (Nat.pow_pos (by omega))
      rw [← Nat.pow_add] at h4
      exact Nat.lt_of_lt_of_le h4 (Nat.pow_le_pow_right (by omega) (by omega)))
    have h5 : n5 = nl (y * 2 ^ k) := h1.symm
    omega
  have HR : Hid (RowU w5 w4.heap.size (List.replicate (mm + 1) 0)) := (RowU.made w4 (mm + 1)).below hb5 (by simp)
  have HG : Hid (Sl w5 w5.heap.size A2 n2 (u32s (limbs x)) ∧ Below w.heap.size w w5 ∧ Sl w5 w5.heap.size B5 n5 (u32s (limbs (y * 2 ^ k)))) := ⟨(HF.out.1.on ((Below.refl _ _).alloc (Nat.le_refl _) _)).on hb5, hBW.trans (hb5.mono hBW.size), hs5⟩
  have hgw : w.heap.size ≤ w4.heap.size := HF.out.2.size
  have HNE : Hid ((0 < n2 → ∀ a, A2 = some a → a.block ≠ w4.heap.size) ∧ ∀ a, B5 = some a → a.block ≠ w4.heap.size) := ⟨fun hn a e => by
    obtain ⟨b, off, e2, hb, _⟩ := HF.out.1.2 hn
    rw [e2] at e
    obtain rfl := Option.some.inj e
    show b ≠ _
    omega, fun a e => by have := hf5 a e; simp at this; omega⟩
  clear hs5 hb5 hBW hmk hd
  go_wp2_with fail
  go_loopw [7, 10, 11] (fun s7 s10 s11 wr => bdRel w4.heap.size mm x y w s7 s10 s11 wr) (fun _ _ s11 _ => (intOf s11 + 1).toNat)
  case atStart => exact ⟨k + 1, x, y * 2 ^ k, List.replicate (mm + 1) 0, A2, n2, c2, B5, n5, c5, congrArg (Value.int .i64) (by omega), rfl, rfl, HG.out.1, hc2, hn2, HG.out.2.2, hc5, by omega, HR.out, ⟨by simp, HI.out (mm + 1), fun _ => rfl, HNE.out.1, HNE.out.2⟩, by omega, HG.out.2.1⟩
  case round =>
    clear HF HS2 HB2 HR HG HNE
    obtain ⟨j, R, Pv, Q, A1, n1, c1, B1, m1, d1, rfl, rfl, rfl, hR, hnc, hn1, hP, hmd, hm1, hrow, hinv, hj, hbel⟩ := hrel
    have hN := hbel.size
    obtain ⟨hQl, hbd, hPv, hnA, hnB⟩ := hinv.out
    clear hinv
    by_cases h0 : j = 0
    · subst h0
      obtain ⟨e1, e2, e3⟩ := bdInv_end hbd
      have HN := Lib.hid (NatA.mk (c := mm + 1) (hrow.sl hQl) e1 e2 (Nat.le_refl _))
      rw [e3] at hR
      have HR := Lib.hid hR
      clear hR hP hrow hbd hPv e1 e2 e3 hQl hnA hnB
      go_wp2_with (go_at_call 77; go_must ((refine (rf_norm _ _ _ _ _ HN.out (by omega)).mono ?_); rintro e w6 ⟨A6, n6, c6, rfl, hs6, hc6, _, hb6⟩))
      go_ret3
      exact ⟨_, _, _, _, _, _, rfl, hs6, hc6, HR.out.on hb6, hnc, hbel.trans (hb6.mono hN)⟩
    · obtain ⟨i, rfl⟩ : ∃ i, j = i + 1 := ⟨j - 1, by omega⟩
      obtain rfl : Pv = y * 2 ^ i := hPv (by omega)
      clear hPv h0
      have HH := Lib.hid (half_shift y)
      rcases Nat.lt_or_ge R (y * 2 ^ i) with hlt | hge
      · have HB3 := Lib.hid (bdInv_no hbd hlt)
        have HS := Lib.hid (rf_sub_no A1 B1 n1 m1 c1 d1 R (y * 2 ^ i) wr (.of_limbs hR hnc) (.of_limbs hP hmd) (by omega) hm1 hlt)
        have HX := Lib.hid (rf_half B1 m1 d1 (y * 2 ^ i) wr (.of_limbs hP hmd) hm1)
        have hnl : m1 = nl (y * 2 ^ i) := hP.ulen.symm
        have HR := Lib.hid (And.intro hR (And.intro hrow (And.intro hQl (And.intro hnl hnA))))
        clear hR hP hrow hbd hQl hlt hnl hnA hnB
        go_wp2_with (first
          | (go_at_call 150; go_must ((refine HS.out.mono ?_); rintro e w' ⟨rfl, rfl⟩))
          | (go_at_call 171; go_must ((refine HX.out.mono ?_); rintro e w6 ⟨A6, n6, c6, rfl, hs6, hc6, hf6, hb6⟩)))
        go_roundw
        case rel =>
          refine ⟨i, R, y * 2 ^ i / 2, Q, A1, n1, c1, A6, n6, c6, rfl, rfl, rfl, HR.out.1.on hb6, hnc, hn1, hs6, hc6, ?_, HR.out.2.1.below hb6 HR.out.2.1.lt, ⟨HR.out.2.2.1, HB3.out, fun h => ?_, HR.out.2.2.2.2, fun a e => by have := hf6 a e; have := HR.out.2.1.lt; omega⟩, by omega, hbel.trans (hb6.mono hN)⟩
          · have := nl_mono (Nat.div_le_self (y * 2 ^ i) 2)
            have h1 := hs6.ulen
            have h2 : n6 = nl (y * 2 ^ i / 2) := h1.symm
            have := HR.out.2.2.2.1
            omega
          · obtain ⟨i', rfl⟩ : ∃ i', i = i' + 1 := ⟨i - 1, by omega⟩
            exact HH.out i'
        case measure => simp [intOf]
      · obtain ⟨a, ha⟩ : ∃ a, i / 32 = a := ⟨_, rfl⟩
        obtain ⟨b, hb⟩ : ∃ b, i % 32 = b := ⟨_, rfl⟩
        have hb31 : b ≤ 31 := by omega
        have haQ : a < Q.length := by rw [hQl]; omega
        obtain ⟨z, hz⟩ : ∃ z, Q[a]? = some z := ⟨_, List.getElem?_eq_getElem haQ⟩
        have HRn : Hid (nl R ≤ 100000) := by have h1 := hR.ulen; have h2 : n1 = nl R := h1.symm; show nl R ≤ _; omega
        have HB3 := bdInv_yes hbd hge (x := z) (by rw [ha]; exact hz)
        have hroom := bit_room hbd.1 hbd.2.1 (x := z) (by rw [ha]; exact hz)
        rw [ha, hb] at HB3
        rw [hb, bs_eq] at hroom
        have HB3 := Lib.hid HB3
        have HS := Lib.hid (rf_sub_yes A1 B1 n1 m1 c1 d1 R (y * 2 ^ i) wr (.of_limbs hR hnc) (.of_limbs hP hmd) (by omega) hm1 hge)
        have hnl : m1 = nl (y * 2 ^ i) := hP.ulen.symm
        have HR := Lib.hid (And.intro hP (And.intro hrow (And.intro hQl (And.intro hnl (And.intro hnB hz)))))
        have hd1 : (i : Int) / 32 = (a : Int) := by omega
        have hr1 : (i : Int) % 32 = (b : Int) := by omega
        have ham : a < mm + 1 := by omega
        have hp1 : IntKind.u32.wrap (2 ^ b) = ((2 ^ b : Nat) : Int) := by
          have : ((2 : Int) ^ b) = ((2 ^ b : Nat) : Int) := by rw [Int.natCast_pow]; rfl
          rw [this, IntKind.wrap_u32]
          generalize 2 ^ b = q at *
          omega
        generalize 2 ^ b = pw at *
        clear hR hP hbd hQl hge hnl ha hb
        clear hnA hnB hrow hz
        go_wp2_with fail
        refine HS.out.mono ?_
        rintro e w6 ⟨A6, n6, c6, rfl, hs6, hc6, hf6, hb6⟩
        have hrow6 := HR.out.2.1.below hb6 HR.out.2.1.lt
        have hcz := hrow6.cell HR.out.2.2.2.2.2
        have hfz := hrow6.frozen a
        have hg6 : w4.heap.size < wr.heap.size := HR.out.2.1.lt
        have HW : Hid (Sl (w6.setCell ⟨w4.heap.size, a, none⟩ (.int .u32 ((z + pw : Nat) : Int))) (w6.setCell ⟨w4.heap.size, a, none⟩ (.int .u32 ((z + pw : Nat) : Int))).heap.size B1 m1 (u32s (limbs (y * 2 ^ i))) ∧ Sl (w6.setCell ⟨w4.heap.size, a, none⟩ (.int .u32 ((z + pw : Nat) : Int))) (w6.setCell ⟨w4.heap.size, a, none⟩ (.int .u32 ((z + pw : Nat) : Int))).heap.size A6 n6 (u32s (limbs (R - y * 2 ^ i))) ∧ RowU (w6.setCell ⟨w4.heap.size, a, none⟩ (.int .u32 ((z + pw : Nat) : Int))) w4.heap.size (Q.set a (z + pw)) ∧ Below w.heap.size w (w6.setCell ⟨w4.heap.size, a, none⟩ (.int .u32 ((z + pw : Nat) : Int)))) := by
          refine ⟨?_, ?_, hrow6.set (by rw [HR.out.2.2.1]; exact ham) _, (hbel.trans (hb6.mono hN)).setCell (p := ⟨w4.heap.size, a, none⟩) hgw _⟩
          · rw [World.size_setCell]
            exact (HR.out.1.on hb6).setFar HR.out.2.2.2.2.1 _
          · rw [World.size_setCell]
            exact hs6.setFar (fun ad e => by have := hf6 ad e; show ad.block ≠ w4.heap.size; omega) _
        have hn6 : n6 ≤ 100000 := by
          have h1 := hs6.ulen
          have h2 : n6 = nl (R - y * 2 ^ i) := h1.symm
          have h3 := nl_mono (Nat.sub_le R (y * 2 ^ i))
          have h4 := HRn.out
          omega
        have hfr6 : Hid (∀ ad, A6 = some ad → ad.block ≠ w4.heap.size) := fun ad e => by have := hf6 ad e; omega
        clear hs6 hrow6 hb6 hf6
        go_wp2_with fail
        rw [show ((z : Int) + (pw : Int)) = ((z + pw : Nat) : Int) from by omega]
        refine (rf_half B1 m1 d1 (y * 2 ^ i) _ (.of_limbs HW.out.1 hmd) hm1).mono ?_
        rintro e w7 ⟨A7, n7, c7, rfl, hs7, hc7, hf7, hb7⟩
        have HZ := Lib.hid (And.intro (HW.out.2.1.on hb7) (And.intro (HW.out.2.2.1.below hb7 HW.out.2.2.1.lt) (HW.out.2.2.2.trans (hb7.mono HW.out.2.2.2.size))))
        have hf7' : Hid (∀ ad, A7 = some ad → ad.block ≠ w4.heap.size) := fun ad e => by have := hf7 ad e; have := HW.out.2.2.1.lt; omega
        clear hb7 hf7 HW
        go_wp2_with fail
        go_roundw
        case rel =>
          refine ⟨i, R - y * 2 ^ i, y * 2 ^ i / 2, Q.set a (z + pw), A6, n6, c6, A7, n7, c7, rfl, rfl, rfl, HZ.out.1, hc6, hn6, hs7, hc7, ?_, HZ.out.2.1, ⟨by rw [List.length_set]; exact HR.out.2.2.1, HB3.out, fun h => ?_, fun _ => hfr6.out, hf7'.out⟩, by omega, HZ.out.2.2⟩
          · have := nl_mono (Nat.div_le_self (y * 2 ^ i) 2)
            have h1 := hs7.ulen
            have h2 : n7 = nl (y * 2 ^ i / 2) := h1.symm
            have := HR.out.2.2.2.1
            omega
          · obtain ⟨i', rfl⟩ : ∃ i', i = i' + 1 := ⟨i - 1, by omega⟩
            exact HH.out i'
        case measure => simp [intOf]

theorem rf_divmod (A B : Option Addr) (n m c d x y : Nat) (w : World) (ha : NatA w A n c x) (hb : NatA w B m d y) (hn : n ≤ 100000) (hm : m ≤ 100000) (hy : y ≠ 0) :
    Calls Tryz.prog 145 #[.slice A n c, .slice B m d] w (RetDM (x / y) (x % y) w) := by
  rcases Nat.lt_or_ge (bl x) (bl y) with h | h
  · exact rf_dm_lt A B n m c d x y w ha hb hn hm h
  · exact rf_dm_ge A B n m c d x y w ha hb hn hm hy (bl x - bl y) (by omega)

set_option maxRecDepth 100000 in
set_option maxHeartbeats 1600000 in
theorem rf_gcd (A B : Option Addr) (n m c d x y : Nat) (w : World) (ha : NatA w A n c x) (hb : NatA w B m d y) (hn : n ≤ 100000) (hm : m ≤ 100000) :
    Calls Tryz.prog 139 #[.slice A n c, .slice B m d] w (RetN (x.gcd y) w) := by
  have t1 := ha.trimmed.1
  have s1 := hb.trimmed.1
  go_enter Tryz.func139, Tryz.ntmps139
  go_wp2_with fail
  refine (rf_norm A n c x w ha (by omega)).mono ?_
  rintro e w1 ⟨A1, n1, c1, rfl, hs1, hc1, _, hb1⟩
  have hb' := hb.on hb1
  clear ha hb
  go_wp2_with fail
  refine (rf_norm B m d y w1 hb' (by omega)).mono ?_
  rintro e w2 ⟨A2, n2, c2, rfl, hs2, hc2, _, hb2⟩
  have HS := Lib.hid (And.intro (hs1.on hb2) (And.intro hs2 (hb1.trans (hb2.mono hb1.size))))
  have e1 : n1 ≤ 100000 := by have := hs1.ulen; have : n1 = nl x := this.symm; omega
  have e2 : n2 ≤ 100000 := by have := hs2.ulen; have : n2 = nl y := this.symm; omega
  clear hs1 hs2 hb1 hb2 hb'
  go_wp2_with fail
  go_loopg [5, 6] y (fun Y s0 s1 wr => rgRel x y w Y s0 s1 wr)
  case atStart => exact ⟨_, _, _, x, _, _, _, rfl, rfl, HS.out.1, hc1, HS.out.2.1, hc2, rfl, e1, e2, HS.out.2.2⟩
  case round =>
    clear HS
    obtain ⟨A1, k1, c1, X, B1, k2, d1, rfl, rfl, hA, hc1, hB, hd1, hgcd, l1, l2, hbel⟩ := hrel
    have hk2 : k2 = nl gk := hB.ulen.symm
    by_cases h0 : gk = 0
    · subst h0
      rw [nl_zero] at hk2
      subst hk2
      have HR := Lib.hid hA
      clear hA hB
      go_wp2_with fail
      go_ret
      have hg := hgcd.out
      rw [Nat.gcd_zero_right] at hg
      rw [← hg]
      exact ⟨_, _, _, rfl, HR.out, hc1, hbel⟩
    · have hp := nl_pos h0
      have hk0 : 0 < k2 := by omega
      have HC := Lib.hid (rf_divmod A1 B1 k1 k2 c1 d1 X gk wr (.of_limbs hA hc1) (.of_limbs hB hd1) l1 l2 h0)
      have HB := Lib.hid (And.intro hB hk2)
      clear hA hB hk2 hp
      go_wp2_with (go_at_call 145; refine HC.out.mono ?_; rintro e w3 ⟨A3, n3, c3, B3, m3, d3, rfl, hq, hqc, hr, hrc, hb3⟩)
      go_roundg (X % gk)
      case measure => exact Nat.mod_lt _ (by omega)
      case rel =>
        have hm3 : m3 = nl (X % gk) := hr.ulen.symm
        have := nl_mono (Nat.le_of_lt (Nat.mod_lt X (by omega : 0 < gk)))
        have := HB.out.2
        exact ⟨_, _, _, gk, _, _, _, rfl, rfl, HB.out.1.on hb3, hd1, hr, hrc, (gcd_step X gk).trans hgcd.out, l2, by omega, hbel.trans (hb3.mono hbel.size)⟩
end Go.Proofs.YtjiccijfbpkliaaGreatDoor

/- garmentref01.Mul, small (by 10). Conditions: slices of at most 1,000,000 limbs. -/
namespace Go.Proofs.YtjiccijfbpkliaaGreatDoor
open Go.RowKit

set_option maxRecDepth 100000 in
set_option maxHeartbeats 1600000 in
theorem rf_mul (A B : Option Addr) (n m c d x y : Nat) (w : World) (ha : NatA w A n c x) (hb : NatA w B m d y) (hn : n ≤ 1000000) (hm : m ≤ 1000000) :
    Calls Tryz.prog 117 #[.slice A n c, .slice B m d] w (RetF (x * y) w) := by
  obtain ⟨l, ha, ho, rfl, _⟩ := ha
  obtain ⟨l2, hb, ho2, rfl, _⟩ := hb
  obtain rfl := ha.ulen
  obtain rfl := hb.ulen
  have HA := Lib.hid (And.intro ha hb)
  have HO := Lib.hid (And.intro ho ho2)
  have hmk := make_sum l.length l2.length (by omega) (by omega)
  clear ha hb ho ho2
  go_enter Tryz.func117, Tryz.ntmps117
  go_wp2
  clear hmk
  go_loopw [6] (fun i wr => mulRel l.length l l2 w i wr) (fun i _ => l.length - (intOf i).toNat)
  case atStart => exact ⟨0, _, Nat.zero_le _, rfl, RowU.made w (l.length + l2.length), mulInv_zero l l2, (Below.refl _ _).alloc (Nat.le_refl _) _⟩
  case round =>
    obtain ⟨i, L, hi, rfl, hrow, hinv, hbel⟩ := hrel
    by_cases hli : i < l.length
    · have HI := Lib.hid (mulIn_zero HO.out.1 HO.out.2 hinv.out hi)
      have b1 := getD_lt HO.out.1 i
      rw [bs_eq] at b1
      obtain ⟨X, hX⟩ : ∃ X, l.getD i 0 = X := ⟨_, rfl⟩
      rw [hX] at b1
      have HX := Lib.hid hX
      obtain ⟨wo, rfl⟩ : ∃ wo : World, wo = wr := ⟨_, rfl⟩
      have HW := Lib.hid (And.intro hrow hbel)
      clear hrow hbel hX
      go_wp2
      go_loopw [7, 8] (fun cr j wr => mulRel2 i l2.length l l2 w cr j wr) (fun _ j _ => l2.length - (intOf j).toNat)
      case atStart => exact ⟨0, 0, L, Nat.zero_le _, by omega, rfl, rfl, HW.out.1, HI, HW.out.2⟩
      case round =>
        clear HW
        obtain ⟨k, cy, R, hk, hcy, rfl, rfl, hrow, hin, hbel⟩ := hrel
        have hRl : R.length = l.length + l2.length := hin.out.1
        by_cases hlk : k < l2.length
        · have h1 := limb_any A l.length c i l wr (HA.out.1.below hbel) HO.out.1
          have h2 := limb_any B l2.length d k l2 wr (HA.out.2.below hbel) HO.out.2
          have h3 := limb_any (some ⟨w.heap.size, 0, none⟩) (l.length + l2.length) (l.length + l2.length) (i + k) R wr (hrow.sl hRl) hin.out.2.1
          have b2 := getD_lt HO.out.2 k
          rw [bs_eq] at b2
          obtain ⟨Y, hY⟩ : ∃ Y, l2.getD k 0 = Y := ⟨_, rfl⟩
          obtain ⟨z, hz⟩ : ∃ z, R[i + k]? = some z := ⟨_, List.getElem?_eq_getElem (by omega)⟩
          have hzb := okL_at hin.out.2.1 hz
          rw [bs_eq] at hzb
          rw [getD_some hz] at h3
          rw [HX.out] at h1
          rw [hY] at h2 b2
          have hcz := hrow.cell hz
          have hfz := hrow.frozen (i + k)
          obtain ⟨p, hp1, hp2, hp3⟩ := mul_word b1 b2
          have H1 := Lib.hid h1
          have H2 := Lib.hid h2
          have H3 := Lib.hid h3
          have HP := Lib.hid (And.intro hz (And.intro hY hp1))
          have HR := Lib.hid hrow
          clear hrow hz hRl hp1 hY h1 h2 h3
          go_wp2_with (first
            | (go_at_call_of 127 (Value.slice A l.length c); go_must ((refine H1.out.mono ?_); rintro e w' ⟨rfl, rfl⟩))
            | (go_at_call_of 127 (Value.slice B l2.length d); go_must ((refine H2.out.mono ?_); rintro e w' ⟨rfl, rfl⟩))
            | (go_at_call 127; go_must ((refine H3.out.mono ?_); rintro e w' ⟨rfl, rfl⟩)))
          go_roundw
          case rel => exact mulRel2_next (p := p) HO.out.1 HO.out.2 rfl hlk HR.out hin.out hbel HP.out.1 (by rw [HX.out, HP.out.2.1]; exact HP.out.2.2) (by omega)
          case measure => simp [intOf]; omega
        · obtain rfl : k = l2.length := by omega
          obtain ⟨z, hz⟩ : ∃ z, R[i + l2.length]? = some z := ⟨_, List.getElem?_eq_getElem (by omega)⟩
          have hcz := hrow.cell hz
          have hfz := hrow.frozen (i + l2.length)
          have HN : Hid (mulInv l l2 (R.set (i + l2.length) cy) (i + 1)) := mulIn_end hin.out hli
          have HR := Lib.hid (hrow.set (i := i + l2.length) (by omega) cy)
          clear hrow hz hRl
          go_wp2
          go_roundw
          case rel => exact ⟨i + 1, _, by omega, by go_num, HR.out, HN, hbel.setCell (p := ⟨w.heap.size, i + l2.length, none⟩) (Nat.le_refl _) _⟩
          case measure => simp [intOf]; omega
    · obtain rfl : i = l.length := by omega
      obtain ⟨ho, hv⟩ := mulInv_end hinv.out
      have HR := Lib.hid (NatA.mk (c := l.length + l2.length) (hrow.sl hinv.out.1) ho hv (Nat.le_refl _))
      have hN := hbel.size
      clear hrow hv ho hinv
      go_wp2_with (go_at_call 77; go_must ((refine (rf_norm _ _ _ _ _ HR.out (by omega)).mono ?_); rintro e w1 ⟨A1, n1, c1, rfl, hs1, hc1, hf1, hb1⟩))
      go_ret
      exact ⟨_, _, _, rfl, hs1, hc1, hf1.mono hN, hbel.trans (hb1.mono hN)⟩

/-- A number and a word come back. -/
def RetNW (v r : Nat) (w : World) (e : Ending) (w' : World) : Prop :=
  ∃ A n c, e = .returned (.tuple #[.slice A n c, .int .u64 (r : Int)]) ∧ Sl w' w'.heap.size A n (u32s (limbs v)) ∧ n ≤ c ∧ Below w.heap.size w w'
set_option maxRecDepth 100000 in
set_option maxHeartbeats 1600000 in
theorem rf_small (A : Option Addr) (n c x : Nat) (w : World) (ha : NatA w A n c x) (hn : n ≤ 1000000) :
    Calls Tryz.prog 129 #[.slice A n c, .int .u64 10] w (RetNW (x / 10) (x % 10) w) := by
  obtain ⟨l, h1, h2, rfl, h4⟩ := ha
  obtain rfl := h1.ulen
  have HA := Lib.hid h1
  have HO := Lib.hid h2
  have hmk := make_full l.length (by omega)
  clear h1 h2
  go_enter Tryz.func129, Tryz.ntmps129
  go_wp2
  clear hmk
  go_loopw [7, 8] (fun rr i wr => shortRel l 10 w rr i wr) (fun _ i _ => (intOf i + 1).toNat)
  case atStart => exact ⟨l.length, 0, _, Nat.le_refl _, by omega, rfl, rfl, RowU.made w l.length, divInv_start (by omega) (by simp) (okL_zeros _), (Below.refl _ _).alloc (Nat.le_refl _) _⟩
  case round =>
    obtain ⟨k, r, L, hk, hr, rfl, rfl, hrow, hinv, hbel⟩ := hrel
    have hN := hbel.size
    by_cases hk0 : k = 0
    · subst hk0
      obtain ⟨f1, f2⟩ := divInv_end hinv.out
      have HR := Lib.hid (NatA.mk (c := l.length) (hrow.sl hinv.out.1) hinv.out.2.1 f1 (Nat.le_refl _))
      have HF := Lib.hid f2
      clear f1 f2 hrow hinv
      go_wp2_with (go_at_call 77; go_must ((refine (rf_norm _ _ _ _ _ HR.out (by omega)).mono ?_); rintro e w1 ⟨A1, n1, c1, rfl, hs1, hc1, _, hb1⟩))
      go_ret2
      rw [← HF.out]
      exact ⟨_, _, _, rfl, hs1, hc1, hbel.trans (hb1.mono hN)⟩
    · obtain ⟨q, rfl⟩ : ∃ q, k = q + 1 := ⟨k - 1, by omega⟩
      have hLl : L.length = l.length := hinv.out.1
      have h1 := limb_any A l.length c q l wr (HA.out.below hbel) HO.out
      obtain ⟨u, hu⟩ : ∃ u, l[q]? = some u := ⟨_, List.getElem?_eq_getElem (by omega)⟩
      rw [getD_some hu] at h1
      have hub := okL_at HO.out hu
      rw [bs_eq] at hub
      obtain ⟨z, hz⟩ : ∃ z, L[q]? = some z := ⟨_, List.getElem?_eq_getElem (by omega)⟩
      have hcz := hrow.cell hz
      have hfz := hrow.frozen q
      have HR := Lib.hid hrow
      have H1 := Lib.hid h1
      obtain ⟨g1, g2⟩ := divInv_succ hinv.out hu (by rw [bs_eq]; exact hub) rfl
      rw [bs_eq] at g1 g2
      have HG := Lib.hid (And.intro g1 (And.intro g2 (List.getElem?_eq_some_iff.1 hz).1))
      clear hu hz hrow h1 hLl g1 g2 hinv hk0
      go_wp2_with (go_at_call 127; go_must ((refine H1.out.mono ?_); rintro e w' ⟨rfl, rfl⟩))
      go_roundw
      case rel =>
        refine ⟨q, (r * 4294967296 + u) % 10, _, by omega, by omega, rfl, congrArg (Value.int .u64) (by omega), ?_, HG.out.1, hbel.setCell (p := ⟨w.heap.size, q, none⟩) (Nat.le_refl _) _⟩
        have h := HR.out.set HG.out.2.2 ((r * 4294967296 + u) / 10)
        have h5 := HG.out.2.1
        rw [show (((r * 4294967296 + u) / 10 : Nat) : Int) = ((r : Int) * 4294967296 + (u : Int)) / 10 from by omega] at h
        exact h
      case measure => simp [intOf]
end Go.Proofs.YtjiccijfbpkliaaGreatDoor

/- garmentref01.Text, Digits. Conditions: slices of at most 100,000 limbs; strings whose length is an int. -/
namespace Go.Proofs.YtjiccijfbpkliaaGreatDoor
open Go.RowKit
open Go.Lib hiding intOf

/-- What Text's loop keeps; the ghost is what is left. -/
def txRel (x : Nat) (w : World) (X : Nat) (s3 s4 : Value) (wr : World) : Prop :=
  ∃ (str : ByteArray) (A : Option Addr) (n c : Nat), s3 = .string str ∧ s4 = .slice A n c ∧ Sl wr wr.heap.size A n (u32s (limbs X)) ∧ n ≤ c ∧ n ≤ 100000 ∧ Hid (dd x = dd X ++ str.data.toList) ∧ Below w.heap.size w wr
theorem dd_len (x : Nat) : (dd x).length ≤ 10 * nl x + 1 := by
  unfold dd
  split
  · simp
  · rw [decDigits_length]
    exact nDigits_nl x
theorem one_byte (dg : Nat) (h : dg < 10) : ∃ B : ByteArray, B.data.toList = [UInt8.ofNat (48 + dg)] ∧ B.size = 1 ∧ ∀ W : World, (convert 78 9 (.slice (some ⟨W.heap.size, 0, none⟩) 1 1)).run Tryz.prog (W.alloc (.cells #[.int .u8 (48 + (dg : Int))] 5)) = .ok (.string B) (W.alloc (.cells #[.int .u8 (48 + (dg : Int))] 5)) := by
  refine ⟨strOfNums [48 + (dg : Int)], ?_, rfl, fun W => ?_⟩
  · rw [strOfNums_data]
    show [UInt8.ofNat (48 + (dg : Int)).toNat] = _
    rw [show (48 + (dg : Int)).toNat = 48 + dg from by omega]
  · refine run_convert_bytes_arg (P := Tryz.prog) (w := W.alloc (.cells #[.int .u8 (48 + (dg : Int))] 5)) 78 5 Tryz.underlying78 Tryz.underlying5 W.heap.size 0 1 1 [48 + (dg : Int)] rfl (fun i hi => ?_) 9 Tryz.underlying9
    obtain rfl : i = 0 := by omega
    exact cell_one _ _ _
set_option maxRecDepth 100000 in
set_option maxHeartbeats 1600000 in
theorem rf_text (A : Option Addr) (n c x : Nat) (w : World) (ha : NatA w A n c x) (hn : n ≤ 100000) :
    Calls Tryz.prog 97 #[.slice A n c] w (RetT (decDigits x) w) := by
  have t1 := ha.trimmed.1
  have HD := Lib.hid (dd_len x)
  go_enter Tryz.func97, Tryz.ntmps97
  go_wp2_with fail
  refine (rf_norm A n c x w ha (by omega)).mono ?_
  rintro e w1 ⟨A1, n1, c1, rfl, hs1, hc1, _, hb1⟩
  have e1 : n1 ≤ 100000 := by have := hs1.ulen; have : n1 = nl x := this.symm; omega
  have HS := Lib.hid (And.intro hs1 hb1)
  clear hs1 hb1 ha
  go_wp2_with fail
  go_loopg [3, 4] x (fun X s3 s4 wr => txRel x w X s3 s4 wr)
  case atStart => exact ⟨_, _, _, _, rfl, rfl, HS.out.1, hc1, e1, by rw [Hid]; simp, HS.out.2⟩
  case round =>
    clear HS
    obtain ⟨str, A1, k1, c1, rfl, rfl, hA, hc1, hk1, hdd, hbel⟩ := hrel
    have hk2 : k1 = nl gk := hA.ulen.symm
    by_cases h0 : gk = 0
    · subst h0
      rw [nl_zero] at hk2
      subst hk2
      have HE := Lib.hid (dd_end hdd.out)
      clear hA
      by_cases hst : str.data.toList = []
      · have h1 : str.toList = [] := by rw [toList_data]; exact hst
        obtain rfl : str = ⟨#[]⟩ := by apply eq_of_data; simpa using hst
        clear hst
        go_wp2_with fail
        go_ret
        exact ⟨by rw [HE.out]; rfl, hbel⟩
      · have h1 : str.toList.isEmpty = false := by rw [toList_data]; simpa using hst
        have h2 : (str.toList == []) = false := by rw [toList_data]; simpa using hst
        have HN := Lib.hid hst
        clear hst
        go_wp2_with fail
        go_ret
        exact ⟨by rw [HE.out, if_neg HN.out]; rfl, hbel⟩
    · have hp := nl_pos h0
      have hk0 : 0 < k1 := by omega
      have HC := Lib.hid (rf_small A1 k1 c1 gk wr (.of_limbs hA hc1) (by omega))
      have HX := dd_step h0
      have hsl : str.size ≤ 10000000 := by
        have h1 := congrArg List.length hdd.out
        rw [List.length_append] at h1
        have h2 := HD.out
        have h3 : str.data.toList.length = str.size := rfl
        omega
      have hd10 : gk % 10 < 10 := Nat.mod_lt _ (by omega)
      generalize hdg : gk % 10 = dg at *
      obtain ⟨B, hB1, hB2, hcv⟩ := one_byte dg hd10
      have hpl : ∀ W, (Op.stringOp .add B str).run Tryz.prog W = .ok (.string (B ++ str)) W := fun W => run_string_add_sum W _ _ (by rw [hB2]; omega)
      have HDD : Hid (dd x = dd (gk / 10) ++ (B ++ str).data.toList) := by
        rw [Hid, hdd.out, HX, List.append_assoc, ByteArray.data_append, Array.toList_append, hB1]
      clear hB1 hB2
      have HK := Lib.hid hk2
      clear hA hk2 hp hdg HX
      go_wp2_with (go_at_call 129; refine HC.out.mono ?_; rintro e w3 ⟨A3, n3, c3, rfl, hq, hqc, hb3⟩)
      go_roundg (gk / 10)
      case measure => exact Nat.div_lt_self (by omega) (by omega)
      case rel =>
        have hm3 : n3 = nl (gk / 10) := hq.ulen.symm
        have := nl_mono (Nat.div_le_self gk 10)
        have := HK.out
        exact ⟨_, _, _, _, rfl, rfl, hq.on ((Below.refl _ _).alloc (Nat.le_refl _) _), hqc, by omega, HDD, (hbel.trans (hb3.mono hbel.size)).alloc (Nat.le_trans hbel.size hb3.size) _⟩

/-- May the text be a number? -/
theorem rf_digits (s : ByteArray) (w : World) (hs : s.size ≤ 9223372036854775807) :
    Calls Tryz.prog 166 #[.string s] w fun e w' => e = .returned (.bool (digOk s.data.toList)) ∧ w = w' := by
  go_enter Tryz.func166, Tryz.ntmps166
  go_wp2
  go_loop [3] (fun i => ∃ k : Nat, k ≤ s.size ∧ i = .int .i64 k ∧ Hid ((s.data.toList.take k).all isDig = true)) (fun i => s.size - (intOf i).toNat)
  case atStart => exact ⟨0, Nat.zero_le _, rfl, by rw [Hid]; simp⟩
  case round =>
    obtain ⟨k, hk, rfl, hall⟩ := hrel
    by_cases hlt : k < s.size
    · obtain ⟨b, hb⟩ : ∃ b, s[k] = b := ⟨_, rfl⟩
      have hat := at_data s k hlt
      rw [hb] at hat
      have HB := Lib.hid hat
      clear hat
      cases hd : isDig b
      · have HE := Lib.hid (digOk_bad HB.out hd)
        rcases isDig_false.1 hd with h | h
        all_goals
          clear hd
          go_wp2
          go_ret
          exact ⟨by rw [HE.out]; rfl, rfl⟩
      · obtain ⟨h1, h2⟩ := isDig_true.1 hd
        have HE := Lib.hid (digs_succ hall.out HB.out hd)
        clear hd
        go_wp2
        go_round
        case rel => exact ⟨k + 1, by omega, by go_num, HE⟩
        case measure => simp [intOf]; omega
    · obtain rfl : k = s.size := by omega
      have hfull : (s.data.toList.take s.size) = s.data.toList := List.take_of_length_le (Nat.le_refl _)
      have ha := hall.out
      rw [hfull] at ha
      have hl : s.data.toList.length = s.size := rfl
      have HA := Lib.hid ha
      have HL := Lib.hid hl
      clear ha hl hfull hall
      by_cases h1 : s.size = 1
      · have HE : Hid (digOk s.data.toList = true) := digOk_iff.2 ⟨by rw [HL.out]; omega, .inl (by rw [HL.out]; omega), HA.out⟩
        have h2 : ((s.size : Int) == 1) = true := by simp [h1]
        go_wp2
        go_ret
        exact ⟨by rw [HE.out]; rfl, rfl⟩
      · have h2 : ((s.size : Int) == 1) = false := by simp; omega
        by_cases h3 : 1 < s.size
        · have hat := at_data s 0 (by omega)
          obtain ⟨b, hb⟩ : ∃ b, s[0] = b := ⟨_, rfl⟩
          rw [hb] at hat
          have HB := Lib.hid hat
          clear hat h1
          by_cases h4 : b = 48
          · subst h4
            have HE := Lib.hid (digOk_zero (by rw [HL.out]; exact h3) HB.out)
            go_wp2
            go_ret
            exact ⟨by rw [HE.out]; rfl, rfl⟩
          · have h5 : ((b.toNat : Int) != 48) = true := by
              simp only [bne_iff_ne, ne_eq]
              intro e
              apply h4
              apply UInt8.toNat_inj.1
              have : b.toNat = 48 := by omega
              rw [this]; rfl
            have HE : Hid (digOk s.data.toList = true) := digOk_iff.2 ⟨by rw [HL.out]; omega, .inr (by rw [HB.out]; intro e; exact h4 (Option.some.inj e)), HA.out⟩
            clear h4
            go_wp2
            go_ret
            exact ⟨by rw [HE.out]; rfl, rfl⟩
        · have HE := Lib.hid (digOk_empty (l := s.data.toList) (by rw [HL.out]; omega))
          clear h1
          go_wp2
          go_ret
          exact ⟨by rw [HE.out]; rfl, rfl⟩
end Go.Proofs.YtjiccijfbpkliaaGreatDoor

/- ratio.Sub returns the difference in normal form. Conditions: numbers of at most 100,000 limbs. -/
namespace Go.Proofs.YtjiccijfbpkliaaGreatDoor
open Go.RowKit

set_option maxRecDepth 100000 in
set_option maxHeartbeats 3200000 in
theorem rsub_any (v u : Value) (j k : Nat) (p q : Rat) (w : World) (ha : RatA w v j p) (hb : RatA w u k q) (hj : 1 ≤ j) (hk : 1 ≤ k) (hj2 : j ≤ 100000) (hk2 : k ≤ 100000) :
    Calls Tryz.prog 34 #[v, u] w (RetQ (p - q) w) := by
  have HA := Lib.hid (And.intro ha hb)
  have hqk := qk_neg (hb.qk hk)
  obtain ⟨neg, A, n, c, B, m, d, x, y, rfl, -⟩ := ha
  obtain ⟨neg2, A2, n2, c2, B2, m2, d2, x2, y2, rfl, -⟩ := hb
  have hB : Below w.heap.size w (((w.alloc (.cells #[.bool neg, .slice A n c, .slice B m d] 36)).alloc (.cells #[.bool neg2, .slice A2 n2 c2, .slice B2 m2 d2] 36)).alloc (.cells #[.bool false, .slice none 0 0, .slice none 0 0] 36)) := (((Below.refl _ _).alloc (Nat.le_refl _) _).alloc (by simp) _).alloc (by simp; omega) _
  have X0 : Blk (((w.alloc (.cells #[.bool neg, .slice A n c, .slice B m d] 36)).alloc (.cells #[.bool neg2, .slice A2 n2 c2, .slice B2 m2 d2] 36)).alloc (.cells #[.bool false, .slice none 0 0, .slice none 0 0] 36)) w.heap.size 36 #[.bool neg, .slice A n c, .slice B m d] := ((Blk.new w _ _).alloc _).alloc _
  have Y0 : Blk (((w.alloc (.cells #[.bool neg, .slice A n c, .slice B m d] 36)).alloc (.cells #[.bool neg2, .slice A2 n2 c2, .slice B2 m2 d2] 36)).alloc (.cells #[.bool false, .slice none 0 0, .slice none 0 0] 36)) (w.heap.size + 1) 36 #[.bool neg2, .slice A2 n2 c2, .slice B2 m2 d2] := (Blk.new' (w.alloc (.cells #[.bool neg, .slice A n c, .slice B m d] 36)) 36 #[.bool neg2, .slice A2 n2 c2, .slice B2 m2 d2] (by simp)).alloc _
  have R0 : Blk (((w.alloc (.cells #[.bool neg, .slice A n c, .slice B m d] 36)).alloc (.cells #[.bool neg2, .slice A2 n2 c2, .slice B2 m2 d2] 36)).alloc (.cells #[.bool false, .slice none 0 0, .slice none 0 0] 36)) (w.heap.size + 1 + 1) 36 #[.bool false, .slice none 0 0, .slice none 0 0] := Blk.new' ((w.alloc (.cells #[.bool neg, .slice A n c, .slice B m d] 36)).alloc (.cells #[.bool neg2, .slice A2 n2 c2, .slice B2 m2 d2] 36)) 36 #[.bool false, .slice none 0 0, .slice none 0 0] (by simp)
  have HX := Lib.hid X0
  have HY := Lib.hid Y0
  have HZ := Lib.hid R0
  have HB := Lib.hid hB
  clear X0 Y0 R0 hB
  have ne0 : ¬ w.heap.size + 1 + 1 = w.heap.size := by omega
  have ne1 : ¬ w.heap.size = w.heap.size + 1 + 1 := by omega
  have ne2 : ¬ w.heap.size + 1 + 1 = w.heap.size + 1 := by omega
  have ne3 : ¬ w.heap.size + 1 = w.heap.size + 1 + 1 := by omega
  obtain ⟨s0, s1, s2, s3, s4, s5⟩ := six HX.out HY.out
  go_enter Tryz.func34, Tryz.ntmps34
  go_upto_region 1 with fail
  go_region_held3 (fun w' => w'.cell? ⟨w.heap.size, 0, none⟩ = some (.bool neg) ∧ w'.cell? ⟨w.heap.size, 1, none⟩ = some (.slice A n c) ∧ w'.cell? ⟨w.heap.size, 2, none⟩ = some (.slice B m d) ∧ w'.cell? ⟨w.heap.size + 1, 0, none⟩ = some (.bool neg2) ∧ w'.cell? ⟨w.heap.size + 1, 1, none⟩ = some (.slice A2 n2 c2) ∧ w'.cell? ⟨w.heap.size + 1, 2, none⟩ = some (.slice B2 m2 d2))
    (go_keep)
    (first
    | (go_at_call 75; go_must ((refine (rneg_any _ k q _ (by exact HA.out.2.on HB.out.drew) hk hk2).mono ?_); rintro e w3 ⟨A3, n3, c3, B3, m3, d3, rfl, r1, r2, r3, r4, hb3⟩; have HB3 := Lib.hid (HB.out.trans (Below.mono (w' := w3) ⟨hb3.os, hb3.tape, hb3.output, hb3.size, hb3.block⟩ HB.out.size)); have HX3 := Lib.hid (HX.out.below (w' := w3) ⟨hb3.os, hb3.tape, hb3.output, hb3.size, hb3.block⟩); have HY3 := Lib.hid (HY.out.below (w' := w3) ⟨hb3.os, hb3.tape, hb3.output, hb3.size, hb3.block⟩); have HZ3 := Lib.hid (HZ.out.below (w' := w3) ⟨hb3.os, hb3.tape, hb3.output, hb3.size, hb3.block⟩); have hs3 := six HX3.out HY3.out; have HR3 := Lib.hid (RatA.of r1 r2 r3 r4 hqk); clear r1 r3 hb3))
    | (go_at_call 35; go_must ((refine (radd_any _ _ j k p (-q) _ (HA.out.1.on HB3.out) HR3.out hj hk hj2 hk2).mono ?_); rintro e w4 ⟨A4, n4, c4, B4, m4, d4, rfl, r5, r6, r7, r8, hb4⟩; have X4 := HX3.out.below hb4; have Y4 := HY3.out.below hb4; have Z4 := HZ3.out.below hb4; have HF := Lib.hid (rat_end r5 r6 r7 r8 Z4 (by simp) (HB3.out.trans (hb4.mono HB3.out.size)) (by omega)); have hs4 := six X4 Y4; have k0 := Z4.c (i := 0) rfl; have k1 := Z4.c (i := 1) rfl; have k2 := Z4.c (i := 2) rfl; have y0 := Z4.frozen 0; have y1 := Z4.frozen 1; have y2 := Z4.frozen 2; clear r5 r7 X4 Y4 Z4 hb4)))
  go_wp2_with fail
  rw [Rat.sub_eq_add_neg]
  refine bodyPost_ret (v := .agg #[.bool (ineg (p + -q).num), .slice A4 n4 c4, .slice B4 m4 d4]) (by simp [results, Tryz.results34, go_sem, k0, k1, k2]) rfl ?_
  exact HF.out
end Go.Proofs.YtjiccijfbpkliaaGreatDoor
