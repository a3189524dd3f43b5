/-
  Several texts in one: natural.DivMod where the divisor has two limbs or more; natural.DivMod; natural.Gcd. Conditions: slices of at most 1,000,000 limbs.
-/
import Derived.Deep.RegionWith
import Derived.Test.YtjiccijfbpkliaaGreatDoorG15

/- natural.DivMod where the divisor has two limbs or more; natural.DivMod; natural.Gcd. Conditions: slices of at most 1,000,000 limbs. -/
namespace Go.Proofs.YtjiccijfbpkliaaGreatDoor
open Go.RowKit

/-- What DivMod has laid ahead of its loop. -/
def dmCut (N k U V s : Nat) (w : World) (s11 s12 : Value) (wx : World) : Prop :=
  ∃ (g h : Nat) (L K : List Nat), s11 = .slice (some ⟨g, 0, none⟩) (N + 1) (N + 1) ∧ s12 = .slice (some ⟨h, 0, none⟩) (k + 2) (k + 3) ∧ w.heap.size ≤ g ∧ w.heap.size ≤ h ∧ h ≠ g ∧ RowU wx g L ∧ RowU wx h K ∧
    Hid (L.length = N + 1 ∧ okL L ∧ val L = U ∧ L.getD N 0 < 2 ^ s) ∧ Hid (K.length = k + 3 ∧ okL K ∧ val K = V) ∧ Below w.heap.size w wx

def dmRel (g h gq k M V U0 : Nat) (K : List Nat) (w : World) (s14 : Value) (wr : World) : Prop :=
  ∃ (j : Nat) (Q U : List Nat), j ≤ M ∧ s14 = .int .i64 ((j : Int) - 1) ∧ RowU wr g U ∧ RowU wr h K ∧ RowU wr gq Q ∧ Hid (dmInv Q U V U0 j (k + 2) M) ∧ Below w.heap.size w wr
theorem dm_ready {b K : List Nat} {k s z V : Nat} (hob : okL b) (hs : s ≤ 31) (hb : b.length = k + 2) (hz : b[k + 1]? = some z) (hlo : 2 ^ 31 ≤ z * 2 ^ s) (hhi : z * 2 ^ s < bs) (hK : K.length = k + 3 ∧ okL K ∧ val K = V) (hV : V = val b * 2 ^ s) :
    val (K.take (k + 2)) = V ∧ (∀ y, (K.take (k + 2))[k + 1]? = some y → 2147483648 ≤ y) ∧ V < bs ^ (k + 2) ∧ 0 < V := by
  obtain ⟨y, hy⟩ : ∃ y, K[k + 1]? = some y := ⟨_, List.getElem?_eq_getElem (by omega)⟩
  obtain ⟨f1, f2, f3⟩ := norm_top hs hob hb hz hlo hhi hK.2.1 hK.1 (by rw [hK.2.2, hV]) hy
  have hlen : (K.take (k + 2)).length = k + 2 := by rw [List.length_take]; omega
  have hyt : (K.take (k + 2))[k + 1]? = some y := by rw [List.getElem?_take, if_pos (by omega)]; exact hy
  refine ⟨by rw [hV]; exact f1, ?_, by rw [hV]; exact f3, ?_⟩
  · intro y' hy'
    rw [hyt] at hy'
    rw [← Option.some.inj hy']
    exact f2
  · rw [hV, ← f1]
    have := val_last hlen hyt
    rw [this]
    have h1 : bs ^ (k + 1) * 1 ≤ bs ^ (k + 1) * y := Nat.mul_le_mul_left _ (by omega)
    have h2 := bpow_pos (k + 1)
    omega
theorem dm_first {L K : List Nat} {k s N M V U : Nat} (hs : s ≤ 31) (hD : val (K.take (k + 2)) = V ∧ (∀ y, (K.take (k + 2))[k + 1]? = some y → 2147483648 ≤ y) ∧ V < bs ^ (k + 2) ∧ 0 < V) (hM : N = M + (k + 1)) (hL : L.length = N + 1 ∧ okL L ∧ val L = U ∧ L.getD N 0 < 2 ^ s) (hlen : K.length = k + 3) :
    dmInv (List.replicate M 0) L V U M (k + 2) M := by
  obtain ⟨h1, h2, h3, h4⟩ := hL
  obtain ⟨x, hx⟩ : ∃ x, L[N]? = some x := ⟨_, List.getElem?_eq_getElem (by omega)⟩
  have hlen : (K.take (k + 2)).length = k + 1 + 1 := by
    rw [List.length_take]
    omega
  obtain ⟨y, hy⟩ : ∃ y, (K.take (k + 2))[k + 1]? = some y := ⟨_, List.getElem?_eq_getElem (by omega)⟩
  rw [getD_some hx] at h4
  have hp : 2 ^ s ≤ 2 ^ 31 := Nat.pow_le_pow_right (by omega) hs
  have hy2 := hD.2.1 y hy
  have := dm_start (M := M) (n := k + 1) h2 hlen (by omega) (by rw [← hM]; exact hx) hy (by omega) (List.replicate M 0) (by simp) (okL_zeros _)
  rw [hD.1, h3] at this
  exact this
theorem RowU.only {w w' : World} {g q : Nat} {L : List Nat} (h : RowU w q L) (hg : w.grownBy w' (some g)) (hne : q ≠ g) : RowU w' q L :=
  World.rowIs.of_block h (hg.block q h.lt (fun e => hne (by injection e)))
theorem win_of {w : World} {g i n : Nat} {U : List Nat} (h : RowU w g U) (hi : i + n ≤ U.length) : Win w g i (U.take i) (U.drop (i + n)) ((U.drop i).take n) := by
  refine ⟨by rw [List.length_take]; omega, ?_⟩
  have e : U.take i ++ (U.drop i).take n ++ U.drop (i + n) = U := by
    rw [List.append_assoc, ← List.drop_drop, List.take_append_drop, List.take_append_drop]
  rw [e]
  exact h
theorem vrow_of {w : World} {h : Nat} {K : List Nat} (hk : RowU w h K) (n : Nat) : VRow w h (K.take n) := by
  intro k x hx
  rw [List.getElem?_take] at hx
  split at hx
  · exact hk.cell hx
  · cases hx

set_option maxRecDepth 100000 in
set_option maxHeartbeats 3200000 in
theorem divmod_big (A B : Option Addr) (n m c d x y k : Nat) (w : World) (ha : NatA w A n c x) (hb : NatA w B m d y) (hn : n ≤ 1000000) (hm : m ≤ 1000000) (hle : y ≤ x) (hk : nl y = k + 2) :
    Calls Tryz.prog 105 #[.slice A n c, .slice B m d] w (RetDM (x / y) (x % y) w) := by
  have hyx := nl_mono hle
  obtain ⟨t1, t2⟩ := ha.trimmed
  obtain ⟨s1, s2⟩ := hb.trimmed
  rw [hk] at s1 s2 hyx
  have hlk : (limbs y).length = k + 2 := hk
  obtain ⟨z, hz⟩ : ∃ z, (limbs y)[k + 1]? = some z := ⟨_, List.getElem?_eq_getElem (by omega)⟩
  have hz0 : z ≠ 0 := by
    rintro rfl
    have := tight_limbs y
    apply this
    rw [List.getLast?_eq_getElem?, hlk, show k + 2 - 1 = k + 1 from rfl]
    exact hz
  have hzb := okL_at (okL_limbs y) hz
  rw [bs_eq] at hzb
  obtain ⟨s, hs31, hsl, hsh, hsb⟩ := clz z hz0 hzb
  obtain ⟨b, off, u, rfl, hbw, hu, hcu⟩ := s2.limb_ (k := k + 1) (by omega)
  obtain rfl : z = u := Option.some.inj (hz.symm.trans hu)
  have ha2 := ha.cut
  have hb2 := hb.cut
  rw [hk] at hb2
  have HK := Lib.hid hk
  have hge : 0 ≤ cmpN x y := by
    unfold cmpN
    rw [if_neg (by omega)]
    split <;> omega
  generalize hc : cmpN x y = cv at *
  have HC := Lib.hid hc
  have HZ := Lib.hid (And.intro hz (And.intro hz0 (And.intro hsl (And.intro hsh (And.intro hsb hlk)))))
  clear hz hz0 hsl hsh hsb hc hk hu hlk
  go_enter Tryz.func105, Tryz.ntmps105
  go_upto_region 11 with (first | (go_at_call 108; (with_reducible refine (trim_nat _ _ _ _ _ (by assumption) (by omega)).mono ?_); rintro e w' ⟨rfl, rfl⟩; (try rw [HK.out])) | (go_at_call 91; (with_reducible refine (cmp_any _ _ _ _ _ _ _ _ _ (by assumption) (by assumption) (by omega) (by omega)).mono ?_); rintro e w' ⟨rfl, nq, rfl⟩; rw [HC.out]) | (go_at_call 141; (with_reducible refine (lz_any _ _ _ hzb HZ.out.2.2.2.2.1).mono ?_); rintro e w' ⟨rfl, rfl⟩))
  clear ha hb ha2 hb2 hcu
  have HT := Lib.hid (And.intro t2 s2)
  clear t2 s2
  go_cut [11, 12] (fun s11 s12 wx => dmCut (nl x) k (x * 2 ^ s) (y * 2 ^ s) s w s11 s12 wx)
  case first =>
    go_region_with (first | (go_at_call_of 142 (Value.slice A (nl x) c); (refine (left_any A (nl x) c s (limbs x) _ (by exact HT.out.1) (okL_limbs x) (by omega) hs31).mono ?_); rintro e w1 ⟨g, L, rfl, hg, hrow, hok, hP, hb1⟩; go_must (have HB1 := Lib.hid (show Below w.heap.size w w1 from ⟨hb1.os, hb1.tape, hb1.output, hb1.size, hb1.block⟩); have HY := Lib.hid (HT.out.2.on HB1.out); have HG := Lib.hid (show w.heap.size ≤ g from hg); rw [show L.length = nl x + 1 from hP.1]; have HL := Lib.hid (And.intro hrow (And.intro hok hP)); clear hb1 hg hrow hok hP)) | (go_at_call 142; go_must (refine (left_any _ (k + 2) d s (limbs y) _ HY.out (okL_limbs y) (by omega) hs31).mono ?_); rintro e w2 ⟨h, K, rfl, hh, hrow2, hok2, hP2, hb2⟩; have HB2 := Lib.hid (show Below w1.heap.size w1 w2 from ⟨hb2.os, hb2.tape, hb2.output, hb2.size, hb2.block⟩); rw [show K.length = k + 3 by rw [hP2.1, HZ.out.2.2.2.2.2]]; have HR := Lib.hid (And.intro hrow2 (And.intro hok2 hP2)); clear hb2 hrow2 hok2 hP2))
    all_goals
      go_wp2_with fail
      go_meet
      have hgl := HL.out.1.lt
      have hh2 : w1.heap.size ≤ h := hh
      have hL := HL.out.2.2
      have hR := HR.out.2.2
      rw [val_limbs] at hL hR
      exact ⟨g, h, L, K, rfl, rfl, HG.out, Nat.le_trans HB1.out.size hh2, by omega, HL.out.1.below HB2.out hgl, HR.out.1, ⟨hL.1, HL.out.2.1, hL.2.1, hL.2.2⟩, ⟨by rw [hR.1, HZ.out.2.2.2.2.2], HR.out.2.1, hR.2.1⟩, HB1.out.trans (HB2.out.mono HB1.out.size)⟩
  case rest =>
    obtain ⟨g, h, L, K, rfl, rfl, hg, hh, hgh, hrg, hrh, hL, hK, hbel⟩ := hcut
    clear HT
    obtain ⟨M, hM⟩ : ∃ M, nl x = M + (k + 1) := ⟨nl x - (k + 1), by omega⟩
    have hmk := make_full M (by omega)
    have hsub : ((nl x : Int) + 1) - ((k : Int) + 2) = (M : Int) := by omega
    have HM := Lib.hid hM
    have hM1 : nl x ≤ M + (k + 1) := by omega
    have hM2 : M + (k + 1) ≤ nl x := by omega
    clear hM
    go_wp2
    clear hmk hsub
    have hg2 := hrg.lt
    have hh2 := hrh.lt
    have HD := Lib.hid (dm_ready (okL_limbs y) hs31 HZ.out.2.2.2.2.2 HZ.out.1 HZ.out.2.2.1 HZ.out.2.2.2.1 hK.out (by rw [val_limbs]))
    have HS := Lib.hid (dm_first (M := M) hs31 HD.out HM.out hL.out hK.out.1)
    have HR := Lib.hid (And.intro hrg (And.intro hrh hbel))
    clear hrg hrh hbel
    go_loopw [14] (fun s14 wr => dmRel g h wc.heap.size k M (y * 2 ^ s) (x * 2 ^ s) K w s14 wr) (fun s14 _ => (intOf s14 + 1).toNat)
    case atStart => exact ⟨M, _, L, Nat.le_refl _, rfl, HR.out.1.alloc _, HR.out.2.1.alloc _, RowU.made wc M, HS.out, HR.out.2.2.alloc HR.out.2.2.size _⟩
    case round =>
      obtain ⟨j, Q, U, hj, hi, hrg, hrh, hrq, hinv, hbel⟩ := hrel
      by_cases hj0 : j = 0
      · subst hj0
        obtain rfl : u14 = .int .i64 (-1) := hi
        obtain ⟨f1, f2⟩ := dm_end hinv.out HD.out.2.2.1
        obtain ⟨g1, g2⟩ := div_shift x y s
        rw [g1] at f1
        have hUl : U.length = M + (k + 2) := hinv.out.1
        have hQN : NatA wr (some ⟨wc.heap.size, 0, none⟩) M M (x / y) := ⟨Q, hrq.sl hinv.out.2.1, hinv.out.2.2.2.1, f1, Nat.le_refl _⟩
        have hRN : NatA wr (some ⟨g, 0, none⟩) (k + 2) (nl x + 1) (x * 2 ^ s % (y * 2 ^ s)) := ⟨U.take (k + 2), (hrg.sl hUl).utake (by omega), okL_take hinv.out.2.2.1 _, f2, by omega⟩
        have HN := Lib.hid (And.intro hQN hRN)
        have HG := Lib.hid g2
        clear hrg hrh hrq hQN hRN f1 f2 g1 g2 hUl hj
        go_wp2_with fail
        go_region_with (first | (go_at_call 108; go_must ((refine (trim_nat _ M M (x / y) _ (by exact HN.out.1) (by omega)).mono ?_); rintro e w' ⟨rfl, rfl⟩)) | (go_at_call 144; go_must ((refine (right_any _ (k + 2) (nl x + 1) s _ _ (by exact HN.out.2) (by omega) hs31).mono ?_); rintro e w2 ⟨A2, n2, c2, rfl, hs2, hc2, hb2⟩; have HB2 := Lib.hid (show Below wr.heap.size wr w2 from ⟨hb2.os, hb2.tape, hb2.output, hb2.size, hb2.block⟩); clear hb2)))
        all_goals
          go_wp2_with fail
          go_ret3
          rw [HG.out] at hs2
          obtain ⟨h1, h2⟩ := (HN.out.1.on HB2.out).trimmed
          exact ⟨_, _, _, _, _, _, rfl, h2, h1, hs2, hc2, hbel.trans (HB2.out.mono hbel.size)⟩
      · obtain ⟨i, rfl⟩ : ∃ i, j = i + 1 := ⟨j - 1, by omega⟩
        have hi2 : u14 = Value.int .i64 (i : Int) := by rw [hi]; congr 1; omega
        clear hi hj0
        subst hi2
        have hUl : U.length = M + (k + 2) := hinv.out.1
        have hQl : Q.length = M := hinv.out.2.1
        obtain ⟨w1, w2, w3, w4, w5⟩ := dm_window hinv.out HD.out.2.2.1 (by omega)
        have HC := Lib.hid (fun cu cv => digit_any g h i k cu cv (U.take i) (U.drop (i + (k + 2 + 1))) ((U.drop i).take (k + 2 + 1)) (K.take (k + 2)) wr (win_of hrg (by omega)) (vrow_of hrh _) hgh w1 (by rw [List.length_take, hK.out.1]; omega) w2 (okL_take hK.out.2.1 _) (by omega) HD.out.2.1 (by rw [HD.out.1]; exact w3))
        obtain ⟨z1, hz1⟩ : ∃ z1, Q[i]? = some z1 := ⟨_, List.getElem?_eq_getElem (by omega)⟩
        have HW := Lib.hid (And.intro hrg (And.intro hrh hrq))
        clear hrg hrh hrq w1 w2 w3 w4 w5 hUl hQl
        have hile : i < M := by omega
        clear hj
        have hqg : wc.heap.size ≠ g := by omega
        go_wp2_with (go_at_call 143; rw [show i + (k + 2) + 1 - i = k + 3 by omega]; refine (HC.out _ _).mono ?_; rintro e w2 ⟨rfl, R, hRl, hRo, hRv, hRw, hRv2, hRg⟩; have hq2 := HW.out.2.2.only hRg hqg; have hcq := hq2.cell hz1; have hfq := hq2.frozen i; have HF := Lib.hid (And.intro hRl (And.intro hRo (And.intro hRv (And.intro hRw (And.intro hRv2 (And.intro hRg hq2)))))); clear hRl hRo hRv hRw hRv2 hRg hq2)
        go_roundw
        case rel =>
          have hn := dm_succ hinv.out HD.out.2.2.1 hile HD.out.2.2.2 (by rw [HF.out.1, List.length_take, hK.out.1]; omega) HF.out.2.1 (by rw [HF.out.2.2.1, HD.out.1])
          have hbel2 : Below w.heap.size w w2 := hbel.grown HF.out.2.2.2.2.2.1 hbel.size (fun r e => by injection e with e; omega)
          refine ⟨i, _, _, by omega, rfl, (HF.out.2.2.2.1.2).far (p := ⟨wc.heap.size, i, none⟩) (Ne.symm hqg) _, (HW.out.2.1.only HF.out.2.2.2.2.2.1 hgh).far (p := ⟨wc.heap.size, i, none⟩) (by simp; omega) _, ?_, hn.1, hbel2.setCell (p := ⟨wc.heap.size, i, none⟩) HR.out.2.2.size _⟩
          rw [HD.out.1]
          exact HF.out.2.2.2.2.2.2.set (by rw [hinv.out.2.1]; omega) _
        case measure => simp [intOf]
end Go.Proofs.YtjiccijfbpkliaaGreatDoor
