/-
  order.Print returns the text of counts, or the error. Conditions: Std; slices of at most 1,000,000 elements; the sizes' texts of at most 1,000,000 bytes.
-/
import Derived.Test.YtkcbgbpgiihdeaaDoorPrint
import Derived.Deep.RegionHeld3
import Derived.Deep.AppendLies
import Derived.OwnWalk
namespace Go.Proofs.YtkcbgbpgiihdeaaDoor
open Go.RowKit
open Go.Lib hiding intOf

theorem grow_below {w : World} {B : Nat} (hB : B ≤ w.heap.size) (k : Nat) (os : Array Obj) : Below B w (Sort.grow (w.drewN k) os) := by
  refine ⟨rfl, rfl, rfl, ?_, fun j hj => ?_⟩
  · show w.heap.size ≤ (w.heap ++ os).size
    simp
  · show (w.heap ++ os)[j]? = w.heap[j]?
    rw [Array.getElem?_append_left (by omega)]

theorem itoa_any (n : Int) (h0 : 0 ≤ n) (h1 : n ≤ 1000) (w : World) (hw : Std w) :
    Calls Tryd.prog 19 #[.int .i64 n] w fun e w' => e = .returned (.string ⟨(itoa n).toArray⟩) ∧ Below w.heap.size w w' :=
  (Tryd.strconv_Itoa n (by omega) (by omega) w hw.2.2.2).mono fun e w' ⟨he, k, os, hw'⟩ => ⟨he, by rw [hw']; exact grow_below (Nat.le_refl _) k os⟩

/-- The item's text, as the program joins it. -/
theorem cat3 (z : ByteArray) (x : Int) (hz : z.size ≤ 1000000) (h0 : 0 ≤ x) (h1 : x ≤ 1000) : ∃ y I p : ByteArray, (∀ W, (Op.stringOp .add z ⟨#[32]⟩).run Tryd.prog W = .ok (.string y) W) ∧ (∀ W, (Op.stringOp .add y I).run Tryd.prog W = .ok (.string p) W) ∧ (⟨(itoa x).toArray⟩ : ByteArray) = I ∧ p.data.toList = itemL z x := by
  have hI := itoa_len h0 h1
  refine ⟨z ++ ⟨#[32]⟩, ⟨(itoa x).toArray⟩, z ++ ⟨#[32]⟩ ++ ⟨(itoa x).toArray⟩, fun W => run_string_add_sum W _ _ ?_, fun W => run_string_add_sum W _ _ ?_, rfl, ?_⟩
  · show z.size + 1 ≤ _
    omega
  · have e1 : (z ++ ⟨#[32]⟩ : ByteArray).size = z.size + 1 := by rw [ByteArray.size_append]; rfl
    have e2 : (⟨(itoa x).toArray⟩ : ByteArray).size = (itoa x).length := rfl
    rw [e1, e2]
    omega
  · simp [itemL, ByteArray.data_append]
theorem own_below {w w' : World} {base size n : Nat} {e : TypeId} {v : Value} {xs : List Value} (h : w.ownsRow base e size v n xs) (hb : Below w.heap.size w w') : w'.ownsRow base e size v n xs :=
  h.kept ⟨hb.os, hb.tape, hb.output, hb.size, fun k hk _ => hb.block k hk⟩ (row := none) (by cases v.ownBlock <;> simp)

theorem own_cap {w : World} {base size n c : Nat} {e : TypeId} {A : Option Addr} {xs : List Value} (h : w.ownsRow base e size (.slice A n c) n xs) : n ≤ c := by
  rcases h.2 with ⟨h1, h2⟩ | ⟨g, cap, cur, h1, _, _, h2, _⟩
  · omega
  · injection h1 with _ _ h1
    omega
theorem joinS (bk o c q : Nat) (xs : List ByteArray) (sep : ByteArray) (w : World) (hq : xs.length = q) (hcells : ∀ (j : Nat) x, xs[j]? = some x → w.cell? ⟨bk, o + j, none⟩ = some (.string x)) (hbk : bk < w.heap.size) (hN : q ≤ 1000000) (hcap : q ≤ c) (hlen : (join (xs.map (·.data.toList)) sep.data.toList).length ≤ 140737488355328) :
    Calls Tryd.prog 20 #[.slice (some ⟨bk, o, none⟩) q c, .string sep] w fun e w' => e = .returned (.string ⟨(join (xs.map (·.data.toList)) sep.data.toList).toArray⟩) ∧ Below w.heap.size w w' := by
  subst hq
  exact Tryd.strings_Join bk o c xs sep w hcells hbk (by omega) hcap hlen

/-- A string and an error come back. -/
def RetSE (s : ByteArray) (err : Int) (w : World) (e : Ending) (w' : World) : Prop :=
  e = .returned (.tuple #[.string s, .int .i64 err]) ∧ Below w.heap.size w w'

set_option maxRecDepth 100000 in
set_option maxHeartbeats 3200000 in
theorem print_any (A B : Option Addr) (n m c d : Nat) (cs : List Int) (zs : List ByteArray) (w : World) (hw : Std w) (ha : Sl w w.heap.size A n (ints cs)) (hb : Sl w w.heap.size B m (strs zs)) (hn : n ≤ 1000000) (hm : m ≤ 1000000) (hd : m ≤ d) (hz : ∀ z ∈ zs, z.size ≤ 1000000) :
    Calls Tryd.prog 12 #[.slice A n c, .slice B m d] w (RetSE (printS cs zs) (printE cs zs) w) := by
  have HX := Lib.hid ha.ilen
  have HY := Lib.hid hb.slen
  have HZ := Lib.hid hz; clear hz
  have HW := Lib.hid hw; clear hw
  obtain ⟨i0, hi, hz0, hz1, hz2⟩ := info_parts str_info
  by_cases hE : printE cs zs = 0
  · obtain ⟨hlen, _, h12, hwi, _⟩ := printE_parts hE
    obtain rfl : n = m := by rw [← HX.out, ← HY.out]; exact hlen
    have h12' : n ≤ 12 := by rw [← HY.out]; omega
    have HWI := Lib.hid hwi
    have HE := Lib.hid hE
    clear hlen h12 hwi hE
    go_enter Tryd.func12, Tryd.ntmps12
    go_wp2_with (go_at_call 18; refine (printable_any _ _ _ _ _ _ cs zs _ ha hb hn hm hd HZ.out).mono ?_; rintro e w1 ⟨rfl, hb1⟩; rw [HE.out])
    go_loopw [7, 18] (fun v i wr => ∃ (k q : Nat) (ps : List ByteArray), k ≤ n ∧ i = .int .i64 k ∧ q ≤ k ∧ Hid (ps.map (·.data.toList) = texts (cs.take k) (zs.take k)) ∧ wr.ownsRow w.heap.size 9 1 v q (strs ps) ∧ Below w.heap.size w wr) (fun _ i _ => n - (intOf i).toNat)
    case atStart => exact ⟨0, 0, [], Nat.zero_le _, rfl, Nat.le_refl _, by simp [Hid, texts], ⟨by simp [strs], .inl ⟨rfl, rfl⟩⟩, hb1⟩
    case round =>
      clear hb1
      obtain ⟨k, q, ps, hk, rfl, hqk, hps, hown, hbel⟩ := hrel
      have hN := hbel.size
      by_cases hlt : k < n
      · obtain ⟨b, off, x, rfl, hbw, hx, hcx⟩ := (ha.below hbel).int_ hlt
        obtain ⟨b', off', z, rfl, hbw', hz, hcz⟩ := (hb.below hbel).str_ hlt
        have hzs : z.size ≤ 1000000 := HZ.out z (List.mem_of_getElem? hz)
        obtain ⟨x0, x1⟩ := isC_true.1 (within_at HWI.out hx)
        have HT := Lib.hid (texts_succ hx hz)
        clear hx hz ha hb
        by_cases hx0 : x = 0
        · have hxq : (x != 0) = false := by simp [hx0]
          have HX0 := Lib.hid hx0
          clear hx0
          go_wp2
          go_roundw
          case rel => exact ⟨k + 1, q, ps, by omega, by go_num, by omega, by rw [HT.out, if_pos HX0.out, List.append_nil]; exact hps, hown, hbel⟩
          case measure => simp [intOf]; omega
        · have hxq : (x != 0) = true := by simp [hx0]
          have HX0 := Lib.hid hx0
          clear hx0
          have hk0 : (0 : Int) ≤ (k : Int) := Int.natCast_nonneg _
          have hk1 : (k : Int) < (n : Int) := by omega
          have HS := Lib.hid (HW.out.below hbel)
          obtain ⟨y, I, p, hc1, hc2, hI, hp⟩ := cat3 z x hzs x0 x1
          have HI := Lib.hid hI
          have HP := Lib.hid hp
          clear hI hp
          have o2 := own_ne hown hbw'
          have hbwr : b' < wr.heap.size := by omega
          have hownd := hown.drew
          go_wp2
          go_region_held3 (fun w' => w'.cell? ⟨b', off' + k, none⟩ = some (.string z))
            (first | go_keep | (rw [hb2.cell (by simp; omega)]; assumption) | (rw [hgrow.cell_far _ (by simp; omega) o2]; assumption))
            (first
              | (refine step_append_lies _ (by rfl) _ _ _ (by rfl) w.heap.size 9 i0 _ 1 16 Tryd.underlying32 hi hz0 hz1 hz2 rfl (by omega) _ q (strs ps) (by rfl) (hown2.alloc _) ⟨w2.heap.size, 0, none⟩ 1 1 [.string p] (by rfl) (by rfl) (World.news_of_block (cs := #[.string p]) (t := 9) (fr := (0, 0)) (heap_alloc_new w2 _)) (by simp [Value.oneCell']) (by omega) (by unfold maxLen; omega) (by omega) (by simp; omega) (w2.heap.size + 1) (by simp) ?_; intro gg cap w3 hown3 hgrow hat hlt3)
              | (go_simp; go_at_call 19; refine (itoa_any x x0 x1 _ (by exact HS.out)).mono ?_; rintro e w2 ⟨rfl, hb2⟩; rw [HI.out]; have hown2 := own_below hownd hb2; have hN2 : wr.heap.size ≤ w2.heap.size := hb2.size))
          have hown4 : w3.ownsRow w.heap.size 9 1 (.slice (some ⟨gg, 0, none⟩) (q + 1) cap) (q + 1) (strs (ps ++ [p])) := by rw [strs_snoc]; exact hown3
          have hbel3 : Below w.heap.size w w3 := ((hbel.drew.trans (hb2.mono (by simpa using hN))).alloc (by omega) _).grown hgrow (by simp; omega) fun r hr => own_ge hown hr
          have HPS : Hid ((ps ++ [p]).map (·.data.toList) = texts (cs.take (k + 1)) (zs.take (k + 1))) := by
            rw [HT.out, if_neg HX0.out, List.map_append, hps.out, ← HP.out]
            exact rfl
          clear hown3 hgrow hat hown2 hb2 hc1 hc2
          go_wp2
          go_roundw
          case rel => exact ⟨k + 1, q + 1, ps ++ [p], by omega, by go_num, by omega, HPS, hown4, hbel3⟩
          case measure => simp [intOf]; omega
      · obtain rfl : k = n := by omega
        have hps' := hps.out
        rw [List.take_of_length_le (by rw [HX.out]; omega), List.take_of_length_le (by rw [HY.out]; omega)] at hps'
        obtain ⟨A', c', rfl⟩ := own_form hown
        have hsl := Sl.of_own hown
        have hcap : q ≤ c' := own_cap hown
        have hql := hsl.slen
        have HPS := Lib.hid hps'
        have HTL := Lib.hid (texts_len cs zs HWI.out HZ.out)
        clear hps'
        by_cases hq0 : q = 0
        · subst hq0
          obtain rfl : ps = [] := List.eq_nil_of_length_eq_zero hql
          have hT : texts cs zs = [] := HPS.out.symm
          have HF : Hid (printS cs zs = ⟨noneL.toArray⟩) := by rw [printS, if_pos HE.out, printT, if_pos hT]; exact rfl
          clear hT ha hb hown
          go_wp2
          go_ret2
          exact ⟨by rw [HF.out, HE.out]; rfl, hbel⟩
        · have hqq : ((q : Int) == 0) = false := by simp; omega
          have hT : texts cs zs ≠ [] := by
            rw [← HPS.out]
            intro e
            apply hq0
            rw [← hql]
            simpa using e
          have HF : Hid (printS cs zs = ⟨(join (ps.map (·.data.toList)) [44, 32]).toArray⟩) := by rw [printS, if_pos HE.out, printT, if_neg hT, ← HPS.out]; exact rfl
          obtain ⟨bb, oo, rfl, hbb, hcc⟩ := hsl.2 (by omega)
          have HJ : Hid ((join (ps.map (·.data.toList)) (⟨#[44, 32]⟩ : ByteArray).data.toList).length ≤ 140737488355328) := by
            have h := join_le (sep := [44, 32]) (ps.map (·.data.toList)) 1000005 (by rw [HPS.out]; exact HTL.out)
            rw [List.length_map, hql] at h
            show (join (ps.map (·.data.toList)) [44, 32]).length ≤ _
            refine Nat.le_trans h ?_
            have : q * (1000005 + ([44, 32] : List UInt8).length) ≤ 12 * 1000007 := Nat.mul_le_mul (by omega) (Nat.le_refl _)
            omega
          have HC : Hid (∀ (j : Nat) x, ps[j]? = some x → wr.cell? ⟨bb, oo + j, none⟩ = some (.string x)) := fun j x hx => hcc j _ (by simp [strs, hx])
          have HQ := Lib.hid hql
          clear hT hq0 ha hb hown hcc hsl hql
          go_wp2_with (go_at_call 20; refine (joinS bb oo c' q ps _ _ HQ.out HC.out hbb (by omega) hcap HJ.out).mono ?_; rintro e w2 ⟨rfl, hb2⟩)
          go_ret2
          exact ⟨by rw [HF.out, HE.out]; rfl, hbel.trans (hb2.mono hN)⟩
  · have hE' : (printE cs zs != 0) = true := by simp [hE]
    rw [show printS cs zs = ⟨#[]⟩ by rw [printS, if_neg hE]]
    have HE := Lib.hid hE
    clear hE
    go_enter Tryd.func12, Tryd.ntmps12
    go_wp2_with (go_at_call 18; refine (printable_any _ _ _ _ _ _ cs zs _ ha hb hn hm hd HZ.out).mono ?_; rintro e w1 ⟨rfl, hb1⟩)
    go_ret2
    exact ⟨rfl, hb1⟩
end Go.Proofs.YtkcbgbpgiihdeaaDoor
