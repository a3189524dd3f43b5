/-
  R35.Compare returns what the plain functions say. Conditions: slices of ints of at most 1,000,000 elements.
-/
import Derived.Test.YtkcbgbpgiihdeaaGreatDoorRefs
namespace Go.Proofs.YtkcbgbpgiihdeaaGreatDoor
open Go.RowKit Go.Lib

/-- Two owned rows lie in different blocks. -/
def apart (v u : Value) : Prop := ∀ g, v.ownBlock = some g → u.ownBlock ≠ some g
theorem apart.symm {v u : Value} (h : apart v u) : apart u v := fun g h1 h2 => h g h2 h1
theorem apart.after {w : World} {base size n gg cap k H : Nat} {e : TypeId} {v u : Value} {xs : List Value} (h : apart v u) (hu : w.ownsRow base e size u n xs) (hH : w.heap.size ≤ H) (hat : v.ownBlock = some gg ∨ gg = H) : apart (.slice (some ⟨gg, 0, none⟩) k cap) u := by
  intro g hg hug
  have hgg : gg = g := by simpa [Value.ownBlock] using hg
  subst hgg
  rcases hat with h1 | rfl
  · exact h _ h1 hug
  · have := (hu.lt _ hug).2
    omega
theorem apart.kept {w w' : World} {base size n : Nat} {e : TypeId} {v u : Value} {xs : List Value} (h : apart v u) (hu : w.ownsRow base e size u n xs) (hg : w.grownBy w' v.ownBlock) : w'.ownsRow base e size u n xs := by
  refine hu.kept hg ?_
  cases hb : u.ownBlock with
  | none => exact .inl rfl
  | some g => exact .inr fun e1 => h g e1.symm hb

set_option maxRecDepth 100000 in
set_option maxHeartbeats 3200000 in
theorem rcompare_any (A B : Option Addr) (n m c d : Nat) (xs ys : List Int) (w : World) (ha : Sl w w.heap.size A n (ints xs)) (hb : Sl w w.heap.size B m (ints ys)) (hn : n ≤ 1000000) (hm : m ≤ 1000000) :
    Calls Tryz.prog 18 #[.slice A n c, .slice B m d] w (RetIIE (shortL xs ys) (shortL ys xs) (likeE xs ys) w) := by
  have HX := Lib.hid ha.ilen
  have HY := Lib.hid hb.ilen
  obtain ⟨i0, hi, hz0, hz1, hz2⟩ := info_parts int_info
  by_cases hl : likeE xs ys = 0
  · obtain ⟨hlen, hwx, hwy⟩ := likeE_zero hl
    obtain rfl : n = m := by rw [← HX.out, ← HY.out]; exact hlen
    have HSl := Lib.hid (miss_len HX.out HY.out)
    have HTl := Lib.hid (miss_len HY.out HX.out)
    generalize hS : miss xs ys = S at *
    have HS := Lib.hid hS; clear hS
    generalize hT : miss ys xs = T at *
    have HT := Lib.hid hT; clear hT
    have HL := Lib.hid hl; clear hl
    have HW := Lib.hid (And.intro hwx hwy)
    clear hlen
    go_enter Tryz.func18, Tryz.ntmps18
    go_wp2_with (go_at_call 31; refine (within_any _ _ _ _ _ (by first | exact ha | exact hb) (by omega)).mono ?_; rintro e w' ⟨rfl, rfl⟩)
    clear hwx hwy
    go_loopw [4, 5, 7] (fun v u i wr => ∃ k : Nat, k ≤ n ∧ i = .int .i64 k ∧ wr.ownsRow w.heap.size 3 1 v k (ints (S.take k)) ∧ wr.ownsRow w.heap.size 3 1 u k (ints (T.take k)) ∧ apart v u ∧ Below w.heap.size w wr) (fun _ _ i _ => n - (intOf i).toNat)
    case atStart => exact ⟨0, Nat.zero_le _, rfl, ⟨by simp [ints], .inl ⟨rfl, rfl⟩⟩, ⟨by simp [ints], .inl ⟨rfl, rfl⟩⟩, (fun g h => by simp [Value.ownBlock] at h), Below.refl _ _⟩
    case round =>
      obtain ⟨k, hk, rfl, hown, howu, hap, hbel⟩ := hrel
      by_cases hlt : k < n
      · obtain ⟨b, off, x, rfl, hbw, hx, hcx⟩ := (ha.below hbel).int_ hlt
        obtain ⟨b', off', y, rfl, hbw', hy, hcy⟩ := (hb.below hbel).int_ hlt
        have hSk := miss_at hx hy
        rw [HS.out] at hSk
        have hTk := miss_at hy hx
        rw [HT.out] at hTk
        obtain ⟨x0, x1⟩ := isC_true.1 (within_at HW.out.1 hx)
        obtain ⟨y0, y1⟩ := isC_true.1 (within_at HW.out.2 hy)
        have e1 : max (x - y) 0 = if y < x then x - y else 0 := by rw [Int.max_def]; split <;> split <;> omega
        have e2 : max (y - x) 0 = if x < y then y - x else 0 := by rw [Int.max_def]; split <;> split <;> omega
        rw [e1] at hSk
        rw [e2] at hTk
        clear e1 e2
        obtain ⟨p, hp⟩ : ∃ p, (if y < x then x - y else 0) = p := ⟨_, rfl⟩
        obtain ⟨q, hq⟩ : ∃ q, (if x < y then y - x else 0) = q := ⟨_, rfl⟩
        rw [hp] at hSk
        rw [hq] at hTk
        have HSk := Lib.hid hSk
        have HTk := Lib.hid hTk
        have hN := hbel.size
        have hk0 : (0 : Int) ≤ (k : Int) := Int.natCast_nonneg _
        have hk1 : (k : Int) < (n : Int) := by omega
        have o1 := own_ne hown hbw
        have o2 := own_ne hown hbw'
        have o3 := own_ne howu hbw
        have o4 := own_ne howu hbw'
        clear hSk hTk hx hy ha hb
        have HQ := Lib.hid hq
        clear hq
        go_wp2
        have hwr : IntKind.i64.wrap (x - y) = x - y := IntWalk.i64_in _ (by omega)
        go_region_held3 (fun w' => w'.cell? ⟨b, off + k, none⟩ = some (.int .i64 x) ∧ w'.cell? ⟨b', off' + k, none⟩ = some (.int .i64 y))
          (first | go_keep | (go_split_ands; refine ⟨(by rw [hgrow.cell_far _ (by simp; omega) o1]; assumption), (by rw [hgrow.cell_far _ (by simp; omega) o2]; assumption)⟩))
          ((refine step_append_lies _ (by rfl) _ _ _ (by rfl) w.heap.size 3 i0 _ 1 8 Tryz.underlying25 hi hz0 hz1 hz2 rfl (by omega) _ k (ints (S.take k)) (by rfl) ((hown.alloc _).drew) ⟨wr.heap.size, 0, none⟩ 1 1 [.int .i64 p] (by rfl) (by rfl) (World.news_of_block (cs := #[.int .i64 p]) (t := 3) (fr := (0, 0)) (heap_alloc_new wr _)) (by simp [Value.oneCell']) (by omega) (by unfold maxLen; omega) (by omega) (by simp; omega) (wr.heap.size + 1) (by simp) ?_; intro gg cap w1 hown1 hgrow hat hlt1))
        clear hwr hp
        have hownV : w1.ownsRow w.heap.size 3 1 (.slice (some ⟨gg, 0, none⟩) (k + 1) cap) (k + 1) (ints (S.take (k + 1))) := by rw [ints_succ HSk.out]; exact hown1
        have hbel1 : Below w.heap.size w w1 := ((hbel.alloc hN _).drew).grown hgrow (by simp; omega) fun q hq => own_ge hown hq
        have hapV := hap.after (k := k + 1) (cap := cap) (H := wr.heap.size + 1) howu (by omega) hat
        have howu1 := hap.kept (w := (wr.alloc _).drew) ((howu.alloc _).drew) hgrow
        have hc1 : w1.cell? ⟨b, off + k, none⟩ = some (.int .i64 x) := by rw [hbel1.cell hbw, ← hbel.cell hbw]; exact hcx
        have hc2 : w1.cell? ⟨b', off' + k, none⟩ = some (.int .i64 y) := by rw [hbel1.cell hbw', ← hbel.cell hbw']; exact hcy
        have hN1 := hbel1.size
        have HR := Lib.hid (And.intro hownV (And.intro hapV hbel1))
        clear hownV hapV hbel1 hown1 hgrow hat hcx hcy howu hbel hown hap o1 o2
        go_wp2
        have hq := HQ.out
        have hwr : IntKind.i64.wrap (y - x) = y - x := IntWalk.i64_in _ (by omega)
        go_region_held3 (fun w' => w'.cell? ⟨b, off + k, none⟩ = some (.int .i64 x) ∧ w'.cell? ⟨b', off' + k, none⟩ = some (.int .i64 y))
          (first | go_keep | (go_split_ands; refine ⟨(by rw [hgrow.cell_far _ (by simp; omega) o3]; assumption), (by rw [hgrow.cell_far _ (by simp; omega) o4]; assumption)⟩))
          ((refine step_append_lies _ (by rfl) _ _ _ (by rfl) w.heap.size 3 i0 _ 1 8 Tryz.underlying25 hi hz0 hz1 hz2 rfl (by omega) _ k (ints (T.take k)) (by rfl) ((howu1.alloc _).drew) ⟨w1.heap.size, 0, none⟩ 1 1 [.int .i64 q] (by rfl) (by rfl) (World.news_of_block (cs := #[.int .i64 q]) (t := 3) (fr := (0, 0)) (heap_alloc_new w1 _)) (by simp [Value.oneCell']) (by omega) (by unfold maxLen; omega) (by omega) (by simp; omega) (w1.heap.size + 1) (by simp) ?_; intro gg2 cap2 w2 hown2 hgrow hat hlt2))
        clear hwr hq
        obtain ⟨hownV, hapV, hbel1⟩ := HR.out
        have hownU : w2.ownsRow w.heap.size 3 1 (.slice (some ⟨gg2, 0, none⟩) (k + 1) cap2) (k + 1) (ints (T.take (k + 1))) := by rw [ints_succ HTk.out]; exact hown2
        have hbel2 : Below w.heap.size w w2 := ((hbel1.alloc hN1 _).drew).grown hgrow (by simp; omega) fun q hq => own_ge howu1 hq
        have hap2 := (hapV.symm.after (k := k + 1) (cap := cap2) (H := w1.heap.size + 1) hownV (by omega) hat).symm
        have hownV2 := hapV.symm.kept (w := (w1.alloc _).drew) ((hownV.alloc _).drew) hgrow
        clear hgrow hown2 hat hbel1 hapV hownV HR howu1
        go_wp2
        go_roundw
        case rel => exact ⟨k + 1, by omega, by go_num, hownV2, hownU, hap2, hbel2⟩
        case measure => simp [intOf]; omega
      · obtain rfl : k = n := by omega
        rw [List.take_of_length_le (by rw [HSl.out]; omega)] at hown
        rw [List.take_of_length_le (by rw [HTl.out]; omega)] at howu
        obtain ⟨A', c', rfl⟩ := own_form hown
        obtain ⟨B', d', rfl⟩ := own_form howu
        have hsl := Sl.of_own hown
        have hsu := Sl.of_own howu
        clear hown howu ha hb
        go_wp2
        go_ret3
        have hE := HL.out
        rw [shortL, shortL, if_pos hE, if_pos (by rwa [likeE_swap]), hE, HS.out, HT.out]
        exact ⟨_, _, _, _, _, _, rfl, hsl, hsu, hbel⟩
  · rw [shortL, shortL, if_neg hl, if_neg (by rwa [likeE_swap])]
    by_cases hnm : n = m
    · subst hnm
      have h3 : likeE xs ys = 3 ∧ (within xs && within ys) = false := by
        have hle := HX.out.trans HY.out.symm
        cases hx : within xs
        · exact ⟨likeE_left hle hx, rfl⟩
        · cases hy : within ys
          · exact ⟨likeE_right hle hy, rfl⟩
          · exact absurd (likeE_mk hle hx hy) hl
      rw [h3.1]
      have hw := h3.2
      clear h3 hl
      cases hx : within xs
      · clear hw
        go_enter Tryz.func18, Tryz.ntmps18
        go_wp2_with (go_at_call 31; refine (within_any _ _ _ _ _ (by first | exact ha | exact hb) (by omega)).mono ?_; rintro e w' ⟨rfl, rfl⟩)
        go_ret3
        exact ⟨none, 0, 0, none, 0, 0, rfl, Sl.none_, Sl.none_, Below.refl _ _⟩
      · have hy : within ys = false := by rwa [hx, Bool.true_and] at hw
        clear hw
        go_enter Tryz.func18, Tryz.ntmps18
        go_wp2_with (go_at_call 31; refine (within_any _ _ _ _ _ (by first | exact ha | exact hb) (by omega)).mono ?_; rintro e w' ⟨rfl, rfl⟩)
        go_ret3
        exact ⟨none, 0, 0, none, 0, 0, rfl, Sl.none_, Sl.none_, Below.refl _ _⟩
    · rw [likeE_len (by rw [HX.out, HY.out]; exact hnm)]
      have hne : ((n : Int) != (m : Int)) = true := by simp; omega
      clear hnm hl
      go_enter Tryz.func18, Tryz.ntmps18
      go_wp2
      go_ret3
      exact ⟨none, 0, 0, none, 0, 0, rfl, Sl.none_, Sl.none_, Below.refl _ _⟩
end Go.Proofs.YtkcbgbpgiihdeaaGreatDoor
