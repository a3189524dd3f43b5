/-
  Several texts in one: garmentref18.Parse returns the chart that a text describes, or the error. Conditions: a text of at most 1,000,000 bytes. The law ChartParses returns true. Conditions: Std.
-/
import Derived.Test.YtjiccijfbpkliaaGreatDoorG26
import Derived.Test.YtjiccijfbpkliaaGreatDoorG29
import Derived.Test.YtjiccijfbpkliaaGreatDoorG35
import Derived.Test.YtjiccijfbpkliaaGreatDoorG36

/- garmentref18.Parse returns the chart that a text describes, or the error. Conditions: a text of at most 1,000,000 bytes. -/
namespace Go.Proofs.YtjiccijfbpkliaaGreatDoor
open Go.RowKit
open Go.Lib hiding intOf

theorem line_rest {l t : List UInt8} {k : Nat} {ws : List (List UInt8)} (h : lineP (l.drop k) = some (ws, t)) : l.drop (l.length - t.length) = t ∧ t.length ≤ l.length ∧ k < l.length - t.length := by
  obtain ⟨v, vs, _, h2⟩ := line_inv h
  have hlt := line_len h
  rw [List.length_drop] at hlt
  obtain ⟨p, e⟩ : ∃ p, l = p ++ t := ⟨l.take k ++ (v ++ (tailW vs ++ [10])), by conv => { lhs; rw [← List.take_append_drop k l, h2] }; simp⟩
  subst e
  rw [List.length_append] at hlt ⊢
  have e3 : p.length + t.length - t.length = p.length := by omega
  rw [e3]
  exact ⟨List.drop_left, by omega, by omega⟩
theorem chRel.fresh {w : World} {ws : List (List UInt8)} {S : Option Addr} {c : Nat} (hsl : Sl w w.heap.size S (sizesOf ws).length (strs (sizesOf ws))) (hc : (sizesOf ws).length ≤ c) : chRel ws [] w.heap.size (w.alloc (.cells #[.slice S (sizesOf ws).length c, .int .i64 (baseOf ws), .slice none 0 0] 25)) :=
  ⟨w.heap.size + 1, S, c, .slice none 0 0, Blk.new w _ _, by have := hsl.alo (.cells #[.slice S (sizesOf ws).length c, .int .i64 (baseOf ws), .slice none 0 0] 25); simpa using this, hc, rowsRel.nil _ _, by simp, by omega⟩
/-- What the loop keeps. -/
def hprsRel (s : ByteArray) (ws : List (List UInt8)) (cb : Nat) (w : World) (s5 : Value) (wr : World) : Prop :=
  ∃ (k : Nat) (rs : List PRow), s5 = .int .i64 (k : Int) ∧ k ≤ s.size ∧ Blk wr w.heap.size 25 #[.slice none 0 0, .int .i64 0, .slice none 0 0] ∧ Below w.heap.size w wr ∧ parsing s.data.toList rs (s.data.toList.drop k) ws ∧ chRel ws rs cb wr ∧ (∀ r ∈ rs, rowFit r) ∧ rs.length ≤ k

set_option maxRecDepth 100000 in
set_option maxHeartbeats 6400000 in
theorem hParse_any (s : ByteArray) (w : World) (hs : s.size ≤ 1000000) :
    Calls Tryz.prog 28 #[.string s] w (RetParse s.data.toList w) := by
  have hsl : s.data.toList.length = s.size := rfl
  have hB : Below w.heap.size w (w.alloc (.cells #[.slice none 0 0, .int .i64 0, .slice none 0 0] 25)) := (Below.refl _ _).alloc (Nat.le_refl _) _
  have hX := Blk.new w 25 #[.slice none 0 0, .int .i64 0, .slice none 0 0]
  by_cases hlong : 20000 < s.size
  · have HE := Lib.hid (parse_long (l := s.data.toList) (by omega))
    have hl2 : (20000 : Int) < (s.size : Int) := by omega
    have HB := Lib.hid hB
    clear hX hsl hB
    go_enter Tryz.func28, Tryz.ntmps28
    go_wp2_with fail
    refine bodyPost_ret (v := .tuple #[.agg #[.slice none 0 0, .int .i64 0, .slice none 0 0], .int .i64 5]) (by simp [results, Tryz.results28, go_sem]) rfl ?_
    exact RetParse.bad HE.out HB.out
  have hl2 : ¬ (20000 : Int) < (s.size : Int) := by omega
  have hs20 : s.size ≤ 20000 := by omega
  have HLN : Hid (¬ 20000 < s.data.toList.length) := by rw [Hid, hsl]; exact hlong
  have HSL := Lib.hid hsl
  have HR := Lib.hid hX
  have HB := Lib.hid hB
  have HLi := line_any s 0 (w.alloc (.cells #[.slice none 0 0, .int .i64 0, .slice none 0 0] 25)) hs (Nat.zero_le _)
  rw [List.drop_zero] at HLi
  have HLi := Lib.hid HLi
  clear hX hsl hB hlong
  go_enter Tryz.func28, Tryz.ntmps28
  go_wp2_with fail
  go_fit HLi.out
  rintro e w2 hret
  cases hl : lineP s.data.toList with
  | none =>
    obtain ⟨rfl, hb2⟩ := hret.2 hl
    have R2 := HR.out.below hb2
    have HB2 := Lib.hid (HB.out.trans (hb2.mono HB.out.size))
    have HN := Lib.hid hl
    have f0 := R2.c (i := 0) rfl
    have f1 := R2.c (i := 1) rfl
    have f2 := R2.c (i := 2) rfl
    have z0 := R2.frozen 0
    have z1 := R2.frozen 1
    have z2 := R2.frozen 2
    clear hret hl hb2 R2
    go_wp2_with fail
    refine bodyPost_ret (v := .tuple #[.agg #[.slice none 0 0, .int .i64 0, .slice none 0 0], .int .i64 2]) (by simp [results, Tryz.results28, go_sem, f0, f1, f2]) rfl ?_
    exact RetParse.bad (parse_none HLN.out HN.out) (below3 HB2.out (Nat.le_refl _) _ _ _)
  | some pr =>
    obtain ⟨ws, t⟩ := pr
    obtain ⟨A2, c2, rfl, hc2, hs2, hb2⟩ := hret.1 ws t hl
    have hbd := line_bounds hl
    have hrest := line_rest (k := 0) (by rw [List.drop_zero]; exact hl)
    rw [HSL.out] at hbd hrest
    have R2 := HR.out.below hb2
    have HR2 := Lib.hid R2
    have HB2 := Lib.hid (HB.out.trans (hb2.mono HB.out.size))
    have HN := Lib.hid hl
    have HBD := Lib.hid hbd
    have HRE := Lib.hid hrest
    have HHd := Lib.hid (head_any A2 ws.length c2 ws w2 hs2 (by omega) hc2)
    clear hret hl hb2 R2 hbd hrest hs2
    go_wp2_with fail
    go_fit HHd.out
    rintro e w3 hret
    by_cases hE : headE ws = 0
    · obtain ⟨A3, c3, rfl, hc3, hs3, hb3⟩ := hret.1 hE
      have hch := chRel.fresh hs3 hc3
      have HW3 : Hid (w.heap.size < w3.heap.size) := (HR2.out.below hb3).lt
      have hal := (Below.refl w3.heap.size w3).alloc (Nat.le_refl _) (.cells #[.slice A3 (sizesOf ws).length c3, .int .i64 (baseOf ws), .slice none 0 0] 25)
      have HCH := Lib.hid hch
      have HR3 := Lib.hid ((HR2.out.below hb3).below hal)
      have HB3 := Lib.hid ((HB2.out.trans (hb3.mono HB2.out.size)).trans (hal.mono (HB2.out.trans (hb3.mono HB2.out.size)).size))
      have HPG := Lib.hid (parsing.start HN.out hE)
      have hN1 : 1 ≤ (sizesOf ws).length := head_n hE
      have hN2 : (sizesOf ws).length ≤ 100000 := by rw [sizes_len]; have := HBD.out; omega
      have hle := HRE.out.2.1
      clear hret hch hal hb3 hs3 HR2 HHd hE
      go_wp2_with fail
      go_loopw [5] (fun s5 wr => hprsRel s ws w3.heap.size w s5 wr) (fun s5 _ => s.size - (intOf s5).toNat)
      case atStart => exact ⟨s.size - t.length, [], rfl, by omega, HR3.out, HB3.out, by rw [HRE.out.1]; exact HPG.out, HCH.out, (fun r h => by cases h), Nat.zero_le _⟩
      case round =>
        clear HR3 HB3 HPG HCH
        obtain ⟨k, rs, rfl, hk, hR, hbel, hpg, hch, hfit, hrk⟩ := hrel
        have HR := Lib.hid hR
        have HBE := Lib.hid hbel
        have HPG := Lib.hid hpg
        have HCH := Lib.hid hch
        have HFI := Lib.hid hfit
        clear hR hbel hpg hch hfit
        by_cases hlt : k < s.size
        · have HX0 : Hid (s.data.toList.drop k ≠ []) := fun e => by
            have := congrArg List.length e
            rw [List.length_drop, HSL.out] at this
            simp at this
            omega
          have HLi := Lib.hid (line_any s k wr hs hk)
          go_wp2_with fail
          go_fit HLi.out
          rintro e w4 hret
          cases hl : lineP (s.data.toList.drop k) with
          | none =>
            obtain ⟨rfl, hb4⟩ := hret.2 hl
            have R4 := HR.out.below hb4
            have HB4 := Lib.hid (HBE.out.trans (hb4.mono HBE.out.size))
            have HEr : Hid (parseR s.data.toList = .error 2) := parsing.line HLN.out HPG.out HX0.out hl
            have f0 := R4.c (i := 0) rfl
            have f1 := R4.c (i := 1) rfl
            have f2 := R4.c (i := 2) rfl
            have z0 := R4.frozen 0
            have z1 := R4.frozen 1
            have z2 := R4.frozen 2
            clear hret hl hb4 R4
            go_wp2_with fail
            refine bodyPost_ret (v := .tuple #[.agg #[.slice none 0 0, .int .i64 0, .slice none 0 0], .int .i64 2]) (by simp [results, Tryz.results28, go_sem, f0, f1, f2]) rfl ?_
            exact RetParse.bad HEr.out (below3 HB4.out (Nat.le_refl _) _ _ _)
          | some pr =>
            obtain ⟨us, t'⟩ := pr
            obtain ⟨A4, c4, rfl, hc4, hs4, hb4⟩ := hret.1 us t' hl
            have hbd := line_bounds hl
            have hrest := line_rest hl
            rw [List.length_drop, HSL.out] at hbd
            rw [HSL.out] at hrest
            have HR4 := Lib.hid (HR.out.below hb4)
            have HB4 := Lib.hid (HBE.out.trans (hb4.mono HBE.out.size))
            have HCH4 := Lib.hid (HCH.out.below hb4)
            have HN4 := Lib.hid hl
            have HBD4 := Lib.hid hbd
            have HRE4 := Lib.hid hrest
            have HRd := Lib.hid (read_any A4 us.length c4 (sizesOf ws).length us w4 hs4 (by omega) hc4 hN1 hN2 (fun u hu => Nat.le_trans (hbd.2.1 u hu) (by omega)))
            clear hret hl hb4 hbd hrest hs4 HR HCH HLi
            go_wp2_with fail
            go_fit HRd.out
            rintro e w5 hret
            by_cases hE : rowE (sizesOf ws).length us = 0
            · obtain ⟨h, hhr, rfl, hok, hfr, hb5⟩ := hret.1 hE
              obtain ⟨base, S, c, v, hblk, hsl, hc, hrows, hbw, hcbb⟩ := HCH4.out
              obtain ⟨hs', r1, r2, r3⟩ := hrows
              obtain ⟨A', c', hv⟩ := own_form r2.1
              subst hv
              obtain ⟨K, hKK⟩ : ∃ K, hs'.length = K := ⟨_, rfl⟩
              have hK : K = rs.length := by rw [← hKK, ← r1, List.length_map]
              rw [hKK] at r2 hblk
              have HCC := Lib.hid hc
              have HSLz := Lib.hid hsl
              have HBK := Lib.hid hblk
              have HOW := Lib.hid r2
              have HRW := Lib.hid (And.intro r1 r3)
              have HKK := Lib.hid hKK
              have HWB := Lib.hid (Nat.lt_trans HW3.out hcbb)
              have HCN : Hid (some w3.heap.size ≠ (Value.slice A' K c').ownBlock) := fun e => by have := (r2.1.lt _ e.symm).1; omega
              have HRN : Hid (some w.heap.size ≠ (Value.slice A' K c').ownBlock) := fun e => by have := (r2.1.lt _ e.symm).1; have := HWB.out; omega
              have C5 := hblk.below hb5
              have hc5 := C5.lt
              have k2 := C5.c (i := 2) rfl
              have hcn5 : ¬ w5.heap.size = w3.heap.size := by omega
              have HB6 := Lib.hid (Below.alo (Below.alo hb5 (.cells #[.string h.r.name, .bool (ineg h.x.q.num), .slice h.x.A h.x.n h.x.c, .slice h.x.B h.x.m h.x.d, .slice h.S h.n h.c] 57)) (.cells #[.string h.r.name, .bool (ineg h.x.q.num), .slice h.x.A h.x.n h.x.c, .slice h.x.B h.x.m h.x.d, .slice h.S h.n h.c] 57))
              have HHO := Lib.hid (hok.on (Below.alo (Below.alo (Below.refl w5.heap.size w5) (.cells #[.string h.r.name, .bool (ineg h.x.q.num), .slice h.x.A h.x.n h.x.c, .slice h.x.B h.x.m h.x.d, .slice h.S h.n h.c] 57)) (.cells #[.string h.r.name, .bool (ineg h.x.q.num), .slice h.x.A h.x.n h.x.c, .slice h.x.B h.x.m h.x.d, .slice h.S h.n h.c] 57)))
              have HNE : Hid (0 < h.n → ∀ g off, h.S = some ⟨g, off, none⟩ → (Value.slice A' K c').ownBlock ≠ some g) := fun _ g off e e2 => by
                have h1 := hfr g off e
                have h2 := (HOW.out.1.lt g e2).2
                omega
              have HHR := Lib.hid hhr
              have HEE := Lib.hid hE
              have hKn : K ≤ 1000000 := by omega
              clear hK
              clear hblk hsl hc r1 r2 r3 hKK hret hhr hok hfr hb5 C5 hE HCH4
              go_wp2_with (at_builtin; go_must ((refine append_row rfl (.tmp 69) (.tmp 71) rfl base K _ _ rfl (HOW.out.below HB6.out) (w5.heap.size + 1) rfl h (by exact Blk.new' _ _ _ (by simp)) (by omega) (by have := HB6.out.size; omega) ?_); intro v5 w7 ho5 hg5 hn5; obtain ⟨A5, c5, hv5⟩ := own_form ho5.1; subst hv5; have X7 := (HBK.out.below HB6.out).grown hg5 HCN.out; have t2 := X7.c (i := 2) rfl; have zz2 := X7.frozen 2; have HR7 := Lib.hid ((HR4.out.below HB6.out).grown hg5 HRN.out); clear X7))
              go_roundw
              case rel =>
                have hbd := HBD4.out
                have hre := HRE4.out
                have hm := chRel.more (ws := ws) (cb := w3.heap.size) h (HBK.out.below HB6.out) (HSLz.out.below (HB6.out.mono hbw)) HCC.out (Nat.le_trans hbw HB6.out.size) hcbb HRW.out.1 (by rw [HKK.out]; exact HOW.out.below HB6.out) (fun t ht => ⟨(HRW.out.2 t ht).1.on HB6.out, by have := (HRW.out.2 t ht).2; rw [HKK.out] at this; exact this⟩) HHO.out HNE.out (by rw [HKK.out]; exact ho5) hg5 hn5
                rw [HHR.out] at hm
                have hww := HWB.out
                have hw3 := HW3.out
                refine ⟨s.size - t'.length, rs ++ [rowV us], rfl, by omega, HR7.out.far (p := ⟨w3.heap.size, 2, none⟩) (Nat.ne_of_lt hw3) _, ?_, ?_, hm, ?_, ?_⟩
                · exact ((HB4.out.trans (HB6.out.mono HB4.out.size)).grown hg5 (Nat.le_trans HB4.out.size HB6.out.size) fun g e => by have := ((HOW.out.below HB6.out).1.lt _ e).1; omega).setCell (p := ⟨w3.heap.size, 2, none⟩) (Nat.le_of_lt hw3) _
                · rw [hre.1]
                  exact HPG.out.on HX0.out HN4.out HEE.out
                · intro r hr
                  rcases List.mem_append.1 hr with hr | hr
                  · exact HFI.out r hr
                  · obtain rfl : r = rowV us := by simpa using hr
                    exact fit_row HEE.out hN1 (fun u hu => Nat.le_trans (hbd.2.1 u hu) (by omega))
                · simp only [List.length_append, List.length_singleton]
                  omega
              case measure =>
                have hre := HRE4.out
                simp only [intOf]
                omega
            · obtain ⟨rfl, hb5⟩ := hret.2 hE
              have HEr : Hid (parseR s.data.toList = .error (rowE (sizesOf ws).length us)) := parsing.bad HLN.out HPG.out HX0.out HN4.out hE
              have R5 := HR4.out.below hb5
              have HB5 := Lib.hid (HB4.out.trans (hb5.mono HB4.out.size))
              have f0 := R5.c (i := 0) rfl
              have f1 := R5.c (i := 1) rfl
              have f2 := R5.c (i := 2) rfl
              have z0 := R5.frozen 0
              have z1 := R5.frozen 1
              have z2 := R5.frozen 2
              have hx5 : w.heap.size < w5.heap.size := R5.lt
              generalize rowE (sizesOf ws).length us = E at *
              have hE1 : (E != 0) = true := by simpa using hE
              clear hret hb5 R5
              go_wp2_with fail
              refine bodyPost_ret (v := .tuple #[.agg #[.slice none 0 0, .int .i64 0, .slice none 0 0], .int .i64 E]) (by simp [results, Tryz.results28, go_sem, f0, f1, f2, hx5]) rfl ?_
              exact RetParse.bad HEr.out ((below3 HB5.out (Nat.le_refl _) _ _ _).alloc (by simp; exact HB5.out.size) _)
        · obtain rfl : k = s.size := by omega
          have hpg := HPG.out
          have hde : s.data.toList.drop s.size = [] := List.drop_of_length_le (by rw [HSL.out]; exact Nat.le_refl _)
          rw [hde] at hpg
          have HPE := Lib.hid hpg
          obtain ⟨S, c, R, d, hblk, hsl, hc, hrn, hd⟩ := HCH.out.done
          have hchk := read_chk (ch := ⟨sizesOf ws, baseOf ws, rs⟩) hsl hc hrn hd hN2 (by omega) (sizes_fit (fun u hu => Nat.le_trans (HBD.out.2.1 u hu) hs20)) HFI.out
          have HCk := Lib.hid (hcheck_any S _ c R _ d 200 ⟨sizesOf ws, baseOf ws, rs⟩ wr hchk)
          obtain ⟨E, hE⟩ : ∃ E, chkP ⟨sizesOf ws, baseOf ws, rs⟩ = E := ⟨_, rfl⟩
          rw [hE] at HCk
          have HEE := Lib.hid hE
          have HPC := Lib.hid (And.intro hsl (And.intro hc (And.intro hrn hd)))
          have HBK := Lib.hid hblk
          have g0 := hblk.c (i := 0) rfl
          have g1 := hblk.c (i := 1) rfl
          have g2 := hblk.c (i := 2) rfl
          clear hpg hblk hsl hrn hchk hE HCH HPG hde
          go_wp2_with fail
          go_fit HCk.out
          rintro e w4 ⟨rfl, hb4⟩
          have R4 := HR.out.below hb4
          have K4 := HBK.out.below hb4
          have HB4 := Lib.hid (HBE.out.trans (hb4.mono HBE.out.size))
          have HR4 := Lib.hid R4
          have HP4 := Lib.hid (And.intro (HPC.out.1.on hb4) (HPC.out.2.2.1.on hb4))
          have f0 := R4.c (i := 0) rfl
          have f1 := R4.c (i := 1) rfl
          have f2 := R4.c (i := 2) rfl
          have z0 := R4.frozen 0
          have z1 := R4.frozen 1
          have z2 := R4.frozen 2
          have k0 := K4.c (i := 0) rfl
          have k1 := K4.c (i := 1) rfl
          have k2 := K4.c (i := 2) rfl
          clear hb4 R4 K4 g0 g1 g2
          by_cases hE0 : E = 0
          · subst hE0
            go_wp2_with fail
            refine bodyPost_ret (v := .tuple #[.agg #[.slice S (sizesOf ws).length c, .int .i64 (baseOf ws), .slice R rs.length d], .int .i64 0]) (by simp [results, Tryz.results28, go_sem, f0, f1, f2]) rfl ?_
            exact parse_end (ch := ⟨sizesOf ws, baseOf ws, rs⟩) (parsing.ok HLN.out HPE.out HEE.out) HR4.out HP4.out.1 HPC.out.2.1 HP4.out.2 HPC.out.2.2.2 HFI.out HB4.out
          · have hE1 : (E != 0) = true := by simpa using hE0
            have HEr : Hid (parseR s.data.toList = .error E) := by
              rw [Hid, parsing.chk HLN.out HPE.out (by rw [HEE.out]; exact hE0), HEE.out]
            go_wp2_with fail
            refine bodyPost_ret (v := .tuple #[.agg #[.slice none 0 0, .int .i64 0, .slice none 0 0], .int .i64 E]) (by simp [results, Tryz.results28, go_sem, f0, f1, f2]) rfl ?_
            exact RetParse.bad HEr.out (below3 HB4.out (Nat.le_refl _) _ _ _)
    · obtain ⟨rfl, hb3⟩ := hret.2 hE
      have HEr : Hid (parseR s.data.toList = .error (headE ws)) := parse_head HLN.out HN.out hE
      have R3 := HR2.out.below hb3
      have HB3 := Lib.hid (HB2.out.trans (hb3.mono HB2.out.size))
      have f0 := R3.c (i := 0) rfl
      have f1 := R3.c (i := 1) rfl
      have f2 := R3.c (i := 2) rfl
      have z0 := R3.frozen 0
      have z1 := R3.frozen 1
      have z2 := R3.frozen 2
      generalize headE ws = E at *
      have hE1 : (E != 0) = true := by simpa using hE
      clear hret hb3 R3
      go_wp2_with fail
      refine bodyPost_ret (v := .tuple #[.agg #[.slice none 0 0, .int .i64 0, .slice none 0 0], .int .i64 E]) (by simp [results, Tryz.results28, go_sem, f0, f1, f2]) rfl ?_
      exact RetParse.bad HEr.out (below3 HB3.out (Nat.le_refl _) _ _ _)
end Go.Proofs.YtjiccijfbpkliaaGreatDoor

/- The law ChartParses returns true. Conditions: Std. -/
namespace Go.Proofs.YtjiccijfbpkliaaGreatDoor
open Go.RowKit
open Go.Lib hiding intOf

/-- What comes back of a text that is read, whatever it is. -/
theorem RetParse.any {l : List UInt8} {w w' : World} {e : Ending} (h : RetParse l w e w') : ∃ (S : Option Addr) (n c : Nat) (R : Option Addr) (m d : Nat) (ch : PChart) (E : Int), e = .returned (.tuple #[.agg #[.slice S n c, .int .i64 ch.base, .slice R m d], .int .i64 E]) ∧ Sl w' w'.heap.size S n (strs ch.sizes) ∧ RowsN w' R m ch.rows ∧ ((parseR l = .ok ch ∧ E = 0) ∨ (parseR l = .error E ∧ ch = ⟨[], 0, []⟩)) ∧ (∀ r ∈ ch.rows, rowFit r) ∧ n ≤ c ∧ m ≤ d ∧ Below w.heap.size w w' := by
  cases hp : parseR l with
  | ok ch =>
    obtain ⟨S, n, c, R, m, d, rfl, h1, h2, h3, h4, h5, hb⟩ := h.1 ch hp
    exact ⟨S, n, c, R, m, d, ch, 0, rfl, h1, h3, .inl ⟨rfl, rfl⟩, h5, h2, h4, hb⟩
  | error E =>
    obtain ⟨rfl, hb⟩ := h.2 E hp
    exact ⟨none, 0, 0, none, 0, 0, ⟨[], 0, []⟩, E, rfl, Sl.none_, RowsN.nil _ _, .inr ⟨rfl, rfl⟩, (fun r h => by cases h), Nat.le_refl _, Nat.le_refl _, hb⟩
theorem parse_uniq {l : List UInt8} {ch ch2 : PChart} {E E2 : Int} (h : (parseR l = .ok ch ∧ E = 0) ∨ (parseR l = .error E ∧ ch = ⟨[], 0, []⟩)) (h2 : (parseR l = .ok ch2 ∧ E2 = 0) ∨ (parseR l = .error E2 ∧ ch2 = ⟨[], 0, []⟩)) : ch = ch2 ∧ E = E2 := by
  rcases h with ⟨h, rfl⟩ | ⟨h, rfl⟩
  · rcases h2 with ⟨h2, rfl⟩ | ⟨h2, rfl⟩
    · rw [h] at h2
      injection h2 with h2
      exact ⟨h2, rfl⟩
    · rw [h] at h2
      cases h2
  · rcases h2 with ⟨h2, rfl⟩ | ⟨h2, rfl⟩
    · rw [h] at h2
      cases h2
    · rw [h] at h2
      injection h2 with h2
      exact ⟨rfl, h2⟩
theorem parse_lens {l : List UInt8} {ch : PChart} {E : Int} (h : (parseR l = .ok ch ∧ E = 0) ∨ (parseR l = .error E ∧ ch = ⟨[], 0, []⟩)) : ch.sizes.length ≤ 12 ∧ ch.rows.length ≤ 32 ∧ ∀ r ∈ ch.rows, r.steps.length ≤ 12 := by
  rcases h with ⟨h, _⟩ | ⟨_, rfl⟩
  · have hc := (print_parse h).1
    obtain ⟨h1, h2, hr, _⟩ := chk_zero hc
    refine ⟨h1, h2, fun r hm => ?_⟩
    obtain ⟨i, hi⟩ := List.getElem?_of_mem hm
    rw [row_len hr hi]
    exact h1
  · exact ⟨by simp, by simp, fun r h => by cases h⟩

set_option maxRecDepth 100000 in
set_option maxHeartbeats 6400000 in
theorem chartParses_walk (s : ByteArray) (w : World) (hw : Std w) : Calls Tryz.prog 7 #[.string s] w (RetLaw w) := by
  have HW := Lib.hid hw
  by_cases hl : 2000 < s.size
  · have hl2 : (2000 : Int) < (s.size : Int) := by omega
    have HE := Lib.hid (example_any w hw)
    clear hw
    go_enter Tryz.func7, Tryz.ntmps7
    go_wp2_with fail
    go_fit HE.out
    rintro e w2 ⟨rfl, hb2⟩
    go_wp2_with fail
    go_ret
    exact ⟨rfl, hb2⟩
  have hl2 : ¬ (2000 : Int) < (s.size : Int) := by omega
  have HP := Lib.hid (Parse_any s w hw (by omega))
  have HQ := Lib.hid (fun W => hParse_any s W (by omega))
  clear hw
  go_enter Tryz.func7, Tryz.ntmps7
  go_wp2_with fail
  go_fit HP.out
  rintro e w1 hret
  obtain ⟨S, n, c, R, m, d, ch, E, rfl, s1, r1, hp1, f1, _, _, hb1⟩ := hret.any
  have hal := (Below.refl w1.heap.size w1).alloc (Nat.le_refl _) (.cells #[.slice S n c, .int .i64 ch.base, .slice R m d] 25)
  have HB1 := Lib.hid (hb1.trans (hal.mono hb1.size))
  have HX1 := Lib.hid (Blk.new w1 25 #[.slice S n c, .int .i64 ch.base, .slice R m d])
  have HA1 := Lib.hid (And.intro (s1.on hal) (r1.on hal))
  have HP1 := Lib.hid hp1
  have HF1 := Lib.hid f1
  clear hret s1 r1 hp1 f1 hb1 hal HP
  go_wp2_with fail
  go_fit (HQ.out _)
  rintro e w2 hret
  obtain ⟨S2, n2, c2, R2, m2, d2, ch2, E2, rfl, s2, r2, hp2, f2, _, _, hb2⟩ := hret.any
  obtain ⟨hc, he⟩ := parse_uniq HP1.out hp2
  subst hc
  subst he
  obtain rfl : n = n2 := HA1.out.1.slen.symm.trans s2.slen
  obtain rfl : m = m2 := HA1.out.2.len.symm.trans r2.len
  obtain ⟨l1, l2, l3⟩ := parse_lens HP1.out
  rw [HA1.out.1.slen] at l1
  rw [HA1.out.2.len] at l2
  have hal := (Below.refl w2.heap.size w2).alloc (Nat.le_refl _) (.cells #[.slice S2 n c2, .int .i64 ch.base, .slice R2 m d2] 25)
  have hbb := hb2.trans (hal.mono hb2.size)
  have HB2 := Lib.hid (HB1.out.trans (hbb.mono HB1.out.size))
  have X2 := HX1.out.below hbb
  have Y2 := Blk.new w2 25 #[.slice S2 n c2, .int .i64 ch.base, .slice R2 m d2]
  have HSa := Lib.hid (samec_true S n c R m d S2 c2 R2 d2 ch _ (HA1.out.1.on hbb) (HA1.out.2.on hbb) (s2.on hal) (r2.on hal) (fun r hr => ⟨(HF1.out r hr).2.1.mono (by omega), fun q hq => ((HF1.out r hr).2.2 q hq).mono (by omega)⟩) (by omega) (by omega) (fun r hr => Nat.le_trans (l3 r hr) (by omega)))
  obtain ⟨x0, x1, x2⟩ := three X2
  obtain ⟨y0, y1, y2⟩ := three Y2
  have hee : (E == E) = true := by simp
  clear hret s2 r2 hp2 f2 hb2 hal hbb X2 Y2 HX1 HA1 HP1 HF1 l1 l2 l3 HQ
  go_wp2_with fail
  go_fit HSa.out
  rintro e w3 ⟨rfl, hb3⟩
  have HB3 := Lib.hid (HB2.out.trans (hb3.mono HB2.out.size))
  have HE := Lib.hid (example_any _ (HW.out.below HB3.out))
  clear hb3
  go_wp2_with fail
  go_fit HE.out
  rintro e w4 ⟨rfl, hb4⟩
  go_wp2_with fail
  go_ret
  exact ⟨rfl, HB3.out.trans (hb4.mono HB3.out.size)⟩
end Go.Proofs.YtjiccijfbpkliaaGreatDoor
