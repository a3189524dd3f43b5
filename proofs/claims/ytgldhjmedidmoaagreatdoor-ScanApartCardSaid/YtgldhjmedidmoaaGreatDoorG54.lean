/-
  Several texts in one: has of garmentlaw56, and what ScanApart's loop gathers. Conditions: none. The law ScanApart returns true. Conditions: Std; the floor and the scans lie in memory.
-/
import Derived.Test.YtgldhjmedidmoaaGreatDoorG50
import Derived.Test.YtgldhjmedidmoaaGreatDoorG51

/- has of garmentlaw56, and what ScanApart's loop gathers. Conditions: none. -/
namespace Go.Proofs.YtgldhjmedidmoaaGreatDoor
open Go.RowKit
open Go.Lib hiding intOf

theorem done_at {l : List PScan} {t op : Int} {k : Nat} {y : PScan} (hy : l[k]? = some y) (h1 : y.ticket = t) (h2 : y.op = op) : doneB l t op = true := by
  rw [done_any, List.any_eq_true]
  exact ⟨y, List.mem_of_getElem? hy, by unfold isTO; rw [decide_eq_true h1, decide_eq_true h2]; rfl⟩
theorem done_not {l : List PScan} {t op : Int} (h : ∀ (j : Nat) (y : PScan), j < l.length → l[j]? = some y → isTO t op y = false) : doneB l t op = false := by
  rw [done_any, List.any_eq_false]
  intro y hy
  obtain ⟨j, hj⟩ := List.getElem?_of_mem hy
  simp [h j y (List.getElem?_eq_some_iff.1 hj).1 hj]
set_option maxRecDepth 100000 in
set_option maxHeartbeats 6400000 in
theorem has_any (xs : List PScan) (A : Option Addr) (n c : Nat) (t op : Int) (w : World) (h : Recs 4 scanG w A n xs) (hl : n ≤ 1000000) :
    Calls Tryz.prog 30 #[.slice A n c, .int .i64 t, .int .i64 op] w fun e w' => e = .returned (.bool (doneB xs t op)) ∧ Below w.heap.size w w' := by
  have HA := Lib.hid h
  obtain ⟨R, hR⟩ : ∃ R, doneB xs t op = R := ⟨_, rfl⟩
  rw [hR]
  have HR := Lib.hid hR
  clear h hR
  go_enter Tryz.func30, Tryz.ntmps30
  go_wp2
  go_loopw [8, 11] (fun _ i wr => ∃ k : Nat, k ≤ n ∧ i = .int .i64 (k : Int) ∧ Hid (∀ (j : Nat) (y : PScan), j < k → xs[j]? = some y → isTO t op y = false) ∧ Hid (Below w.heap.size w wr)) (fun _ i _ => n - (intOf i).toNat)
  case atStart => exact ⟨0, Nat.zero_le _, rfl, (fun j y hj => by omega), Below.refl _ _⟩
  case round =>
    obtain ⟨k, hk, rfl, HN, HBL⟩ := hrel
    by_cases hlt : k < n
    · obtain ⟨b, off, y, rfl, hb, hy, c0, c1, c2, c3⟩ := scan_at (HA.out.on scan_mono HBL.out) hlt
      obtain ⟨yt, hyt⟩ : ∃ v, y.ticket = v := ⟨_, rfl⟩
      obtain ⟨yo, hyo⟩ : ∃ v, y.op = v := ⟨_, rfl⟩
      rw [hyt] at c0
      rw [hyo] at c1
      have HY := Lib.hid (And.intro hy (And.intro hyt hyo))
      have HBA : Hid (Below wr.heap.size wr (wr.alloc (.cells #[.int .i64 yt, .int .i64 yo, .int .i64 y.worker, .int .i64 y.at_] 53))) := (Below.refl _ _).alloc (Nat.le_refl _) _
      have i1 : (0 : Int) ≤ (k : Int) := by omega
      have i2 : (k : Int) < (n : Int) := by omega
      clear hy hyt hyo
      have HNO : Hid (¬ (yt = t ∧ yo = op) → ∀ (j : Nat) (z : PScan), j < k + 1 → xs[j]? = some z → isTO t op z = false) := fun hne j z hj hz => by
        by_cases e : j = k
        · subst e
          obtain rfl := Option.some.inj (HY.out.1.symm.trans hz)
          unfold isTO
          rw [HY.out.2.1, HY.out.2.2]
          by_cases a : yt = t
          · rw [decide_eq_false (p := yo = op) (fun b => hne ⟨a, b⟩), Bool.and_false]
          · rw [decide_eq_false a, Bool.false_and]
        · exact HN.out j z (by omega) hz
      by_cases e1 : yt = t
      · by_cases e2 : yo = op
        · have HE : Hid (R = true) := by rw [Hid, ← HR.out]; exact done_at HY.out.1 (HY.out.2.1.trans e1) (HY.out.2.2.trans e2)
          clear HNO HY HR
          subst e1
          subst e2
          go_wp2_with fail
          go_ret
          exact ⟨by rw [HE.out]; rfl, HBL.out.trans (HBA.out.mono HBL.out.size)⟩
        · have HE := Lib.hid (HNO.out fun a => e2 a.2)
          clear HNO HY
          subst e1
          go_wp2_with fail
          go_roundw
          case rel => exact ⟨k + 1, by omega, by go_num, HE, HBL.out.trans (HBA.out.mono HBL.out.size)⟩
          case measure => simp [intOf]; omega
      · have HE := Lib.hid (HNO.out fun a => e1 a.1)
        clear HNO HY
        go_wp2_with fail
        go_roundw
        case rel => exact ⟨k + 1, by omega, by go_num, HE, HBL.out.trans (HBA.out.mono HBL.out.size)⟩
        case measure => simp [intOf]; omega
    · obtain rfl : n = k := by omega
      have HE : Hid (R = false) := by rw [Hid, ← HR.out]; exact done_not fun j y hj hy => HN.out j y (by rw [← HA.out.len]; exact hj) hy
      go_wp2_with fail
      go_ret
      exact ⟨by rw [HE.out]; rfl, HBL.out⟩

/-! ### ScanApart: a ticket's own scans and outcomes, gathered -/
def wantT (t : Int) (xs : List PScan) (js : List Int) : List Int := ((xs.zip js).filter fun p => decide (p.1.ticket = t)).map (·.2)
theorem ofT_snoc (t : Int) {xs : List PScan} {k : Nat} {x : PScan} (hx : xs[k]? = some x) : ofT t (xs.take (k + 1)) = ofT t (xs.take k) ++ if x.ticket = t then [x] else [] := by
  unfold ofT
  rw [List.take_add_one, hx, List.filter_append]
  congr 1
  by_cases h : x.ticket = t <;> simp [h]
theorem wantT_snoc (t : Int) {xs : List PScan} {js : List Int} {k : Nat} {x : PScan} {q : Int} (hx : xs[k]? = some x) (hq : js[k]? = some q) : wantT t (xs.take (k + 1)) (js.take (k + 1)) = wantT t (xs.take k) (js.take k) ++ if x.ticket = t then [q] else [] := by
  unfold wantT
  have h1 := (List.getElem?_eq_some_iff.1 hx).1
  have h2 := (List.getElem?_eq_some_iff.1 hq).1
  rw [List.take_add_one, List.take_add_one, hx, hq, List.zip_append (by rw [List.length_take, List.length_take]; omega), List.filter_append, List.map_append]
  congr 1
  by_cases h : x.ticket = t <;> simp [h]
end Go.Proofs.YtgldhjmedidmoaaGreatDoor

/- The law ScanApart returns true. Conditions: Std; the floor and the scans lie in memory. -/
namespace Go.Proofs.YtgldhjmedidmoaaGreatDoor
open Go.RowKit
open Go.Lib hiding intOf

/-- Two rows that grow, of scans and of numbers; a box. -/
structure Two (w2 : World) (p : Nat) (x : PScan) (v : Value) (n : Nat) (l : List Value) (u : Value) (m : Nat) (k : List Value) (W : World) : Prop where
  below : Below w2.heap.size w2 W
  box : Blk W p 53 #[.int .i64 x.ticket, .int .i64 x.op, .int .i64 x.worker, .int .i64 x.at_]
  own : W.ownsRow w2.heap.size 53 4 v n l
  want : W.ownsRow w2.heap.size 3 1 u m k
  nv : v.ownBlock ≠ some p
section
variable {w2 W W' : World} {p n m n' m' : Nat} {x : PScan} {v u v' u' : Value} {l k l' k' : List Value}
theorem Two.alo (h : Two w2 p x v n l u m k W) (o : Obj) : Two w2 p x v n l u m k (W.alloc o) :=
  have hb : Below W.heap.size W (W.alloc o) := (Below.refl _ _).alloc (Nat.le_refl _) o
  ⟨h.below.trans (hb.mono h.below.size), h.box.below hb, own_below h.own hb, own_below h.want hb, h.nv⟩
theorem Two.dr (h : Two w2 p x v n l u m k W) : Two w2 p x v n l u m k W.drew :=
  have hb : Below W.heap.size W W.drew := Below.drew (Below.refl _ _)
  ⟨h.below.trans (hb.mono h.below.size), h.box.below hb, own_below h.own hb, own_below h.want hb, h.nv⟩
theorem own_kind {e : TypeId} {size : Nat} {base : Nat} (h : W.ownsRow base e size v n l) {g : Nat} (hg : v.ownBlock = some g) : ∃ cs : Array Value, W.heap[g]? = some (.cells cs e (0, 0)) := by
  rcases h.2 with ⟨rfl, _⟩ | ⟨b, cap, cur, rfl, _, hc, _⟩
  · cases hg
  · obtain rfl : b = g := Option.some.inj hg
    exact ⟨cur, hc⟩
theorem kinds_keep {e e' : TypeId} {size size' : Nat} {base base' : Nat} (h : W.ownsRow base e size v n l) (h' : W.ownsRow base' e' size' u m k) (hne : e ≠ e') (hg : W.grownBy W' v.ownBlock) : W'.ownsRow base' e' size' u m k := by
  refine h'.kept hg ?_
  cases hu : u.ownBlock with
  | none => exact .inl rfl
  | some b =>
    right
    intro hv
    obtain ⟨c1, h1⟩ := own_kind h' hu
    obtain ⟨c2, h2⟩ := own_kind h (by first | exact hv | exact hv.symm)
    rw [h1] at h2
    injection h2 with h2
    injection h2 with _ e2 _
    exact hne e2.symm
theorem blk_kind {e e' : TypeId} {size : Nat} {base : Nat} (h : W.ownsRow base e size v n l) (hne : e ≠ e') (hg : W.grownBy W' v.ownBlock) : ∀ (g : Nat) (cs : Array Value), Blk W g e' cs → Blk W' g e' cs := fun g cs hb =>
  Blk.grew hb hg fun e1 => by
    obtain ⟨c2, h2⟩ := own_kind h e1.symm
    rw [show W.heap[g]? = some (.cells cs e' (0, 0)) from hb] at h2
    injection h2 with h2
    injection h2 with _ e2 _
    exact hne e2.symm
theorem Two.grow1 (h : Two w2 p x v n l u m k W) (ho : W'.ownsRow w2.heap.size 53 4 v' n' l') (hg : W.grownBy W' v.ownBlock) (hn : v'.ownBlock = v.ownBlock ∨ v'.ownBlock = some W.heap.size) : Two w2 p x v' n' l' u m k W' :=
  ⟨below_own h.below hg h.below.size (fun g e => (h.own.lt g e).1), Blk.grew h.box hg (fun e => h.nv e.symm), ho, kinds_keep h.own h.want (by decide) hg, by
    rcases hn with e | e
    · rw [e]; exact h.nv
    · rw [e]
      intro e1
      have := h.box.lt
      have := Option.some.inj e1
      omega⟩
theorem Two.grow2 (h : Two w2 p x v n l u m k W) (ho : W'.ownsRow w2.heap.size 3 1 u' m' k') (hg : W.grownBy W' u.ownBlock) : Two w2 p x v n l u' m' k' W' :=
  ⟨below_own h.below hg h.below.size (fun g e => (h.want.lt g e).1), blk_kind h.want (by decide) hg _ _ h.box, kinds_keep h.want h.own (by decide) hg, ho, h.nv⟩
theorem own_ints_sl {base n : Nat} {e : TypeId} {A : Option Addr} {c : Nat} {zs : List Int} (h : W.ownsRow base e 1 (.slice A n c) n (ints zs)) : Sl W W.heap.size A n (ints zs) := by
  refine ⟨by have := h.1; omega, fun h0 => ?_⟩
  rcases h.2 with ⟨e1, e2⟩ | ⟨b, cap, cur, e1, _, hc, _, _, _, h5⟩
  · omega
  · injection e1 with e1
    subst e1
    refine ⟨b, 0, rfl, (Array.getElem?_eq_some_iff.1 hc).1, fun j u hu => ?_⟩
    have := h.cells (g := b) rfl _ _ hu
    rw [Go.WideShapes.add_plain] at this
    exact this
theorem cells_news {q : Nat} {ty : TypeId} {cs : List Value} (h : Blk W q ty cs.toArray) : ∀ (j : Nat) (u : Value), cs[j]? = some u → W.cell? ((⟨q, 0, none⟩ : Addr).add j) = some u := fun j u hu => by
  rw [Go.WideShapes.add_plain]
  exact h.c (by simpa using hu)
end
set_option maxRecDepth 100000 in
set_option maxHeartbeats 12800000 in
theorem scanApart_walk (F : FH) (s : PStyle) (bs : List PBundle) (ws : List PWorker) (X : Option Addr) (n xc : Nat) (xs : List PScan) (t : Int) (w : World) (hw : Std w) (h : FloorA w s bs ws F) (hx : Recs 4 scanG w X n xs) (_hc : n ≤ xc) :
    Calls Tryz.prog 10 #[.agg #[.string s.name, .slice F.Z F.z F.zc, .slice F.M F.m F.mc, .slice F.P F.p F.pc, .slice F.U F.u F.uc, .slice F.E F.e F.ec, .slice F.O F.o F.oc, .slice F.L F.n F.c, .slice F.V F.k F.kc], .slice X n xc, .int .i64 t] w (RetLaw w) := by
  have HB : Hid (Below w.heap.size w (w.alloc (.cells #[.string s.name, .slice F.Z F.z F.zc, .slice F.M F.m F.mc, .slice F.P F.p F.pc, .slice F.U F.u F.uc, .slice F.E F.e F.ec, .slice F.O F.o F.oc, .slice F.L F.n F.c, .slice F.V F.k F.kc] 33))) := (Below.refl _ _).alloc (Nat.le_refl _) _
  have HX := Lib.hid (Blk.new w 33 #[.string s.name, .slice F.Z F.z F.zc, .slice F.M F.m F.mc, .slice F.P F.p F.pc, .slice F.U F.u F.uc, .slice F.E F.e F.ec, .slice F.O F.o F.oc, .slice F.L F.n F.c, .slice F.V F.k F.kc])
  have hF := few_any F s bs ws X n xc _ (h.on HB.out)
  have HA := Lib.hid h
  have HXS := Lib.hid hx
  have HW := Lib.hid hw
  have HFB := fun hf : fewB s bs ws n = true => few_all hf
  obtain ⟨R, hR⟩ : ∃ R, fewB s bs ws n = R := ⟨_, rfl⟩
  rw [hR] at hF HFB
  have HF := Lib.hid hF
  clear h hx hw hF hR
  cases R
  · clear HFB
    go_enter Tryz.func10, Tryz.ntmps10
    go_wp2_with fail
    refine HF.out.mono ?_
    rintro e1 w1 ⟨rfl, hb1⟩
    have HB1 := Lib.hid (HB.out.trans (hb1.mono HB.out.size))
    have HE := Lib.hid (example_any w1 (HW.out.below HB1.out))
    clear hb1
    go_wp2_with fail
    refine HE.out.mono ?_
    rintro e2 w2 ⟨rfl, hb2⟩
    have HB2 := Lib.hid (HB1.out.trans (hb2.mono HB1.out.size))
    clear hb2
    go_wp2_with fail
    go_ret
    exact ⟨rfl, HB2.out⟩
  · obtain ⟨f1, f2, f3, f4, f5⟩ := HFB rfl
    have HFS : Hid (FloorS s ws) := ⟨f1, f4⟩
    clear HFB f1 f2 f3 f4
    go_enter Tryz.func10, Tryz.ntmps10
    go_wp2_with fail
    refine HF.out.mono ?_
    rintro e1 w1 ⟨rfl, hb1⟩
    have HB1 := Lib.hid (HB.out.trans (hb1.mono HB.out.size))
    have HX1 := Lib.hid (HX.out.below hb1)
    have HJ := Lib.hid (fjudge_any F s bs ws X n xc xs w1 (HA.out.on HB1.out) HFS.out (HXS.out.on scan_mono HB1.out))
    obtain ⟨x0, x1, x2, x3, x4, x5, x6, x7, x8⟩ := nine_box HX1.out
    clear hb1
    go_wp2_with fail
    refine HJ.out.mono ?_
    rintro e2 w2 ⟨hb2, ⟨hne, rfl⟩ | ⟨hz0, g, rfl, hsl⟩⟩
    · have HB2 := Lib.hid (HB1.out.trans (hb2.mono HB1.out.size))
      have HE := Lib.hid (example_any w2 (HW.out.below HB2.out))
      obtain ⟨J, hJ⟩ : ∃ J, judgeErr s bs ws xs.length = J := ⟨_, rfl⟩
      rw [hJ] at hne ⊢
      have hne' : (J != 0) = true := by simpa using hne
      clear hb2 hne hJ
      go_wp2_with fail
      refine HE.out.mono ?_
      rintro e3 w3 ⟨rfl, hb3⟩
      have HB3 := Lib.hid (HB2.out.trans (hb3.mono HB2.out.size))
      clear hb3
      go_wp2_with fail
      go_ret
      exact ⟨rfl, HB3.out⟩
    · have hln := HXS.out.len
      obtain ⟨z1, z2⟩ := jerr_zero hz0
      have HB2 := Lib.hid (HB1.out.trans (hb2.mono HB1.out.size))
      have HX2 := Lib.hid (HX1.out.below hb2)
      rw [hln] at hsl z2 ⊢
      obtain ⟨js, hjs⟩ : ∃ l, judgeP s bs ws xs = l := ⟨_, rfl⟩
      rw [hjs] at hsl
      have HJS := Lib.hid hjs
      have HSL := Lib.hid hsl
      have HLN := Lib.hid hln
      have HZ1 := Lib.hid z1
      have HZ2 := Lib.hid z2
      have HOL : Hid (∀ k, (ofT t (xs.take k)).length ≤ n) := fun k => Nat.le_trans (List.length_filter_le _ _) (by rw [List.length_take]; omega)
      have HX9 := Lib.hid (fun W (hb : Below w2.heap.size w2 W) => nine_box (HX2.out.below hb))
      clear hb2 hz0 z1 hsl hjs hln x0 x1 x2 x3 x4 x5 x6 x7 x8
      go_wp2_with fail
      go_loopw [9, 10, 11, 12, 36] (fun v u _ _ i wr => ∃ k : Nat, k ≤ n ∧ i = .int .i64 (k : Int) ∧ Hid (wr.ownsRow w2.heap.size 53 4 v (ofT t (xs.take k)).length ((ofT t (xs.take k)).flatMap sC)) ∧ Hid (wr.ownsRow w2.heap.size 3 1 u (wantT t (xs.take k) (js.take k)).length (ints (wantT t (xs.take k) (js.take k)))) ∧ Hid (Below w2.heap.size w2 wr)) (fun _ _ _ _ i _ => n - (intOf i).toNat)
      case atStart => exact ⟨0, Nat.zero_le _, rfl, World.ownsRow_nil _ _ _ _, World.ownsRow_nil _ _ _ _, Below.refl _ _⟩
      case round =>
        obtain ⟨k, hk, rfl, HO, HU, HBL⟩ := hrel
        obtain ⟨os, hos⟩ : ∃ l, ofT t (xs.take k) = l := ⟨_, rfl⟩
        obtain ⟨us, hus⟩ : ∃ l, wantT t (xs.take k) (js.take k) = l := ⟨_, rfl⟩
        have hol : os.length ≤ k := by rw [← hos]; exact Nat.le_trans (List.length_filter_le _ _) (by rw [List.length_take]; omega)
        have hul : us.length ≤ k := by
          rw [← hus]
          unfold wantT
          rw [List.length_map]
          exact Nat.le_trans (List.length_filter_le _ _) (by rw [List.length_zip, List.length_take]; omega)
        rw [hos] at HO
        rw [hus] at HU
        obtain ⟨on, hon⟩ : ∃ k, os.length = k := ⟨_, rfl⟩
        obtain ⟨un, hun⟩ : ∃ k, us.length = k := ⟨_, rfl⟩
        rw [hon] at HO hol
        rw [hun] at HU hul
        obtain ⟨A1, C1, rfl⟩ := own_form HO.out
        obtain ⟨A2, C2, rfl⟩ := own_form HU.out
        have HOS := Lib.hid (And.intro hos hon)
        have HUS := Lib.hid (And.intro hus hun)
        have HBV := Lib.hid (HB2.out.trans (HBL.out.mono HB2.out.size))
        clear hos hus hon hun
        by_cases hlt : k < n
        · obtain ⟨b, off, x, rfl, hbw, hx, c0, c1, c2, c3⟩ := scan_at (HXS.out.on scan_mono HBV.out) hlt
          obtain ⟨b2, off2, q, hA, hbw2, hq, d0⟩ := (HSL.out.on HBL.out).int_ hlt
          injection hA with hA
          injection hA with e1 e2
          subst e1
          subst e2
          have hso := ofT_snoc t hx
          have hsu := wantT_snoc t hx hq
          rw [HOS.out.1] at hso
          rw [HUS.out.1] at hsu
          have hD : ∀ W, Below w2.heap.size w2 W → W.cell? ⟨g, 0 + k, none⟩ = some (.int .i64 q) := fun W hb => by
            obtain ⟨b3, off3, q3, hA3, _, hq3, d3⟩ := (HSL.out.on hb).int_ hlt
            injection hA3 with hA3
            injection hA3 with e1 e2
            subst e1
            subst e2
            rw [hq] at hq3
            rw [Option.some.inj hq3]
            exact d3
          rw [Nat.zero_add] at d0 hD
          have HD := Lib.hid hD
          have HSO := Lib.hid hso
          have HSU := Lib.hid hsu
          have HBA : Hid (Below wr.heap.size wr (wr.alloc (.cells #[.int .i64 x.ticket, .int .i64 x.op, .int .i64 x.worker, .int .i64 x.at_] 53))) := (Below.refl _ _).alloc (Nat.le_refl _) _
          have HTW : Hid (Two w2 wr.heap.size x (.slice A1 on C1) on (os.flatMap sC) (.slice A2 un C2) un (ints us) (wr.alloc (.cells #[.int .i64 x.ticket, .int .i64 x.op, .int .i64 x.worker, .int .i64 x.at_] 53))) :=
            ⟨HBL.out.trans (HBA.out.mono HBL.out.size), Blk.new wr _ _, own_below HO.out HBA.out, own_below HU.out HBA.out, fun e => by have := (HO.out.lt _ e).2; omega⟩
          have i1 : (0 : Int) ≤ (k : Int) := by omega
          have i2 : (k : Int) < (n : Int) := by omega
          clear hx hq hso hsu hD
          by_cases e1 : x.ticket = t
          · rw [if_pos e1] at HSO HSU
            have s1 : on + 1 ≤ maxLen := by unfold maxLen; omega
            have s2 : (on + 1) * 32 ≤ 140737488355328 := by omega
            have s3 : un + 1 ≤ maxLen := by unfold maxLen; omega
            have s4 : (un + 1) * 8 ≤ 140737488355328 := by omega
            have HE1 := Lib.hid e1
            go_upto_region 14 with fail
            clear e1
            have tw := HTW.out
            rw [HE1.out] at tw
            obtain ⟨y0, y1, y2, y3⟩ := four_box tw.box
            have d1 := HD.out _ tw.below
            have hne1 : (53 : TypeId) ≠ 3 := by decide
            have hne2 : (3 : TypeId) ≠ 53 := by decide
            have HK := fun W => Lib.hid (fun (u : Value) (m : Nat) (k0 : List Value) (v : Value) (n0 : Nat) (l : List Value) (h : Two w2 wr.heap.size x v n0 l u m k0 W) => And.intro (four_box h.box) (HD.out W h.below))
            go_region_held3 (fun w' => (w'.cell? ⟨wr.heap.size, 0, none⟩ = some (.int .i64 x.ticket) ∧ w'.cell? ⟨wr.heap.size, 1, none⟩ = some (.int .i64 x.op) ∧ w'.cell? ⟨wr.heap.size, 2, none⟩ = some (.int .i64 x.worker) ∧ w'.cell? ⟨wr.heap.size, 3, none⟩ = some (.int .i64 x.at_)) ∧ w'.cell? ⟨g, k, none⟩ = some (.int .i64 q))
              (exact (HK _).out _ _ _ _ _ _ (by repeat (first | (with_reducible exact tw) | (with_reducible apply Two.dr) | (with_reducible apply Two.alo))))
              (first | (refine step_own (by rfl) _ _ 39 (by rfl) w2.heap.size 53 (.agg #[.int .i64 0, .int .i64 0, .int .i64 0, .int .i64 0]) 4 32 Tryz.underlying39 scan_info rfl (by decide) (.slice A1 on C1) on (os.flatMap sC) (by rfl) (by (first | (with_reducible exact (tw).own) | (with_reducible exact (tw.dr).own) | (with_reducible exact (tw.alo _).own) | (with_reducible exact ((tw.dr).dr).own) | (with_reducible exact ((tw.dr).alo _).own) | (with_reducible exact ((tw.alo _).dr).own) | (with_reducible exact ((tw.alo _).alo _).own) | (with_reducible exact (((tw.dr).dr).dr).own) | (with_reducible exact (((tw.dr).dr).alo _).own) | (with_reducible exact (((tw.dr).alo _).dr).own) | (with_reducible exact (((tw.dr).alo _).alo _).own) | (with_reducible exact (((tw.alo _).dr).dr).own) | (with_reducible exact (((tw.alo _).dr).alo _).own) | (with_reducible exact (((tw.alo _).alo _).dr).own) | (with_reducible exact (((tw.alo _).alo _).alo _).own) | (with_reducible exact ((((tw.dr).dr).dr).dr).own) | (with_reducible exact ((((tw.dr).dr).dr).alo _).own) | (with_reducible exact ((((tw.dr).dr).alo _).dr).own) | (with_reducible exact ((((tw.dr).dr).alo _).alo _).own) | (with_reducible exact ((((tw.dr).alo _).dr).dr).own) | (with_reducible exact ((((tw.dr).alo _).dr).alo _).own) | (with_reducible exact ((((tw.dr).alo _).alo _).dr).own) | (with_reducible exact ((((tw.dr).alo _).alo _).alo _).own) | (with_reducible exact ((((tw.alo _).dr).dr).dr).own) | (with_reducible exact ((((tw.alo _).dr).dr).alo _).own) | (with_reducible exact ((((tw.alo _).dr).alo _).dr).own) | (with_reducible exact ((((tw.alo _).dr).alo _).alo _).own) | (with_reducible exact ((((tw.alo _).alo _).dr).dr).own) | (with_reducible exact ((((tw.alo _).alo _).dr).alo _).own) | (with_reducible exact ((((tw.alo _).alo _).alo _).dr).own) | (with_reducible exact ((((tw.alo _).alo _).alo _).alo _).own))) ⟨_, 0, none⟩ 1 1 [.int .i64 x.ticket, .int .i64 x.op, .int .i64 x.worker, .int .i64 x.at_] (by rfl) (by rfl) (cells_news (ty := 53) (by repeat (first | (focus ((with_reducible refine Blk.new' _ _ _ ?_); (simp; done))) | (with_reducible refine Blk.drew ?_) | (with_reducible refine kz _ _ ?_) | (with_reducible refine Blk.alloc ?_ _)))) (sC_one x) s1 s2 (by (first | (with_reducible exact (tw).below.size) | (with_reducible exact (tw.dr).below.size) | (with_reducible exact (tw.alo _).below.size) | (with_reducible exact ((tw.dr).dr).below.size) | (with_reducible exact ((tw.dr).alo _).below.size) | (with_reducible exact ((tw.alo _).dr).below.size) | (with_reducible exact ((tw.alo _).alo _).below.size) | (with_reducible exact (((tw.dr).dr).dr).below.size) | (with_reducible exact (((tw.dr).dr).alo _).below.size) | (with_reducible exact (((tw.dr).alo _).dr).below.size) | (with_reducible exact (((tw.dr).alo _).alo _).below.size) | (with_reducible exact (((tw.alo _).dr).dr).below.size) | (with_reducible exact (((tw.alo _).dr).alo _).below.size) | (with_reducible exact (((tw.alo _).alo _).dr).below.size) | (with_reducible exact (((tw.alo _).alo _).alo _).below.size) | (with_reducible exact ((((tw.dr).dr).dr).dr).below.size) | (with_reducible exact ((((tw.dr).dr).dr).alo _).below.size) | (with_reducible exact ((((tw.dr).dr).alo _).dr).below.size) | (with_reducible exact ((((tw.dr).dr).alo _).alo _).below.size) | (with_reducible exact ((((tw.dr).alo _).dr).dr).below.size) | (with_reducible exact ((((tw.dr).alo _).dr).alo _).below.size) | (with_reducible exact ((((tw.dr).alo _).alo _).dr).below.size) | (with_reducible exact ((((tw.dr).alo _).alo _).alo _).below.size) | (with_reducible exact ((((tw.alo _).dr).dr).dr).below.size) | (with_reducible exact ((((tw.alo _).dr).dr).alo _).below.size) | (with_reducible exact ((((tw.alo _).dr).alo _).dr).below.size) | (with_reducible exact ((((tw.alo _).dr).alo _).alo _).below.size) | (with_reducible exact ((((tw.alo _).alo _).dr).dr).below.size) | (with_reducible exact ((((tw.alo _).alo _).dr).alo _).below.size) | (with_reducible exact ((((tw.alo _).alo _).alo _).dr).below.size) | (with_reducible exact ((((tw.alo _).alo _).alo _).alo _).below.size))) ?_; intro v7 w7 ho7 hg7 hn7; (first | (with_reducible have ks := blk_kind (tw).own hne1 hg7) | (with_reducible have ks := blk_kind (tw.dr).own hne1 hg7) | (with_reducible have ks := blk_kind (tw.alo _).own hne1 hg7) | (with_reducible have ks := blk_kind ((tw.dr).dr).own hne1 hg7) | (with_reducible have ks := blk_kind ((tw.dr).alo _).own hne1 hg7) | (with_reducible have ks := blk_kind ((tw.alo _).dr).own hne1 hg7) | (with_reducible have ks := blk_kind ((tw.alo _).alo _).own hne1 hg7) | (with_reducible have ks := blk_kind (((tw.dr).dr).dr).own hne1 hg7) | (with_reducible have ks := blk_kind (((tw.dr).dr).alo _).own hne1 hg7) | (with_reducible have ks := blk_kind (((tw.dr).alo _).dr).own hne1 hg7) | (with_reducible have ks := blk_kind (((tw.dr).alo _).alo _).own hne1 hg7) | (with_reducible have ks := blk_kind (((tw.alo _).dr).dr).own hne1 hg7) | (with_reducible have ks := blk_kind (((tw.alo _).dr).alo _).own hne1 hg7) | (with_reducible have ks := blk_kind (((tw.alo _).alo _).dr).own hne1 hg7) | (with_reducible have ks := blk_kind (((tw.alo _).alo _).alo _).own hne1 hg7) | (with_reducible have ks := blk_kind ((((tw.dr).dr).dr).dr).own hne1 hg7) | (with_reducible have ks := blk_kind ((((tw.dr).dr).dr).alo _).own hne1 hg7) | (with_reducible have ks := blk_kind ((((tw.dr).dr).alo _).dr).own hne1 hg7) | (with_reducible have ks := blk_kind ((((tw.dr).dr).alo _).alo _).own hne1 hg7) | (with_reducible have ks := blk_kind ((((tw.dr).alo _).dr).dr).own hne1 hg7) | (with_reducible have ks := blk_kind ((((tw.dr).alo _).dr).alo _).own hne1 hg7) | (with_reducible have ks := blk_kind ((((tw.dr).alo _).alo _).dr).own hne1 hg7) | (with_reducible have ks := blk_kind ((((tw.dr).alo _).alo _).alo _).own hne1 hg7) | (with_reducible have ks := blk_kind ((((tw.alo _).dr).dr).dr).own hne1 hg7) | (with_reducible have ks := blk_kind ((((tw.alo _).dr).dr).alo _).own hne1 hg7) | (with_reducible have ks := blk_kind ((((tw.alo _).dr).alo _).dr).own hne1 hg7) | (with_reducible have ks := blk_kind ((((tw.alo _).dr).alo _).alo _).own hne1 hg7) | (with_reducible have ks := blk_kind ((((tw.alo _).alo _).dr).dr).own hne1 hg7) | (with_reducible have ks := blk_kind ((((tw.alo _).alo _).dr).alo _).own hne1 hg7) | (with_reducible have ks := blk_kind ((((tw.alo _).alo _).alo _).dr).own hne1 hg7) | (with_reducible have ks := blk_kind ((((tw.alo _).alo _).alo _).alo _).own hne1 hg7)); (first | (with_reducible replace tw := Two.grow1 (tw) ho7 hg7 hn7) | (with_reducible replace tw := Two.grow1 (tw.dr) ho7 hg7 hn7) | (with_reducible replace tw := Two.grow1 (tw.alo _) ho7 hg7 hn7) | (with_reducible replace tw := Two.grow1 ((tw.dr).dr) ho7 hg7 hn7) | (with_reducible replace tw := Two.grow1 ((tw.dr).alo _) ho7 hg7 hn7) | (with_reducible replace tw := Two.grow1 ((tw.alo _).dr) ho7 hg7 hn7) | (with_reducible replace tw := Two.grow1 ((tw.alo _).alo _) ho7 hg7 hn7) | (with_reducible replace tw := Two.grow1 (((tw.dr).dr).dr) ho7 hg7 hn7) | (with_reducible replace tw := Two.grow1 (((tw.dr).dr).alo _) ho7 hg7 hn7) | (with_reducible replace tw := Two.grow1 (((tw.dr).alo _).dr) ho7 hg7 hn7) | (with_reducible replace tw := Two.grow1 (((tw.dr).alo _).alo _) ho7 hg7 hn7) | (with_reducible replace tw := Two.grow1 (((tw.alo _).dr).dr) ho7 hg7 hn7) | (with_reducible replace tw := Two.grow1 (((tw.alo _).dr).alo _) ho7 hg7 hn7) | (with_reducible replace tw := Two.grow1 (((tw.alo _).alo _).dr) ho7 hg7 hn7) | (with_reducible replace tw := Two.grow1 (((tw.alo _).alo _).alo _) ho7 hg7 hn7) | (with_reducible replace tw := Two.grow1 ((((tw.dr).dr).dr).dr) ho7 hg7 hn7) | (with_reducible replace tw := Two.grow1 ((((tw.dr).dr).dr).alo _) ho7 hg7 hn7) | (with_reducible replace tw := Two.grow1 ((((tw.dr).dr).alo _).dr) ho7 hg7 hn7) | (with_reducible replace tw := Two.grow1 ((((tw.dr).dr).alo _).alo _) ho7 hg7 hn7) | (with_reducible replace tw := Two.grow1 ((((tw.dr).alo _).dr).dr) ho7 hg7 hn7) | (with_reducible replace tw := Two.grow1 ((((tw.dr).alo _).dr).alo _) ho7 hg7 hn7) | (with_reducible replace tw := Two.grow1 ((((tw.dr).alo _).alo _).dr) ho7 hg7 hn7) | (with_reducible replace tw := Two.grow1 ((((tw.dr).alo _).alo _).alo _) ho7 hg7 hn7) | (with_reducible replace tw := Two.grow1 ((((tw.alo _).dr).dr).dr) ho7 hg7 hn7) | (with_reducible replace tw := Two.grow1 ((((tw.alo _).dr).dr).alo _) ho7 hg7 hn7) | (with_reducible replace tw := Two.grow1 ((((tw.alo _).dr).alo _).dr) ho7 hg7 hn7) | (with_reducible replace tw := Two.grow1 ((((tw.alo _).dr).alo _).alo _) ho7 hg7 hn7) | (with_reducible replace tw := Two.grow1 ((((tw.alo _).alo _).dr).dr) ho7 hg7 hn7) | (with_reducible replace tw := Two.grow1 ((((tw.alo _).alo _).dr).alo _) ho7 hg7 hn7) | (with_reducible replace tw := Two.grow1 ((((tw.alo _).alo _).alo _).dr) ho7 hg7 hn7) | (with_reducible replace tw := Two.grow1 ((((tw.alo _).alo _).alo _).alo _) ho7 hg7 hn7)); clear ho7 hg7 hn7) | (refine step_own (by rfl) _ _ 23 (by rfl) w2.heap.size 3 (.int .i64 0) 1 8 Tryz.underlying23 int_info2 rfl (by decide) (.slice A2 un C2) un (ints us) (by rfl) (by (first | (with_reducible exact (tw).want) | (with_reducible exact (tw.dr).want) | (with_reducible exact (tw.alo _).want) | (with_reducible exact ((tw.dr).dr).want) | (with_reducible exact ((tw.dr).alo _).want) | (with_reducible exact ((tw.alo _).dr).want) | (with_reducible exact ((tw.alo _).alo _).want) | (with_reducible exact (((tw.dr).dr).dr).want) | (with_reducible exact (((tw.dr).dr).alo _).want) | (with_reducible exact (((tw.dr).alo _).dr).want) | (with_reducible exact (((tw.dr).alo _).alo _).want) | (with_reducible exact (((tw.alo _).dr).dr).want) | (with_reducible exact (((tw.alo _).dr).alo _).want) | (with_reducible exact (((tw.alo _).alo _).dr).want) | (with_reducible exact (((tw.alo _).alo _).alo _).want) | (with_reducible exact ((((tw.dr).dr).dr).dr).want) | (with_reducible exact ((((tw.dr).dr).dr).alo _).want) | (with_reducible exact ((((tw.dr).dr).alo _).dr).want) | (with_reducible exact ((((tw.dr).dr).alo _).alo _).want) | (with_reducible exact ((((tw.dr).alo _).dr).dr).want) | (with_reducible exact ((((tw.dr).alo _).dr).alo _).want) | (with_reducible exact ((((tw.dr).alo _).alo _).dr).want) | (with_reducible exact ((((tw.dr).alo _).alo _).alo _).want) | (with_reducible exact ((((tw.alo _).dr).dr).dr).want) | (with_reducible exact ((((tw.alo _).dr).dr).alo _).want) | (with_reducible exact ((((tw.alo _).dr).alo _).dr).want) | (with_reducible exact ((((tw.alo _).dr).alo _).alo _).want) | (with_reducible exact ((((tw.alo _).alo _).dr).dr).want) | (with_reducible exact ((((tw.alo _).alo _).dr).alo _).want) | (with_reducible exact ((((tw.alo _).alo _).alo _).dr).want) | (with_reducible exact ((((tw.alo _).alo _).alo _).alo _).want))) ⟨_, 0, none⟩ 1 1 [.int .i64 q] (by rfl) (by rfl) (cells_news (ty := 3) (by repeat (first | (focus ((with_reducible refine Blk.new' _ _ _ ?_); (simp; done))) | (with_reducible refine Blk.drew ?_) | (with_reducible refine ks _ _ ?_) | (with_reducible refine Blk.alloc ?_ _)))) (fun u hu => by simp at hu; subst hu; rfl) s3 s4 (by (first | (with_reducible exact (tw).below.size) | (with_reducible exact (tw.dr).below.size) | (with_reducible exact (tw.alo _).below.size) | (with_reducible exact ((tw.dr).dr).below.size) | (with_reducible exact ((tw.dr).alo _).below.size) | (with_reducible exact ((tw.alo _).dr).below.size) | (with_reducible exact ((tw.alo _).alo _).below.size) | (with_reducible exact (((tw.dr).dr).dr).below.size) | (with_reducible exact (((tw.dr).dr).alo _).below.size) | (with_reducible exact (((tw.dr).alo _).dr).below.size) | (with_reducible exact (((tw.dr).alo _).alo _).below.size) | (with_reducible exact (((tw.alo _).dr).dr).below.size) | (with_reducible exact (((tw.alo _).dr).alo _).below.size) | (with_reducible exact (((tw.alo _).alo _).dr).below.size) | (with_reducible exact (((tw.alo _).alo _).alo _).below.size) | (with_reducible exact ((((tw.dr).dr).dr).dr).below.size) | (with_reducible exact ((((tw.dr).dr).dr).alo _).below.size) | (with_reducible exact ((((tw.dr).dr).alo _).dr).below.size) | (with_reducible exact ((((tw.dr).dr).alo _).alo _).below.size) | (with_reducible exact ((((tw.dr).alo _).dr).dr).below.size) | (with_reducible exact ((((tw.dr).alo _).dr).alo _).below.size) | (with_reducible exact ((((tw.dr).alo _).alo _).dr).below.size) | (with_reducible exact ((((tw.dr).alo _).alo _).alo _).below.size) | (with_reducible exact ((((tw.alo _).dr).dr).dr).below.size) | (with_reducible exact ((((tw.alo _).dr).dr).alo _).below.size) | (with_reducible exact ((((tw.alo _).dr).alo _).dr).below.size) | (with_reducible exact ((((tw.alo _).dr).alo _).alo _).below.size) | (with_reducible exact ((((tw.alo _).alo _).dr).dr).below.size) | (with_reducible exact ((((tw.alo _).alo _).dr).alo _).below.size) | (with_reducible exact ((((tw.alo _).alo _).alo _).dr).below.size) | (with_reducible exact ((((tw.alo _).alo _).alo _).alo _).below.size))) ?_; intro v8 w8 ho8 hg8 hn8; (first | (with_reducible have kz := blk_kind (tw).want hne2 hg8) | (with_reducible have kz := blk_kind (tw.dr).want hne2 hg8) | (with_reducible have kz := blk_kind (tw.alo _).want hne2 hg8) | (with_reducible have kz := blk_kind ((tw.dr).dr).want hne2 hg8) | (with_reducible have kz := blk_kind ((tw.dr).alo _).want hne2 hg8) | (with_reducible have kz := blk_kind ((tw.alo _).dr).want hne2 hg8) | (with_reducible have kz := blk_kind ((tw.alo _).alo _).want hne2 hg8) | (with_reducible have kz := blk_kind (((tw.dr).dr).dr).want hne2 hg8) | (with_reducible have kz := blk_kind (((tw.dr).dr).alo _).want hne2 hg8) | (with_reducible have kz := blk_kind (((tw.dr).alo _).dr).want hne2 hg8) | (with_reducible have kz := blk_kind (((tw.dr).alo _).alo _).want hne2 hg8) | (with_reducible have kz := blk_kind (((tw.alo _).dr).dr).want hne2 hg8) | (with_reducible have kz := blk_kind (((tw.alo _).dr).alo _).want hne2 hg8) | (with_reducible have kz := blk_kind (((tw.alo _).alo _).dr).want hne2 hg8) | (with_reducible have kz := blk_kind (((tw.alo _).alo _).alo _).want hne2 hg8) | (with_reducible have kz := blk_kind ((((tw.dr).dr).dr).dr).want hne2 hg8) | (with_reducible have kz := blk_kind ((((tw.dr).dr).dr).alo _).want hne2 hg8) | (with_reducible have kz := blk_kind ((((tw.dr).dr).alo _).dr).want hne2 hg8) | (with_reducible have kz := blk_kind ((((tw.dr).dr).alo _).alo _).want hne2 hg8) | (with_reducible have kz := blk_kind ((((tw.dr).alo _).dr).dr).want hne2 hg8) | (with_reducible have kz := blk_kind ((((tw.dr).alo _).dr).alo _).want hne2 hg8) | (with_reducible have kz := blk_kind ((((tw.dr).alo _).alo _).dr).want hne2 hg8) | (with_reducible have kz := blk_kind ((((tw.dr).alo _).alo _).alo _).want hne2 hg8) | (with_reducible have kz := blk_kind ((((tw.alo _).dr).dr).dr).want hne2 hg8) | (with_reducible have kz := blk_kind ((((tw.alo _).dr).dr).alo _).want hne2 hg8) | (with_reducible have kz := blk_kind ((((tw.alo _).dr).alo _).dr).want hne2 hg8) | (with_reducible have kz := blk_kind ((((tw.alo _).dr).alo _).alo _).want hne2 hg8) | (with_reducible have kz := blk_kind ((((tw.alo _).alo _).dr).dr).want hne2 hg8) | (with_reducible have kz := blk_kind ((((tw.alo _).alo _).dr).alo _).want hne2 hg8) | (with_reducible have kz := blk_kind ((((tw.alo _).alo _).alo _).dr).want hne2 hg8) | (with_reducible have kz := blk_kind ((((tw.alo _).alo _).alo _).alo _).want hne2 hg8)); (first | (with_reducible replace tw := Two.grow2 (tw) ho8 hg8) | (with_reducible replace tw := Two.grow2 (tw.dr) ho8 hg8) | (with_reducible replace tw := Two.grow2 (tw.alo _) ho8 hg8) | (with_reducible replace tw := Two.grow2 ((tw.dr).dr) ho8 hg8) | (with_reducible replace tw := Two.grow2 ((tw.dr).alo _) ho8 hg8) | (with_reducible replace tw := Two.grow2 ((tw.alo _).dr) ho8 hg8) | (with_reducible replace tw := Two.grow2 ((tw.alo _).alo _) ho8 hg8) | (with_reducible replace tw := Two.grow2 (((tw.dr).dr).dr) ho8 hg8) | (with_reducible replace tw := Two.grow2 (((tw.dr).dr).alo _) ho8 hg8) | (with_reducible replace tw := Two.grow2 (((tw.dr).alo _).dr) ho8 hg8) | (with_reducible replace tw := Two.grow2 (((tw.dr).alo _).alo _) ho8 hg8) | (with_reducible replace tw := Two.grow2 (((tw.alo _).dr).dr) ho8 hg8) | (with_reducible replace tw := Two.grow2 (((tw.alo _).dr).alo _) ho8 hg8) | (with_reducible replace tw := Two.grow2 (((tw.alo _).alo _).dr) ho8 hg8) | (with_reducible replace tw := Two.grow2 (((tw.alo _).alo _).alo _) ho8 hg8) | (with_reducible replace tw := Two.grow2 ((((tw.dr).dr).dr).dr) ho8 hg8) | (with_reducible replace tw := Two.grow2 ((((tw.dr).dr).dr).alo _) ho8 hg8) | (with_reducible replace tw := Two.grow2 ((((tw.dr).dr).alo _).dr) ho8 hg8) | (with_reducible replace tw := Two.grow2 ((((tw.dr).dr).alo _).alo _) ho8 hg8) | (with_reducible replace tw := Two.grow2 ((((tw.dr).alo _).dr).dr) ho8 hg8) | (with_reducible replace tw := Two.grow2 ((((tw.dr).alo _).dr).alo _) ho8 hg8) | (with_reducible replace tw := Two.grow2 ((((tw.dr).alo _).alo _).dr) ho8 hg8) | (with_reducible replace tw := Two.grow2 ((((tw.dr).alo _).alo _).alo _) ho8 hg8) | (with_reducible replace tw := Two.grow2 ((((tw.alo _).dr).dr).dr) ho8 hg8) | (with_reducible replace tw := Two.grow2 ((((tw.alo _).dr).dr).alo _) ho8 hg8) | (with_reducible replace tw := Two.grow2 ((((tw.alo _).dr).alo _).dr) ho8 hg8) | (with_reducible replace tw := Two.grow2 ((((tw.alo _).dr).alo _).alo _) ho8 hg8) | (with_reducible replace tw := Two.grow2 ((((tw.alo _).alo _).dr).dr) ho8 hg8) | (with_reducible replace tw := Two.grow2 ((((tw.alo _).alo _).dr).alo _) ho8 hg8) | (with_reducible replace tw := Two.grow2 ((((tw.alo _).alo _).alo _).dr) ho8 hg8) | (with_reducible replace tw := Two.grow2 ((((tw.alo _).alo _).alo _).alo _) ho8 hg8)); clear ho8 hg8 hn8))
            all_goals (
              have TW := Lib.hid tw
              clear tw
              go_wp2_with fail
              go_roundw
              case rel =>
                refine ⟨k + 1, by omega, by go_num, ?_, ?_, Lib.hid (by repeat (first | (with_reducible exact TW.out.below) | (with_reducible refine Below.drew ?_)))⟩
                · rw [HSO.out, List.length_append, HOS.out.2, List.flatMap_append]
                  exact TW.out.own
                · rw [HSU.out, List.length_append, HUS.out.2]
                  unfold ints
                  rw [List.map_append]
                  exact TW.out.want
              case measure => simp [intOf]; omega)
          · rw [if_neg e1, List.append_nil] at HSO HSU
            go_wp2_with fail
            go_roundw
            case rel =>
              refine ⟨k + 1, by omega, by go_num, ?_, ?_, HTW.out.below⟩
              · rw [HSO.out, HOS.out.2]
                exact HTW.out.own
              · rw [HSU.out, HUS.out.2]
                exact HTW.out.want
            case measure => simp [intOf]; omega
        · obtain rfl : n = k := by omega
          have HOF : Hid (os = ofT t xs) := by rw [Hid, ← HOS.out.1, List.take_of_length_le (by rw [HLN.out]; exact Nat.le_refl _)]
          have HJL : Hid (js.length = n) := HSL.out.ilen
          have HWF : Hid (judgeP s bs ws os = us) := by
            rw [Hid, HOF.out, ← HUS.out.1, List.take_of_length_le (by rw [HLN.out]; exact Nat.le_refl _), List.take_of_length_le (by rw [HJL.out]; exact Nat.le_refl _), ← HJS.out]
            exact judge_of t [] xs
          obtain ⟨A, c, hA, hr, hc⟩ := own_scans HO.out HOS.out.2
          injection hA with hA _ hC
          subst hA
          subst hC
          have hj := judge_ok F s bs ws A1 on C1 os wr (HA.out.on HBV.out) HFS.out hr (jerr_ok HZ1.out (by have h1 := HZ2.out; have h2 := HOL.out n; rw [HOS.out.1] at h2; omega))
          rw [HWF.out] at hj
          have HJ := Lib.hid hj
          obtain ⟨x0, x1, x2, x3, x4, x5, x6, x7, x8⟩ := HX9.out wr HBL.out
          clear hr hj
          go_wp2_with fail
          refine HJ.out.mono ?_
          rintro e3 w3 ⟨g2, rfl, hs3, hb3⟩
          have HB3 := Lib.hid (HBV.out.trans (hb3.mono HBV.out.size))
          obtain rfl : on = un := by rw [← hs3.ilen, HUS.out.2]
          have HS3 := Lib.hid hs3
          have HOI := Lib.hid (own_ints_sl (own_below HU.out hb3))
          have HSI := Lib.hid (sameInts_true us (some ⟨g2, 0, none⟩) on on A2 C2 w3 HS3.out HOI.out (by omega))
          clear hb3 hs3
          go_wp2_with fail
          refine HSI.out.mono ?_
          rintro e4 w4 ⟨rfl, hb4⟩
          have HB4 := Lib.hid (HB3.out.trans (hb4.mono HB3.out.size))
          have HE := Lib.hid (example_any w4 (HW.out.below HB4.out))
          clear hb4
          go_wp2_with fail
          refine HE.out.mono ?_
          rintro e5 w5 ⟨rfl, hb5⟩
          have HB5 := Lib.hid (HB4.out.trans (hb5.mono HB4.out.size))
          clear hb5
          go_wp2_with fail
          go_ret
          exact ⟨rfl, HB5.out⟩
end Go.Proofs.YtgldhjmedidmoaaGreatDoor
