/-
  The law ScanChecks: its card holds: for every input it returns true, and each argument reads afterwards as it read before. Conditions: the card's own.
-/
import Derived.Test.YtbgkdlfpmbnakaaGreatDoorH46
import Derived.Test.YtbgkdlfpmbnakaaGreatDoorH57
namespace Go.Proofs.YtbgkdlfpmbnakaaGreatDoor
section
open Go.RowKit
open Go.Lib hiding intOf
structure CkF (F : FH) (s : PStyle) (w : World) (listed : Array Bool) (f : Act) (w' : World) (b0 b1 b2 b3 b4 b5 b6 b7 b8 b9 b10 b11 b12 b13 b14 b15 b16 b17 b18 b19 b20 b21 b22 b23 : Bool) (t2 t3 t4 t5 t6 t7 t8 t9 t10 t11 t12 t13 t14 t15 t16 t17 t18 t19 t20 t21 t22 t23 t24 t25 : Value) : Prop where
 li : listed = #[b0, b1, b2, b3, b4, b5, b6, b7, b8, b9, b10, b11, b12, b13, b14, b15, b16, b17, b18, b19, b20, b21, b22, b23]
 ac : f = ⟨#[.agg #[.string s.name, .slice F.Z F.z F.zc, .slice F.M F.m F.mc, .slice F.P F.p F.pc, .slice F.U F.u F.uc, .slice F.E F.e F.ec, .slice F.O F.o F.oc, .slice F.L F.n F.c, .slice F.V F.k F.kc], .pointer (some ⟨w.heap.size, 0, none⟩), t2, t3, t4, t5, t6, t7, t8, t9, t10, t11, t12, t13, t14, t15, t16, t17, t18, t19, t20, t21, t22, t23, t24, t25], []⟩
 lo : Below (w.alloc (.cells #[.string s.name, .slice F.Z F.z F.zc, .slice F.M F.m F.mc, .slice F.P F.p F.pc, .slice F.U F.u F.uc, .slice F.E F.e F.ec, .slice F.O F.o F.oc, .slice F.L F.n F.c, .slice F.V F.k F.kc] 33)).heap.size (w.alloc (.cells #[.string s.name, .slice F.Z F.z F.zc, .slice F.M F.m F.mc, .slice F.P F.p F.pc, .slice F.U F.u F.uc, .slice F.E F.e F.ec, .slice F.O F.o F.oc, .slice F.L F.n F.c, .slice F.V F.k F.kc] 33)) w'
 f0 : b0 = true → t3 = .agg #[.string s.name, .slice F.Z F.z F.zc, .slice F.M F.m F.mc, .slice F.P F.p F.pc, .slice F.U F.u F.uc, .slice F.E F.e F.ec, .slice F.O F.o F.oc, .slice F.L F.n F.c, .slice F.V F.k F.kc]
 f1 : b1 = true → t4 = .bool false
 f2 : b2 = true → t5 = .bool true
 f3 : b3 = true → t6 = .bool true
 f4 : b4 = true → t7 = undef
 f5 : b5 = true → t8 = undef
 f6 : b6 = true → t9 = undef
 f7 : b7 = true → t10 = undef
 f8 : b8 = true → t11 = undef
 f9 : b9 = true → t12 = undef
 f10 : b10 = true → t13 = undef
 f11 : b11 = true → t14 = undef
 f12 : b12 = true → t15 = undef
 f13 : b13 = true → t16 = undef
 f14 : b14 = true → t17 = undef
 f15 : b15 = true → t18 = undef
 f16 : b16 = true → t19 = undef
 f17 : b17 = true → t20 = undef
 f18 : b18 = true → t21 = undef
 f19 : b19 = true → t22 = .bool true
 f20 : b20 = true → t23 = .bool true
 f21 : b21 = true → t24 = .bool true
 f22 : b22 = true → t25 = .bool true
 f23 : b23 = true → t2 = .bool true
structure CkT (F : FH) (s : PStyle) (w : World) (E : Int) (listed : Array Bool) (f : Act) (w' : World) (b0 b1 b2 b3 b4 b5 b6 b7 b8 b9 b10 b11 b12 b13 b14 b15 b16 b17 b18 b19 b20 b21 b22 b23 : Bool) (t2 t3 t4 t5 t6 t7 t8 t9 t10 t11 t12 t13 t14 t15 t16 t17 t18 t19 t20 t21 t22 t23 t24 t25 : Value) : Prop where
 li : listed = #[b0, b1, b2, b3, b4, b5, b6, b7, b8, b9, b10, b11, b12, b13, b14, b15, b16, b17, b18, b19, b20, b21, b22, b23]
 ac : f = ⟨#[.agg #[.string s.name, .slice F.Z F.z F.zc, .slice F.M F.m F.mc, .slice F.P F.p F.pc, .slice F.U F.u F.uc, .slice F.E F.e F.ec, .slice F.O F.o F.oc, .slice F.L F.n F.c, .slice F.V F.k F.kc], .pointer (some ⟨w.heap.size, 0, none⟩), t2, t3, t4, t5, t6, t7, t8, t9, t10, t11, t12, t13, t14, t15, t16, t17, t18, t19, t20, t21, t22, t23, t24, t25], []⟩
 lo : Below (w.alloc (.cells #[.string s.name, .slice F.Z F.z F.zc, .slice F.M F.m F.mc, .slice F.P F.p F.pc, .slice F.U F.u F.uc, .slice F.E F.e F.ec, .slice F.O F.o F.oc, .slice F.L F.n F.c, .slice F.V F.k F.kc] 33)).heap.size (w.alloc (.cells #[.string s.name, .slice F.Z F.z F.zc, .slice F.M F.m F.mc, .slice F.P F.p F.pc, .slice F.U F.u F.uc, .slice F.E F.e F.ec, .slice F.O F.o F.oc, .slice F.L F.n F.c, .slice F.V F.k F.kc] 33)) w'
 f0 : b0 = true → t3 = .agg #[.string s.name, .slice F.Z F.z F.zc, .slice F.M F.m F.mc, .slice F.P F.p F.pc, .slice F.U F.u F.uc, .slice F.E F.e F.ec, .slice F.O F.o F.oc, .slice F.L F.n F.c, .slice F.V F.k F.kc]
 f1 : b1 = true → t4 = .bool true
 f2 : b2 = true → t5 = .bool false
 f3 : b3 = true → t6 = .bool false
 f4 : b4 = true → t7 = .pointer (some ⟨w.heap.size, 0, none⟩)
 f5 : b5 = true → t8 = .agg #[.string s.name, .slice F.Z F.z F.zc, .slice F.M F.m F.mc, .slice F.P F.p F.pc, .slice F.U F.u F.uc, .slice F.E F.e F.ec, .slice F.O F.o F.oc]
 f6 : b6 = true → t9 = .pointer (some ⟨w.heap.size, 7, none⟩)
 f7 : b7 = true → t10 = .slice F.L F.n F.c
 f8 : b8 = true → t11 = .pointer (some ⟨w.heap.size, 8, none⟩)
 f9 : b9 = true → t12 = .slice F.V F.k F.kc
 f10 : b10 = true → t13 = .int .i64 E
 f11 : b11 = true → t14 = .pointer (some ⟨w.heap.size, 0, none⟩)
 f12 : b12 = true → t15 = .agg #[.string s.name, .slice F.Z F.z F.zc, .slice F.M F.m F.mc, .slice F.P F.p F.pc, .slice F.U F.u F.uc, .slice F.E F.e F.ec, .slice F.O F.o F.oc]
 f13 : b13 = true → t16 = .pointer (some ⟨w.heap.size, 7, none⟩)
 f14 : b14 = true → t17 = .slice F.L F.n F.c
 f15 : b15 = true → t18 = .pointer (some ⟨w.heap.size, 8, none⟩)
 f16 : b16 = true → t19 = .slice F.V F.k F.kc
 f17 : b17 = true → t20 = .int .i64 E
 f18 : b18 = true → t21 = .bool true
 f19 : b19 = true → t22 = .bool true
 f20 : b20 = true → t23 = .bool true
 f21 : b21 = true → t24 = .bool true
 f22 : b22 = true → t25 = .bool true
 f23 : b23 = true → t2 = .bool true
set_option maxRecDepth 100000 in
set_option maxHeartbeats 12800000 in
theorem scanChecks_walk (F : FH) (s : PStyle) (bs : List PBundle) (ws : List PWorker) (w : World) (hw : Std w) (h : FloorA w s bs ws F) :
  Calls Tryz.prog 3 #[.agg #[.string s.name, .slice F.Z F.z F.zc, .slice F.M F.m F.mc, .slice F.P F.p F.pc, .slice F.U F.u F.uc, .slice F.E F.e F.ec, .slice F.O F.o F.oc, .slice F.L F.n F.c, .slice F.V F.k F.kc]] w (RetLaw w) := by
 have HB : Hid (Below w.heap.size w (w.alloc (.cells #[.string s.name, .slice F.Z F.z F.zc, .slice F.M F.m F.mc, .slice F.P F.p F.pc, .slice F.U F.u F.uc, .slice F.E F.e F.ec, .slice F.O F.o F.oc, .slice F.L F.n F.c, .slice F.V F.k F.kc] 33))) := (Below.refl _ _).alloc (Nat.le_refl _) _
 have HX := Lib.hid (Blk.new w 33 #[.string s.name, .slice F.Z F.z F.zc, .slice F.M F.m F.mc, .slice F.P F.p F.pc, .slice F.U F.u F.uc, .slice F.E F.e F.ec, .slice F.O F.o F.oc, .slice F.L F.n F.c, .slice F.V F.k F.kc])
 have hF := fun W (hb : Below (w.alloc (.cells #[.string s.name, .slice F.Z F.z F.zc, .slice F.M F.m F.mc, .slice F.P F.p F.pc, .slice F.U F.u F.uc, .slice F.E F.e F.ec, .slice F.O F.o F.oc, .slice F.L F.n F.c, .slice F.V F.k F.kc] 33)).heap.size (w.alloc (.cells #[.string s.name, .slice F.Z F.z F.zc, .slice F.M F.m F.mc, .slice F.P F.p F.pc, .slice F.U F.u F.uc, .slice F.E F.e F.ec, .slice F.O F.o F.oc, .slice F.L F.n F.c, .slice F.V F.k F.kc] 33)) W) => few_any F s bs ws none 0 0 W (h.on (HB.out.trans (hb.mono HB.out.size)))
 have HEX := Lib.hid (fun W (hb : Below (w.alloc (.cells #[.string s.name, .slice F.Z F.z F.zc, .slice F.M F.m F.mc, .slice F.P F.p F.pc, .slice F.U F.u F.uc, .slice F.E F.e F.ec, .slice F.O F.o F.oc, .slice F.L F.n F.c, .slice F.V F.k F.kc] 33)).heap.size (w.alloc (.cells #[.string s.name, .slice F.Z F.z F.zc, .slice F.M F.m F.mc, .slice F.P F.p F.pc, .slice F.U F.u F.uc, .slice F.E F.e F.ec, .slice F.O F.o F.oc, .slice F.L F.n F.c, .slice F.V F.k F.kc] 33)) W) => example_any W (hw.below (HB.out.trans (hb.mono HB.out.size))))
 have HFB := fun hf : fewB s bs ws 0 = true => few_all hf
 obtain ⟨R, hR⟩ : ∃ R, fewB s bs ws 0 = R := ⟨_, rfl⟩
 simp only [hR] at hF
 rw [hR] at HFB
 have HF := Lib.hid hF
 cases R
 ·clear HFB hF hR h hw
  go_enter Tryz.func3, Tryz.ntmps3
  go_wp2_with fail
  refine region_inv (I := fun li f w' => ∃ b0 b1 b2 b3 b4 b5 b6 b7 b8 b9 b10 b11 b12 b13 b14 b15 b16 b17 b18 b19 b20 b21 b22 b23 t2 t3 t4 t5 t6 t7 t8 t9 t10 t11 t12 t13 t14 t15 t16 t17 t18 t19 t20 t21 t22 t23 t24 t25, CkF F s w li f w' b0 b1 b2 b3 b4 b5 b6 b7 b8 b9 b10 b11 b12 b13 b14 b15 b16 b17 b18 b19 b20 b21 b22 b23 t2 t3 t4 t5 t6 t7 t8 t9 t10 t11 t12 t13 t14 t15 t16 t17 t18 t19 t20 t21 t22 t23 t24 t25) (by kernel_rfl) ?_ ?_ ?_
  ·exact ⟨false, false, false, false, false, false, false, false, false, false, false, false, false, false, false, false, false, false, false, false, false, false, false, false, _, _, _, _, _, _, _, _, _, _, _, _, _, _, _, _, _, _, _, _, _, _, _, _, rfl, rfl, (Below.refl _ _).drew, (fun e => by cases e), (fun e => by cases e), (fun e => by cases e), (fun e => by cases e), (fun e => by cases e), (fun e => by cases e), (fun e => by cases e), (fun e => by cases e), (fun e => by cases e), (fun e => by cases e), (fun e => by cases e), (fun e => by cases e), (fun e => by cases e), (fun e => by cases e), (fun e => by cases e), (fun e => by cases e), (fun e => by cases e), (fun e => by cases e), (fun e => by cases e), (fun e => by cases e), (fun e => by cases e), (fun e => by cases e), (fun e => by cases e), (fun e => by cases e)⟩
  ·rintro listed f w' i o ⟨b0, b1, b2, b3, b4, b5, b6, b7, b8, b9, b10, b11, b12, b13, b14, b15, b16, b17, b18, b19, b20, b21, b22, b23, t2, t3, t4, t5, t6, t7, t8, t9, t10, t11, t12, t13, t14, t15, t16, t17, t18, t19, t20, t21, t22, t23, t24, t25, X⟩ hi1 ho hd K hK
   obtain ⟨rfl, rfl, hlo, f0, f1, f2, f3, f4, f5, f6, f7, f8, f9, f10, f11, f12, f13, f14, f15, f16, f17, f18, f19, f20, f21, f22, f23⟩ := X
   have hlt : i < 24 := (Array.getElem?_eq_some_iff.1 ho).1
   match i, hlt with
   | 0, _ =>
    simp only [List.getElem?_toArray, List.getElem?_cons_zero, Option.some.injEq] at ho
    subst ho
    rw [if_pos (wanted_free rfl)]
    obtain ⟨x0, x1, x2, x3, x4, x5, x6, x7, x8⟩ := nine_box (HX.out.below hlo)
    go_simp
    exact hK _ _ ⟨true, b1, b2, b3, b4, b5, b6, b7, b8, b9, b10, b11, b12, b13, b14, b15, b16, b17, b18, b19, b20, b21, b22, b23, _, _, _, _, _, _, _, _, _, _, _, _, _, _, _, _, _, _, _, _, _, _, _, _, ⟨rfl, rfl, hlo, (fun _ => rfl), f1, f2, f3, f4, f5, f6, f7, f8, f9, f10, f11, f12, f13, f14, f15, f16, f17, f18, f19, f20, f21, f22, f23⟩⟩
   | 1, _ =>
    simp only [List.getElem?_toArray, List.getElem?_cons_zero, List.getElem?_cons_succ, Option.some.injEq] at ho
    subst ho
    rw [if_pos (wanted_free rfl)]
    have e0 := f0 (hd ⟨0, .data⟩ (by simp) rfl)
    subst e0
    go_simp
    refine (HF.out w' hlo).mono ?_
    rintro e w2 ⟨rfl, hb⟩
    exact hK _ _ ⟨b0, true, b2, b3, b4, b5, b6, b7, b8, b9, b10, b11, b12, b13, b14, b15, b16, b17, b18, b19, b20, b21, b22, b23, _, _, _, _, _, _, _, _, _, _, _, _, _, _, _, _, _, _, _, _, _, _, _, _, ⟨rfl, rfl, (hlo.trans (hb.mono hlo.size)), (fun _ => rfl), (fun _ => rfl), f2, f3, f4, f5, f6, f7, f8, f9, f10, f11, f12, f13, f14, f15, f16, f17, f18, f19, f20, f21, f22, f23⟩⟩
   | 2, _ =>
    simp only [List.getElem?_toArray, List.getElem?_cons_zero, List.getElem?_cons_succ, Option.some.injEq] at ho
    subst ho
    rw [if_pos (wanted_free rfl)]
    have e1 := f1 (hd ⟨1, .data⟩ (by simp) rfl)
    subst e1
    go_simp
    exact hK _ _ ⟨b0, b1, true, b3, b4, b5, b6, b7, b8, b9, b10, b11, b12, b13, b14, b15, b16, b17, b18, b19, b20, b21, b22, b23, _, _, _, _, _, _, _, _, _, _, _, _, _, _, _, _, _, _, _, _, _, _, _, _, ⟨rfl, rfl, hlo, f0, (fun _ => rfl), (fun _ => rfl), f3, f4, f5, f6, f7, f8, f9, f10, f11, f12, f13, f14, f15, f16, f17, f18, f19, f20, f21, f22, f23⟩⟩
   | 3, _ =>
    simp only [List.getElem?_toArray, List.getElem?_cons_zero, List.getElem?_cons_succ, Option.some.injEq] at ho
    subst ho
    rw [if_pos (wanted_free rfl)]
    have e2 := f2 (hd ⟨2, .data⟩ (by simp) rfl)
    subst e2
    go_simp
    exact hK _ _ ⟨b0, b1, b2, true, b4, b5, b6, b7, b8, b9, b10, b11, b12, b13, b14, b15, b16, b17, b18, b19, b20, b21, b22, b23, _, _, _, _, _, _, _, _, _, _, _, _, _, _, _, _, _, _, _, _, _, _, _, _, ⟨rfl, rfl, hlo, f0, f1, (fun _ => rfl), (fun _ => rfl), f4, f5, f6, f7, f8, f9, f10, f11, f12, f13, f14, f15, f16, f17, f18, f19, f20, f21, f22, f23⟩⟩
   | 4, _ =>
    simp only [List.getElem?_toArray, List.getElem?_cons_zero, List.getElem?_cons_succ, Option.some.injEq] at ho
    subst ho
    have e3 := f3 (hd ⟨3, .guard⟩ (by simp) rfl)
    subst e3
    refine step_skip (show Region.wanted _ _ = false from rfl) ?_
    exact hK _ _ ⟨b0, b1, b2, b3, true, b5, b6, b7, b8, b9, b10, b11, b12, b13, b14, b15, b16, b17, b18, b19, b20, b21, b22, b23, _, _, _, _, _, _, _, _, _, _, _, _, _, _, _, _, _, _, _, _, _, _, _, _, ⟨rfl, rfl, hlo, f0, f1, f2, (fun _ => rfl), (fun _ => rfl), f5, f6, f7, f8, f9, f10, f11, f12, f13, f14, f15, f16, f17, f18, f19, f20, f21, f22, f23⟩⟩
   | 5, _ =>
    simp only [List.getElem?_toArray, List.getElem?_cons_zero, List.getElem?_cons_succ, Option.some.injEq] at ho
    subst ho
    have e3 := f3 (hd ⟨3, .guard⟩ (by simp) rfl)
    subst e3
    refine step_skip (show Region.wanted _ _ = false from rfl) ?_
    exact hK _ _ ⟨b0, b1, b2, b3, b4, true, b6, b7, b8, b9, b10, b11, b12, b13, b14, b15, b16, b17, b18, b19, b20, b21, b22, b23, _, _, _, _, _, _, _, _, _, _, _, _, _, _, _, _, _, _, _, _, _, _, _, _, ⟨rfl, rfl, hlo, f0, f1, f2, (fun _ => rfl), f4, (fun _ => rfl), f6, f7, f8, f9, f10, f11, f12, f13, f14, f15, f16, f17, f18, f19, f20, f21, f22, f23⟩⟩
   | 6, _ =>
    simp only [List.getElem?_toArray, List.getElem?_cons_zero, List.getElem?_cons_succ, Option.some.injEq] at ho
    subst ho
    have e3 := f3 (hd ⟨3, .guard⟩ (by simp) rfl)
    subst e3
    refine step_skip (show Region.wanted _ _ = false from rfl) ?_
    exact hK _ _ ⟨b0, b1, b2, b3, b4, b5, true, b7, b8, b9, b10, b11, b12, b13, b14, b15, b16, b17, b18, b19, b20, b21, b22, b23, _, _, _, _, _, _, _, _, _, _, _, _, _, _, _, _, _, _, _, _, _, _, _, _, ⟨rfl, rfl, hlo, f0, f1, f2, (fun _ => rfl), f4, f5, (fun _ => rfl), f7, f8, f9, f10, f11, f12, f13, f14, f15, f16, f17, f18, f19, f20, f21, f22, f23⟩⟩
   | 7, _ =>
    simp only [List.getElem?_toArray, List.getElem?_cons_zero, List.getElem?_cons_succ, Option.some.injEq] at ho
    subst ho
    have e3 := f3 (hd ⟨3, .guard⟩ (by simp) rfl)
    subst e3
    refine step_skip (show Region.wanted _ _ = false from rfl) ?_
    exact hK _ _ ⟨b0, b1, b2, b3, b4, b5, b6, true, b8, b9, b10, b11, b12, b13, b14, b15, b16, b17, b18, b19, b20, b21, b22, b23, _, _, _, _, _, _, _, _, _, _, _, _, _, _, _, _, _, _, _, _, _, _, _, _, ⟨rfl, rfl, hlo, f0, f1, f2, (fun _ => rfl), f4, f5, f6, (fun _ => rfl), f8, f9, f10, f11, f12, f13, f14, f15, f16, f17, f18, f19, f20, f21, f22, f23⟩⟩
   | 8, _ =>
    simp only [List.getElem?_toArray, List.getElem?_cons_zero, List.getElem?_cons_succ, Option.some.injEq] at ho
    subst ho
    have e3 := f3 (hd ⟨3, .guard⟩ (by simp) rfl)
    subst e3
    refine step_skip (show Region.wanted _ _ = false from rfl) ?_
    exact hK _ _ ⟨b0, b1, b2, b3, b4, b5, b6, b7, true, b9, b10, b11, b12, b13, b14, b15, b16, b17, b18, b19, b20, b21, b22, b23, _, _, _, _, _, _, _, _, _, _, _, _, _, _, _, _, _, _, _, _, _, _, _, _, ⟨rfl, rfl, hlo, f0, f1, f2, (fun _ => rfl), f4, f5, f6, f7, (fun _ => rfl), f9, f10, f11, f12, f13, f14, f15, f16, f17, f18, f19, f20, f21, f22, f23⟩⟩
   | 9, _ =>
    simp only [List.getElem?_toArray, List.getElem?_cons_zero, List.getElem?_cons_succ, Option.some.injEq] at ho
    subst ho
    have e3 := f3 (hd ⟨3, .guard⟩ (by simp) rfl)
    subst e3
    refine step_skip (show Region.wanted _ _ = false from rfl) ?_
    exact hK _ _ ⟨b0, b1, b2, b3, b4, b5, b6, b7, b8, true, b10, b11, b12, b13, b14, b15, b16, b17, b18, b19, b20, b21, b22, b23, _, _, _, _, _, _, _, _, _, _, _, _, _, _, _, _, _, _, _, _, _, _, _, _, ⟨rfl, rfl, hlo, f0, f1, f2, (fun _ => rfl), f4, f5, f6, f7, f8, (fun _ => rfl), f10, f11, f12, f13, f14, f15, f16, f17, f18, f19, f20, f21, f22, f23⟩⟩
   | 10, _ =>
    simp only [List.getElem?_toArray, List.getElem?_cons_zero, List.getElem?_cons_succ, Option.some.injEq] at ho
    subst ho
    have e3 := f3 (hd ⟨3, .guard⟩ (by simp) rfl)
    subst e3
    refine step_skip (show Region.wanted _ _ = false from rfl) ?_
    exact hK _ _ ⟨b0, b1, b2, b3, b4, b5, b6, b7, b8, b9, true, b11, b12, b13, b14, b15, b16, b17, b18, b19, b20, b21, b22, b23, _, _, _, _, _, _, _, _, _, _, _, _, _, _, _, _, _, _, _, _, _, _, _, _, ⟨rfl, rfl, hlo, f0, f1, f2, (fun _ => rfl), f4, f5, f6, f7, f8, f9, (fun _ => rfl), f11, f12, f13, f14, f15, f16, f17, f18, f19, f20, f21, f22, f23⟩⟩
   | 11, _ =>
    simp only [List.getElem?_toArray, List.getElem?_cons_zero, List.getElem?_cons_succ, Option.some.injEq] at ho
    subst ho
    have e3 := f3 (hd ⟨3, .guard⟩ (by simp) rfl)
    subst e3
    refine step_skip (show Region.wanted _ _ = false from rfl) ?_
    exact hK _ _ ⟨b0, b1, b2, b3, b4, b5, b6, b7, b8, b9, b10, true, b12, b13, b14, b15, b16, b17, b18, b19, b20, b21, b22, b23, _, _, _, _, _, _, _, _, _, _, _, _, _, _, _, _, _, _, _, _, _, _, _, _, ⟨rfl, rfl, hlo, f0, f1, f2, (fun _ => rfl), f4, f5, f6, f7, f8, f9, f10, (fun _ => rfl), f12, f13, f14, f15, f16, f17, f18, f19, f20, f21, f22, f23⟩⟩
   | 12, _ =>
    simp only [List.getElem?_toArray, List.getElem?_cons_zero, List.getElem?_cons_succ, Option.some.injEq] at ho
    subst ho
    have e3 := f3 (hd ⟨3, .guard⟩ (by simp) rfl)
    subst e3
    refine step_skip (show Region.wanted _ _ = false from rfl) ?_
    exact hK _ _ ⟨b0, b1, b2, b3, b4, b5, b6, b7, b8, b9, b10, b11, true, b13, b14, b15, b16, b17, b18, b19, b20, b21, b22, b23, _, _, _, _, _, _, _, _, _, _, _, _, _, _, _, _, _, _, _, _, _, _, _, _, ⟨rfl, rfl, hlo, f0, f1, f2, (fun _ => rfl), f4, f5, f6, f7, f8, f9, f10, f11, (fun _ => rfl), f13, f14, f15, f16, f17, f18, f19, f20, f21, f22, f23⟩⟩
   | 13, _ =>
    simp only [List.getElem?_toArray, List.getElem?_cons_zero, List.getElem?_cons_succ, Option.some.injEq] at ho
    subst ho
    have e3 := f3 (hd ⟨3, .guard⟩ (by simp) rfl)
    subst e3
    refine step_skip (show Region.wanted _ _ = false from rfl) ?_
    exact hK _ _ ⟨b0, b1, b2, b3, b4, b5, b6, b7, b8, b9, b10, b11, b12, true, b14, b15, b16, b17, b18, b19, b20, b21, b22, b23, _, _, _, _, _, _, _, _, _, _, _, _, _, _, _, _, _, _, _, _, _, _, _, _, ⟨rfl, rfl, hlo, f0, f1, f2, (fun _ => rfl), f4, f5, f6, f7, f8, f9, f10, f11, f12, (fun _ => rfl), f14, f15, f16, f17, f18, f19, f20, f21, f22, f23⟩⟩
   | 14, _ =>
    simp only [List.getElem?_toArray, List.getElem?_cons_zero, List.getElem?_cons_succ, Option.some.injEq] at ho
    subst ho
    have e3 := f3 (hd ⟨3, .guard⟩ (by simp) rfl)
    subst e3
    refine step_skip (show Region.wanted _ _ = false from rfl) ?_
    exact hK _ _ ⟨b0, b1, b2, b3, b4, b5, b6, b7, b8, b9, b10, b11, b12, b13, true, b15, b16, b17, b18, b19, b20, b21, b22, b23, _, _, _, _, _, _, _, _, _, _, _, _, _, _, _, _, _, _, _, _, _, _, _, _, ⟨rfl, rfl, hlo, f0, f1, f2, (fun _ => rfl), f4, f5, f6, f7, f8, f9, f10, f11, f12, f13, (fun _ => rfl), f15, f16, f17, f18, f19, f20, f21, f22, f23⟩⟩
   | 15, _ =>
    simp only [List.getElem?_toArray, List.getElem?_cons_zero, List.getElem?_cons_succ, Option.some.injEq] at ho
    subst ho
    have e3 := f3 (hd ⟨3, .guard⟩ (by simp) rfl)
    subst e3
    refine step_skip (show Region.wanted _ _ = false from rfl) ?_
    exact hK _ _ ⟨b0, b1, b2, b3, b4, b5, b6, b7, b8, b9, b10, b11, b12, b13, b14, true, b16, b17, b18, b19, b20, b21, b22, b23, _, _, _, _, _, _, _, _, _, _, _, _, _, _, _, _, _, _, _, _, _, _, _, _, ⟨rfl, rfl, hlo, f0, f1, f2, (fun _ => rfl), f4, f5, f6, f7, f8, f9, f10, f11, f12, f13, f14, (fun _ => rfl), f16, f17, f18, f19, f20, f21, f22, f23⟩⟩
   | 16, _ =>
    simp only [List.getElem?_toArray, List.getElem?_cons_zero, List.getElem?_cons_succ, Option.some.injEq] at ho
    subst ho
    have e3 := f3 (hd ⟨3, .guard⟩ (by simp) rfl)
    subst e3
    refine step_skip (show Region.wanted _ _ = false from rfl) ?_
    exact hK _ _ ⟨b0, b1, b2, b3, b4, b5, b6, b7, b8, b9, b10, b11, b12, b13, b14, b15, true, b17, b18, b19, b20, b21, b22, b23, _, _, _, _, _, _, _, _, _, _, _, _, _, _, _, _, _, _, _, _, _, _, _, _, ⟨rfl, rfl, hlo, f0, f1, f2, (fun _ => rfl), f4, f5, f6, f7, f8, f9, f10, f11, f12, f13, f14, f15, (fun _ => rfl), f17, f18, f19, f20, f21, f22, f23⟩⟩
   | 17, _ =>
    simp only [List.getElem?_toArray, List.getElem?_cons_zero, List.getElem?_cons_succ, Option.some.injEq] at ho
    subst ho
    have e3 := f3 (hd ⟨3, .guard⟩ (by simp) rfl)
    subst e3
    refine step_skip (show Region.wanted _ _ = false from rfl) ?_
    exact hK _ _ ⟨b0, b1, b2, b3, b4, b5, b6, b7, b8, b9, b10, b11, b12, b13, b14, b15, b16, true, b18, b19, b20, b21, b22, b23, _, _, _, _, _, _, _, _, _, _, _, _, _, _, _, _, _, _, _, _, _, _, _, _, ⟨rfl, rfl, hlo, f0, f1, f2, (fun _ => rfl), f4, f5, f6, f7, f8, f9, f10, f11, f12, f13, f14, f15, f16, (fun _ => rfl), f18, f19, f20, f21, f22, f23⟩⟩
   | 18, _ =>
    simp only [List.getElem?_toArray, List.getElem?_cons_zero, List.getElem?_cons_succ, Option.some.injEq] at ho
    subst ho
    have e3 := f3 (hd ⟨3, .guard⟩ (by simp) rfl)
    subst e3
    refine step_skip (show Region.wanted _ _ = false from rfl) ?_
    exact hK _ _ ⟨b0, b1, b2, b3, b4, b5, b6, b7, b8, b9, b10, b11, b12, b13, b14, b15, b16, b17, true, b19, b20, b21, b22, b23, _, _, _, _, _, _, _, _, _, _, _, _, _, _, _, _, _, _, _, _, _, _, _, _, ⟨rfl, rfl, hlo, f0, f1, f2, (fun _ => rfl), f4, f5, f6, f7, f8, f9, f10, f11, f12, f13, f14, f15, f16, f17, (fun _ => rfl), f19, f20, f21, f22, f23⟩⟩
   | 19, _ =>
    simp only [List.getElem?_toArray, List.getElem?_cons_zero, List.getElem?_cons_succ, Option.some.injEq] at ho
    subst ho
    rw [if_pos (wanted_free rfl)]
    have e3 := f3 (hd ⟨3, .data⟩ (by simp) rfl)
    have e18 := f18 (hd ⟨18, .data⟩ (by simp) rfl)
    subst e3 e18
    go_simp
    exact hK _ _ ⟨b0, b1, b2, b3, b4, b5, b6, b7, b8, b9, b10, b11, b12, b13, b14, b15, b16, b17, b18, true, b20, b21, b22, b23, _, _, _, _, _, _, _, _, _, _, _, _, _, _, _, _, _, _, _, _, _, _, _, _, ⟨rfl, rfl, hlo, f0, f1, f2, (fun _ => rfl), f4, f5, f6, f7, f8, f9, f10, f11, f12, f13, f14, f15, f16, f17, (fun _ => rfl), (fun _ => rfl), f20, f21, f22, f23⟩⟩
   | 20, _ =>
    simp only [List.getElem?_toArray, List.getElem?_cons_zero, List.getElem?_cons_succ, Option.some.injEq] at ho
    subst ho
    rw [if_pos (wanted_free rfl)]
    have e19 := f19 (hd ⟨19, .data⟩ (by simp) rfl)
    subst e19
    go_simp
    exact hK _ _ ⟨b0, b1, b2, b3, b4, b5, b6, b7, b8, b9, b10, b11, b12, b13, b14, b15, b16, b17, b18, b19, true, b21, b22, b23, _, _, _, _, _, _, _, _, _, _, _, _, _, _, _, _, _, _, _, _, _, _, _, _, ⟨rfl, rfl, hlo, f0, f1, f2, f3, f4, f5, f6, f7, f8, f9, f10, f11, f12, f13, f14, f15, f16, f17, f18, (fun _ => rfl), (fun _ => rfl), f21, f22, f23⟩⟩
   | 21, _ =>
    simp only [List.getElem?_toArray, List.getElem?_cons_zero, List.getElem?_cons_succ, Option.some.injEq] at ho
    subst ho
    have e20 := f20 (hd ⟨20, .guard⟩ (by simp) rfl)
    subst e20
    rw [if_pos (show Region.wanted _ _ = true from rfl)]
    go_simp
    refine (HEX.out w' hlo).mono ?_
    rintro e w2 ⟨rfl, hb⟩
    exact hK _ _ ⟨b0, b1, b2, b3, b4, b5, b6, b7, b8, b9, b10, b11, b12, b13, b14, b15, b16, b17, b18, b19, b20, true, b22, b23, _, _, _, _, _, _, _, _, _, _, _, _, _, _, _, _, _, _, _, _, _, _, _, _, ⟨rfl, rfl, (hlo.trans (hb.mono hlo.size)), f0, f1, f2, f3, f4, f5, f6, f7, f8, f9, f10, f11, f12, f13, f14, f15, f16, f17, f18, f19, (fun _ => rfl), (fun _ => rfl), f22, f23⟩⟩
   | 22, _ =>
    simp only [List.getElem?_toArray, List.getElem?_cons_zero, List.getElem?_cons_succ, Option.some.injEq] at ho
    subst ho
    rw [if_pos (wanted_free rfl)]
    have e20 := f20 (hd ⟨20, .data⟩ (by simp) rfl)
    have e21 := f21 (hd ⟨21, .data⟩ (by simp) rfl)
    subst e20 e21
    go_simp
    exact hK _ _ ⟨b0, b1, b2, b3, b4, b5, b6, b7, b8, b9, b10, b11, b12, b13, b14, b15, b16, b17, b18, b19, b20, b21, true, b23, _, _, _, _, _, _, _, _, _, _, _, _, _, _, _, _, _, _, _, _, _, _, _, _, ⟨rfl, rfl, hlo, f0, f1, f2, f3, f4, f5, f6, f7, f8, f9, f10, f11, f12, f13, f14, f15, f16, f17, f18, f19, (fun _ => rfl), (fun _ => rfl), (fun _ => rfl), f23⟩⟩
   | 23, _ =>
    simp only [List.getElem?_toArray, List.getElem?_cons_zero, List.getElem?_cons_succ, Option.some.injEq] at ho
    subst ho
    rw [if_pos (wanted_free rfl)]
    have e22 := f22 (hd ⟨22, .data⟩ (by simp) rfl)
    subst e22
    go_simp
    exact hK _ _ ⟨b0, b1, b2, b3, b4, b5, b6, b7, b8, b9, b10, b11, b12, b13, b14, b15, b16, b17, b18, b19, b20, b21, b22, true, _, _, _, _, _, _, _, _, _, _, _, _, _, _, _, _, _, _, _, _, _, _, _, _, ⟨rfl, rfl, hlo, f0, f1, f2, f3, f4, f5, f6, f7, f8, f9, f10, f11, f12, f13, f14, f15, f16, f17, f18, f19, f20, f21, (fun _ => rfl), (fun _ => rfl)⟩⟩
  ·rintro listed f w' ⟨b0, b1, b2, b3, b4, b5, b6, b7, b8, b9, b10, b11, b12, b13, b14, b15, b16, b17, b18, b19, b20, b21, b22, b23, t2, t3, t4, t5, t6, t7, t8, t9, t10, t11, t12, t13, t14, t15, t16, t17, t18, t19, t20, t21, t22, t23, t24, t25, X⟩ hall
   obtain ⟨rfl, rfl, hlo, f0, f1, f2, f3, f4, f5, f6, f7, f8, f9, f10, f11, f12, f13, f14, f15, f16, f17, f18, f19, f20, f21, f22, f23⟩ := X
   obtain rfl : b0 = true := hall 0 _ rfl (done_step rfl)
   obtain rfl : b1 = true := hall 1 _ rfl (done_step rfl)
   obtain rfl : b2 = true := hall 2 _ rfl (done_step rfl)
   obtain rfl : b3 = true := hall 3 _ rfl (done_step rfl)
   obtain rfl : b4 = true := hall 4 _ rfl (done_step rfl)
   obtain rfl : b5 = true := hall 5 _ rfl (done_step rfl)
   obtain rfl : b6 = true := hall 6 _ rfl (done_step rfl)
   obtain rfl : b7 = true := hall 7 _ rfl (done_step rfl)
   obtain rfl : b8 = true := hall 8 _ rfl (done_step rfl)
   obtain rfl : b9 = true := hall 9 _ rfl (done_step rfl)
   obtain rfl : b10 = true := hall 10 _ rfl (done_step rfl)
   obtain rfl : b11 = true := hall 11 _ rfl (done_step rfl)
   obtain rfl : b12 = true := hall 12 _ rfl (done_step rfl)
   obtain rfl : b13 = true := hall 13 _ rfl (done_step rfl)
   obtain rfl : b14 = true := hall 14 _ rfl (done_step rfl)
   obtain rfl : b15 = true := hall 15 _ rfl (done_step rfl)
   obtain rfl : b16 = true := hall 16 _ rfl (done_step rfl)
   obtain rfl : b17 = true := hall 17 _ rfl (done_step rfl)
   obtain rfl : b18 = true := hall 18 _ rfl (done_step rfl)
   obtain rfl : b19 = true := hall 19 _ rfl (done_step rfl)
   obtain rfl : b20 = true := hall 20 _ rfl (done_step rfl)
   obtain rfl : b21 = true := hall 21 _ rfl (done_step rfl)
   obtain rfl : b22 = true := hall 22 _ rfl (done_step rfl)
   obtain rfl : b23 = true := hall 23 _ rfl (done_step rfl)
   have e23 := f23 rfl
   have HLO := Lib.hid hlo
   subst e23
   clear hlo hall f0 f1 f2 f3 f4 f5 f6 f7 f8 f9 f10 f11 f12 f13 f14 f15 f16 f17 f18 f19 f20 f21 f22
   go_wp2_with fail
   go_ret
   exact ⟨rfl, HB.out.trans (HLO.out.mono HB.out.size)⟩
 ·obtain ⟨f1, f2, f3, f4, f5⟩ := HFB rfl
  have HCK := fun W (hb : Below (w.alloc (.cells #[.string s.name, .slice F.Z F.z F.zc, .slice F.M F.m F.mc, .slice F.P F.p F.pc, .slice F.U F.u F.uc, .slice F.E F.e F.ec, .slice F.O F.o F.oc, .slice F.L F.n F.c, .slice F.V F.k F.kc] 33)).heap.size (w.alloc (.cells #[.string s.name, .slice F.Z F.z F.zc, .slice F.M F.m F.mc, .slice F.P F.p F.pc, .slice F.U F.u F.uc, .slice F.E F.e F.ec, .slice F.O F.o F.oc, .slice F.L F.n F.c, .slice F.V F.k F.kc] 33)) W) => scanCheck_any s F.Z F.z F.zc F.M F.m F.mc F.P F.p F.pc F.U F.u F.uc F.E F.e F.ec F.O F.o F.oc W (h.on (HB.out.trans (hb.mono HB.out.size))).st f1 F.L F.n F.c bs (h.on (HB.out.trans (hb.mono HB.out.size))).bun h.bcap F.V F.k F.kc ws (h.on (HB.out.trans (hb.mono HB.out.size))).wor h.wcap f4
  have HRK := fun W (hb : Below (w.alloc (.cells #[.string s.name, .slice F.Z F.z F.zc, .slice F.M F.m F.mc, .slice F.P F.p F.pc, .slice F.U F.u F.uc, .slice F.E F.e F.ec, .slice F.O F.o F.oc, .slice F.L F.n F.c, .slice F.V F.k F.kc] 33)).heap.size (w.alloc (.cells #[.string s.name, .slice F.Z F.z F.zc, .slice F.M F.m F.mc, .slice F.P F.p F.pc, .slice F.U F.u F.uc, .slice F.E F.e F.ec, .slice F.O F.o F.oc, .slice F.L F.n F.c, .slice F.V F.k F.kc] 33)) W) => rscan_any s F.Z F.z F.zc F.M F.m F.mc F.P F.p F.pc F.U F.u F.uc F.E F.e F.ec F.O F.o F.oc W (h.on (HB.out.trans (hb.mono HB.out.size))).st f1 F.L F.n F.c bs (h.on (HB.out.trans (hb.mono HB.out.size))).bun F.V F.k F.kc ws (h.on (HB.out.trans (hb.mono HB.out.size))).wor h.wcap f4
  obtain ⟨E, hE⟩ : ∃ E, scanE s bs ws = E := ⟨_, rfl⟩
  simp only [hE] at HCK HRK
  have HCK := Lib.hid HCK
  have HRK := Lib.hid HRK
  clear HFB hF hR h hw f1 f2 f3 f4 f5 hE
  go_enter Tryz.func3, Tryz.ntmps3
  go_wp2_with fail
  refine region_inv (I := fun li f w' => ∃ b0 b1 b2 b3 b4 b5 b6 b7 b8 b9 b10 b11 b12 b13 b14 b15 b16 b17 b18 b19 b20 b21 b22 b23 t2 t3 t4 t5 t6 t7 t8 t9 t10 t11 t12 t13 t14 t15 t16 t17 t18 t19 t20 t21 t22 t23 t24 t25, CkT F s w E li f w' b0 b1 b2 b3 b4 b5 b6 b7 b8 b9 b10 b11 b12 b13 b14 b15 b16 b17 b18 b19 b20 b21 b22 b23 t2 t3 t4 t5 t6 t7 t8 t9 t10 t11 t12 t13 t14 t15 t16 t17 t18 t19 t20 t21 t22 t23 t24 t25) (by kernel_rfl) ?_ ?_ ?_
  ·exact ⟨false, false, false, false, false, false, false, false, false, false, false, false, false, false, false, false, false, false, false, false, false, false, false, false, _, _, _, _, _, _, _, _, _, _, _, _, _, _, _, _, _, _, _, _, _, _, _, _, rfl, rfl, (Below.refl _ _).drew, (fun e => by cases e), (fun e => by cases e), (fun e => by cases e), (fun e => by cases e), (fun e => by cases e), (fun e => by cases e), (fun e => by cases e), (fun e => by cases e), (fun e => by cases e), (fun e => by cases e), (fun e => by cases e), (fun e => by cases e), (fun e => by cases e), (fun e => by cases e), (fun e => by cases e), (fun e => by cases e), (fun e => by cases e), (fun e => by cases e), (fun e => by cases e), (fun e => by cases e), (fun e => by cases e), (fun e => by cases e), (fun e => by cases e), (fun e => by cases e)⟩
  ·rintro listed f w' i o ⟨b0, b1, b2, b3, b4, b5, b6, b7, b8, b9, b10, b11, b12, b13, b14, b15, b16, b17, b18, b19, b20, b21, b22, b23, t2, t3, t4, t5, t6, t7, t8, t9, t10, t11, t12, t13, t14, t15, t16, t17, t18, t19, t20, t21, t22, t23, t24, t25, X⟩ hi1 ho hd K hK
   obtain ⟨rfl, rfl, hlo, f0, f1, f2, f3, f4, f5, f6, f7, f8, f9, f10, f11, f12, f13, f14, f15, f16, f17, f18, f19, f20, f21, f22, f23⟩ := X
   have hlt : i < 24 := (Array.getElem?_eq_some_iff.1 ho).1
   match i, hlt with
   | 0, _ =>
    simp only [List.getElem?_toArray, List.getElem?_cons_zero, Option.some.injEq] at ho
    subst ho
    rw [if_pos (wanted_free rfl)]
    obtain ⟨x0, x1, x2, x3, x4, x5, x6, x7, x8⟩ := nine_box (HX.out.below hlo)
    go_simp
    exact hK _ _ ⟨true, b1, b2, b3, b4, b5, b6, b7, b8, b9, b10, b11, b12, b13, b14, b15, b16, b17, b18, b19, b20, b21, b22, b23, _, _, _, _, _, _, _, _, _, _, _, _, _, _, _, _, _, _, _, _, _, _, _, _, ⟨rfl, rfl, hlo, (fun _ => rfl), f1, f2, f3, f4, f5, f6, f7, f8, f9, f10, f11, f12, f13, f14, f15, f16, f17, f18, f19, f20, f21, f22, f23⟩⟩
   | 1, _ =>
    simp only [List.getElem?_toArray, List.getElem?_cons_zero, List.getElem?_cons_succ, Option.some.injEq] at ho
    subst ho
    rw [if_pos (wanted_free rfl)]
    have e0 := f0 (hd ⟨0, .data⟩ (by simp) rfl)
    subst e0
    go_simp
    refine (HF.out w' hlo).mono ?_
    rintro e w2 ⟨rfl, hb⟩
    exact hK _ _ ⟨b0, true, b2, b3, b4, b5, b6, b7, b8, b9, b10, b11, b12, b13, b14, b15, b16, b17, b18, b19, b20, b21, b22, b23, _, _, _, _, _, _, _, _, _, _, _, _, _, _, _, _, _, _, _, _, _, _, _, _, ⟨rfl, rfl, (hlo.trans (hb.mono hlo.size)), (fun _ => rfl), (fun _ => rfl), f2, f3, f4, f5, f6, f7, f8, f9, f10, f11, f12, f13, f14, f15, f16, f17, f18, f19, f20, f21, f22, f23⟩⟩
   | 2, _ =>
    simp only [List.getElem?_toArray, List.getElem?_cons_zero, List.getElem?_cons_succ, Option.some.injEq] at ho
    subst ho
    rw [if_pos (wanted_free rfl)]
    have e1 := f1 (hd ⟨1, .data⟩ (by simp) rfl)
    subst e1
    go_simp
    exact hK _ _ ⟨b0, b1, true, b3, b4, b5, b6, b7, b8, b9, b10, b11, b12, b13, b14, b15, b16, b17, b18, b19, b20, b21, b22, b23, _, _, _, _, _, _, _, _, _, _, _, _, _, _, _, _, _, _, _, _, _, _, _, _, ⟨rfl, rfl, hlo, f0, (fun _ => rfl), (fun _ => rfl), f3, f4, f5, f6, f7, f8, f9, f10, f11, f12, f13, f14, f15, f16, f17, f18, f19, f20, f21, f22, f23⟩⟩
   | 3, _ =>
    simp only [List.getElem?_toArray, List.getElem?_cons_zero, List.getElem?_cons_succ, Option.some.injEq] at ho
    subst ho
    rw [if_pos (wanted_free rfl)]
    have e2 := f2 (hd ⟨2, .data⟩ (by simp) rfl)
    subst e2
    go_simp
    exact hK _ _ ⟨b0, b1, b2, true, b4, b5, b6, b7, b8, b9, b10, b11, b12, b13, b14, b15, b16, b17, b18, b19, b20, b21, b22, b23, _, _, _, _, _, _, _, _, _, _, _, _, _, _, _, _, _, _, _, _, _, _, _, _, ⟨rfl, rfl, hlo, f0, f1, (fun _ => rfl), (fun _ => rfl), f4, f5, f6, f7, f8, f9, f10, f11, f12, f13, f14, f15, f16, f17, f18, f19, f20, f21, f22, f23⟩⟩
   | 4, _ =>
    simp only [List.getElem?_toArray, List.getElem?_cons_zero, List.getElem?_cons_succ, Option.some.injEq] at ho
    subst ho
    have e3 := f3 (hd ⟨3, .guard⟩ (by simp) rfl)
    subst e3
    rw [if_pos (show Region.wanted _ _ = true from rfl)]
    go_simp
    exact hK _ _ ⟨b0, b1, b2, b3, true, b5, b6, b7, b8, b9, b10, b11, b12, b13, b14, b15, b16, b17, b18, b19, b20, b21, b22, b23, _, _, _, _, _, _, _, _, _, _, _, _, _, _, _, _, _, _, _, _, _, _, _, _, ⟨rfl, rfl, hlo, f0, f1, f2, (fun _ => rfl), (fun _ => rfl), f5, f6, f7, f8, f9, f10, f11, f12, f13, f14, f15, f16, f17, f18, f19, f20, f21, f22, f23⟩⟩
   | 5, _ =>
    simp only [List.getElem?_toArray, List.getElem?_cons_zero, List.getElem?_cons_succ, Option.some.injEq] at ho
    subst ho
    have e3 := f3 (hd ⟨3, .guard⟩ (by simp) rfl)
    subst e3
    rw [if_pos (show Region.wanted _ _ = true from rfl)]
    have e4 := f4 (hd ⟨4, .data⟩ (by simp) rfl)
    subst e4
    obtain ⟨x0, x1, x2, x3, x4, x5, x6, x7, x8⟩ := nine_box (HX.out.below hlo)
    go_simp
    exact hK _ _ ⟨b0, b1, b2, b3, b4, true, b6, b7, b8, b9, b10, b11, b12, b13, b14, b15, b16, b17, b18, b19, b20, b21, b22, b23, _, _, _, _, _, _, _, _, _, _, _, _, _, _, _, _, _, _, _, _, _, _, _, _, ⟨rfl, rfl, hlo, f0, f1, f2, (fun _ => rfl), (fun _ => rfl), (fun _ => rfl), f6, f7, f8, f9, f10, f11, f12, f13, f14, f15, f16, f17, f18, f19, f20, f21, f22, f23⟩⟩
   | 6, _ =>
    simp only [List.getElem?_toArray, List.getElem?_cons_zero, List.getElem?_cons_succ, Option.some.injEq] at ho
    subst ho
    have e3 := f3 (hd ⟨3, .guard⟩ (by simp) rfl)
    subst e3
    rw [if_pos (show Region.wanted _ _ = true from rfl)]
    go_simp
    exact hK _ _ ⟨b0, b1, b2, b3, b4, b5, true, b7, b8, b9, b10, b11, b12, b13, b14, b15, b16, b17, b18, b19, b20, b21, b22, b23, _, _, _, _, _, _, _, _, _, _, _, _, _, _, _, _, _, _, _, _, _, _, _, _, ⟨rfl, rfl, hlo, f0, f1, f2, (fun _ => rfl), f4, f5, (fun _ => rfl), f7, f8, f9, f10, f11, f12, f13, f14, f15, f16, f17, f18, f19, f20, f21, f22, f23⟩⟩
   | 7, _ =>
    simp only [List.getElem?_toArray, List.getElem?_cons_zero, List.getElem?_cons_succ, Option.some.injEq] at ho
    subst ho
    have e3 := f3 (hd ⟨3, .guard⟩ (by simp) rfl)
    subst e3
    rw [if_pos (show Region.wanted _ _ = true from rfl)]
    have e6 := f6 (hd ⟨6, .data⟩ (by simp) rfl)
    subst e6
    obtain ⟨x0, x1, x2, x3, x4, x5, x6, x7, x8⟩ := nine_box (HX.out.below hlo)
    go_simp
    exact hK _ _ ⟨b0, b1, b2, b3, b4, b5, b6, true, b8, b9, b10, b11, b12, b13, b14, b15, b16, b17, b18, b19, b20, b21, b22, b23, _, _, _, _, _, _, _, _, _, _, _, _, _, _, _, _, _, _, _, _, _, _, _, _, ⟨rfl, rfl, hlo, f0, f1, f2, (fun _ => rfl), f4, f5, (fun _ => rfl), (fun _ => rfl), f8, f9, f10, f11, f12, f13, f14, f15, f16, f17, f18, f19, f20, f21, f22, f23⟩⟩
   | 8, _ =>
    simp only [List.getElem?_toArray, List.getElem?_cons_zero, List.getElem?_cons_succ, Option.some.injEq] at ho
    subst ho
    have e3 := f3 (hd ⟨3, .guard⟩ (by simp) rfl)
    subst e3
    rw [if_pos (show Region.wanted _ _ = true from rfl)]
    go_simp
    exact hK _ _ ⟨b0, b1, b2, b3, b4, b5, b6, b7, true, b9, b10, b11, b12, b13, b14, b15, b16, b17, b18, b19, b20, b21, b22, b23, _, _, _, _, _, _, _, _, _, _, _, _, _, _, _, _, _, _, _, _, _, _, _, _, ⟨rfl, rfl, hlo, f0, f1, f2, (fun _ => rfl), f4, f5, f6, f7, (fun _ => rfl), f9, f10, f11, f12, f13, f14, f15, f16, f17, f18, f19, f20, f21, f22, f23⟩⟩
   | 9, _ =>
    simp only [List.getElem?_toArray, List.getElem?_cons_zero, List.getElem?_cons_succ, Option.some.injEq] at ho
    subst ho
    have e3 := f3 (hd ⟨3, .guard⟩ (by simp) rfl)
    subst e3
    rw [if_pos (show Region.wanted _ _ = true from rfl)]
    have e8 := f8 (hd ⟨8, .data⟩ (by simp) rfl)
    subst e8
    obtain ⟨x0, x1, x2, x3, x4, x5, x6, x7, x8⟩ := nine_box (HX.out.below hlo)
    go_simp
    exact hK _ _ ⟨b0, b1, b2, b3, b4, b5, b6, b7, b8, true, b10, b11, b12, b13, b14, b15, b16, b17, b18, b19, b20, b21, b22, b23, _, _, _, _, _, _, _, _, _, _, _, _, _, _, _, _, _, _, _, _, _, _, _, _, ⟨rfl, rfl, hlo, f0, f1, f2, (fun _ => rfl), f4, f5, f6, f7, (fun _ => rfl), (fun _ => rfl), f10, f11, f12, f13, f14, f15, f16, f17, f18, f19, f20, f21, f22, f23⟩⟩
   | 10, _ =>
    simp only [List.getElem?_toArray, List.getElem?_cons_zero, List.getElem?_cons_succ, Option.some.injEq] at ho
    subst ho
    have e3 := f3 (hd ⟨3, .guard⟩ (by simp) rfl)
    subst e3
    rw [if_pos (show Region.wanted _ _ = true from rfl)]
    have e5 := f5 (hd ⟨5, .data⟩ (by simp) rfl)
    have e7 := f7 (hd ⟨7, .data⟩ (by simp) rfl)
    have e9 := f9 (hd ⟨9, .data⟩ (by simp) rfl)
    subst e5 e7 e9
    go_simp
    refine (HCK.out w' hlo).mono ?_
    rintro e w2 ⟨rfl, hb⟩
    exact hK _ _ ⟨b0, b1, b2, b3, b4, b5, b6, b7, b8, b9, true, b11, b12, b13, b14, b15, b16, b17, b18, b19, b20, b21, b22, b23, _, _, _, _, _, _, _, _, _, _, _, _, _, _, _, _, _, _, _, _, _, _, _, _, ⟨rfl, rfl, (hlo.trans (hb.mono hlo.size)), f0, f1, f2, (fun _ => rfl), f4, (fun _ => rfl), f6, (fun _ => rfl), f8, (fun _ => rfl), (fun _ => rfl), f11, f12, f13, f14, f15, f16, f17, f18, f19, f20, f21, f22, f23⟩⟩
   | 11, _ =>
    simp only [List.getElem?_toArray, List.getElem?_cons_zero, List.getElem?_cons_succ, Option.some.injEq] at ho
    subst ho
    have e3 := f3 (hd ⟨3, .guard⟩ (by simp) rfl)
    subst e3
    rw [if_pos (show Region.wanted _ _ = true from rfl)]
    go_simp
    exact hK _ _ ⟨b0, b1, b2, b3, b4, b5, b6, b7, b8, b9, b10, true, b12, b13, b14, b15, b16, b17, b18, b19, b20, b21, b22, b23, _, _, _, _, _, _, _, _, _, _, _, _, _, _, _, _, _, _, _, _, _, _, _, _, ⟨rfl, rfl, hlo, f0, f1, f2, (fun _ => rfl), f4, f5, f6, f7, f8, f9, f10, (fun _ => rfl), f12, f13, f14, f15, f16, f17, f18, f19, f20, f21, f22, f23⟩⟩
   | 12, _ =>
    simp only [List.getElem?_toArray, List.getElem?_cons_zero, List.getElem?_cons_succ, Option.some.injEq] at ho
    subst ho
    have e3 := f3 (hd ⟨3, .guard⟩ (by simp) rfl)
    subst e3
    rw [if_pos (show Region.wanted _ _ = true from rfl)]
    have e11 := f11 (hd ⟨11, .data⟩ (by simp) rfl)
    subst e11
    obtain ⟨x0, x1, x2, x3, x4, x5, x6, x7, x8⟩ := nine_box (HX.out.below hlo)
    go_simp
    exact hK _ _ ⟨b0, b1, b2, b3, b4, b5, b6, b7, b8, b9, b10, b11, true, b13, b14, b15, b16, b17, b18, b19, b20, b21, b22, b23, _, _, _, _, _, _, _, _, _, _, _, _, _, _, _, _, _, _, _, _, _, _, _, _, ⟨rfl, rfl, hlo, f0, f1, f2, (fun _ => rfl), f4, f5, f6, f7, f8, f9, f10, (fun _ => rfl), (fun _ => rfl), f13, f14, f15, f16, f17, f18, f19, f20, f21, f22, f23⟩⟩
   | 13, _ =>
    simp only [List.getElem?_toArray, List.getElem?_cons_zero, List.getElem?_cons_succ, Option.some.injEq] at ho
    subst ho
    have e3 := f3 (hd ⟨3, .guard⟩ (by simp) rfl)
    subst e3
    rw [if_pos (show Region.wanted _ _ = true from rfl)]
    go_simp
    exact hK _ _ ⟨b0, b1, b2, b3, b4, b5, b6, b7, b8, b9, b10, b11, b12, true, b14, b15, b16, b17, b18, b19, b20, b21, b22, b23, _, _, _, _, _, _, _, _, _, _, _, _, _, _, _, _, _, _, _, _, _, _, _, _, ⟨rfl, rfl, hlo, f0, f1, f2, (fun _ => rfl), f4, f5, f6, f7, f8, f9, f10, f11, f12, (fun _ => rfl), f14, f15, f16, f17, f18, f19, f20, f21, f22, f23⟩⟩
   | 14, _ =>
    simp only [List.getElem?_toArray, List.getElem?_cons_zero, List.getElem?_cons_succ, Option.some.injEq] at ho
    subst ho
    have e3 := f3 (hd ⟨3, .guard⟩ (by simp) rfl)
    subst e3
    rw [if_pos (show Region.wanted _ _ = true from rfl)]
    have e13 := f13 (hd ⟨13, .data⟩ (by simp) rfl)
    subst e13
    obtain ⟨x0, x1, x2, x3, x4, x5, x6, x7, x8⟩ := nine_box (HX.out.below hlo)
    go_simp
    exact hK _ _ ⟨b0, b1, b2, b3, b4, b5, b6, b7, b8, b9, b10, b11, b12, b13, true, b15, b16, b17, b18, b19, b20, b21, b22, b23, _, _, _, _, _, _, _, _, _, _, _, _, _, _, _, _, _, _, _, _, _, _, _, _, ⟨rfl, rfl, hlo, f0, f1, f2, (fun _ => rfl), f4, f5, f6, f7, f8, f9, f10, f11, f12, (fun _ => rfl), (fun _ => rfl), f15, f16, f17, f18, f19, f20, f21, f22, f23⟩⟩
   | 15, _ =>
    simp only [List.getElem?_toArray, List.getElem?_cons_zero, List.getElem?_cons_succ, Option.some.injEq] at ho
    subst ho
    have e3 := f3 (hd ⟨3, .guard⟩ (by simp) rfl)
    subst e3
    rw [if_pos (show Region.wanted _ _ = true from rfl)]
    go_simp
    exact hK _ _ ⟨b0, b1, b2, b3, b4, b5, b6, b7, b8, b9, b10, b11, b12, b13, b14, true, b16, b17, b18, b19, b20, b21, b22, b23, _, _, _, _, _, _, _, _, _, _, _, _, _, _, _, _, _, _, _, _, _, _, _, _, ⟨rfl, rfl, hlo, f0, f1, f2, (fun _ => rfl), f4, f5, f6, f7, f8, f9, f10, f11, f12, f13, f14, (fun _ => rfl), f16, f17, f18, f19, f20, f21, f22, f23⟩⟩
   | 16, _ =>
    simp only [List.getElem?_toArray, List.getElem?_cons_zero, List.getElem?_cons_succ, Option.some.injEq] at ho
    subst ho
    have e3 := f3 (hd ⟨3, .guard⟩ (by simp) rfl)
    subst e3
    rw [if_pos (show Region.wanted _ _ = true from rfl)]
    have e15 := f15 (hd ⟨15, .data⟩ (by simp) rfl)
    subst e15
    obtain ⟨x0, x1, x2, x3, x4, x5, x6, x7, x8⟩ := nine_box (HX.out.below hlo)
    go_simp
    exact hK _ _ ⟨b0, b1, b2, b3, b4, b5, b6, b7, b8, b9, b10, b11, b12, b13, b14, b15, true, b17, b18, b19, b20, b21, b22, b23, _, _, _, _, _, _, _, _, _, _, _, _, _, _, _, _, _, _, _, _, _, _, _, _, ⟨rfl, rfl, hlo, f0, f1, f2, (fun _ => rfl), f4, f5, f6, f7, f8, f9, f10, f11, f12, f13, f14, (fun _ => rfl), (fun _ => rfl), f17, f18, f19, f20, f21, f22, f23⟩⟩
   | 17, _ =>
    simp only [List.getElem?_toArray, List.getElem?_cons_zero, List.getElem?_cons_succ, Option.some.injEq] at ho
    subst ho
    have e3 := f3 (hd ⟨3, .guard⟩ (by simp) rfl)
    subst e3
    rw [if_pos (show Region.wanted _ _ = true from rfl)]
    have e12 := f12 (hd ⟨12, .data⟩ (by simp) rfl)
    have e14 := f14 (hd ⟨14, .data⟩ (by simp) rfl)
    have e16 := f16 (hd ⟨16, .data⟩ (by simp) rfl)
    subst e12 e14 e16
    go_simp
    refine (HRK.out w' hlo).mono ?_
    rintro e w2 ⟨rfl, hb⟩
    exact hK _ _ ⟨b0, b1, b2, b3, b4, b5, b6, b7, b8, b9, b10, b11, b12, b13, b14, b15, b16, true, b18, b19, b20, b21, b22, b23, _, _, _, _, _, _, _, _, _, _, _, _, _, _, _, _, _, _, _, _, _, _, _, _, ⟨rfl, rfl, (hlo.trans (hb.mono hlo.size)), f0, f1, f2, (fun _ => rfl), f4, f5, f6, f7, f8, f9, f10, f11, (fun _ => rfl), f13, (fun _ => rfl), f15, (fun _ => rfl), (fun _ => rfl), f18, f19, f20, f21, f22, f23⟩⟩
   | 18, _ =>
    simp only [List.getElem?_toArray, List.getElem?_cons_zero, List.getElem?_cons_succ, Option.some.injEq] at ho
    subst ho
    have e3 := f3 (hd ⟨3, .guard⟩ (by simp) rfl)
    subst e3
    rw [if_pos (show Region.wanted _ _ = true from rfl)]
    have e10 := f10 (hd ⟨10, .data⟩ (by simp) rfl)
    have e17 := f17 (hd ⟨17, .data⟩ (by simp) rfl)
    subst e10 e17
    go_simp
    exact hK _ _ ⟨b0, b1, b2, b3, b4, b5, b6, b7, b8, b9, b10, b11, b12, b13, b14, b15, b16, b17, true, b19, b20, b21, b22, b23, _, _, _, _, _, _, _, _, _, _, _, _, _, _, _, _, _, _, _, _, _, _, _, _, ⟨rfl, rfl, hlo, f0, f1, f2, (fun _ => rfl), f4, f5, f6, f7, f8, f9, (fun _ => rfl), f11, f12, f13, f14, f15, f16, (fun _ => rfl), (fun _ => rfl), f19, f20, f21, f22, f23⟩⟩
   | 19, _ =>
    simp only [List.getElem?_toArray, List.getElem?_cons_zero, List.getElem?_cons_succ, Option.some.injEq] at ho
    subst ho
    rw [if_pos (wanted_free rfl)]
    have e3 := f3 (hd ⟨3, .data⟩ (by simp) rfl)
    have e18 := f18 (hd ⟨18, .data⟩ (by simp) rfl)
    subst e3 e18
    go_simp
    exact hK _ _ ⟨b0, b1, b2, b3, b4, b5, b6, b7, b8, b9, b10, b11, b12, b13, b14, b15, b16, b17, b18, true, b20, b21, b22, b23, _, _, _, _, _, _, _, _, _, _, _, _, _, _, _, _, _, _, _, _, _, _, _, _, ⟨rfl, rfl, hlo, f0, f1, f2, (fun _ => rfl), f4, f5, f6, f7, f8, f9, f10, f11, f12, f13, f14, f15, f16, f17, (fun _ => rfl), (fun _ => rfl), f20, f21, f22, f23⟩⟩
   | 20, _ =>
    simp only [List.getElem?_toArray, List.getElem?_cons_zero, List.getElem?_cons_succ, Option.some.injEq] at ho
    subst ho
    rw [if_pos (wanted_free rfl)]
    have e19 := f19 (hd ⟨19, .data⟩ (by simp) rfl)
    subst e19
    go_simp
    exact hK _ _ ⟨b0, b1, b2, b3, b4, b5, b6, b7, b8, b9, b10, b11, b12, b13, b14, b15, b16, b17, b18, b19, true, b21, b22, b23, _, _, _, _, _, _, _, _, _, _, _, _, _, _, _, _, _, _, _, _, _, _, _, _, ⟨rfl, rfl, hlo, f0, f1, f2, f3, f4, f5, f6, f7, f8, f9, f10, f11, f12, f13, f14, f15, f16, f17, f18, (fun _ => rfl), (fun _ => rfl), f21, f22, f23⟩⟩
   | 21, _ =>
    simp only [List.getElem?_toArray, List.getElem?_cons_zero, List.getElem?_cons_succ, Option.some.injEq] at ho
    subst ho
    have e20 := f20 (hd ⟨20, .guard⟩ (by simp) rfl)
    subst e20
    rw [if_pos (show Region.wanted _ _ = true from rfl)]
    go_simp
    refine (HEX.out w' hlo).mono ?_
    rintro e w2 ⟨rfl, hb⟩
    exact hK _ _ ⟨b0, b1, b2, b3, b4, b5, b6, b7, b8, b9, b10, b11, b12, b13, b14, b15, b16, b17, b18, b19, b20, true, b22, b23, _, _, _, _, _, _, _, _, _, _, _, _, _, _, _, _, _, _, _, _, _, _, _, _, ⟨rfl, rfl, (hlo.trans (hb.mono hlo.size)), f0, f1, f2, f3, f4, f5, f6, f7, f8, f9, f10, f11, f12, f13, f14, f15, f16, f17, f18, f19, (fun _ => rfl), (fun _ => rfl), f22, f23⟩⟩
   | 22, _ =>
    simp only [List.getElem?_toArray, List.getElem?_cons_zero, List.getElem?_cons_succ, Option.some.injEq] at ho
    subst ho
    rw [if_pos (wanted_free rfl)]
    have e20 := f20 (hd ⟨20, .data⟩ (by simp) rfl)
    have e21 := f21 (hd ⟨21, .data⟩ (by simp) rfl)
    subst e20 e21
    go_simp
    exact hK _ _ ⟨b0, b1, b2, b3, b4, b5, b6, b7, b8, b9, b10, b11, b12, b13, b14, b15, b16, b17, b18, b19, b20, b21, true, b23, _, _, _, _, _, _, _, _, _, _, _, _, _, _, _, _, _, _, _, _, _, _, _, _, ⟨rfl, rfl, hlo, f0, f1, f2, f3, f4, f5, f6, f7, f8, f9, f10, f11, f12, f13, f14, f15, f16, f17, f18, f19, (fun _ => rfl), (fun _ => rfl), (fun _ => rfl), f23⟩⟩
   | 23, _ =>
    simp only [List.getElem?_toArray, List.getElem?_cons_zero, List.getElem?_cons_succ, Option.some.injEq] at ho
    subst ho
    rw [if_pos (wanted_free rfl)]
    have e22 := f22 (hd ⟨22, .data⟩ (by simp) rfl)
    subst e22
    go_simp
    exact hK _ _ ⟨b0, b1, b2, b3, b4, b5, b6, b7, b8, b9, b10, b11, b12, b13, b14, b15, b16, b17, b18, b19, b20, b21, b22, true, _, _, _, _, _, _, _, _, _, _, _, _, _, _, _, _, _, _, _, _, _, _, _, _, ⟨rfl, rfl, hlo, f0, f1, f2, f3, f4, f5, f6, f7, f8, f9, f10, f11, f12, f13, f14, f15, f16, f17, f18, f19, f20, f21, (fun _ => rfl), (fun _ => rfl)⟩⟩
  ·rintro listed f w' ⟨b0, b1, b2, b3, b4, b5, b6, b7, b8, b9, b10, b11, b12, b13, b14, b15, b16, b17, b18, b19, b20, b21, b22, b23, t2, t3, t4, t5, t6, t7, t8, t9, t10, t11, t12, t13, t14, t15, t16, t17, t18, t19, t20, t21, t22, t23, t24, t25, X⟩ hall
   obtain ⟨rfl, rfl, hlo, f0, f1, f2, f3, f4, f5, f6, f7, f8, f9, f10, f11, f12, f13, f14, f15, f16, f17, f18, f19, f20, f21, f22, f23⟩ := X
   obtain rfl : b0 = true := hall 0 _ rfl (done_step rfl)
   obtain rfl : b1 = true := hall 1 _ rfl (done_step rfl)
   obtain rfl : b2 = true := hall 2 _ rfl (done_step rfl)
   obtain rfl : b3 = true := hall 3 _ rfl (done_step rfl)
   obtain rfl : b4 = true := hall 4 _ rfl (done_step rfl)
   obtain rfl : b5 = true := hall 5 _ rfl (done_step rfl)
   obtain rfl : b6 = true := hall 6 _ rfl (done_step rfl)
   obtain rfl : b7 = true := hall 7 _ rfl (done_step rfl)
   obtain rfl : b8 = true := hall 8 _ rfl (done_step rfl)
   obtain rfl : b9 = true := hall 9 _ rfl (done_step rfl)
   obtain rfl : b10 = true := hall 10 _ rfl (done_step rfl)
   obtain rfl : b11 = true := hall 11 _ rfl (done_step rfl)
   obtain rfl : b12 = true := hall 12 _ rfl (done_step rfl)
   obtain rfl : b13 = true := hall 13 _ rfl (done_step rfl)
   obtain rfl : b14 = true := hall 14 _ rfl (done_step rfl)
   obtain rfl : b15 = true := hall 15 _ rfl (done_step rfl)
   obtain rfl : b16 = true := hall 16 _ rfl (done_step rfl)
   obtain rfl : b17 = true := hall 17 _ rfl (done_step rfl)
   obtain rfl : b18 = true := hall 18 _ rfl (done_step rfl)
   obtain rfl : b19 = true := hall 19 _ rfl (done_step rfl)
   obtain rfl : b20 = true := hall 20 _ rfl (done_step rfl)
   obtain rfl : b21 = true := hall 21 _ rfl (done_step rfl)
   obtain rfl : b22 = true := hall 22 _ rfl (done_step rfl)
   obtain rfl : b23 = true := hall 23 _ rfl (done_step rfl)
   have e23 := f23 rfl
   have HLO := Lib.hid hlo
   subst e23
   clear hlo hall f0 f1 f2 f3 f4 f5 f6 f7 f8 f9 f10 f11 f12 f13 f14 f15 f16 f17 f18 f19 f20 f21 f22
   go_wp2_with fail
   go_ret
   exact ⟨rfl, HB.out.trans (HLO.out.mono HB.out.size)⟩
end
end Go.Proofs.YtbgkdlfpmbnakaaGreatDoor
namespace Go.Proofs.YtbgkdlfpmbnakaaGreatDoor.scanChecks
open Go.ChangeShapes Go.WideShapes Go.ChangeAt Go.RowKit
open Go.ChangeMaps (open_string)
set_option maxRecDepth 100000 in
theorem contract (H : Type) (enc : TypeId × Value → H) (W : World) (b0 : Nat) (args : Array Value) (ds gs : List (DataW H)) (before : List MemPlace)
  (hval : ∀ (j : Nat) t v, Tryz.f3.params[j]? = some t → args[j]? = some v → Value.okWide Tryz.prog W .any b0 t v)
  (hW : DataW.Whole enc Tryz.prog Tryz.f3.params.toList Rows.scanChecksSpec.vars false W args.toList ds gs before) (hL : laidMetH Tryz.prog Rows.scanChecksRow.laid W) (hsh : W.ShapedOpen Tryz.prog) :
  Calls Tryz.prog 3 args W fun e W' => ∃ v, e = .returned v ∧ Rows.scanChecksSpec.post enc Tryz.prog Tryz.f3 false true false false W args v W' := by
 have hW' := hW
 have hstd := std_of hL hsh
 obtain ⟨p, q, hA, hV, rfl, hfz, hnd⟩ := hW
 rw [Tryz.params3] at hA hval
 obtain ⟨v0, vs0, d0, ds0, p0, q0, hargs, rfl, rfl, h0, r0⟩ := trodAll_cons hA
 obtain ⟨rfl, rfl, rfl⟩ := trodAll_nil r0
 obtain rfl : args = #[v0] := by cases args; simp_all
 obtain ⟨s0, bs0, ws0, F0, rfl, hl0⟩ := open_floor1 (hval 0 33 v0 rfl rfl) h0
 refine (scanChecks_walk F0 s0 bs0 ws0 W hstd hl0).mono fun e W' ⟨he, hb⟩ => ?_
 subst he
 exact ⟨_, rfl, law_post (by kernel_rfl) (by kernel_rfl) rfl hW' rfl hb⟩
theorem laid_met (os : Os) : laidMet Tryz.prog Rows.scanChecksRow.laid ((World.laidAll Tryz.prog os laidL).forCall (fun _ _ => 0) ⟨#[], #[.agg #[.string ⟨#[]⟩, .slice none 0 0, .slice none 0 0, .slice none 0 0, .slice none 0 0, .slice none 0 0, .slice none 0 0, .slice none 0 0, .slice none 0 0]], []⟩).memory :=
 laidMet_laidAll (laid := laidL) #[.agg #[.string ⟨#[]⟩, .slice none 0 0, .slice none 0 0, .slice none 0 0, .slice none 0 0, .slice none 0 0, .slice none 0 0, .slice none 0 0, .slice none 0 0]] (by kernel_rfl) (by kernel_rfl)
theorem reads (os : Os) {H : Type} (enc : TypeId × Value → H) : ∃ places, DataW.whole enc Tryz.prog ((World.laidAll Tryz.prog os laidL).forCall (fun _ _ => 0) ⟨#[], #[.agg #[.string ⟨#[]⟩, .slice none 0 0, .slice none 0 0, .slice none 0 0, .slice none 0 0, .slice none 0 0, .slice none 0 0, .slice none 0 0, .slice none 0 0]], []⟩).memory Tryz.f3.params.toList Rows.scanChecksSpec.vars false (#[.agg #[.string ⟨#[]⟩, .slice none 0 0, .slice none 0 0, .slice none 0 0, .slice none 0 0, .slice none 0 0, .slice none 0 0, .slice none 0 0, .slice none 0 0]] : Array Value).toList 8 = some ([.agg [.agg [.lit (.string []), .nil, .nil, .nil, .nil, .nil, .nil], .nil, .nil]], [], places) :=
 ⟨[], by kernel_rfl⟩
set_option maxRecDepth 100000 in
theorem lifted (os : Os) (started : os.Started) (H : Type) (enc : TypeId × Value → H) (F : Stop.Interp) :
  ReturnsInHanded {} Tryz.checked os 3 .any ((OpenSpec.ofChange Rows.scanChecksSpec).preRow enc Tryz.prog Tryz.f3 Rows.scanChecksRow.domain false Rows.scanChecksRow.laid) (((OpenSpec.ofChange Rows.scanChecksSpec).at F).post enc Tryz.prog Tryz.f3 false true false false) := by
 obtain ⟨places, hx⟩ := reads os enc
 refine returnsInHanded_of_row (C := Tryz.checked) (s := OpenSpec.ofChange Rows.scanChecksSpec) own started (by kernel_rfl) Tryz.func3
  (witness_row_at (enc := enc) (C := Tryz.checked) false (World.laidAll Tryz.prog os laidL) #[.agg #[.string ⟨#[]⟩, .slice none 0 0, .slice none 0 0, .slice none 0 0, .slice none 0 0, .slice none 0 0, .slice none 0 0, .slice none 0 0, .slice none 0 0]] (World.laidAll_os _ _ _) (by kernel_rfl) (by kernel_rfl) (by kernel_rfl)
   (OpenSpec.preRow_of_cond 8 hx (by kernel_rfl) (fun k hk => by cases hk) (by kernel_rfl) (laid_met os))) ?_
 intro W b0 args ds gs before hval hW _ _ _ hL hsh _
 exact contract H enc W b0 args ds gs before hval hW hL hsh
set_option maxHeartbeats 12800000 in
theorem closed : joinedFacts Tryz.pinned.checked.prog 3 Tryz.f3 (OpenSpec.ofChange Rows.scanChecksSpec).bare Rows.scanChecksRow = true := by
 unfold joinedFacts
 repeat' (with_reducible refine Bool.and_eq_true_iff.mpr ⟨?_, ?_⟩)
 all_goals as_aux_lemma => kernel_rfl
theorem named : Tryz.pinned.checked.prog.funcNamed Rows.scanChecksRow.func = some 3 := by kernel_rfl
theorem inst : Tryz.f3.isInstance Tryz.pinned.checked.prog Rows.scanChecksRow.origin Rows.scanChecksRow.targs := of_decide_eq_true (by kernel_rfl)
theorem wrap : Tryz.f3.isWrapper Tryz.pinned.checked.prog Rows.scanChecksRow.wrapper Rows.scanChecksRow.mainSum := by
 unfold Func.isWrapper
 rw [if_neg (of_decide_eq_false (by kernel_rfl))]
 exact ⟨rfl, rfl⟩
theorem said : Rows.ScanChecksSaid :=
 OpenClaim.holds_of_cond 3 Tryz.f3 rfl rfl rfl rfl rfl rfl rfl ⟨rfl, rfl, rfl, rfl, rfl⟩ rfl rfl rfl rfl rfl named Tryz.func3 closed inst wrap
  (fun os started H enc _ F => by rw [OpenClaim.pre_eq_preRow]; exact lifted os started H enc F)
theorem looked : true = Tryz.pinned.checked.prog.looks [] := by kernel_rfl
theorem plain (f : FuncId) (fn : Func) (hf : Tryz.pinned.checked.prog.funcNamed "garment/garmentlaw56.ScanChecks" = some f) (hfn : Tryz.pinned.checked.prog.funcs[f]? = some fn) :
  true = Tryz.pinned.checked.prog.looks [] ∧ ∀ (j : Nat) t, fn.params[j]? = some t → Tryz.pinned.checked.prog.wantsStandIn t = false := by
 obtain rfl : f = 3 := Option.some.inj ((show Tryz.prog.funcNamed "garment/garmentlaw56.ScanChecks" = some 3 by kernel_rfl).symm.trans hf) |>.symm
 obtain rfl : fn = Tryz.f3 := (Option.some.inj (Tryz.func3.symm.trans hfn)).symm
 refine ⟨looked, fun j t ht => ?_⟩
 rw [Tryz.params3] at ht
 have hm := Array.mem_of_getElem? ht
 obtain rfl : t = 33 := by simpa using hm
 exact (show Tryz.prog.wantsStandIn 33 = false by kernel_rfl)
theorem card : Rows.ScanChecksCardSaid :=
 Claim7.holds_tied_plain_at .later [] _ _ _ _ said (fun _ h => by cases h) (by kernel_rfl) (fun _ h => by cases h) scanChecks_row_tie rfl ⟨rfl, rfl⟩ (by kernel_rfl) rfl plain (by kernel_rfl)
#print axioms card
end Go.Proofs.YtbgkdlfpmbnakaaGreatDoor.scanChecks
