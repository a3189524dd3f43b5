/-
  Several texts in one: math/bits.Div64 by 2^61 - 1: the remainder, exactly; digest.mul. Conditions: the high part is below the divisor. digest.mul, Of, Join, Chain return the plain digests. Conditions: numbers of 64 bits. journal.isEntry, split. Conditions: a line of a size that fits.
-/
import Derived.Deep.LoopGhost
import Derived.Deep.QuietTactic
import Derived.Shelf.Abstract
import Derived.Test.YthomflbjijjhaaaGreatDoorG02
import Derived.Test.YthomflbjijjhaaaGreatDoorG03
import Derived.Test.YthomflbjijjhaaaGreatDoorG25

/- math/bits.Div64 by 2^61 - 1: the remainder, exactly; digest.mul. Conditions: the high part is below the divisor. -/
namespace Go.Proofs.YthomflbjijjhaaaGreatDoor
open Go.RowKit
open Go.Lib hiding intOf

def RetR (z : Nat) (w : World) (e : Ending) (w' : World) : Prop := ∃ q : Int, e = .returned (.tuple #[.int .u64 q, .int .u64 (z : Int)]) ∧ ∃ k, w' = w.drewN k

/-! ### one digit of the quotient -/
/-- The guess of a digit is not too small. -/
structure LQ (U u q r : Int) : Prop where
  q0 : 0 ≤ q
  r0 : 0 ≤ r
  eq : q * 4294967295 + r = U
  hi : U * 4294967296 + u < (q + 1) * 18446744073709551608
/-- The digit. -/
structure LX (U u q : Int) : Prop where
  q0 : 0 ≤ q
  lo : q * 18446744073709551608 ≤ U * 4294967296 + u
  hi : U * 4294967296 + u < (q + 1) * 18446744073709551608
section
variable {U u q r : Int}
theorem LQ.start (h0 : 0 ≤ U) (h1 : U < 18446744073709551608) (u0 : 0 ≤ u) (u1 : u < 4294967296) :
    LQ U u (IntKind.u64.wrap (U.tdiv 4294967295)) (IntKind.u64.wrap (U - IntKind.u64.wrap (IntKind.u64.wrap (U.tdiv 4294967295) * 4294967295))) ∧ IntKind.u64.wrap (U - IntKind.u64.wrap (IntKind.u64.wrap (U.tdiv 4294967295) * 4294967295)) < 4294967296 := by
  rw [Int.tdiv_eq_ediv_of_nonneg h0]
  have e1 : IntKind.u64.wrap (U / 4294967295) = U / 4294967295 := by rw [IntKind.wrap_u64]; omega
  rw [e1]
  have e2 : IntKind.u64.wrap (U / 4294967295 * 4294967295) = U / 4294967295 * 4294967295 := by rw [IntKind.wrap_u64]; omega
  rw [e2]
  have e3 : IntKind.u64.wrap (U - U / 4294967295 * 4294967295) = U - U / 4294967295 * 4294967295 := by rw [IntKind.wrap_u64]; omega
  rw [e3]
  exact ⟨⟨by omega, by omega, by omega, by omega⟩, by omega⟩
theorem LQ.next (h : LQ U u q r) (h1 : U < 18446744073709551608) (u0 : 0 ≤ u) (u1 : u < 4294967296) (hr : r < 4294967296) (hc : 4294967296 ≤ q ∨ 4294967296 * r + u < q * 4294967288) :
    IntKind.u64.wrap (q - 1) = q - 1 ∧ IntKind.u64.wrap (r + 4294967295) = r + 4294967295 ∧ LQ U u (q - 1) (r + 4294967295) := by
  obtain ⟨a, b, c, d⟩ := h
  refine ⟨by rw [IntKind.wrap_u64]; omega, by rw [IntKind.wrap_u64]; omega, by omega, by omega, by omega, by omega⟩
theorem LQ.far (h : LQ U u q r) (h1 : U < 18446744073709551608) (u0 : 0 ≤ u) (hr : 4294967296 ≤ r) : LX U u q := by
  obtain ⟨a, b, c, d⟩ := h
  exact ⟨a, by omega, d⟩
theorem LQ.fit (h : LQ U u q r) (hc : ¬ 4294967296 * r + u < q * 4294967288) : LX U u q := by
  obtain ⟨a, b, c, d⟩ := h
  exact ⟨a, by omega, d⟩
theorem LQ.sums (h : LQ U u q r) (u0 : 0 ≤ u) (u1 : u < 4294967296) (hr : r < 4294967296) (hq : q < 4294967296) :
    IntKind.u64.wrap (q * 4294967288) = q * 4294967288 ∧ IntKind.u64.wrap (IntKind.u64.wrap (4294967296 * r) + u) = 4294967296 * r + u := by
  obtain ⟨a, b, c, d⟩ := h
  have e : IntKind.u64.wrap (4294967296 * r) = 4294967296 * r := by rw [IntKind.wrap_u64]; omega
  rw [e]
  refine ⟨by rw [IntKind.wrap_u64]; omega, by rw [IntKind.wrap_u64]; omega⟩
/-- What is left. -/
theorem LX.left (h : LX U u q) :
    ∃ V : Int, IntKind.u64.wrap (IntKind.u64.wrap (IntKind.u64.wrap (U * 4294967296) + u) - IntKind.u64.wrap (q * 18446744073709551608)) = V ∧ 0 ≤ V ∧ V < 18446744073709551608 ∧ U * 4294967296 + u = q * 18446744073709551608 + V := by
  obtain ⟨a, b, c⟩ := h
  refine ⟨U * 4294967296 + u - q * 18446744073709551608, ?_, by omega, by omega, by omega⟩
  simp only [IntKind.wrap_u64]
  omega
end
theorem or_digits (hi lo : Nat) (h1 : hi < 2305843009213693951) (hl : lo < 18446744073709551616) : bits BinOp.or IntKind.u64 ((hi : Int) * 8) ((lo : Int) / 2305843009213693952) = (hi : Int) * 8 + (lo : Int) / 2305843009213693952 := by
  have h := u64_or_nat (hi * 8) (lo / 2305843009213693952) (by omega) (by omega)
  rw [nat_join 3 (hi * 8) (lo / 2305843009213693952) (by omega) (by omega)] at h
  rw [show ((hi : Int) * 8) = ((hi * 8 : Nat) : Int) by simp, show ((lo : Int) / 2305843009213693952) = ((lo / 2305843009213693952 : Nat) : Int) from rfl, h]
  simp
theorem and_low (x : Int) (h0 : 0 ≤ x) (h1 : x < 18446744073709551616) : bits BinOp.and IntKind.u64 x 4294967295 = x % 4294967296 := by
  obtain ⟨n, rfl⟩ : ∃ n : Nat, x = (n : Int) := ⟨x.toNat, by omega⟩
  have h := bits_and_u64_nat n 4294967295 (by omega) (by omega)
  rw [show (4294967295 : Nat) = 2 ^ 32 - 1 from rfl, Nat.and_two_pow_sub_one_eq_mod] at h
  exact h
theorem and_const : bits BinOp.and IntKind.u64 18446744073709551608 4294967295 = 4294967288 := by decide +kernel

set_option maxRecDepth 100000 in
set_option maxHeartbeats 6400000 in
theorem divP_any (hi lo : Nat) (w : World) (h1 : hi < 2305843009213693951) (hl : lo < 18446744073709551616) :
    Calls Tryz.prog 117 #[.int .u64 (hi : Int), .int .u64 (lo : Int), .int .u64 2305843009213693951] w (RetR ((hi * 18446744073709551616 + lo) % 2305843009213693951) w) := by
  by_cases h0 : hi = 0
  · subst h0
    have q3 : ((lo : Int).tmod (2305843009213693951 : Int)) = ((lo % 2305843009213693951 : Nat) : Int) := rfl
    go_enter Tryz.func117, Tryz.ntmps117
    go_wp2_with fail
    go_quiet (fail)
    go_wp2_with fail
    go_ret2
    exact ⟨_, by rw [Nat.zero_mul, Nat.zero_add]; rfl, _, rfl⟩
  · have HZ : Hid (∀ W, Calls Tryz.prog 130 #[.int .u64 2305843009213693951] W fun e w' => e = .returned (.int .i64 3) ∧ W = w') := fun W => by
      have := Tryz.bits_LeadingZeros64 2305843009213693951 W (by omega) (by omega)
      rw [show ((64 : Int) - ((Lib.bitLen (2305843009213693951 : Int).toNat : Nat) : Int)) = 3 by decide +kernel] at this
      exact this.mono fun _ _ h => ⟨h.1, h.2.symm⟩
    have e1 : ¬ (2305843009213693951 : Int) ≤ (hi : Int) := by omega
    have e2 : ((hi : Int) == 0) = false := by simpa using h0
    have hO := or_digits hi lo h1 hl
    have hA := and_const
    obtain ⟨L, hL⟩ : ∃ L : Int, IntKind.u64.wrap ((lo : Int) * 8) = L := ⟨_, rfl⟩
    have l1 : 0 ≤ L ∧ L < 18446744073709551616 ∧ L % 8 = 0 ∧ (lo : Int) * 8 = (lo : Int) / 2305843009213693952 * 18446744073709551616 + L := by
      rw [IntKind.wrap_u64] at hL
      omega
    obtain ⟨l1, l2, l3, l4⟩ := l1
    have hB := and_low L l1 l2
    obtain ⟨U, hU⟩ : ∃ U : Int, (hi : Int) * 8 + (lo : Int) / 2305843009213693952 = U := ⟨_, rfl⟩
    obtain ⟨u, hu⟩ : ∃ u : Int, L / 4294967296 = u := ⟨_, rfl⟩
    obtain ⟨v, hv⟩ : ∃ v : Int, L % 4294967296 = v := ⟨_, rfl⟩
    rw [hU] at hO
    rw [hv] at hB
    have f0 : 0 ≤ U := by omega
    have f1 : U < 18446744073709551608 := by omega
    have f2 : 0 ≤ u := by omega
    have f3 : u < 4294967296 := by omega
    have f4 : 0 ≤ v := by omega
    have f5 : v < 4294967296 := by omega
    have FN : Hid (((hi * 18446744073709551616 + lo : Nat) : Int) * 8 = U * 18446744073709551616 + u * 4294967296 + v) := by
      show ((hi * 18446744073709551616 + lo : Nat) : Int) * 8 = U * 18446744073709551616 + u * 4294967296 + v
      omega
    clear hU hv l1 l2 l3 l4
    have HS := Lib.hid (LQ.start f0 f1 f2 f3)
    have F0 := Lib.hid f0
    have F1 := Lib.hid f1
    have F2 := Lib.hid f2
    have F3 := Lib.hid f3
    have F4 := Lib.hid f4
    have F5 := Lib.hid f5
    clear f0 f1 f2 f3 f4 f5
    go_enter Tryz.func117, Tryz.ntmps117
    go_wp2_with (go_at_call 130; refine (HZ.out _).mono ?_; rintro e w' ⟨rfl, rfl⟩)
    clear e1 e2 hO hA hL hB hu
    go_loop [15, 16] (fun a b => ∃ q r : Int, a = .int .u64 q ∧ b = .int .u64 r ∧ Hid (LQ U u q r) ∧ r < 4294967296) (fun _ b => (4294967296 - intOf b).toNat)
    case atStart => exact ⟨_, _, rfl, rfl, HS.out.1, HS.out.2⟩
    case round =>
      obtain ⟨q, r, rfl, rfl, HQ, g1⟩ := hrel
      have HN := fun hc => Lib.hid (HQ.out.next F1.out F2.out F3.out g1 hc)
      have g0 := HQ.out.r0
      have q0 := HQ.out.q0
      have f2 := F2.out
      have f3 := F3.out
      by_cases c1 : 4294967296 ≤ q
      · obtain ⟨n1, n2, n3⟩ := (HN (.inl c1)).out
        have N3 := Lib.hid n3
        clear n3 HN
        by_cases c2 : 4294967296 ≤ r + 4294967295
        · have HX := Lib.hid (N3.out.far F1.out F2.out c2)
          obtain ⟨Q, hQ⟩ : ∃ Q, q - 1 = Q := ⟨_, rfl⟩
          rw [hQ] at n1 HX
          obtain ⟨V, hV, v0, v1, v2⟩ := HX.out.left
          have VE := Lib.hid v2
          have HS2 := Lib.hid (LQ.start v0 v1 F4.out F5.out)
          have V0 := Lib.hid v0
          have V1 := Lib.hid v1
          clear v0 v1 v2
          go_wp2_with fail
          clear hV f2 f3 c1 c2 n1 n2 hQ
          go_loop [16, 18] (fun b a => ∃ q r : Int, a = .int .u64 q ∧ b = .int .u64 r ∧ Hid (LQ V v q r) ∧ r < 4294967296) (fun b _ => (4294967296 - intOf b).toNat)
          case atStart => exact ⟨_, _, rfl, rfl, HS2.out.1, HS2.out.2⟩
          case round =>
            obtain ⟨q', r', rfl, rfl, HQ2, g1'⟩ := hrel
            have HN2 := fun hc => Lib.hid (HQ2.out.next V1.out F4.out F5.out g1' hc)
            have g0' := HQ2.out.r0
            have q0' := HQ2.out.q0
            have f4 := F4.out
            have f5 := F5.out
            by_cases c1' : 4294967296 ≤ q'
            · obtain ⟨n1', n2', n3'⟩ := (HN2 (.inl c1')).out
              have N4 := Lib.hid n3'
              clear n3' HN2
              by_cases c2' : 4294967296 ≤ r' + 4294967295
              · have HY := Lib.hid (N4.out.far V1.out F4.out c2')
                obtain ⟨Q', hQ'⟩ : ∃ Q', q' - 1 = Q' := ⟨_, rfl⟩
                rw [hQ'] at n1' HY
                obtain ⟨R, hR, r1, r2, r3⟩ := HY.out.left
                have HF : Hid (R / 8 = (((hi * 18446744073709551616 + lo) % 2305843009213693951 : Nat) : Int)) := by
                  have a1 := FN.out
                  have a2 := VE.out
                  show R / 8 = (((hi * 18446744073709551616 + lo) % 2305843009213693951 : Nat) : Int)
                  generalize hi * 18446744073709551616 + lo = NN at *
                  omega
                clear r3
                go_wp2_with fail
                go_ret2
                exact ⟨_, by rw [HF.out]; rfl, 0, rfl⟩
              · go_wp2_with fail
                go_round
                case rel => exact ⟨_, _, rfl, rfl, N4, by omega⟩
                case measure => simp only [intOf]; omega
            · by_cases c3' : 4294967296 * r' + v < q' * 4294967288
              · obtain ⟨n1', n2', n3'⟩ := (HN2 (.inr c3')).out
                have N4 := Lib.hid n3'
                clear n3' HN2
                by_cases c2' : 4294967296 ≤ r' + 4294967295
                · have HY := Lib.hid (N4.out.far V1.out F4.out c2')
                  obtain ⟨Q', hQ'⟩ : ∃ Q', q' - 1 = Q' := ⟨_, rfl⟩
                  rw [hQ'] at n1' HY
                  obtain ⟨R, hR, r1, r2, r3⟩ := HY.out.left
                  have HF : Hid (R / 8 = (((hi * 18446744073709551616 + lo) % 2305843009213693951 : Nat) : Int)) := by
                    have a1 := FN.out
                    have a2 := VE.out
                    show R / 8 = (((hi * 18446744073709551616 + lo) % 2305843009213693951 : Nat) : Int)
                    generalize hi * 18446744073709551616 + lo = NN at *
                    omega
                  clear r3
                  go_wp2_with fail
                  go_ret2
                  exact ⟨_, by rw [HF.out]; rfl, 0, rfl⟩
                · go_wp2_with fail
                  go_round
                  case rel => exact ⟨_, _, rfl, rfl, N4, by omega⟩
                  case measure => simp only [intOf]; omega
              · have HY := Lib.hid (HQ2.out.fit c3')
                clear HN2
                obtain ⟨R, hR, r1, r2, r3⟩ := HY.out.left
                have HF : Hid (R / 8 = (((hi * 18446744073709551616 + lo) % 2305843009213693951 : Nat) : Int)) := by
                  have a1 := FN.out
                  have a2 := VE.out
                  show R / 8 = (((hi * 18446744073709551616 + lo) % 2305843009213693951 : Nat) : Int)
                  generalize hi * 18446744073709551616 + lo = NN at *
                  omega
                clear r3
                go_wp2_with fail
                go_ret2
                exact ⟨_, by rw [HF.out]; rfl, 0, rfl⟩
        · go_wp2_with fail
          go_round
          case rel => exact ⟨_, _, rfl, rfl, N3, by omega⟩
          case measure => simp only [intOf]; omega
      · by_cases c3 : 4294967296 * r + u < q * 4294967288
        · obtain ⟨n1, n2, n3⟩ := (HN (.inr c3)).out
          have N3 := Lib.hid n3
          clear n3 HN
          by_cases c2 : 4294967296 ≤ r + 4294967295
          · have HX := Lib.hid (N3.out.far F1.out F2.out c2)
            obtain ⟨Q, hQ⟩ : ∃ Q, q - 1 = Q := ⟨_, rfl⟩
            rw [hQ] at n1 HX
            obtain ⟨V, hV, v0, v1, v2⟩ := HX.out.left
            have VE := Lib.hid v2
            have HS2 := Lib.hid (LQ.start v0 v1 F4.out F5.out)
            have V0 := Lib.hid v0
            have V1 := Lib.hid v1
            clear v0 v1 v2
            go_wp2_with fail
            clear hV f2 f3 c3 c2 n1 n2 hQ
            go_loop [16, 18] (fun b a => ∃ q r : Int, a = .int .u64 q ∧ b = .int .u64 r ∧ Hid (LQ V v q r) ∧ r < 4294967296) (fun b _ => (4294967296 - intOf b).toNat)
            case atStart => exact ⟨_, _, rfl, rfl, HS2.out.1, HS2.out.2⟩
            case round =>
              obtain ⟨q', r', rfl, rfl, HQ2, g1'⟩ := hrel
              have HN2 := fun hc => Lib.hid (HQ2.out.next V1.out F4.out F5.out g1' hc)
              have g0' := HQ2.out.r0
              have q0' := HQ2.out.q0
              have f4 := F4.out
              have f5 := F5.out
              by_cases c1' : 4294967296 ≤ q'
              · obtain ⟨n1', n2', n3'⟩ := (HN2 (.inl c1')).out
                have N4 := Lib.hid n3'
                clear n3' HN2
                by_cases c2' : 4294967296 ≤ r' + 4294967295
                · have HY := Lib.hid (N4.out.far V1.out F4.out c2')
                  obtain ⟨Q', hQ'⟩ : ∃ Q', q' - 1 = Q' := ⟨_, rfl⟩
                  rw [hQ'] at n1' HY
                  obtain ⟨R, hR, r1, r2, r3⟩ := HY.out.left
                  have HF : Hid (R / 8 = (((hi * 18446744073709551616 + lo) % 2305843009213693951 : Nat) : Int)) := by
                    have a1 := FN.out
                    have a2 := VE.out
                    show R / 8 = (((hi * 18446744073709551616 + lo) % 2305843009213693951 : Nat) : Int)
                    generalize hi * 18446744073709551616 + lo = NN at *
                    omega
                  clear r3
                  go_wp2_with fail
                  go_ret2
                  exact ⟨_, by rw [HF.out]; rfl, 0, rfl⟩
                · go_wp2_with fail
                  go_round
                  case rel => exact ⟨_, _, rfl, rfl, N4, by omega⟩
                  case measure => simp only [intOf]; omega
              · by_cases c3' : 4294967296 * r' + v < q' * 4294967288
                · obtain ⟨n1', n2', n3'⟩ := (HN2 (.inr c3')).out
                  have N4 := Lib.hid n3'
                  clear n3' HN2
                  by_cases c2' : 4294967296 ≤ r' + 4294967295
                  · have HY := Lib.hid (N4.out.far V1.out F4.out c2')
                    obtain ⟨Q', hQ'⟩ : ∃ Q', q' - 1 = Q' := ⟨_, rfl⟩
                    rw [hQ'] at n1' HY
                    obtain ⟨R, hR, r1, r2, r3⟩ := HY.out.left
                    have HF : Hid (R / 8 = (((hi * 18446744073709551616 + lo) % 2305843009213693951 : Nat) : Int)) := by
                      have a1 := FN.out
                      have a2 := VE.out
                      show R / 8 = (((hi * 18446744073709551616 + lo) % 2305843009213693951 : Nat) : Int)
                      generalize hi * 18446744073709551616 + lo = NN at *
                      omega
                    clear r3
                    go_wp2_with fail
                    go_ret2
                    exact ⟨_, by rw [HF.out]; rfl, 0, rfl⟩
                  · go_wp2_with fail
                    go_round
                    case rel => exact ⟨_, _, rfl, rfl, N4, by omega⟩
                    case measure => simp only [intOf]; omega
                · have HY := Lib.hid (HQ2.out.fit c3')
                  clear HN2
                  obtain ⟨R, hR, r1, r2, r3⟩ := HY.out.left
                  have HF : Hid (R / 8 = (((hi * 18446744073709551616 + lo) % 2305843009213693951 : Nat) : Int)) := by
                    have a1 := FN.out
                    have a2 := VE.out
                    show R / 8 = (((hi * 18446744073709551616 + lo) % 2305843009213693951 : Nat) : Int)
                    generalize hi * 18446744073709551616 + lo = NN at *
                    omega
                  clear r3
                  go_wp2_with fail
                  go_ret2
                  exact ⟨_, by rw [HF.out]; rfl, 0, rfl⟩
          · go_wp2_with fail
            go_round
            case rel => exact ⟨_, _, rfl, rfl, N3, by omega⟩
            case measure => simp only [intOf]; omega
        · have HX := Lib.hid (HQ.out.fit c3)
          clear HN
          obtain ⟨V, hV, v0, v1, v2⟩ := HX.out.left
          have VE := Lib.hid v2
          have HS2 := Lib.hid (LQ.start v0 v1 F4.out F5.out)
          have V0 := Lib.hid v0
          have V1 := Lib.hid v1
          clear v0 v1 v2
          go_wp2_with fail
          clear hV f2 f3 c3
          go_loop [16, 18] (fun b a => ∃ q r : Int, a = .int .u64 q ∧ b = .int .u64 r ∧ Hid (LQ V v q r) ∧ r < 4294967296) (fun b _ => (4294967296 - intOf b).toNat)
          case atStart => exact ⟨_, _, rfl, rfl, HS2.out.1, HS2.out.2⟩
          case round =>
            obtain ⟨q', r', rfl, rfl, HQ2, g1'⟩ := hrel
            have HN2 := fun hc => Lib.hid (HQ2.out.next V1.out F4.out F5.out g1' hc)
            have g0' := HQ2.out.r0
            have q0' := HQ2.out.q0
            have f4 := F4.out
            have f5 := F5.out
            by_cases c1' : 4294967296 ≤ q'
            · obtain ⟨n1', n2', n3'⟩ := (HN2 (.inl c1')).out
              have N4 := Lib.hid n3'
              clear n3' HN2
              by_cases c2' : 4294967296 ≤ r' + 4294967295
              · have HY := Lib.hid (N4.out.far V1.out F4.out c2')
                obtain ⟨Q', hQ'⟩ : ∃ Q', q' - 1 = Q' := ⟨_, rfl⟩
                rw [hQ'] at n1' HY
                obtain ⟨R, hR, r1, r2, r3⟩ := HY.out.left
                have HF : Hid (R / 8 = (((hi * 18446744073709551616 + lo) % 2305843009213693951 : Nat) : Int)) := by
                  have a1 := FN.out
                  have a2 := VE.out
                  show R / 8 = (((hi * 18446744073709551616 + lo) % 2305843009213693951 : Nat) : Int)
                  generalize hi * 18446744073709551616 + lo = NN at *
                  omega
                clear r3
                go_wp2_with fail
                go_ret2
                exact ⟨_, by rw [HF.out]; rfl, 0, rfl⟩
              · go_wp2_with fail
                go_round
                case rel => exact ⟨_, _, rfl, rfl, N4, by omega⟩
                case measure => simp only [intOf]; omega
            · by_cases c3' : 4294967296 * r' + v < q' * 4294967288
              · obtain ⟨n1', n2', n3'⟩ := (HN2 (.inr c3')).out
                have N4 := Lib.hid n3'
                clear n3' HN2
                by_cases c2' : 4294967296 ≤ r' + 4294967295
                · have HY := Lib.hid (N4.out.far V1.out F4.out c2')
                  obtain ⟨Q', hQ'⟩ : ∃ Q', q' - 1 = Q' := ⟨_, rfl⟩
                  rw [hQ'] at n1' HY
                  obtain ⟨R, hR, r1, r2, r3⟩ := HY.out.left
                  have HF : Hid (R / 8 = (((hi * 18446744073709551616 + lo) % 2305843009213693951 : Nat) : Int)) := by
                    have a1 := FN.out
                    have a2 := VE.out
                    show R / 8 = (((hi * 18446744073709551616 + lo) % 2305843009213693951 : Nat) : Int)
                    generalize hi * 18446744073709551616 + lo = NN at *
                    omega
                  clear r3
                  go_wp2_with fail
                  go_ret2
                  exact ⟨_, by rw [HF.out]; rfl, 0, rfl⟩
                · go_wp2_with fail
                  go_round
                  case rel => exact ⟨_, _, rfl, rfl, N4, by omega⟩
                  case measure => simp only [intOf]; omega
              · have HY := Lib.hid (HQ2.out.fit c3')
                clear HN2
                obtain ⟨R, hR, r1, r2, r3⟩ := HY.out.left
                have HF : Hid (R / 8 = (((hi * 18446744073709551616 + lo) % 2305843009213693951 : Nat) : Int)) := by
                  have a1 := FN.out
                  have a2 := VE.out
                  show R / 8 = (((hi * 18446744073709551616 + lo) % 2305843009213693951 : Nat) : Int)
                  generalize hi * 18446744073709551616 + lo = NN at *
                  omega
                clear r3
                go_wp2_with fail
                go_ret2
                exact ⟨_, by rw [HF.out]; rfl, 0, rfl⟩
end Go.Proofs.YthomflbjijjhaaaGreatDoor

/- digest.mul, Of, Join, Chain return the plain digests. Conditions: numbers of 64 bits. -/
namespace Go.Proofs.YthomflbjijjhaaaGreatDoor
open Go.RowKit
open Go.Lib hiding intOf

theorem drewN_drewN' (w : World) (a b : Nat) : (w.drewN a).drewN b = w.drewN (a + b) := by
  simp
set_option maxRecDepth 100000 in
theorem rem64_any (hi lo : Nat) (w : World) (_hh : hi < 18446744073709551616) (hl : lo < 18446744073709551616) :
    Calls Tryz.prog 100 #[.int .u64 (hi : Int), .int .u64 (lo : Int), .int .u64 2305843009213693951] w fun e w' => e = .returned (.int .u64 (((hi * 18446744073709551616 + lo) % 2305843009213693951 : Nat) : Int)) ∧ ∃ k, w' = w.drewN k := by
  have e1 : (hi : Int).tmod 2305843009213693951 = ((hi % 2305843009213693951 : Nat) : Int) := rfl
  have e2 : (hi : Int) % 2305843009213693951 = ((hi % 2305843009213693951 : Nat) : Int) := rfl
  have HD := Lib.hid (fun W => divP_any (hi % 2305843009213693951) lo W (Nat.mod_lt _ (by omega)) hl)
  have e3 : (hi % 2305843009213693951 * 18446744073709551616 + lo) % 2305843009213693951 = (hi * 18446744073709551616 + lo) % 2305843009213693951 := by omega
  rw [e3] at HD
  obtain ⟨R, hR⟩ : ∃ R, (hi * 18446744073709551616 + lo) % 2305843009213693951 = R := ⟨_, rfl⟩
  obtain ⟨h, hh2⟩ : ∃ h, hi % 2305843009213693951 = h := ⟨_, rfl⟩
  rw [hR] at HD ⊢
  rw [hh2] at HD e1 e2
  clear e3 hR hh2
  go_enter Tryz.func100, Tryz.ntmps100
  go_wp2_with (go_at_call 117; refine (HD.out _).mono ?_; rintro e w1 ⟨q, rfl, k, rfl⟩)
  go_ret
  exact ⟨rfl, _, rfl⟩
set_option maxRecDepth 100000 in
theorem dmul_any (a b : Nat) (w : World) (ha : a < 18446744073709551616) (hb : b < 18446744073709551616) :
    Calls Tryz.prog 74 #[.int .u64 (a : Int), .int .u64 (b : Int)] w fun e w' => e = .returned (.int .u64 ((a * b % pM : Nat) : Int)) ∧ ∃ k, w' = w.drewN k := by
  have HM := Lib.hid (fun W => Tryz.bits_Mul64 a b ha hb W)
  have hlt : a * b < 18446744073709551616 * 18446744073709551616 := Nat.mul_lt_mul'' ha hb
  have HR := Lib.hid (fun W => rem64_any (a * b / 18446744073709551616) (a * b % 18446744073709551616) W (by omega) (Nat.mod_lt _ (by omega)))
  have e : a * b / 18446744073709551616 * 18446744073709551616 + a * b % 18446744073709551616 = a * b := by omega
  rw [e, show (2305843009213693951 : Nat) = pM from rfl] at HR
  obtain ⟨R, hR⟩ : ∃ R, a * b % pM = R := ⟨_, rfl⟩
  obtain ⟨x, hx⟩ : ∃ x, a * b / 18446744073709551616 = x := ⟨_, rfl⟩
  obtain ⟨y, hy⟩ : ∃ y, a * b % 18446744073709551616 = y := ⟨_, rfl⟩
  rw [hR] at HR ⊢
  rw [hx, hy] at HM HR
  clear e hlt hR hx hy
  go_enter Tryz.func74, Tryz.ntmps74
  go_wp2_with (first
    | (go_at_call 99; refine (HM.out _).mono ?_; rintro e w1 ⟨rfl, rfl⟩)
    | (go_at_call 100; refine (HR.out _).mono ?_; rintro e w1 ⟨rfl, k, rfl⟩))
  go_ret
  exact ⟨rfl, _, rfl⟩

/-! ### Of -/
theorem of_step (d M z : Nat) (c : UInt8) (hM : d * bM % pM = M) (hz : stD d c.toNat = z) : (IntKind.u64.wrap (IntKind.u64.wrap ((M : Int) + IntKind.u64.wrap (c.toNat : Int)) + 1)).tmod 2305843009213693951 = (z : Int) := by
  have h1 : M < 2305843009213693951 := by rw [← hM]; exact Nat.mod_lt _ pM_pos
  have h2 := c.toNat_lt
  have e1 : IntKind.u64.wrap (IntKind.u64.wrap ((M : Int) + IntKind.u64.wrap (c.toNat : Int)) + 1) = ((M + c.toNat + 1 : Nat) : Int) := by
    simp only [IntKind.wrap_u64]
    omega
  rw [e1]
  show (((M + c.toNat + 1) % 2305843009213693951 : Nat) : Int) = _
  have h3 : (M + c.toNat + 1) % 2305843009213693951 = z := by
    rw [← hz, ← hM]
    show (d * bM % 2305843009213693951 + c.toNat + 1) % 2305843009213693951 = (d * bM + c.toNat + 1) % 2305843009213693951
    omega
  rw [h3]
theorem foldl_take {α β : Type} (f : α → β → α) (a : α) (l : List β) (k : Nat) (c : β) (h : l[k]? = some c) : (l.take (k + 1)).foldl f a = f ((l.take k).foldl f a) c := by
  rw [List.take_add_one, h, List.foldl_append]
  rfl
theorem ofP_take (s : List UInt8) (k : Nat) (c : UInt8) (h : s[k]? = some c) : ofP 0 (s.take (k + 1)) = stD (ofP 0 (s.take k)) c.toNat := by
  unfold ofP
  exact foldl_take (fun d c => stD d c.toNat) 0 s k c h

theorem at_data' (s : ByteArray) (k : Nat) (h : k < s.size) : s.data.toList[k]? = some (s[k]'h) := by
  rw [Array.getElem?_toList]
  exact Array.getElem?_eq_getElem h
set_option maxRecDepth 100000 in
set_option maxHeartbeats 1600000 in
theorem dof_any (s : ByteArray) (w : World) (hs : s.size ≤ 9223372036854775807) :
    Calls Tryz.prog 50 #[.string s] w fun e w' => e = .returned (.int .u64 ((ofP 0 s.data.toList : Nat) : Int)) ∧ ∃ k, w' = w.drewN k := by
  have HS := Lib.hid hs
  clear hs
  go_enter Tryz.func50, Tryz.ntmps50
  go_wp2_with fail
  go_loopw [3, 7] (fun d i wr => ∃ k : Nat, k ≤ s.size ∧ i = .int .i64 (k : Int) ∧ d = .int .u64 ((ofP 0 (s.data.toList.take k) : Nat) : Int) ∧ ∃ m, wr = w.drewN m) (fun _ i _ => s.size - (intOf i).toNat)
  case atStart => exact ⟨0, Nat.zero_le _, rfl, rfl, 0, rfl⟩
  case round =>
    obtain ⟨k, hk, rfl, rfl, m, rfl⟩ := hrel
    have hp : pM = 2305843009213693951 := rfl
    by_cases hlt : k < s.size
    · have hb := at_data' s k hlt
      have ho := ofP_take _ _ _ hb
      have hdl := ofP_lt (s.data.toList.take k) 0 pM_pos
      generalize ofP 0 (s.data.toList.take k) = d at *
      generalize hcc : s[k]'hlt = c at *
      have hlt2 : (k : Int) < (s.size : Int) := by omega
      obtain ⟨M, hM⟩ : ∃ M, d * bM % pM = M := ⟨_, rfl⟩
      obtain ⟨z, hz⟩ : ∃ z, stD d c.toNat = z := ⟨_, rfl⟩
      have HM : Hid (∀ W, Calls Tryz.prog 74 #[.int .u64 (d : Int), .int .u64 1099511628211] W fun e w' => e = .returned (.int .u64 (M : Int)) ∧ ∃ k, w' = W.drewN k) := fun W => by
        rw [← hM]
        exact dmul_any d 1099511628211 W (by omega) (by omega)
      have h1 := Lib.hid (of_step d M z c hM hz)
      rw [hz] at ho
      have HO := Lib.hid ho
      have hs := HS.out
      clear hM hz ho hdl hp
      go_wp2_with fail
      go_quiet (exact (HM.out _).mono fun e w' h => ⟨h.1, by obtain ⟨_, k, hk⟩ := h; exact ⟨_, by rw [hk, World.drewN_drewN, Nat.add_assoc]⟩⟩)
      go_wp2_with fail
      go_round
      case rel => exact ⟨k + 1, by omega, rfl, by rw [HO.out, h1.out], _, rfl⟩
      case measure => simp only [intOf]; omega
    · have : k = s.size := by omega
      subst this
      have hall : s.data.toList.take s.size = s.data.toList := List.take_of_length_le (by rw [Array.length_toList]; exact Nat.le_refl _)
      rw [hall]
      go_wp2_with fail
      go_ret
      exact ⟨rfl, _, rfl⟩

/-! ### Join, Chain -/
theorem i64_and1 (k : Nat) (h : k ≤ 9223372036854775807) : bits BinOp.and IntKind.i64 (k : Int) 1 = ((k % 2 : Nat) : Int) := by
  have h1 : (BitVec.ofInt 64 1).toNat = 2 ^ 1 - 1 := by decide
  have key : (BitVec.ofInt 64 (k : Int) &&& BitVec.ofInt 64 1).toNat = ((k : Int) % ((2 ^ 64 : Nat) : Int)).toNat % 2 ^ 1 := by
    rw [BitVec.toNat_and, BitVec.toNat_ofInt, h1, Nat.and_two_pow_sub_one_eq_mod]
  show IntKind.i64.wrap ((BitVec.ofInt 64 (k : Int) &&& BitVec.ofInt 64 1).toNat : Nat) = ((k % 2 : Nat) : Int)
  rw [key, IntKind.wrap_i64]
  omega
theorem join_odd {a p n b : Nat} (h : n % 2 = 1) : (a * p % pM * (p * p % pM) ^ (n / 2) + b) % pM = (a * p ^ n + b) % pM := by
  have hn : n = 2 * (n / 2) + 1 := by omega
  have e1 : p ^ n = (p * p) ^ (n / 2) * p := by
    conv => lhs; rw [hn]
    rw [Nat.pow_succ, Nat.pow_mul, Nat.pow_two]
  rw [e1, Nat.add_mod, Nat.mul_mod, Nat.mod_mod, ← Nat.pow_mod, ← Nat.mul_mod, ← Nat.add_mod]
  congr 2
  rw [Nat.mul_comm ((p * p) ^ (n / 2)) p, Nat.mul_assoc]
theorem join_even {a p n b : Nat} (h : n % 2 = 0) : (a * (p * p % pM) ^ (n / 2) + b) % pM = (a * p ^ n + b) % pM := by
  have hn : n = 2 * (n / 2) := by omega
  have e1 : p ^ n = (p * p) ^ (n / 2) := by
    conv => lhs; rw [hn]
    rw [Nat.pow_mul, Nat.pow_two]
  rw [e1, Nat.add_mod, Nat.mul_mod, ← Nat.pow_mod, ← Nat.mul_mod, ← Nat.add_mod]

set_option maxRecDepth 100000 in
set_option maxHeartbeats 1600000 in
theorem djoin_any (a n b : Nat) (w : World) (ha : a < 18446744073709551616) (hn : n ≤ 9223372036854775807) (hb : b < 18446744073709551616) :
    Calls Tryz.prog 49 #[.int .u64 (a : Int), .int .i64 (n : Int), .int .u64 (b : Int)] w fun e w' => e = .returned (.int .u64 (((a * bM ^ n + b) % pM : Nat) : Int)) ∧ ∃ k, w' = w.drewN k := by
  obtain ⟨z, hz⟩ : ∃ z, (a * bM ^ n + b) % pM = z := ⟨_, rfl⟩
  rw [hz]
  have HZ := Lib.hid hz
  have HB := Lib.hid hb
  clear hz hb
  have hp0 : bM < 18446744073709551616 := by decide
  go_enter Tryz.func49, Tryz.ntmps49
  go_wp2_with fail
  go_loopw [0, 1, 7] (fun x i p wr => ∃ c k q : Nat, x = .int .u64 (c : Int) ∧ i = .int .i64 (k : Int) ∧ p = .int .u64 (q : Int) ∧ c < 18446744073709551616 ∧ k ≤ 9223372036854775807 ∧ q < 18446744073709551616 ∧ Hid ((c * q ^ k + b) % pM = z) ∧ ∃ m, wr = w.drewN m) (fun _ i _ _ => (intOf i).toNat)
  case atStart => exact ⟨a, n, bM, rfl, rfl, rfl, ha, hn, hp0, HZ, 0, rfl⟩
  case round =>
    obtain ⟨c, k, q, rfl, rfl, rfl, hc, hk, hq, HR, m, rfl⟩ := hrel
    have hm1 : c * q % pM < 18446744073709551616 := Nat.lt_of_lt_of_le (Nat.mod_lt _ pM_pos) (by decide)
    have hm2 : q * q % pM < 18446744073709551616 := Nat.lt_of_lt_of_le (Nat.mod_lt _ pM_pos) (by decide)
    have HM := Lib.hid (fun W => dmul_any c q W hc hq)
    have HQ := Lib.hid (fun W => dmul_any q q W hq hq)
    have HJ1 := Lib.hid (fun h => join_odd (a := c) (p := q) (b := b) (n := k) h)
    have HJ0 := Lib.hid (fun h => join_even (a := c) (p := q) (b := b) (n := k) h)
    generalize c * q % pM = x at *
    generalize q * q % pM = y at *
    by_cases h0 : 0 < k
    · have k0 : (0 : Int) < (k : Int) := by omega
      have hand : bits BinOp.and IntKind.i64 (k : Int) 1 = ((k % 2 : Nat) : Int) := i64_and1 k hk
      have hh : (k : Int) / 2 = ((k / 2 : Nat) : Int) := rfl
      have hlt : k / 2 < k := by omega
      generalize hk2 : k / 2 = k2 at *
      by_cases h1 : k % 2 = 1
      · have hz1 := HJ1.out h1
        rw [HR.out] at hz1
        have HZ1 := Lib.hid hz1
        rw [h1] at hand
        clear hz1 h1 HJ0
        go_wp2_with fail
        refine (HM.out _).mono ?_
        rintro e w1 ⟨rfl, k1, rfl⟩
        go_wp2_with fail
        refine (HQ.out _).mono ?_
        rintro e w1 ⟨rfl, k3, rfl⟩
        go_wp2_with fail
        go_round
        case rel => exact ⟨x, k2, y, rfl, rfl, rfl, hm1, by omega, hm2, HZ1, _, rfl⟩
        case measure => simp only [intOf]; omega
      · have h2 : k % 2 = 0 := by omega
        have hz1 := HJ0.out h2
        rw [HR.out] at hz1
        have HZ1 := Lib.hid hz1
        rw [h2] at hand
        clear hz1 h1 h2 HJ1
        go_wp2_with fail
        refine (HQ.out _).mono ?_
        rintro e w1 ⟨rfl, k3, rfl⟩
        go_wp2_with fail
        go_round
        case rel => exact ⟨c, k2, y, rfl, rfl, rfl, hc, by omega, hm2, HZ1, _, rfl⟩
        case measure => simp only [intOf]; omega
    · have k0 : k = 0 := by omega
      subst k0
      have hf : (((c : Int) % 2305843009213693951 + (b : Int) % 2305843009213693951) % 2305843009213693951) = (z : Int) := by
        have h1 : (c * q ^ 0 + b) % 2305843009213693951 = z := HR.out
        rw [Nat.pow_zero, Nat.mul_one] at h1
        omega
      have HF := Lib.hid hf
      clear hf HM HQ HJ1 HJ0 hm1 hm2
      go_wp2_with fail
      go_ret
      exact ⟨by rw [HF.out]; rfl, _, rfl⟩

set_option maxRecDepth 100000 in
theorem dchain_any (prev : Nat) (s : ByteArray) (w : World) (hp : prev < 18446744073709551616) (hs : s.size ≤ 1000000) :
    Calls Tryz.prog 35 #[.int .u64 (prev : Int), .string s] w fun e w' => e = .returned (.int .u64 ((chainP prev s.data.toList : Nat) : Int)) ∧ ∃ k, w' = w.drewN k := by
  have hcat : (ByteArray.mk #[10] ++ s).data.toList = 10 :: s.data.toList := by simp
  have hsz : (ByteArray.mk #[10] ++ s).size ≤ 9223372036854775807 := by
    rw [ByteArray.size_append, show (ByteArray.mk #[10]).size = 1 from rfl]
    omega
  have h1 := fun W => dof_any (ByteArray.mk #[10] ++ s) W hsz
  rw [hcat] at h1
  have hlen : s.data.toList.length = s.size := by simp
  have h2 : chainP prev s.data.toList = (prev * bM ^ (s.size + 1) + ofP 0 (10 :: s.data.toList)) % pM := by unfold chainP; rw [hlen]
  rw [h2]
  have hlt := ofP_lt (10 :: s.data.toList) 0 pM_pos
  have hpm : pM = 2305843009213693951 := rfl
  obtain ⟨o, ho⟩ : ∃ o, ofP 0 (10 :: s.data.toList) = o := ⟨_, rfl⟩
  rw [ho] at h1 hlt ⊢
  have HJ := Lib.hid (fun W => djoin_any prev (s.size + 1) o W hp (by omega) (by omega))
  obtain ⟨z, hz⟩ : ∃ z, (prev * bM ^ (s.size + 1) + o) % pM = z := ⟨_, rfl⟩
  rw [hz] at HJ ⊢
  have HO := Lib.hid h1
  have hs1 : ((1 : Int) + (s.size : Int)) ≤ 9223372036854775807 := by omega
  clear h1 h2 ho hz hlt hpm hcat hsz hlen
  go_enter Tryz.func35, Tryz.ntmps35
  go_wp2_with fail
  refine (HO.out _).mono ?_
  rintro e w1 ⟨rfl, k1, rfl⟩
  go_wp2_with fail
  refine (HJ.out _).mono ?_
  rintro e w2 ⟨rfl, k2, rfl⟩
  go_wp2_with fail
  go_ret
  exact ⟨rfl, _, rfl⟩
end Go.Proofs.YthomflbjijjhaaaGreatDoor

/- journal.isEntry, split. Conditions: a line of a size that fits. -/
namespace Go.Proofs.YthomflbjijjhaaaGreatDoor
open Go.RowKit
open Go.Lib hiding intOf

theorem all_take {f : UInt8 → Bool} {l : List UInt8} {k : Nat} {x : UInt8} (h : (l.take k).all f = true) (hx : l[k]? = some x) (hf : f x = true) : (l.take (k + 1)).all f = true := by
  rw [List.take_add_one, hx, List.all_append, h]
  simp [hf]
theorem all_miss {f : UInt8 → Bool} {l : List UInt8} {k : Nat} {x : UInt8} (hx : l[k]? = some x) (hf : f x = false) : l.all f = false := by
  rw [List.all_eq_false]
  exact ⟨x, List.mem_of_getElem? hx, by simp [hf]⟩
theorem entry_long {s : List UInt8} (h : 200 < s.length) : entryOk s = false := by
  unfold entryOk
  rw [Bool.and_eq_false_iff]
  exact .inl (by rw [decide_eq_false_iff_not]; omega)
theorem entry_miss {s : List UInt8} {k : Nat} {x : UInt8} (hx : s[k]? = some x) (hf : isEnt x = false) : entryOk s = false := by
  unfold entryOk
  rw [all_miss hx hf, Bool.and_false]
theorem entry_yes {s : List UInt8} (h : ¬ 200 < s.length) (ha : s.all isEnt = true) : entryOk s = true := by
  unfold entryOk
  rw [ha, Bool.and_true, decide_eq_true_eq]
  omega
theorem ent_cases (x : UInt8) : (isEnt x = false ∧ ((x.toNat : Int) < 32)) ∨ (isEnt x = false ∧ ¬ ((x.toNat : Int) < 32) ∧ (126 : Int) < (x.toNat : Int)) ∨ (isEnt x = true ∧ ¬ ((x.toNat : Int) < 32) ∧ ¬ (126 : Int) < (x.toNat : Int)) := by
  unfold isEnt
  by_cases h1 : 32 ≤ x.toNat
  · by_cases h2 : x.toNat ≤ 126
    · right; right
      simp [h1, h2]
      omega
    · right; left
      simp [h2]
      omega
  · left
    simp [h1]
    omega
set_option maxRecDepth 100000 in
set_option maxHeartbeats 6400000 in
theorem isEntry_any (s : ByteArray) (w : World) : Calls Tryz.prog 22 #[.string s] w fun e w' => e = .returned (.bool (entryOk s.data.toList)) ∧ w' = w := by
  have HL : Hid (s.data.toList.length = s.size) := rfl
  obtain ⟨R, hR⟩ : ∃ R, entryOk s.data.toList = R := ⟨_, rfl⟩
  rw [hR]
  have HR := Lib.hid hR
  clear hR
  by_cases h200 : 200 < s.size
  · have HE : Hid (R = false) := by rw [Hid, ← HR.out]; exact entry_long (by rw [HL.out]; exact h200)
    have h200' : (200 : Int) < (s.size : Int) := by omega
    go_enter Tryz.func22, Tryz.ntmps22
    go_wp2_with fail
    go_ret
    exact ⟨by rw [HE.out]; rfl, rfl⟩
  · have h200' : ¬ (200 : Int) < (s.size : Int) := by omega
    have HN := Lib.hid (show ¬ 200 < s.data.toList.length by rw [HL.out]; exact h200)
    go_enter Tryz.func22, Tryz.ntmps22
    go_wp2_with fail
    go_loop [3, 9] (fun _ i => ∃ k : Nat, k ≤ s.size ∧ i = .int .i64 (k : Int) ∧ Hid ((s.data.toList.take k).all isEnt = true)) (fun _ i => s.size - (intOf i).toNat)
    case atStart => exact ⟨0, Nat.zero_le _, rfl, by rw [List.take_zero]; rfl⟩
    case round =>
      obtain ⟨k, hk, rfl, hd⟩ := hrel
      by_cases hlt : k < s.size
      · obtain ⟨x, hx⟩ : ∃ x, s[k] = x := ⟨_, rfl⟩
        have hxk := at_data' s k hlt
        rw [hx] at hxk
        have hlt2 : (k : Int) < (s.size : Int) := by omega
        rcases ent_cases x with ⟨h1, h2⟩ | ⟨h1, h2, h3⟩ | ⟨h1, h2, h3⟩
        · have HE : Hid (R = false) := by rw [Hid, ← HR.out]; exact entry_miss hxk h1
          clear hxk h1
          go_wp2_with fail
          go_ret
          exact ⟨by rw [HE.out]; rfl, rfl⟩
        · have HE : Hid (R = false) := by rw [Hid, ← HR.out]; exact entry_miss hxk h1
          clear hxk h1
          go_wp2_with fail
          go_ret
          exact ⟨by rw [HE.out]; rfl, rfl⟩
        · have HDS := Lib.hid (all_take hd.out hxk h1)
          clear hxk h1
          go_wp2_with fail
          go_round
          case rel => exact ⟨k + 1, by omega, by go_num, HDS⟩
          case measure => simp [intOf]; omega
      · obtain rfl : k = s.size := by omega
        have HE : Hid (R = true) := by
          rw [Hid, ← HR.out]
          refine entry_yes HN.out ?_
          have := hd.out
          rwa [← HL.out, List.take_length] at this
        go_wp2_with fail
        go_ret
        exact ⟨by rw [HE.out]; rfl, rfl⟩
theorem hex_cases (x : UInt8) : (isHex x = true ∧ ¬ ((x.toNat : Int) < 48) ∧ ¬ (57 : Int) < (x.toNat : Int)) ∨ (isHex x = true ∧ ¬ ((x.toNat : Int) < 48) ∧ (57 : Int) < (x.toNat : Int) ∧ ¬ ((x.toNat : Int) < 97) ∧ ¬ (102 : Int) < (x.toNat : Int)) ∨
    (isHex x = false ∧ ((x.toNat : Int) < 48) ∧ ((x.toNat : Int) < 97)) ∨ (isHex x = false ∧ ¬ ((x.toNat : Int) < 48) ∧ (57 : Int) < (x.toNat : Int) ∧ ((x.toNat : Int) < 97)) ∨ (isHex x = false ∧ ¬ ((x.toNat : Int) < 48) ∧ (57 : Int) < (x.toNat : Int) ∧ ¬ ((x.toNat : Int) < 97) ∧ (102 : Int) < (x.toNat : Int)) := by
  unfold isHex
  by_cases h1 : 48 ≤ x.toNat <;> by_cases h2 : x.toNat ≤ 57 <;> by_cases h3 : 97 ≤ x.toNat <;> by_cases h4 : x.toNat ≤ 102 <;> simp [h1, h2, h3, h4] <;> omega
def optS (o : Option (List UInt8 × List UInt8)) : Value := match o with
  | some (a, b) => .tuple #[.string ⟨a.toArray⟩, .string ⟨b.toArray⟩, .bool true]
  | none => .tuple #[.string ByteArray.empty, .string ByteArray.empty, .bool false]
theorem ext_drop (s : ByteArray) (k : Nat) : (s.extract k s.size).data.toList = s.data.toList.drop k := by
  rw [ByteArray.data_extract, Array.toList_extract, List.extract_eq_take_drop]
  refine List.take_of_length_le ?_
  rw [List.length_drop]
  exact Nat.le_refl _
theorem ext_take (s : ByteArray) (k : Nat) : (s.extract 0 k).data.toList = s.data.toList.take k := by
  rw [ByteArray.data_extract, Array.toList_extract, List.extract_eq_take_drop, List.drop_zero, Nat.sub_zero]
theorem ba_of {s : ByteArray} {l : List UInt8} (h : s.data.toList = l) : (⟨l.toArray⟩ : ByteArray) = s := by
  subst h
  simp
theorem splitJ_short {l : List UInt8} (h : l.length ≤ 16) : splitJ l = none := by rw [splitJ, if_pos h]
theorem splitJ_gap {l : List UInt8} {c : UInt8} (h : ¬ l.length ≤ 16) (hc : l[16]? = some c) (h1 : c ≠ 32) : splitJ l = none := by
  rw [splitJ, if_neg h, if_pos]
  rw [hc]
  exact fun e => h1 (Option.some.inj e)
theorem splitJ_entry {l : List UInt8} (h : ¬ l.length ≤ 16) (hc : l[16]? = some 32) (h1 : entryOk (l.drop 17) = false) : splitJ l = none := by
  rw [splitJ, if_neg h, if_neg (by simp [hc]), if_pos h1]
theorem splitJ_hex {l : List UInt8} (h : ¬ l.length ≤ 16) (hc : l[16]? = some 32) (h1 : entryOk (l.drop 17) = true) (h2 : (l.take 16).all isHex = false) : splitJ l = none := by
  rw [splitJ, if_neg h, if_neg (by simp [hc]), if_neg (by simp [h1]), if_pos h2]
theorem splitJ_ok {l : List UInt8} (h : ¬ l.length ≤ 16) (hc : l[16]? = some 32) (h1 : entryOk (l.drop 17) = true) (h2 : (l.take 16).all isHex = true) : splitJ l = some (l.take 16, l.drop 17) := by
  rw [splitJ, if_neg h, if_neg (by simp [hc]), if_neg (by simp [h1]), if_neg (by simp [h2])]
set_option maxRecDepth 100000 in
set_option maxHeartbeats 6400000 in
theorem split_any (s : ByteArray) (w : World) (hs : s.size ≤ 9223372036854775807) : Calls Tryz.prog 39 #[.string s] w fun e w' => e = .returned (optS (splitJ s.data.toList)) ∧ ∃ k, w' = w.drewN k := by
  have HL : Hid (s.data.toList.length = s.size) := rfl
  obtain ⟨R, hR⟩ : ∃ R, splitJ s.data.toList = R := ⟨_, rfl⟩
  rw [hR]
  have HR := Lib.hid hR
  clear hR
  by_cases h16 : s.size ≤ 16
  · have HE : Hid (R = none) := by rw [Hid, ← HR.out]; exact splitJ_short (by rw [HL.out]; exact h16)
    have h16' : (s.size : Int) ≤ 16 := by omega
    go_enter Tryz.func39, Tryz.ntmps39
    go_wp2_with fail
    refine bodyPost_ret (results_tmp3 rfl _ _ _) rfl ?_
    exact ⟨by rw [HE.out]; rfl, 0, rfl⟩
  have HN := Lib.hid (show ¬ s.data.toList.length ≤ 16 by rw [HL.out]; exact h16)
  have h16' : ¬ (s.size : Int) ≤ 16 := by omega
  have hlt : 16 < s.size := by omega
  obtain ⟨x, hx⟩ : ∃ x, s[16] = x := ⟨_, rfl⟩
  have hxk := at_data' s 16 hlt
  rw [hx] at hxk
  have hlt2 : (16 : Int) < (s.size : Int) := by omega
  by_cases hsp : x = 32
  · subst hsp
    have HX := Lib.hid hxk
    have HEX := Lib.hid (ext_drop s 17)
    have HEN := Lib.hid (fun W => isEntry_any (s.extract 17 s.size) W)
    rw [HEX.out] at HEN
    clear hxk
    have hlt3 : (17 : Int) ≤ (s.size : Int) := by omega
    obtain ⟨b, hb⟩ : ∃ b, entryOk (s.data.toList.drop 17) = b := ⟨_, rfl⟩
    rw [hb] at HEN
    have HB := Lib.hid hb
    clear hb
    cases b
    · have HE : Hid (R = none) := by rw [Hid, ← HR.out]; exact splitJ_entry HN.out HX.out HB.out
      go_enter Tryz.func39, Tryz.ntmps39
      go_wp2_with (go_at_call 22; refine (HEN.out _).mono ?_; rintro e w1 ⟨rfl, rfl⟩)
      refine bodyPost_ret (results_tmp3 rfl _ _ _) rfl ?_
      exact ⟨by rw [HE.out]; rfl, 0, rfl⟩
    · go_enter Tryz.func39, Tryz.ntmps39
      go_wp2_with (go_at_call 22; refine (HEN.out _).mono ?_; rintro e w1 ⟨rfl, rfl⟩)
      have h16'' : ¬ s.size ≤ 16 := h16
      clear HEN h16 h16' hx
      go_loop [5, 6, 21] (fun _ _ i => ∃ k : Nat, k ≤ 16 ∧ i = .int .i64 (k : Int) ∧ Hid ((s.data.toList.take k).all isHex = true)) (fun _ _ i => 16 - (intOf i).toNat)
      case atStart => exact ⟨0, Nat.zero_le _, rfl, (by rw [Hid, List.take_zero]; rfl)⟩
      case round =>
        obtain ⟨k, hk, rfl, hd⟩ := hrel
        by_cases hk2 : k < 16
        · have hks : k < s.size := by omega
          obtain ⟨y, hy⟩ : ∃ y, s[k] = y := ⟨_, rfl⟩
          have hyk := at_data' s k hks
          rw [hy] at hyk
          have i1 : (k : Int) < (s.size : Int) := by omega
          have HBAD : Hid (isHex y = false → R = none) := fun hf => by
            rw [← HR.out]
            refine splitJ_hex HN.out HX.out HB.out (all_miss (k := k) (x := y) ?_ hf)
            rw [List.getElem?_take, if_pos hk2, hyk]
          rcases hex_cases y with ⟨h1, h2, h3⟩ | ⟨h1, h2, h3, h4, h5⟩ | ⟨h1, h2, h3⟩ | ⟨h1, h2, h3, h4⟩ | ⟨h1, h2, h3, h4, h5⟩
          · have HDS := Lib.hid (all_take hd.out hyk h1)
            clear hyk h1
            go_wp2_with fail
            go_round
            case rel => exact ⟨k + 1, by omega, by go_num, HDS⟩
            case measure => simp [intOf]; omega
          · have HDS := Lib.hid (all_take hd.out hyk h1)
            clear hyk h1
            go_wp2_with fail
            go_round
            case rel => exact ⟨k + 1, by omega, by go_num, HDS⟩
            case measure => simp [intOf]; omega
          all_goals
            have HE := Lib.hid (HBAD.out h1)
            clear hyk h1
            go_wp2_with fail
            refine bodyPost_ret (results_tmp3 rfl _ _ _) rfl ?_
            exact ⟨by rw [HE.out]; rfl, 0, rfl⟩
        · obtain rfl : k = 16 := by omega
          have HE : Hid (R = some (s.data.toList.take 16, s.data.toList.drop 17)) := by rw [Hid, ← HR.out]; exact splitJ_ok HN.out HX.out HB.out hd.out
          have j1 : (16 : Int) ≤ (s.size : Int) := by omega
          go_wp2_with fail
          go_quiet (fail)
          go_wp2_with fail
          refine bodyPost_ret (results_tmp3 rfl _ _ _) rfl ?_
          refine ⟨?_, _, rfl⟩
          rw [HE.out, optS, ba_of (ext_take s 16), ba_of (ext_drop s 17)]
          rfl
  · have hsp' : ¬ (x.toNat : Int) = 32 := fun e => hsp (UInt8.toNat_inj.1 (by have : x.toNat = 32 := by omega
                                                                              exact this))
    have HE : Hid (R = none) := by rw [Hid, ← HR.out]; exact splitJ_gap HN.out hxk hsp
    clear hxk hsp
    go_enter Tryz.func39, Tryz.ntmps39
    go_wp2_with fail
    refine bodyPost_ret (results_tmp3 rfl _ _ _) rfl ?_
    exact ⟨by rw [HE.out]; rfl, 0, rfl⟩
end Go.Proofs.YthomflbjijjhaaaGreatDoor
