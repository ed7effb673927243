/- math/bits.Div64 answers the quotient and the rest of hi * 2^64 + lo by y, wherever hi < y. -/
import Derived.Test.YtoiodfiphighgaaDoorShelf
import Derived.Test.YtoiodfiphighgaaDoorPDiv
import Derived.WalkKit
import Derived.LoopTactic
import Derived.Below
import Derived.Deep.QuietTactic
import Derived.BigQuiet
import Derived.KernelRfl
import Derived.Laws.Bits64b
import Derived.Laws.Shifts
import Derived.Lib.Hide
import Derived.Outline
import Derived.Deep.DeepCutAuto
import Derived.Deep.CutBlock
namespace Go.Proofs.YtoiodfiphighgaaDoor.XDiv
open Go Go.RowKit Go.Proofs

theorem wrapN (a : Nat) (ha : a < 18446744073709551616) : IntKind.u64.wrap (a : Int) = (a : Int) := by rw [IntKind.wrap_u64]; omega

set_option maxHeartbeats 1000000 in
theorem div_zero (lo y : Nat) (hy : 0 < y) (hlo : lo < 18446744073709551616) (w : World) :
    Calls Tryd.prog 42 #[.int .u64 0, .int .u64 lo, .int .u64 y] w fun e w' =>
      e = .returned (.tuple #[.int .u64 ((lo / y : Nat) : Int), .int .u64 ((lo % y : Nat) : Int)]) ∧ ∃ n, w' = w.drewN n := by
  have h1 : ((y : Int) == 0) = false := by rw [beq_eq_false_iff_ne]; omega
  have h2 : decide ((y : Int) ≤ 0) = false := by rw [decide_eq_false_iff_not]; omega
  have h3 : lo / y < 18446744073709551616 := Nat.lt_of_le_of_lt (Nat.div_le_self _ _) hlo
  go_enter Tryd.func42, Tryd.ntmps42
  go_wp2
  go_quiet (fail)
  go_wp2
  go_ret2
  refine ⟨?_, _, rfl⟩
  have e1 : IntKind.u64.wrap ((lo : Int) / (y : Int)) = ((lo / y : Nat) : Int) := by
    rw [← Int.natCast_ediv]; exact wrapN _ h3
  simp [e1]

theorem lz (y s : Nat) (hs : 64 - Lib.bitLen y = s) (hs2 : Lib.bitLen y ≤ 64) (hy2 : y < 18446744073709551616) (w : World) :
    Calls Tryd.prog 55 #[.int .u64 y] w fun e w' => e = .returned (.int .i64 (s : Int)) ∧ w' = w := by
  refine (Tryd.bits_LeadingZeros64 y w (by omega) (by omega)).mono ?_
  rintro e w' ⟨rfl, rfl⟩
  refine ⟨?_, rfl⟩
  have : ((64 : Int) - (Lib.bitLen (y : Int).toNat : Int)) = s := by rw [Int.toNat_natCast]; omega
  rw [this]

theorem next {Q R Y1 U : Nat} (h : Q * Y1 + R = U) (h0 : 0 < Q) : (Q - 1) * Y1 + (R + Y1) = U := by
  obtain ⟨k, rfl⟩ : ∃ k, Q = k + 1 := ⟨Q - 1, by omega⟩
  rw [Nat.add_mul] at h
  simp only [Nat.add_sub_cancel]
  omega

theorem prod {Q Y0 : Nat} (hQ : ¬ (4294967296 : Int) ≤ (Q : Int)) (hY : (Y0 : Int) < 4294967296) : Q * Y0 < 18446744073709551616 := by
  have := Nat.mul_le_mul (show Q ≤ 4294967295 by omega) (show Y0 ≤ 4294967295 by omega)
  omega

theorem prodw {Q Y0 : Nat} (hQ : ¬ (4294967296 : Int) ≤ (Q : Int)) (hY : (Y0 : Int) < 4294967296) : IntKind.u64.wrap ((Q : Int) * (Y0 : Int)) = ((Q * Y0 : Nat) : Int) := by
  rw [← Int.natCast_mul]; exact wrapN _ (prod hQ hY)

/-- What is known of one digit: the first guess, and when it falls and stands. -/
structure Digit (U W1 Y1 Y0 qa ra q : Nat) : Prop where
  eq : qa * Y1 + ra = U
  down : ∀ Q R, Q * Y1 + R = U → (4294967296 ≤ Q ∨ 4294967296 * R + W1 < Q * Y0) → q < Q
  up : ∀ Q R, Q * Y1 + R = U → Q * Y0 ≤ 4294967296 * R + W1 → Q ≤ q
  up2 : ∀ Q R, Q * Y1 + R = U → Q ≤ 4294967296 → 4294967296 ≤ R → Q ≤ q

set_option maxRecDepth 100000 in
set_option maxHeartbeats 4000000 in
/-- The walk, over the numbers that the code reckons: each with the equation that the machine's arithmetic gives for it. -/
theorem div_core (hi lo y s Y Y1 Y0 U1 W W1 W0 qa ma ra q1 A B C U0 qb mb rb q0 A2 B2 C2 D2 : Nat) (hhi : 0 < hi) (hlt : hi < y) (hs2 : Lib.bitLen y ≤ 64) (hy2 : Hid (y < 18446744073709551616))
    (HS : Hid (64 - Lib.bitLen y = s)) (hs3 : s < 64)
    (hY : IntKind.u64.wrap ((y : Int) * 2 ^ s) = (Y : Int)) (hY1 : (Y : Int) / 4294967296 = (Y1 : Int)) (hY0 : bits .and .u64 (Y : Int) 4294967295 = (Y0 : Int))
    (hU : bits .or .u64 (IntKind.u64.wrap ((hi : Int) * 2 ^ s)) ((lo : Int) / 2 ^ (64 - s)) = (U1 : Int))
    (hW : IntKind.u64.wrap ((lo : Int) * 2 ^ s) = (W : Int)) (hW1 : (W : Int) / 4294967296 = (W1 : Int)) (hW0 : bits .and .u64 (W : Int) 4294967295 = (W0 : Int))
    (hqa : IntKind.u64.wrap ((U1 : Int) / (Y1 : Int)) = (qa : Int)) (hma : IntKind.u64.wrap ((qa : Int) * (Y1 : Int)) = (ma : Int)) (hra : IntKind.u64.wrap ((U1 : Int) - (ma : Int)) = (ra : Int))
    (hA : IntKind.u64.wrap ((U1 : Int) * 4294967296) = (A : Int)) (hB : IntKind.u64.wrap ((A : Int) + (W1 : Int)) = (B : Int)) (hC : IntKind.u64.wrap ((q1 : Int) * (Y : Int)) = (C : Int)) (hU0 : IntKind.u64.wrap ((B : Int) - (C : Int)) = (U0 : Int))
    (hqb : IntKind.u64.wrap ((U0 : Int) / (Y1 : Int)) = (qb : Int)) (hmb : IntKind.u64.wrap ((qb : Int) * (Y1 : Int)) = (mb : Int)) (hrb : IntKind.u64.wrap ((U0 : Int) - (mb : Int)) = (rb : Int))
    (hA2 : IntKind.u64.wrap ((U0 : Int) * 4294967296) = (A2 : Int)) (hB2 : IntKind.u64.wrap ((A2 : Int) + (W0 : Int)) = (B2 : Int)) (hC2 : IntKind.u64.wrap ((q0 : Int) * (Y : Int)) = (C2 : Int)) (hD2 : IntKind.u64.wrap ((B2 : Int) - (C2 : Int)) = (D2 : Int))
    (b1 : (2147483648 : Int) ≤ (Y1 : Int)) (b2 : (Y1 : Int) < 4294967296) (b3 : (Y0 : Int) < 4294967296) (b4 : (W1 : Int) < 4294967296) (b5 : (W0 : Int) < 4294967296)
    (b6 : (q1 : Int) < 4294967296) (b7 : (q0 : Int) < 4294967296)
    (G1 : Digit U1 W1 Y1 Y0 qa ra q1) (hR1 : (ra : Int) < 4294967296) (hQ1 : (qa : Int) ≤ 4294967297) (hl1 : q1 ≤ qa)
    (G2 : Digit U0 W0 Y1 Y0 qb rb q0) (hR2 : (rb : Int) < 4294967296) (hQ2 : (qb : Int) ≤ 4294967297) (hl2 : q0 ≤ qb)
    (r1 r2 : Nat) (f1 : Hid (q1 * 4294967296 + q0 = r1)) (f2 : Hid (D2 / 2 ^ s = r2))
    (w : World) :
    Calls Tryd.prog 42 #[.int .u64 hi, .int .u64 lo, .int .u64 y] w fun e w' =>
      e = .returned (.tuple #[.int .u64 (r1 : Int), .int .u64 (r2 : Int)]) ∧ ∃ n, w' = w.drewN n := by
  have h1 : ((y : Int) == 0) = false := by rw [beq_eq_false_iff_ne]; omega
  have h2 : decide ((y : Int) ≤ (hi : Int)) = false := by rw [decide_eq_false_iff_not]; omega
  have h2' : decide (y ≤ hi) = false := by rw [decide_eq_false_iff_not]; omega
  have h3 : ((hi : Int) == 0) = false := by rw [beq_eq_false_iff_ne]; omega
  have h4 : ((Y1 : Int) == 0) = false := by rw [beq_eq_false_iff_ne]; omega
  have h4' : ¬ ((Y1 : Int) = 0) := by omega
  go_enter Tryd.func42, Tryd.ntmps42
  go_upto_block 0 with (go_at_call 55; refine (lz _ s HS.out hs2 hy2.out _).mono ?_; rintro e w' ⟨rfl, rfl⟩)
  go_cut [15, 16] (fun q r wr => q = .int .u64 (q1 : Int) ∧ wr = w')
  case first =>
    go_wp2_with fail
    go_loop [15, 16] (fun q r => ∃ Q R : Nat, q = .int .u64 (Q : Int) ∧ r = .int .u64 (R : Int) ∧ Hid (Q * Y1 + R = U1) ∧ (R : Int) < 4294967296 ∧ (Q : Int) ≤ 4294967297 ∧ q1 ≤ Q) (fun q _ => (intOf q).toNat)
    case atStart => exact ⟨_, _, rfl, rfl, Lib.hid G1.eq, hR1, hQ1, hl1⟩
    case round =>
      obtain ⟨Q, R, rfl, rfl, HE, hR, hQ, hl⟩ := hrel
      clear hY hY1 hY0 hU hW hW1 hW0 hqa hma hra hA hB hC hU0 hqb hmb hrb hA2 hB2 hC2 hD2 h1 h2 h2' h3 h4 h4'
      by_cases c1 : (4294967296 : Int) ≤ (Q : Int)
      · have c1b : decide ((4294967296 : Int) ≤ (Q : Int)) = true := decide_eq_true (by omega)
        have hd : q1 < Q := G1.down Q R HE.out (.inl (by omega))
        have HN : Hid ((Q - 1) * Y1 + (R + Y1) = U1) := Lib.hid (next HE.out (by omega))
        by_cases c3 : (4294967296 : Int) ≤ (R : Int) + (Y1 : Int)
        · have c3b : decide ((4294967296 : Int) ≤ (R : Int) + (Y1 : Int)) = true := decide_eq_true c3
          have hx := G1.up2 (Q - 1) (R + Y1) HN.out (by omega) (by omega)
          go_wp2
          go_meet
          case rel => exact ⟨by rw [show ((Q : Int) - 1) = (q1 : Int) from by omega], rfl⟩
        · have c3b : decide ((4294967296 : Int) ≤ (R : Int) + (Y1 : Int)) = false := decide_eq_false c3
          go_wp2
          go_round
          case rel => exact ⟨Q - 1, R + Y1, by rw [show ((Q : Int) - 1) = ((Q - 1 : Nat) : Int) from by omega], by go_num, HN, by omega, by omega, by omega⟩
          case measure => simp [intOf]; omega
      · have c1b : decide ((4294967296 : Int) ≤ (Q : Int)) = false := decide_eq_false c1
        have hP := prodw c1 b3
        have hP2 := prod c1 b3
        obtain ⟨Pn, ePn⟩ : ∃ Pn, Pn = Q * Y0 := ⟨_, rfl⟩
        rw [← ePn] at hP hP2
        have EP := Lib.hid ePn
        clear ePn
        by_cases c2 : (4294967296 : Int) * (R : Int) + (W1 : Int) < (Pn : Int)
        · have c2b : decide ((4294967296 : Int) * (R : Int) + (W1 : Int) < (Pn : Int)) = true := decide_eq_true c2
          have hd : q1 < Q := G1.down Q R HE.out (.inr (by rw [← EP.out]; omega))
          have HN : Hid ((Q - 1) * Y1 + (R + Y1) = U1) := Lib.hid (next HE.out (by omega))
          by_cases c3 : (4294967296 : Int) ≤ (R : Int) + (Y1 : Int)
          · have c3b : decide ((4294967296 : Int) ≤ (R : Int) + (Y1 : Int)) = true := decide_eq_true c3
            have hx := G1.up2 (Q - 1) (R + Y1) HN.out (by omega) (by omega)
            clear hP2
            go_wp2
            go_meet
            case rel => exact ⟨by rw [show ((Q : Int) - 1) = (q1 : Int) from by omega], rfl⟩
          · have c3b : decide ((4294967296 : Int) ≤ (R : Int) + (Y1 : Int)) = false := decide_eq_false c3
            clear hP2
            go_wp2
            go_round
            case rel => exact ⟨Q - 1, R + Y1, by rw [show ((Q : Int) - 1) = ((Q - 1 : Nat) : Int) from by omega], by go_num, HN, by omega, by omega, by omega⟩
            case measure => simp [intOf]; omega
        · have c2b : decide ((4294967296 : Int) * (R : Int) + (W1 : Int) < (Pn : Int)) = false := decide_eq_false c2
          have hx := G1.up Q R HE.out (by rw [← EP.out]; omega)
          clear hP2
          go_wp2
          go_meet
          case rel => exact ⟨by rw [show (Q : Int) = (q1 : Int) from by omega], rfl⟩
  obtain ⟨rfl, rfl⟩ := hcut
  go_upto_block 2 with fail
  go_cut [18, 16] (fun q r wr => q = .int .u64 (q0 : Int) ∧ wr = wc)
  case first =>
    go_wp2_with fail
    go_loop [18, 16] (fun q r => ∃ Q R : Nat, q = .int .u64 (Q : Int) ∧ r = .int .u64 (R : Int) ∧ Hid (Q * Y1 + R = U0) ∧ (R : Int) < 4294967296 ∧ (Q : Int) ≤ 4294967297 ∧ q0 ≤ Q) (fun q _ => (intOf q).toNat)
    case atStart => exact ⟨_, _, rfl, rfl, Lib.hid G2.eq, hR2, hQ2, hl2⟩
    case round =>
      obtain ⟨Q, R, rfl, rfl, HE, hR, hQ, hl⟩ := hrel
      clear hY hY1 hY0 hU hW hW1 hW0 hqa hma hra hA hB hC hU0 hqb hmb hrb hA2 hB2 hC2 hD2 h1 h2 h2' h3 h4 h4'
      by_cases c1 : (4294967296 : Int) ≤ (Q : Int)
      · have c1b : decide ((4294967296 : Int) ≤ (Q : Int)) = true := decide_eq_true (by omega)
        have hd : q0 < Q := G2.down Q R HE.out (.inl (by omega))
        have HN : Hid ((Q - 1) * Y1 + (R + Y1) = U0) := Lib.hid (next HE.out (by omega))
        by_cases c3 : (4294967296 : Int) ≤ (R : Int) + (Y1 : Int)
        · have c3b : decide ((4294967296 : Int) ≤ (R : Int) + (Y1 : Int)) = true := decide_eq_true c3
          have hx := G2.up2 (Q - 1) (R + Y1) HN.out (by omega) (by omega)
          go_wp2
          go_meet
          case rel => exact ⟨by rw [show ((Q : Int) - 1) = (q0 : Int) from by omega], rfl⟩
        · have c3b : decide ((4294967296 : Int) ≤ (R : Int) + (Y1 : Int)) = false := decide_eq_false c3
          go_wp2
          go_round
          case rel => exact ⟨Q - 1, R + Y1, by rw [show ((Q : Int) - 1) = ((Q - 1 : Nat) : Int) from by omega], by go_num, HN, by omega, by omega, by omega⟩
          case measure => simp [intOf]; omega
      · have c1b : decide ((4294967296 : Int) ≤ (Q : Int)) = false := decide_eq_false c1
        have hP := prodw c1 b3
        have hP2 := prod c1 b3
        obtain ⟨Pn, ePn⟩ : ∃ Pn, Pn = Q * Y0 := ⟨_, rfl⟩
        rw [← ePn] at hP hP2
        have EP := Lib.hid ePn
        clear ePn
        by_cases c2 : (4294967296 : Int) * (R : Int) + (W0 : Int) < (Pn : Int)
        · have c2b : decide ((4294967296 : Int) * (R : Int) + (W0 : Int) < (Pn : Int)) = true := decide_eq_true c2
          have hd : q0 < Q := G2.down Q R HE.out (.inr (by rw [← EP.out]; omega))
          have HN : Hid ((Q - 1) * Y1 + (R + Y1) = U0) := Lib.hid (next HE.out (by omega))
          by_cases c3 : (4294967296 : Int) ≤ (R : Int) + (Y1 : Int)
          · have c3b : decide ((4294967296 : Int) ≤ (R : Int) + (Y1 : Int)) = true := decide_eq_true c3
            have hx := G2.up2 (Q - 1) (R + Y1) HN.out (by omega) (by omega)
            clear hP2
            go_wp2
            go_meet
            case rel => exact ⟨by rw [show ((Q : Int) - 1) = (q0 : Int) from by omega], rfl⟩
          · have c3b : decide ((4294967296 : Int) ≤ (R : Int) + (Y1 : Int)) = false := decide_eq_false c3
            clear hP2
            go_wp2
            go_round
            case rel => exact ⟨Q - 1, R + Y1, by rw [show ((Q : Int) - 1) = ((Q - 1 : Nat) : Int) from by omega], by go_num, HN, by omega, by omega, by omega⟩
            case measure => simp [intOf]; omega
        · have c2b : decide ((4294967296 : Int) * (R : Int) + (W0 : Int) < (Pn : Int)) = false := decide_eq_false c2
          have hx := G2.up Q R HE.out (by rw [← EP.out]; omega)
          clear hP2
          go_wp2
          go_meet
          case rel => exact ⟨by rw [show (Q : Int) = (q0 : Int) from by omega], rfl⟩
  obtain ⟨rfl, rfl⟩ := hcut
  go_wp2
  go_ret2
  refine ⟨?_, 0, rfl⟩
  have e1 : ((q1 : Int) * 4294967296 + (q0 : Int)) = (r1 : Int) := by have := f1.out; omega
  have e2 : ((D2 : Int) / 2 ^ s) = (r2 : Int) := by rw [← f2.out]; simp
  simp [e1, e2]

theorem bitLen_pow (y : Nat) (h0 : 0 < y) (h : y < 18446744073709551616) :
    Lib.bitLen y ≤ 64 ∧ 0 < Lib.bitLen y ∧ y < 2 ^ Lib.bitLen y ∧ 2 ^ (Lib.bitLen y - 1) ≤ y := by
  have h64 := Lib.bitLen_le y 64 (by omega) (by omega)
  have key : ∀ k, k ≤ 64 → ∀ y, 0 < y → y < 2 ^ k → 0 < Lib.bitLen y ∧ y < 2 ^ Lib.bitLen y ∧ 2 ^ (Lib.bitLen y - 1) ≤ y := by
    intro k
    induction k with
    | zero => intro _ y h0 h1; simp at h1; omega
    | succ k ih =>
      intro hk y h0 h1
      have hb : y < 2 ^ 64 := Nat.lt_of_lt_of_le h1 (Nat.pow_le_pow_right (by omega) hk)
      have hh := Lib.bitLen_half y (by omega) hb
      by_cases h2 : y / 2 = 0
      · have hy1 : y = 1 := by omega
        subst hy1
        decide
      · obtain ⟨a1, a2, a3⟩ := ih (by omega) (y / 2) (by omega) (by rw [Nat.pow_succ] at h1; omega)
        rw [hh]
        generalize Lib.bitLen (y / 2) = m at *
        obtain ⟨m, rfl⟩ : ∃ j, m = j + 1 := ⟨m - 1, by omega⟩
        simp only [Nat.add_sub_cancel] at a3
        refine ⟨by omega, ?_, ?_⟩
        · rw [Nat.pow_add]; omega
        · rw [show 1 + (m + 1) - 1 = m + 1 from by omega, Nat.pow_succ]; omega
  obtain ⟨a1, a2, a3⟩ := key 64 (by omega) y h0 (by omega)
  exact ⟨h64, a1, a2, a3⟩

/-- The scaled divisor lies in the upper half. -/
theorem scaled_div (y : Nat) (h0 : 0 < y) (h : y < 18446744073709551616) :
    9223372036854775808 ≤ y * 2 ^ (64 - Lib.bitLen y) ∧ y * 2 ^ (64 - Lib.bitLen y) < 18446744073709551616 ∧ 64 - Lib.bitLen y < 64 := by
  obtain ⟨a0, a1, a2, a3⟩ := bitLen_pow y h0 h
  generalize Lib.bitLen y = m at *
  have e1 : 2 ^ m * 2 ^ (64 - m) = 18446744073709551616 := by rw [← Nat.pow_add, Nat.add_sub_cancel' a0]
  have e2 : 2 ^ (m - 1) * 2 ^ (64 - m) = 9223372036854775808 := by
    rw [← Nat.pow_add, show m - 1 + (64 - m) = 63 from by omega]
  refine ⟨?_, ?_, by omega⟩
  · rw [← e2]; exact Nat.mul_le_mul_right _ a3
  · rw [← e1]; exact Nat.mul_lt_mul_of_pos_right a2 (Nat.pow_pos (by omega))
end Go.Proofs.YtoiodfiphighgaaDoor.XDiv
