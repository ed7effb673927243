/- What layer 1's statements ask, of the plain functions. -/
import Derived.Test.YtoiodfiphighgaaDoorPNum
namespace Go.Proofs.YtoiodfiphighgaaDoor.Num

theorem rnd_comm (x y d : Nat) : rnd x y d = rnd y x d := by unfold rnd; rw [Nat.mul_comm]
theorem add_comm (a b : Int) : add a b = add b a := by unfold add; rw [Int.add_comm]
theorem mul_comm (a b : Int) : mul a b = mul b a := by
  unfold mul; rw [rnd_comm, Bool.beq_comm]
theorem rnd_one (x : Nat) (h : x ≤ 1000000000000000) : rnd x 1000000 1000000 = x := by
  unfold rnd
  rw [Nat.mul_div_cancel _ (by omega), Nat.mul_mod_left]
  split
  · rw [if_neg (by omega)]
  · omega
theorem sgn_size (a : Int) : sgn (below a) (size a) = clamp a := by
  unfold below size sgn
  by_cases h : clamp a < 0
  · simp only [h, decide_true, if_true]; omega
  · simp only [h, decide_false, Bool.false_eq_true, if_false]; omega
theorem below_one : below 1000000 = false := by decide
theorem size_one : size 1000000 = 1000000 := by decide
theorem mul_one (a : Int) : mul a 1000000 = clamp a := by
  unfold mul; rw [below_one, size_one, rnd_one _ (size_le a), ← sgn_size a]; simp
theorem div_one (a : Int) : div a 1000000 = clamp a := by
  unfold div; rw [below_one, size_one, rnd_one _ (size_le a), ← sgn_size a]; simp
theorem clamp_neg (a : Int) : clamp (neg a) = -clamp a := by
  have := neg_le a; rw [clamp_self this]; rfl
theorem neg_neg (a : Int) : neg (neg a) = clamp a := by
  show -clamp (neg a) = _; rw [clamp_neg]; omega
theorem sub_self (a : Int) : sub a a = 0 := by unfold sub; rw [Int.sub_self]; decide
theorem rnd_zero (x d : Nat) (_hd : 0 < d) : rnd x 0 d = 0 := by
  unfold rnd; simp <;> omega
theorem size_neg (a : Int) : size (neg a) = size a := by unfold size; rw [clamp_neg]; omega
theorem mul_neg (a b : Int) : mul a (neg b) = neg (mul a b) := by
  unfold neg; rw [clamp_mul]
  show mul a (neg b) = -mul a b
  unfold mul
  rw [size_neg]
  by_cases h0 : clamp b = 0
  · have : size b = 0 := by unfold size; omega
    rw [this, rnd_zero _ _ (by omega)]; unfold sgn; split <;> split <;> simp
  · have e : below (neg b) = !below b := by
      unfold below; rw [clamp_neg]
      by_cases h : clamp b < 0
      · simp [h]; omega
      · simp [h]; omega
    rw [e]
    generalize rnd (size a) (size b) 1000000 = n
    cases below a <;> cases below b <;> simp [sgn]
theorem add_zero (a : Int) : add a 0 = clamp a := by
  unfold add; rw [show clamp 0 = 0 from rfl, Int.add_zero, clamp_clamp]
theorem mul_zero (a : Int) : mul a 0 = 0 := by
  unfold mul; rw [show size 0 = 0 from rfl, rnd_zero _ _ (by omega)]; unfold sgn; split <;> rfl
theorem div_zero (a : Int) : div a 0 = 0 := rfl

/-- A quotient of small numbers lies within half a millionth. -/
theorem near (a b : Int) (ha : -1000000000 ≤ a) (ha2 : a ≤ 1000000000) (hb : 1000 ≤ b) (hb2 : b ≤ 1000000000) :
    -1000000000000 ≤ div a b ∧ div a b ≤ 1000000000000 ∧ 2 * (div a b * b - a * 1000000) ≤ b ∧ -b ≤ 2 * (div a b * b - a * 1000000) := by
  have ca : clamp a = a := clamp_self (by omega)
  have cb : clamp b = b := clamp_self (by omega)
  have hsb : size b ≠ 0 := by unfold size; rw [cb]; omega
  have eb : below b = false := by unfold below; rw [cb]; simp; omega
  unfold div
  rw [if_neg hsb, eb]
  obtain ⟨x, hx⟩ : ∃ x, x = size a := ⟨_, rfl⟩
  obtain ⟨d, hd⟩ : ∃ d, d = size b := ⟨_, rfl⟩
  have hd1 : (d : Int) = b := by rw [hd]; unfold size; rw [cb]; omega
  have hx1 : (x : Int) = a.natAbs := by rw [hx]; unfold size; rw [ca]
  rw [← hx, ← hd]
  have hx2 : x ≤ 1000000000 := by omega
  have h1 := Nat.div_add_mod (x * 1000000) d
  have h2 := Nat.mod_lt (x * 1000000) (show 0 < d by omega)
  have h3 : x * 1000000 / d ≤ 1000000000000 := by
    apply Nat.le_of_lt_succ
    apply Nat.div_lt_of_lt_mul
    have : 1000 * 1000000000001 ≤ d * 1000000000001 := Nat.mul_le_mul_right _ (by omega)
    omega
  obtain ⟨Q, eQ⟩ : ∃ Q, Q = x * 1000000 / d := ⟨_, rfl⟩
  obtain ⟨r, er⟩ : ∃ r, r = x * 1000000 % d := ⟨_, rfl⟩
  rw [← eQ, ← er] at h1
  rw [← er] at h2
  rw [← eQ] at h3
  have hr : ∃ R : Nat, rnd x 1000000 d = R ∧ R ≤ 1000000000000 ∧ 2 * (R * d) ≤ 2 * (x * 1000000) + d ∧ 2 * (x * 1000000) ≤ 2 * (R * d) + d := by
    unfold rnd
    rw [← eQ, ← er, if_pos (by omega)]
    by_cases hc : d < 2 * r ∨ (2 * r = d ∧ Q % 2 = 1)
    · refine ⟨Q + 1, by rw [if_pos hc], ?_, ?_, ?_⟩
      · rcases Nat.lt_or_ge Q 1000000000000 with h | h
        · omega
        · exfalso
          have hq : Q = 1000000000000 := by omega
          have : 1000 * 1000000000000 ≤ d * Q := Nat.mul_le_mul (by omega) (by omega)
          omega
      · rw [Nat.add_mul, Nat.mul_comm Q d]; omega
      · rw [Nat.add_mul, Nat.mul_comm Q d]; omega
    · refine ⟨Q, by rw [if_neg hc], by omega, ?_, ?_⟩
      · rw [Nat.mul_comm Q d]; omega
      · rw [Nat.mul_comm Q d]; omega
  obtain ⟨R, eR, r1, r2, r3⟩ := hr
  rw [eR]
  have r2' : 2 * ((R : Int) * d) ≤ 2 * ((x : Int) * 1000000) + d := by
    have e : ((R * d : Nat) : Int) = (R : Int) * (d : Int) := Int.natCast_mul R d
    omega
  have r3' : 2 * ((x : Int) * 1000000) ≤ 2 * ((R : Int) * d) + d := by
    have e : ((R * d : Nat) : Int) = (R : Int) * (d : Int) := Int.natCast_mul R d
    omega
  rw [hd1] at r2' r3'
  unfold sgn below
  rw [ca]
  by_cases hn : a < 0
  · simp only [hn, decide_true]
    have : (!(true == false)) = true := rfl
    rw [this]
    simp only [if_true]
    rw [Int.neg_mul]
    omega
  · simp only [hn, decide_false]
    have : (!(false == false)) = false := rfl
    rw [this]
    simp only [Bool.false_eq_true, if_false]
    omega

/-- What the statement reckons of a quotient, part by part. -/
theorem near_parts (a b q T M : Int) (hb : 1000 ≤ b) (hT : q.tdiv 1000000 = T) (hM : q.tmod 1000000 = M)
    (h1 : 2 * (q * b - a * 1000000) ≤ b) (h2 : -b ≤ 2 * (q * b - a * 1000000)) :
    T * b - a ≤ b ∧ -b ≤ T * b - a ∧ M * b ≤ 999999 * b ∧ -(999999 * b) ≤ M * b ∧ 2 * ((T * b - a) * 1000000 + M * b) ≤ b ∧ -b ≤ 2 * ((T * b - a) * 1000000 + M * b) := by
  have e1 : q = T * 1000000 + M := by rw [← hT, ← hM]; have := Int.tdiv_mul_add_tmod q 1000000; omega
  have m1 : M ≤ 999999 := by rw [← hM]; have := Int.tmod_lt_of_pos q (show (0:Int) < 1000000 by omega); omega
  have m2 : -999999 ≤ M := by
    rw [← hM]; have := Int.lt_tmod_of_pos q (show (0:Int) < 1000000 by omega); omega
  have m3 : M * b ≤ 999999 * b := Int.mul_le_mul_of_nonneg_right m1 (by omega)
  have m4 : -999999 * b ≤ M * b := Int.mul_le_mul_of_nonneg_right m2 (by omega)
  have e2 : q * b = T * b * 1000000 + M * b := by
    rw [e1, Int.add_mul, Int.mul_assoc, Int.mul_comm 1000000 b, ← Int.mul_assoc]
  generalize T * b = P1 at *
  generalize M * b = P2 at *
  generalize q * b = P3 at *
  clear e1 hT hM m1 m2
  omega
end Go.Proofs.YtoiodfiphighgaaDoor.Num
