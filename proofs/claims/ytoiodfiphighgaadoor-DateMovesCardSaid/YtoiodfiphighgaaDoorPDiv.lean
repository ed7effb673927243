/- Plain arithmetic for math/bits.Div64 (Knuth's step with 32-bit digits): no program in sight. -/
namespace Go.Proofs.YtoiodfiphighgaaDoor.PDiv

theorem qhat_le {U Y : Nat} (hY : 9223372036854775808 ≤ Y) (hY2 : Y < 18446744073709551616) (hU : U < Y) :
    U / (Y / 4294967296) ≤ 4294967297 := by
  have h1 : 2147483648 ≤ Y / 4294967296 := by omega
  have h2 : U < Y / 4294967296 * 4294967298 := by omega
  have h3 : U / (Y / 4294967296) < 4294967298 := Nat.div_lt_of_lt_mul h2
  omega

theorem start {U u Y : Nat} (hY : 9223372036854775808 ≤ Y) (hu : u < 4294967296) :
    (U * 4294967296 + u) / Y ≤ U / (Y / 4294967296) := by
  have h1 : 2147483648 ≤ Y / 4294967296 := by omega
  have h2 : Y / 4294967296 * 4294967296 ≤ Y := Nat.div_mul_le_self _ _
  generalize Y / 4294967296 = y1 at *
  apply Nat.le_of_lt_succ
  apply Nat.div_lt_of_lt_mul
  have h3 : U < y1 * (U / y1 + 1) := by
    have := Nat.lt_mul_div_succ U (b := y1) (by omega); omega
  generalize U / y1 = Q at *
  have h4 : (U + 1) * 4294967296 ≤ y1 * (Q + 1) * 4294967296 := Nat.mul_le_mul_right _ h3
  have h5 : y1 * (Q + 1) * 4294967296 = y1 * 4294967296 * (Q + 1) := by
    rw [Nat.mul_assoc, Nat.mul_comm (Q + 1), ← Nat.mul_assoc]
  have h6 : y1 * 4294967296 * (Q + 1) ≤ Y * (Q + 1) := Nat.mul_le_mul_right _ h2
  have : (Q + 1).succ = Q + 1 + 1 := rfl
  show U * 4294967296 + u < Y * (Q + 1)
  omega

theorem split {Q R U Y : Nat} (h : Q * (Y / 4294967296) + R = U) : Q * Y + R * 4294967296 = U * 4294967296 + Q * (Y % 4294967296) := by
  subst h
  have e : Y = Y / 4294967296 * 4294967296 + Y % 4294967296 := (Nat.div_add_mod' Y _).symm
  generalize Y / 4294967296 = a at *
  generalize Y % 4294967296 = b at *
  subst e
  rw [Nat.mul_add, Nat.add_mul, ← Nat.mul_assoc]
  omega

theorem small {U u Y : Nat} (hU : U < Y) (hu : u < 4294967296) : (U * 4294967296 + u) / Y < 4294967296 := by
  apply Nat.div_lt_of_lt_mul
  have : (U + 1) * 4294967296 ≤ Y * 4294967296 := Nat.mul_le_mul_right _ hU
  omega

theorem down {Q R U u Y : Nat} (hU : U < Y) (hu : u < 4294967296) (h : Q * (Y / 4294967296) + R = U)
    (hc : 4294967296 ≤ Q ∨ 4294967296 * R + u < Q * (Y % 4294967296)) : (U * 4294967296 + u) / Y < Q := by
  rcases hc with hc | hc
  · have := small hU hu; omega
  · have := split h
    apply Nat.div_lt_of_lt_mul
    have e := Nat.mul_comm Y Q
    omega

theorem up {Q R U u Y : Nat} (hU : U < Y) (h : Q * (Y / 4294967296) + R = U)
    (hc : Q * (Y % 4294967296) ≤ 4294967296 * R + u) : Q ≤ (U * 4294967296 + u) / Y := by
  have := split h
  rw [Nat.le_div_iff_mul_le (by omega)]
  omega

theorem up2 {Q R U u Y : Nat} (hU : U < Y) (h : Q * (Y / 4294967296) + R = U) (hQ : Q ≤ 4294967296) (hR : 4294967296 ≤ R) :
    Q ≤ (U * 4294967296 + u) / Y := by
  refine up hU h ?_
  have h1 : Q * (Y % 4294967296) ≤ 4294967296 * 4294967295 := Nat.mul_le_mul hQ (by omega)
  omega

/-- What is left behind a digit. -/
theorem rest {U u Y : Nat} (hY : 0 < Y) :
    (U * 4294967296 + u) % Y < Y ∧ (U * 4294967296 + u) / Y * Y + (U * 4294967296 + u) % Y = U * 4294967296 + u :=
  ⟨Nat.mod_lt _ hY, by have := Nat.div_add_mod (U * 4294967296 + u) Y; rw [Nat.mul_comm]; exact this⟩

/-- The whole: two digits of a scaled number are the quotient, what is left is the scaled rest. -/
theorem whole0 {n y k Y U b d1 d0 R q1 q0 R2 : Nat} (hk : 0 < k) (hY : Y = y * k) (hn : n * k = U * (b * b) + (d1 * b + d0))
    (h1 : q1 * Y + R = U * b + d1) (h0 : q0 * Y + R2 = R * b + d0) (hR2 : R2 < Y) :
    q1 * b + q0 = n / y ∧ R2 / k = n % y := by
  have e : n * k = (q1 * b + q0) * Y + R2 := by
    have h4 : (q1 * Y + R) * b = (U * b + d1) * b := by rw [h1]
    have h5 : (q1 * b + q0) * Y = q1 * Y * b + q0 * Y := by
      rw [Nat.add_mul, Nat.mul_assoc, Nat.mul_comm b Y, ← Nat.mul_assoc]
    rw [Nat.add_mul, Nat.add_mul, Nat.mul_assoc U] at h4
    omega
  have hY0 : 0 < Y := by omega
  have hR : R2 = n * k % Y := by
    rw [e, Nat.mul_add_mod_self_right, Nat.mod_eq_of_lt hR2]
  have hq : q1 * b + q0 = n * k / Y := by
    rw [e, Nat.mul_comm _ Y, Nat.mul_add_div hY0, Nat.div_eq_of_lt hR2, Nat.add_zero]
  subst hY
  refine ⟨?_, ?_⟩
  · rw [hq, Nat.mul_div_mul_right _ _ hk]
  · rw [hR, Nat.mul_mod_mul_right, Nat.mul_div_cancel _ hk]

theorem whole {n y k Y U w R q1 q0 : Nat} (hk : 0 < k) (hY : Y = y * k) (hn : n * k = U * 18446744073709551616 + w)
    (h1 : q1 * Y + R = U * 4294967296 + w / 4294967296) {R2 : Nat} (h0 : q0 * Y + R2 = R * 4294967296 + w % 4294967296) (hR2 : R2 < Y) :
    q1 * 4294967296 + q0 = n / y ∧ R2 / k = n % y :=
  whole0 hk hY (by rw [hn, Nat.div_add_mod']) h1 h0 hR2

/-- The scaled number's upper half. -/
theorem upper {hi lo y k : Nat} (hk : 0 < k) {j : Nat} (hkj : k * j = 18446744073709551616) (hlo : lo < 18446744073709551616) (hhi : hi < y) :
    (hi * 18446744073709551616 + lo) * k = (hi * k + lo / j) * 18446744073709551616 + lo * k % 18446744073709551616 ∧ hi * k + lo / j < y * k ∧ lo / j < k := by
  have hj : 0 < j := by
    rcases Nat.eq_zero_or_pos j with h | h
    · subst h; simp at hkj
    · exact h
  have h1 : lo / j < k := by
    apply Nat.div_lt_of_lt_mul; rw [Nat.mul_comm, hkj]; exact hlo
  have h2 : lo * k / 18446744073709551616 = lo / j := by
    rw [← hkj, Nat.mul_comm k j, Nat.mul_div_mul_right _ _ hk]
  refine ⟨?_, ?_, h1⟩
  · have h3 := Nat.div_add_mod (lo * k) 18446744073709551616
    rw [h2] at h3
    have h4 : (hi * 18446744073709551616 + lo) * k = hi * k * 18446744073709551616 + lo * k := by
      rw [Nat.add_mul, Nat.mul_assoc, Nat.mul_comm 18446744073709551616, ← Nat.mul_assoc]
    rw [h4]
    omega
  · have : (hi + 1) * k ≤ y * k := Nat.mul_le_mul_right _ hhi
    rw [Nat.add_mul] at this
    omega

end Go.Proofs.YtoiodfiphighgaaDoor.PDiv
