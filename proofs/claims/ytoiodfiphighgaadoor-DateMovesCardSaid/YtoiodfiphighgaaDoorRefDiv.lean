/- The reference's quotient (digit by digit) is the plain one. -/
import Derived.Test.YtoiodfiphighgaaDoorNum
import Derived.LoopTactic
namespace Go.Proofs.YtoiodfiphighgaaDoor.XRef
open Go Go.RowKit Go.Proofs Go.Proofs.YtoiodfiphighgaaDoor

theorem clamp (a : Int) (w : World) : Calls Tryd.prog 47 #[.int .i64 a] w fun e w' => e = .returned (.int .i64 (Num.clamp a)) ∧ w = w' := by
  go_enter Tryd.func47, Tryd.ntmps47
  go_wp2
  all_goals
    go_ret
    refine ⟨XNum.ri ?_, rfl⟩
    show _ = Num.clamp a
    unfold Num.clamp
    repeat' split
    all_goals omega

theorem size (a : Int) (w : World) : Calls Tryd.prog 48 #[.int .i64 (Num.clamp a)] w fun e w' => e = .returned (.int .i64 (Num.size a : Int)) ∧ w = w' := by
  have h := Num.clamp_le a
  have e : (Num.size a : Int) = if Num.clamp a < 0 then -Num.clamp a else Num.clamp a := by unfold Num.size; split <;> omega
  obtain ⟨s, es⟩ : ∃ s, Num.size a = s := ⟨_, rfl⟩
  rw [es] at e ⊢
  have HE := Lib.hid e
  clear e es
  obtain ⟨c, ec⟩ : ∃ c, Num.clamp a = c := ⟨_, rfl⟩
  rw [ec] at h HE ⊢
  clear ec
  obtain ⟨h1, h2⟩ := h
  go_enter Tryd.func48, Tryd.ntmps48
  go_wp2
  all_goals
    go_ret
    refine ⟨XNum.ri ?_, rfl⟩
    have := HE.out
    split at this <;> omega

theorem signed (n a b : Int) (hn : 0 ≤ n ∧ n ≤ 4000000000000000) (w : World) : Calls Tryd.prog 49 #[.int .i64 n, .int .i64 (Num.clamp a), .int .i64 (Num.clamp b)] w fun e w' =>
    e = .returned (.int .i64 (Num.clamp (if (!(Num.below a == Num.below b)) = true then -n else n))) ∧ w = w' := by
  obtain ⟨n1, n2⟩ := hn
  obtain ⟨p, ep⟩ : ∃ p, Num.below a = p := ⟨_, rfl⟩
  obtain ⟨q, eq⟩ : ∃ q, Num.below b = q := ⟨_, rfl⟩
  have t1 : decide (Num.clamp a < 0) = p := ep
  have t2 : decide (Num.clamp b < 0) = q := eq
  rw [ep, eq]
  clear ep eq
  generalize Num.clamp a = ca at *
  generalize Num.clamp b = cb at *
  cases p <;> cases q
  all_goals
    go_enter Tryd.func49, Tryd.ntmps49
    go_wp2_with (go_at_call 47; refine (clamp _ _).mono ?_; rintro e w' ⟨rfl, rfl⟩)
    go_ret
    exact ⟨by simp, rfl⟩

theorem rounded (q r d : Nat) (hr : r < d) (hd : (d : Int) ≤ 1000000000000000) (hq : (q : Int) ≤ 2000000000000000) (w : World) : Calls Tryd.prog 50 #[.int .i64 q, .int .i64 r, .int .i64 d] w fun e w' =>
    e = .returned (.int .i64 ((if d < 2 * r ∨ (2 * r = d ∧ q % 2 = 1) then q + 1 else q : Nat) : Int)) ∧ w = w' := by
  obtain ⟨R, eR⟩ : ∃ R, (if d < 2 * r ∨ (2 * r = d ∧ q % 2 = 1) then q + 1 else q) = R := ⟨_, rfl⟩
  rw [eR]
  have ER := Lib.hid eR
  clear eR
  have hr' : (r : Int) < (d : Int) := by omega
  by_cases c3 : (d : Int) - (r : Int) < (r : Int)
  · have c3b : decide ((d : Int) - (r : Int) < (r : Int)) = true := decide_eq_true c3
    go_enter Tryd.func50, Tryd.ntmps50
    go_wp2
    go_ret
    refine ⟨XNum.ri ?_, rfl⟩
    have e := ER.out
    rw [if_pos (.inl (by omega))] at e
    omega
  · have c3b : decide ((d : Int) - (r : Int) < (r : Int)) = false := decide_eq_false c3
    by_cases c4 : (r : Int) = (d : Int) - (r : Int)
    · have c4b : ((r : Int) == (d : Int) - (r : Int)) = true := beq_iff_eq.2 c4
      have h2 : 2 * r = d := by omega
      have H2 := Lib.hid h2
      clear c4 h2
      by_cases c5 : (q : Int) % 2 = 1
      · have c5b : ((q : Int) % 2 == 1) = true := beq_iff_eq.2 c5
        have H5 : Hid (q % 2 = 1) := Lib.hid (by omega)
        clear c5
        go_enter Tryd.func50, Tryd.ntmps50
        go_wp2
        go_ret
        refine ⟨XNum.ri ?_, rfl⟩
        have e := ER.out
        rw [if_pos (.inr ⟨H2.out, H5.out⟩)] at e
        omega
      · have c5b : ((q : Int) % 2 == 1) = false := beq_eq_false_iff_ne.2 c5
        have H5 : Hid (¬ q % 2 = 1) := Lib.hid (by omega)
        clear c5
        go_enter Tryd.func50, Tryd.ntmps50
        go_wp2
        go_ret
        refine ⟨XNum.ri ?_, rfl⟩
        have e := ER.out
        have h2 := H2.out
        have h5 := H5.out
        rw [if_neg (by omega)] at e
        omega
    · have c4b : ((r : Int) == (d : Int) - (r : Int)) = false := beq_eq_false_iff_ne.2 c4
      go_enter Tryd.func50, Tryd.ntmps50
      go_wp2
      go_ret
      refine ⟨XNum.ri ?_, rfl⟩
      have e := ER.out
      rw [if_neg (by omega)] at e
      omega

theorem digit {x y k : Nat} (hy : 0 < y) : 10 * (x * 10 ^ k / y) + 10 * (x * 10 ^ k % y) / y = x * 10 ^ (k + 1) / y ∧ 10 * (x * 10 ^ k % y) % y = x * 10 ^ (k + 1) % y := by
  have h := Nat.div_add_mod (x * 10 ^ k) y
  have e : x * 10 ^ (k + 1) = y * (10 * (x * 10 ^ k / y)) + 10 * (x * 10 ^ k % y) := by
    rw [Nat.pow_succ, ← Nat.mul_assoc]
    have : y * (10 * (x * 10 ^ k / y)) = 10 * (y * (x * 10 ^ k / y)) := by rw [← Nat.mul_assoc, Nat.mul_comm y 10, Nat.mul_assoc]
    omega
  rw [e]
  exact ⟨by rw [Nat.mul_add_div hy], by rw [Nat.mul_add_mod]⟩

theorem quo_bound {x y k : Nat} (hy : 0 < y) (h : x / y ≤ 1000000000) (hk : k ≤ 6) : x * 10 ^ k / y ≤ 1000001000000 * 1000 := by
  apply Nat.le_of_lt_succ
  apply Nat.div_lt_of_lt_mul
  have h1 : x < y * 1000000001 := by
    have := Nat.lt_mul_div_succ x hy
    have h2 : y * (x / y + 1) ≤ y * 1000000001 := Nat.mul_le_mul_left _ (by omega)
    omega
  have h3 : 10 ^ k ≤ 1000000 := Nat.pow_le_pow_right (n := 10) (by omega) hk
  have h4 : x * 10 ^ k ≤ x * 1000000 := Nat.mul_le_mul_left _ h3
  omega

set_option maxHeartbeats 2000000 in
set_option maxRecDepth 100000 in
theorem div (a b : Int) (w : World) : Calls Tryd.prog 36 #[.int .i64 a, .int .i64 b] w fun e w' => e = .returned (.int .i64 (Num.div a b)) ∧ w = w' := by
  obtain ⟨R, eR⟩ : ∃ R, Num.div a b = R := ⟨_, rfl⟩
  rw [eR]
  have ER := Lib.hid eR
  clear eR
  have hxb := Num.size_le a
  have hyb := Num.size_le b
  by_cases h0 : Num.clamp b = 0
  · have t0 : (Num.clamp b == 0) = true := beq_iff_eq.2 h0
    have hs : Num.size b = 0 := by unfold Num.size; omega
    have HR : Hid (R = 0) := Lib.hid (by rw [← ER.out]; unfold Num.div; rw [if_pos hs])
    clear hs h0
    go_enter Tryd.func36, Tryd.ntmps36
    go_wp2_with (go_at_call 47; refine (clamp _ _).mono ?_; rintro e w' ⟨rfl, rfl⟩)
    go_ret
    exact ⟨by rw [HR.out]; simp, rfl⟩
  · have t0 : (Num.clamp b == 0) = false := beq_eq_false_iff_ne.2 h0
    have hs : Num.size b ≠ 0 := by unfold Num.size; omega
    have hx := fun w => size a w
    have hy := fun w => size b w
    have hdef : Num.div a b = Num.sgn (!(Num.below a == Num.below b)) (Num.rnd (Num.size a) 1000000 (Num.size b)) := by unfold Num.div; rw [if_neg hs]
    obtain ⟨x, ex⟩ : ∃ x, Num.size a = x := ⟨_, rfl⟩
    obtain ⟨y, ey⟩ : ∃ y, Num.size b = y := ⟨_, rfl⟩
    rw [ex] at hx hxb hdef
    rw [ey] at hy hyb hs hdef
    have hy0 : 0 < y := by omega
    obtain ⟨q0, eq0⟩ : ∃ q0, x / y = q0 := ⟨_, rfl⟩
    obtain ⟨r0, er0⟩ : ∃ r0, x % y = r0 := ⟨_, rfl⟩
    have hq0 : (x : Int) / (y : Int) = (q0 : Int) := by rw [← Int.natCast_ediv, eq0]
    have hr0 : (x : Int) % (y : Int) = (r0 : Int) := by rw [← Int.natCast_emod, er0]
    have hq1 : (q0 : Int) ≤ 1000000000000000 := by
      have := Nat.div_le_self x y
      omega
    have hb1 : (x : Int) ≤ 1000000000000000 := by omega
    have hb2 : (y : Int) ≤ 1000000000000000 := by omega
    have hb3 : 1 ≤ (y : Int) := by omega
    have HX := Lib.hid hx; have HY := Lib.hid hy; have HQ := Lib.hid eq0; have HR0 := Lib.hid er0
    obtain ⟨s, es⟩ : ∃ s, (!(Num.below a == Num.below b)) = s := ⟨_, rfl⟩
    have hsig : ∀ (n : Int), 0 ≤ n ∧ n ≤ 4000000000000000 → ∃ z, Hid (z = Num.clamp (if s = true then -n else n)) ∧ ∀ w, Calls Tryd.prog 49 #[.int .i64 n, .int .i64 (Num.clamp a), .int .i64 (Num.clamp b)] w fun e w' => e = .returned (.int .i64 z) ∧ w = w' := by
      intro n hn
      refine ⟨_, Lib.hid rfl, fun w => ?_⟩
      rw [← es]
      exact signed n a b hn w
    have HS := Lib.hid hsig
    have HD : Hid (R = Num.sgn s (Num.rnd x 1000000 y)) := Lib.hid (by rw [← ER.out, hdef, es])
    have HY0 := Lib.hid hy0
    clear hx hy hdef ex ey hxb hyb hs h0 ER es hsig
    by_cases c1 : (1000000000 : Int) < (q0 : Int)
    · have t1 : decide ((1000000000 : Int) < (q0 : Int)) = true := decide_eq_true c1
      have HM : Hid (Num.rnd x 1000000 y = 1000000000000000) := Lib.hid (by
        unfold Num.rnd
        have h1 : 1000000000000000 ≤ x * 1000000 / y := by
          rw [Nat.le_div_iff_mul_le HY0.out]
          have h2 := Nat.mul_div_le x y
          have h3 : y * 1000000001 ≤ y * (x / y) := Nat.mul_le_mul_left _ (by rw [HQ.out]; omega)
          omega
        rw [if_neg (by omega)])
      clear eq0 er0 hy0
      go_enter Tryd.func36, Tryd.ntmps36
      go_wp2_with fail
      refine (clamp _ _).mono ?_
      rintro e w' ⟨rfl, rfl⟩
      go_wp2_with fail
      refine (clamp _ _).mono ?_
      rintro e w' ⟨rfl, rfl⟩
      go_wp2_with fail
      refine (HX.out _).mono ?_
      rintro e w' ⟨rfl, rfl⟩
      go_wp2_with fail
      refine (HY.out _).mono ?_
      rintro e w' ⟨rfl, rfl⟩
      go_wp2_with fail
      obtain ⟨z, HZ, hz⟩ := HS.out 1000000000000000 (by omega)
      refine (hz _).mono ?_
      rintro e w' ⟨rfl, rfl⟩
      go_wp2_with fail
      go_ret
      refine ⟨?_, rfl⟩
      rw [HD.out, HM.out]
      refine XNum.ri ?_
      rw [HZ.out]
      cases s <;> rfl
    · have t1 : decide ((1000000000 : Int) < (q0 : Int)) = false := decide_eq_false c1
      clear eq0 er0 hy0
      go_enter Tryd.func36, Tryd.ntmps36
      go_wp2_with fail
      refine (clamp _ _).mono ?_
      rintro e w' ⟨rfl, rfl⟩
      go_wp2_with fail
      refine (clamp _ _).mono ?_
      rintro e w' ⟨rfl, rfl⟩
      go_wp2_with fail
      refine (HX.out _).mono ?_
      rintro e w' ⟨rfl, rfl⟩
      go_wp2_with fail
      refine (HY.out _).mono ?_
      rintro e w' ⟨rfl, rfl⟩
      go_wp2_with fail
      go_loop [7, 8, 9] (fun q r i => ∃ k Q r' : Nat, k ≤ 6 ∧ i = .int .i64 (k : Int) ∧ q = .int .i64 (Q : Int) ∧ r = .int .i64 (r' : Int) ∧ Hid (x * 10 ^ k / y = Q) ∧ Hid (x * 10 ^ k % y = r')) (fun _ _ i => 6 - (intOf i).toNat)
      case atStart => exact ⟨0, q0, r0, by omega, rfl, rfl, by rw [hr0], Lib.hid (by simpa using HQ.out), Lib.hid (by simpa using HR0.out)⟩
      case round =>
        obtain ⟨k, Q, r, hk, rfl, rfl, rfl, H1, H2⟩ := hrel
        have hQ := quo_bound (k := k) HY0.out (x := x) (by rw [HQ.out]; omega) hk
        rw [H1.out] at hQ
        have hr : r < y := by rw [← H2.out]; exact Nat.mod_lt _ HY0.out
        have hQi : (Q : Int) ≤ 1000001000000000 := by omega
        have hri : (r : Int) < (y : Int) := by omega
        by_cases hlt : k < 6
        · obtain ⟨d1, d2⟩ := digit (x := x) (k := k) HY0.out
          rw [H1.out, H2.out] at d1
          rw [H2.out] at d2
          obtain ⟨t, et⟩ : ∃ t, 10 * r / y = t := ⟨_, rfl⟩
          obtain ⟨r', er'⟩ : ∃ r', 10 * r % y = r' := ⟨_, rfl⟩
          have e1 : 10 * (r : Int) / (y : Int) = (t : Int) := by rw [← et]; simp
          have e2 : 10 * (r : Int) % (y : Int) = (r' : Int) := by rw [← er']; simp
          have ht : t ≤ 10 := by
            rw [← et]
            apply Nat.le_of_lt_succ
            apply Nat.div_lt_of_lt_mul
            omega
          rw [et] at d1
          rw [er'] at d2
          have D1 := Lib.hid d1; have D2 := Lib.hid d2
          have hQ2 : (Q : Int) ≤ 1000001000000000 := hQi
          clear d1 d2 et er' hQ hr hq0 hr0
          go_wp2
          go_round
          case rel => exact ⟨k + 1, 10 * Q + t, r', by omega, by go_num, by go_num, by rw [e2], Lib.hid D1.out.symm, Lib.hid D2.out.symm⟩
          case measure => simp [intOf]; omega
        · obtain rfl : k = 6 := by omega
          have HF := Lib.hid hQ
          have hrr := Lib.hid hr
          clear hQ hr hq0 hr0 hlt
          go_wp2_with fail
          refine (rounded Q r y hrr.out hb2 (by omega) _).mono ?_
          rintro e w' ⟨rfl, rfl⟩
          obtain ⟨R2, eR2⟩ : ∃ R2, (if y < 2 * r ∨ (2 * r = y ∧ Q % 2 = 1) then Q + 1 else Q) = R2 := ⟨_, rfl⟩
          have hR2 : R2 ≤ Q + 1 ∧ Q ≤ R2 := by rw [← eR2]; split <;> omega
          have hR3 : (R2 : Int) ≤ 4000000000000000 := by omega
          have EF : Hid (Num.clamp (R2 : Int) = ((Num.rnd x 1000000 y : Nat) : Int)) := Lib.hid (by
            have h6 : x * 10 ^ 6 = x * 1000000 := rfl
            have e1 := H1.out
            have e2 := H2.out
            rw [h6] at e1 e2
            unfold Num.rnd
            rw [e1, e2, eR2]
            split
            · rw [Num.clamp_self (by omega)]
            · unfold Num.clamp; repeat' split
              all_goals omega)
          rw [eR2]
          clear hR2 eR2
          go_wp2_with fail
          obtain ⟨z, HZ, hz⟩ := HS.out (R2 : Int) (by omega)
          refine (hz _).mono ?_
          rintro e w' ⟨rfl, rfl⟩
          go_wp2_with fail
          go_ret
          refine ⟨?_, rfl⟩
          rw [HD.out]
          have hcn : Num.clamp (-(R2 : Int)) = -Num.clamp (R2 : Int) := by
            unfold Num.clamp
            repeat' split
            all_goals omega
          have ef := EF.out
          clear EF
          refine XNum.ri ?_
          rw [HZ.out]
          cases s <;> simp [Num.sgn, hcn, ef]
end Go.Proofs.YtoiodfiphighgaaDoor.XRef
