/- The Go functions of layer 1 (num) answer what the plain ones say. -/
import Derived.Test.YtoiodfiphighgaaDoorBase
import Derived.Test.YtoiodfiphighgaaDoorPNum
import Derived.Test.YtoiodfiphighgaaDoorDivB
namespace Go.Proofs.YtoiodfiphighgaaDoor.XNum
open Go Go.RowKit Go.Proofs Go.Proofs.YtoiodfiphighgaaDoor
attribute [local go_sem] max2i min2i maxTwo minTwo

theorem ri {k : IntKind} {a b : Int} (h : a = b) : Ending.returned (.int k a) = .returned (.int k b) := by rw [h]

theorem clamp (a : Int) (w : World) : Calls Tryd.prog 9 #[.int .i64 a] w fun e w' => e = .returned (.int .i64 (Num.clamp a)) ∧ w = w' := by
  go_enter Tryd.func9, Tryd.ntmps9
  go_wp2
  all_goals
    go_ret
    refine ⟨ri ?_, rfl⟩
    show _ = Num.clamp a
    unfold Num.clamp
    repeat' split
    all_goals omega

theorem neg (a : Int) (w : World) : Calls Tryd.prog 12 #[.int .i64 a] w fun e w' => e = .returned (.int .i64 (Num.neg a)) ∧ w = w' := by
  have ha := Num.clamp_le a
  go_enter Tryd.func12, Tryd.ntmps12
  go_wp2_with (go_at_call 9; refine (clamp _ _).mono ?_; rintro e w' ⟨rfl, rfl⟩)
  go_ret
  exact ⟨by simp [Num.neg], rfl⟩

theorem split (a : Int) (w : World) : Calls Tryd.prog 25 #[.int .i64 a] w fun e w' => e = .returned (.tuple #[.int .u64 (Num.size a : Int), .bool (Num.below a)]) ∧ w = w' := by
  have ha := Num.clamp_le a
  by_cases h : Num.clamp a < 0
  · go_enter Tryd.func25, Tryd.ntmps25
    go_wp2_with (go_at_call 9; refine (clamp _ _).mono ?_; rintro e w' ⟨rfl, rfl⟩)
    go_ret2
    have e1 : ((Num.size a : Nat) : Int) = -Num.clamp a := by unfold Num.size; omega
    exact ⟨by simp [Num.below, h, e1], rfl⟩
  · go_enter Tryd.func25, Tryd.ntmps25
    go_wp2_with (go_at_call 9; refine (clamp _ _).mono ?_; rintro e w' ⟨rfl, rfl⟩)
    go_ret2
    have e1 : ((Num.size a : Nat) : Int) = Num.clamp a := by unfold Num.size; omega
    have h' : 0 ≤ Num.clamp a := by omega
    exact ⟨by simp [Num.below, h', e1], rfl⟩

theorem div64q (hi lo d q r : Nat) (hlt : hi < d) (hlo : lo < 18446744073709551616) (hd : d < 18446744073709551616)
    (hq : (hi * 18446744073709551616 + lo) / d = q) (hr : (hi * 18446744073709551616 + lo) % d = r) (w : World) :
    Calls Tryd.prog 42 #[.int .u64 hi, .int .u64 lo, .int .u64 d] w fun e w' => e = .returned (.tuple #[.int .u64 (q : Int), .int .u64 (r : Int)]) ∧ Dr w w' := by
  refine (XDiv.div64 hi lo d hlt hlo hd w).mono ?_
  rintro e w' ⟨rfl, n, rfl⟩
  rw [hq, hr]
  exact ⟨rfl, ⟨_, rfl⟩⟩

theorem mul64q (x y hi lo : Nat) (hx : x < 18446744073709551616) (hy : y < 18446744073709551616) (hhi : x * y / 18446744073709551616 = hi) (hlo : x * y % 18446744073709551616 = lo) (w : World) :
    Calls Tryd.prog 41 #[.int .u64 x, .int .u64 y] w fun e w' => e = .returned (.tuple #[.int .u64 (hi : Int), .int .u64 (lo : Int)]) ∧ w = w' := by
  refine (Tryd.bits_Mul64 x y hx hy w).mono ?_
  rintro e w' ⟨rfl, rfl⟩
  rw [hhi, hlo]
  exact ⟨rfl, rfl⟩

theorem scaled (x y d : Nat) (b : Bool) (hx : x < 18446744073709551616) (hy : y < 18446744073709551616) (hd0 : 0 < d) (hd : d < 18446744073709551616) (w : World) :
    Calls Tryd.prog 26 #[.int .u64 x, .int .u64 y, .int .u64 d, .bool b] w fun e w' => e = .returned (.int .i64 (Num.sgn b (Num.rnd x y d))) ∧ Dr w w' := by
  obtain ⟨hi, hhi⟩ : ∃ hi, x * y / 18446744073709551616 = hi := ⟨_, rfl⟩
  obtain ⟨lo, hlo⟩ : ∃ lo, x * y % 18446744073709551616 = lo := ⟨_, rfl⟩
  have hlo2 : lo < 18446744073709551616 := by omega
  have hxy : hi * 18446744073709551616 + lo = x * y := by omega
  obtain ⟨q, hq⟩ : ∃ q, x * y / d = q := ⟨_, rfl⟩
  obtain ⟨r, hr⟩ : ∃ r, x * y % d = r := ⟨_, rfl⟩
  have hr2 : r < d := by rw [← hr]; exact Nat.mod_lt _ hd0
  have HX := Lib.hid hx; have HY := Lib.hid hy; have HD := Lib.hid hd; have HLO := Lib.hid hlo2
  have Hhi := Lib.hid hhi; have Hlo := Lib.hid hlo
  have Hq : Hid ((hi * 18446744073709551616 + lo) / d = q) := Lib.hid (by rw [hxy]; exact hq)
  have Hr : Hid ((hi * 18446744073709551616 + lo) % d = r) := Lib.hid (by rw [hxy]; exact hr)
  have hrnd : Num.rnd x y d = if q < 1000000000000000 then (if d < 2 * r ∨ (2 * r = d ∧ q % 2 = 1) then q + 1 else q) else 1000000000000000 := by
    unfold Num.rnd; rw [hq, hr]
  have Hrnd := Lib.hid hrnd
  have hbig : d ≤ hi → 1000000000000000 ≤ q := fun h => by
    rw [← hq, Nat.le_div_iff_mul_le hd0, ← hxy]
    have := Nat.mul_le_mul_left 18446744073709551616 h
    omega
  have hbd : (d : Int) ≤ 18446744073709551615 := by omega
  clear hrnd hq hr hxy hhi hlo hx hy hd hlo2
  by_cases c1 : (hi : Int) < (d : Int)
  · have c1b : decide ((hi : Int) < (d : Int)) = true := decide_eq_true c1
    by_cases c2 : (q : Int) < 1000000000000000
    · have c2b : decide ((q : Int) < 1000000000000000) = true := decide_eq_true c2
      have key : ∀ n : Nat, (n : Int) ≤ 1000000000000000 → Num.rnd x y d = n → True := fun _ _ _ => trivial
      clear hbig key
      by_cases c3 : (d : Int) - (r : Int) < (r : Int)
      · have c3b : decide ((d : Int) - (r : Int) < (r : Int)) = true := decide_eq_true c3
        have hn : Hid (Num.rnd x y d = q + 1) := Lib.hid (by rw [Hrnd.out, if_pos (by omega), if_pos (.inl (by omega))])
        cases b
        all_goals
          go_enter Tryd.func26, Tryd.ntmps26
          go_wp2_with (first | (go_at_call 41; refine (mul64q _ _ hi lo HX.out HY.out Hhi.out Hlo.out _).mono ?_; rintro e w' ⟨rfl, rfl⟩) | (go_at_call 42; refine (div64q _ _ _ q r (by omega) HLO.out HD.out Hq.out Hr.out _).mono ?_; rintro e w' ⟨rfl, n, rfl⟩))
          go_ret
          exact ⟨by rw [hn.out]; simp [Num.sgn], ⟨_, rfl⟩⟩
      · have c3b : decide ((d : Int) - (r : Int) < (r : Int)) = false := decide_eq_false c3
        by_cases c4 : (r : Int) = (d : Int) - (r : Int)
        · have c4b : ((r : Int) == (d : Int) - (r : Int)) = true := beq_iff_eq.2 c4
          clear c4
          by_cases c5 : (q : Int) % 2 = 1
          · have c5b : ((q : Int) % 2 == 1) = true := beq_iff_eq.2 c5
            have hn : Hid (Num.rnd x y d = q + 1) := Lib.hid (by rw [Hrnd.out, if_pos (by omega), if_pos (.inr ⟨by rw [beq_iff_eq] at c4b; omega, by omega⟩)])
            clear c5
            cases b
            all_goals
              go_enter Tryd.func26, Tryd.ntmps26
              go_wp2_with (first | (go_at_call 41; refine (mul64q _ _ hi lo HX.out HY.out Hhi.out Hlo.out _).mono ?_; rintro e w' ⟨rfl, rfl⟩) | (go_at_call 42; refine (div64q _ _ _ q r (by omega) HLO.out HD.out Hq.out Hr.out _).mono ?_; rintro e w' ⟨rfl, n, rfl⟩))
              go_ret
              exact ⟨by rw [hn.out]; simp [Num.sgn], ⟨_, rfl⟩⟩
          · have c5b : ((q : Int) % 2 == 1) = false := beq_eq_false_iff_ne.2 c5
            have hn : Hid (Num.rnd x y d = q) := Lib.hid (by rw [Hrnd.out, if_pos (by omega), if_neg (by omega)])
            clear c5
            cases b
            all_goals
              go_enter Tryd.func26, Tryd.ntmps26
              go_wp2_with (first | (go_at_call 41; refine (mul64q _ _ hi lo HX.out HY.out Hhi.out Hlo.out _).mono ?_; rintro e w' ⟨rfl, rfl⟩) | (go_at_call 42; refine (div64q _ _ _ q r (by omega) HLO.out HD.out Hq.out Hr.out _).mono ?_; rintro e w' ⟨rfl, n, rfl⟩))
              go_ret
              exact ⟨by rw [hn.out]; simp [Num.sgn], ⟨_, rfl⟩⟩
        · have c4b : ((r : Int) == (d : Int) - (r : Int)) = false := beq_eq_false_iff_ne.2 c4
          have hn : Hid (Num.rnd x y d = q) := Lib.hid (by rw [Hrnd.out, if_pos (by omega), if_neg (by omega)])
          clear c4
          cases b
          all_goals
            go_enter Tryd.func26, Tryd.ntmps26
            go_wp2_with (first | (go_at_call 41; refine (mul64q _ _ hi lo HX.out HY.out Hhi.out Hlo.out _).mono ?_; rintro e w' ⟨rfl, rfl⟩) | (go_at_call 42; refine (div64q _ _ _ q r (by omega) HLO.out HD.out Hq.out Hr.out _).mono ?_; rintro e w' ⟨rfl, n, rfl⟩))
            go_ret
            exact ⟨by rw [hn.out]; simp [Num.sgn], ⟨_, rfl⟩⟩
    · have c2b : decide ((q : Int) < 1000000000000000) = false := decide_eq_false c2
      have hn : Hid (Num.rnd x y d = 1000000000000000) := Lib.hid (by rw [Hrnd.out, if_neg (by omega)])
      clear hbig
      cases b
      all_goals
        go_enter Tryd.func26, Tryd.ntmps26
        go_wp2_with (first | (go_at_call 41; refine (mul64q _ _ hi lo HX.out HY.out Hhi.out Hlo.out _).mono ?_; rintro e w' ⟨rfl, rfl⟩) | (go_at_call 42; refine (div64q _ _ _ q r (by omega) HLO.out HD.out Hq.out Hr.out _).mono ?_; rintro e w' ⟨rfl, n, rfl⟩))
        go_ret
        exact ⟨by rw [hn.out]; simp [Num.sgn], ⟨_, rfl⟩⟩
  · have c1b : decide ((hi : Int) < (d : Int)) = false := decide_eq_false c1
    have hb := hbig (by omega)
    have hn : Hid (Num.rnd x y d = 1000000000000000) := Lib.hid (by rw [Hrnd.out, if_neg (by omega)])
    clear hbig hb
    cases b
    all_goals
      go_enter Tryd.func26, Tryd.ntmps26
      go_wp2_with (go_at_call 41; refine (mul64q _ _ hi lo HX.out HY.out Hhi.out Hlo.out _).mono ?_; rintro e w' ⟨rfl, rfl⟩)
      go_ret
      exact ⟨by rw [hn.out]; simp [Num.sgn], ⟨0, rfl⟩⟩

theorem mul (a b : Int) (w : World) : Calls Tryd.prog 11 #[.int .i64 a, .int .i64 b] w fun e w' => e = .returned (.int .i64 (Num.mul a b)) ∧ Dr w w' := by
  have h1 := Num.size_le a
  have h2 := Num.size_le b
  have H1 : Hid (Num.size a < 18446744073709551616) := Lib.hid (by omega)
  have H2 : Hid (Num.size b < 18446744073709551616) := Lib.hid (by omega)
  clear h1 h2
  go_enter Tryd.func11, Tryd.ntmps11
  go_wp2_with (first | (go_at_call 25; refine (split _ _).mono ?_; rintro e w' ⟨rfl, rfl⟩) | (go_at_call 26; refine (scaled _ _ 1000000 _ H1.out H2.out (by omega) (by omega) _).mono ?_; rintro e w' ⟨rfl, n, rfl⟩))
  go_ret
  exact ⟨by simp [Num.mul], ⟨_, rfl⟩⟩

theorem div (a b : Int) (w : World) : Calls Tryd.prog 8 #[.int .i64 a, .int .i64 b] w fun e w' => e = .returned (.int .i64 (Num.div a b)) ∧ Dr w w' := by
  have h1 := Num.size_le a
  have h2 := Num.size_le b
  have H1 : Hid (Num.size a < 18446744073709551616) := Lib.hid (by omega)
  have H2 : Hid (Num.size b < 18446744073709551616) := Lib.hid (by omega)
  clear h1 h2
  by_cases h0 : Num.size b = 0
  · have hb : (((Num.size b : Nat) : Int) == 0) = true := beq_iff_eq.2 (by omega)
    have hn : Hid (Num.div a b = 0) := Lib.hid (by unfold Num.div; rw [if_pos h0])
    clear h0
    go_enter Tryd.func8, Tryd.ntmps8
    go_wp2_with (go_at_call 25; refine (split _ _).mono ?_; rintro e w' ⟨rfl, rfl⟩)
    go_ret
    exact ⟨by rw [hn.out]; simp, ⟨0, rfl⟩⟩
  · have hb : (((Num.size b : Nat) : Int) == 0) = false := beq_eq_false_iff_ne.2 (by omega)
    have hn : Hid (Num.div a b = Num.sgn (!(Num.below a == Num.below b)) (Num.rnd (Num.size a) 1000000 (Num.size b))) := Lib.hid (by unfold Num.div; rw [if_neg h0])
    go_enter Tryd.func8, Tryd.ntmps8
    go_wp2_with (first | (go_at_call 25; refine (split _ _).mono ?_; rintro e w' ⟨rfl, rfl⟩) | (go_at_call 26; refine (scaled _ 1000000 _ _ H1.out (by omega) (by omega) H2.out _).mono ?_; rintro e w' ⟨rfl, n, rfl⟩))
    go_ret
    exact ⟨by rw [hn.out]; simp, ⟨_, rfl⟩⟩
end Go.Proofs.YtoiodfiphighgaaDoor.XNum
