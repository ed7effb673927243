/- The walks of layer 1's two statements: NumNear and NumTurns answer true. -/
import Derived.Test.YtoiodfiphighgaaDoorShow1
import Derived.Test.YtoiodfiphighgaaDoorPNear
namespace Go.Proofs.YtoiodfiphighgaaDoor.XLawNum
open Go Go.RowKit Go.Proofs Go.Proofs.YtoiodfiphighgaaDoor

set_option maxRecDepth 100000 in
set_option maxHeartbeats 2000000 in
theorem numTurns (a b : Int) (w : World) : Calls Tryd.prog 4 #[.int .i64 a, .int .i64 b] w fun e w' => e = .returned (.bool true) ∧ Below w.heap.size w w' := by
  have e1 : (Num.add a b == Num.add b a) = true := beq_iff_eq.2 (Num.add_comm _ _)
  have e2 : (Num.mul a b == Num.mul b a) = true := beq_iff_eq.2 (Num.mul_comm _ _)
  have e3 : (Num.mul a 1000000 == Num.clamp a) = true := beq_iff_eq.2 (Num.mul_one _)
  have e4 : (Num.div a 1000000 == Num.clamp a) = true := beq_iff_eq.2 (Num.div_one _)
  have e5 : (Num.neg (Num.neg a) == Num.clamp a) = true := beq_iff_eq.2 (Num.neg_neg _)
  have e6 : (Num.sub a a == 0) = true := beq_iff_eq.2 (Num.sub_self _)
  have e7 : (Num.mul a (Num.neg b) == Num.neg (Num.mul a b)) = true := beq_iff_eq.2 (Num.mul_neg _ _)
  have e8 : (Num.add a 0 == Num.clamp a) = true := beq_iff_eq.2 (Num.add_zero _)
  have e9 : (Num.mul a 0 == 0) = true := beq_iff_eq.2 (Num.mul_zero _)
  have e10 : (Num.div a 0 == 0) = true := beq_iff_eq.2 (Num.div_zero _)
  go_enter Tryd.func4, Tryd.ntmps4
  go_wp2_with (first
    | (go_at_call 7; refine (XShow1.shown _).mono ?_; rintro e w1 ⟨rfl, hb⟩)
    | (go_at_call 9; refine (XNum.clamp _ _).mono ?_; rintro e w' ⟨rfl, rfl⟩)
    | (go_at_call 10; refine (XNum.add _ _ _).mono ?_; rintro e w' ⟨rfl, rfl⟩)
    | (go_at_call 13; refine (XNum.sub _ _ _).mono ?_; rintro e w' ⟨rfl, rfl⟩)
    | (go_at_call 12; refine (XNum.neg _ _).mono ?_; rintro e w' ⟨rfl, rfl⟩)
    | (go_at_call 11; refine (XNum.mul _ _ _).mono ?_; rintro e w' ⟨rfl, n, rfl⟩)
    | (go_at_call 8; refine (XNum.div _ _ _).mono ?_; rintro e w' ⟨rfl, n, rfl⟩))
  go_ret
  exact ⟨by simp, belowN hb _⟩

theorem numNearOut (a b : Int) (h : a < -1000000000 ∨ 1000000000 < a ∨ b < 1000 ∨ 1000000000 < b) (w : World) : Calls Tryd.prog 3 #[.int .i64 a, .int .i64 b] w fun e w' => e = .returned (.bool true) ∧ Below w.heap.size w w' := by
  by_cases c1 : a < -1000000000
  · clear h
    have c1b : decide (a < -1000000000) = true := decide_eq_true c1
    go_enter Tryd.func3, Tryd.ntmps3
    go_wp2_with (go_at_call 7; refine (XShow1.shown _).mono ?_; rintro e w1 ⟨rfl, hb⟩)
    go_ret
    exact ⟨by simp, hb⟩
  · have c1b : decide (a < -1000000000) = false := decide_eq_false c1
    by_cases c2 : 1000000000 < a
    · clear h
      have c2b : decide (1000000000 < a) = true := decide_eq_true c2
      go_enter Tryd.func3, Tryd.ntmps3
      go_wp2_with (go_at_call 7; refine (XShow1.shown _).mono ?_; rintro e w1 ⟨rfl, hb⟩)
      go_ret
      exact ⟨by simp, hb⟩
    · have c2b : decide (1000000000 < a) = false := decide_eq_false c2
      by_cases c3 : b < 1000
      · clear h
        have c3b : decide (b < 1000) = true := decide_eq_true c3
        go_enter Tryd.func3, Tryd.ntmps3
        go_wp2_with (go_at_call 7; refine (XShow1.shown _).mono ?_; rintro e w1 ⟨rfl, hb⟩)
        go_ret
        exact ⟨by simp, hb⟩
      · have c3b : decide (b < 1000) = false := decide_eq_false c3
        have c4 : 1000000000 < b := by omega
        have c4b : decide (1000000000 < b) = true := decide_eq_true c4
        clear h
        go_enter Tryd.func3, Tryd.ntmps3
        go_wp2_with (go_at_call 7; refine (XShow1.shown _).mono ?_; rintro e w1 ⟨rfl, hb⟩)
        go_ret
        exact ⟨by simp, hb⟩

theorem divq (a b q : Int) (h : Num.div a b = q) (w : World) : Calls Tryd.prog 8 #[.int .i64 a, .int .i64 b] w fun e w' => e = .returned (.int .i64 q) ∧ Dr w w' := h ▸ XNum.div a b w

set_option maxHeartbeats 1000000 in
theorem numNearIn (a b : Int) (ha : -1000000000 ≤ a) (ha2 : a ≤ 1000000000) (hb : 1000 ≤ b) (hb2 : b ≤ 1000000000) (w : World) : Calls Tryd.prog 3 #[.int .i64 a, .int .i64 b] w fun e w' => e = .returned (.bool true) ∧ Below w.heap.size w w' := by
  obtain ⟨n1, n2, n3, n4⟩ := Num.near a b ha ha2 hb hb2
  obtain ⟨q, hq⟩ : ∃ q, Num.div a b = q := ⟨_, rfl⟩
  rw [hq] at n1 n2 n3 n4
  have HQ := Lib.hid hq
  clear hq
  obtain ⟨T, hT⟩ : ∃ T, q.tdiv 1000000 = T := ⟨_, rfl⟩
  obtain ⟨M, hM⟩ : ∃ M, q.tmod 1000000 = M := ⟨_, rfl⟩
  obtain ⟨p1, p2, p3, p4, p5, p6⟩ := Num.near_parts a b q T M hb hT hM n3 n4
  clear n3 n4
  have tb : -1000000 ≤ T ∧ T ≤ 1000000 := by
    have h1 := Int.tdiv_mul_add_tmod q 1000000
    have h2 := Int.tmod_lt_of_pos q (show (0:Int) < 1000000 by omega)
    have h3 := Int.lt_tmod_of_pos q (show (0:Int) < 1000000 by omega)
    rw [hT] at h1
    omega
  obtain ⟨tb1, tb2⟩ := tb
  obtain ⟨P1, eP1⟩ : ∃ P1, P1 = T * b := ⟨_, rfl⟩
  obtain ⟨P2, eP2⟩ : ∃ P2, P2 = M * b := ⟨_, rfl⟩
  rw [← eP1] at p1 p2 p5 p6
  rw [← eP2] at p3 p4 p5 p6
  have hw1 : IntKind.i64.wrap (T * b) = P1 := by rw [← eP1]; exact IntWalk.i64_in _ (by omega)
  have hw2 : IntKind.i64.wrap (M * b) = P2 := by rw [← eP2]; exact IntWalk.i64_in _ (by omega)
  clear eP1 eP2
  have c1b : decide (a < -1000000000) = false := decide_eq_false (by omega)
  have c2b : decide (1000000000 < a) = false := decide_eq_false (by omega)
  have c3b : decide (b < 1000) = false := decide_eq_false (by omega)
  have c4b : decide (1000000000 < b) = false := decide_eq_false (by omega)
  have c5b : decide (1000000000000 < q) = false := decide_eq_false (by omega)
  have c6b : decide (q < -1000000000000) = false := decide_eq_false (by omega)
  have c7b : decide (2 * b < P1 - a) = false := decide_eq_false (by omega)
  have c8b : decide (P1 - a < -2 * b) = false := decide_eq_false (by omega)
  have c9b : decide (2 * ((P1 - a) * 1000000 + P2) ≤ b) = true := decide_eq_true p5
  have c10b : decide (-b ≤ 2 * ((P1 - a) * 1000000 + P2)) = true := decide_eq_true p6
  go_enter Tryd.func3, Tryd.ntmps3
  go_wp2_with (first
    | (go_at_call 7; refine (XShow1.shown _).mono ?_; rintro e w1 ⟨rfl, hb⟩)
    | (go_at_call 8; refine (divq _ _ q HQ.out _).mono ?_; rintro e w' ⟨rfl, n, rfl⟩))
  go_ret
  exact ⟨by simp, belowN (by assumption) _⟩

theorem numNear (a b : Int) (w : World) : Calls Tryd.prog 3 #[.int .i64 a, .int .i64 b] w fun e w' => e = .returned (.bool true) ∧ Below w.heap.size w w' := by
  by_cases h : a < -1000000000 ∨ 1000000000 < a ∨ b < 1000 ∨ 1000000000 < b
  · exact numNearOut a b h w
  · exact numNearIn a b (by omega) (by omega) (by omega) (by omega) w
end Go.Proofs.YtoiodfiphighgaaDoor.XLawNum
