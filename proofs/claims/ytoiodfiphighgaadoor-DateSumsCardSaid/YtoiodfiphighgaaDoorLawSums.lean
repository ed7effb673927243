/- The walk of DateSums: it answers true. -/
import Derived.Test.YtoiodfiphighgaaDoorShow3
import Derived.Test.YtoiodfiphighgaaDoorPSums
namespace Go.Proofs.YtoiodfiphighgaaDoor.XLawSums
open Go Go.RowKit Go.Proofs Go.Proofs.YtoiodfiphighgaaDoor

set_option maxRecDepth 100000 in
set_option maxHeartbeats 2000000 in
theorem out (day a b : Int) (w : World) (ht : Hid (XShow3.Tab w.heap.size w)) (wa : -9223372036854775808 ≤ a ∧ a ≤ 9223372036854775807) (wd : -9223372036854775808 ≤ day ∧ day ≤ 9223372036854775807)
    (h : day < 0 ∨ 73048 < day ∨ a < -100000 ∨ 100000 < a ∨ b < -100000 ∨ 100000 < b ∨ day + a < 0 ∨ 73048 < day + a) :
    Calls Tryd.prog 6 #[.int .i64 day, .int .i64 a, .int .i64 b] w fun e w' => e = .returned (.bool true) ∧ Below w.heap.size w w' := by
  obtain ⟨wa1, wa2⟩ := wa
  obtain ⟨wd1, wd2⟩ := wd
  go_enter Tryd.func6, Tryd.ntmps6
  go_wp2_with (go_at_call 14; refine (XShow3.shown _ ht.out).mono ?_; rintro e w1 ⟨rfl, hb⟩)
  all_goals go_ret
  all_goals exact ⟨by simp, hb⟩

theorem plusC (a n r : Int) (h : Date.plus a n = r) (w : World) : Calls Tryd.prog 15 #[.int .i64 a, .int .i64 n] w fun e w' => e = .returned (.int .i64 r) ∧ w = w' := h ▸ XDate.plus a n w
theorem monthsC (a y m d n r : Int) (hv : Date.Valid y m d) (hva : Date.num y m d = a) (ha : 0 ≤ a ∧ a ≤ 73048) (hr : Date.monthsOf y m d n = r) (w : World) :
    Calls Tryd.prog 17 #[.int .i64 a, .int .i64 n] w fun e w' => e = .returned (.int .i64 r) ∧ Below w.heap.size w w' :=
  hr ▸ XDate.months a y m d n hv (by rw [hva, Date.clamp_self ha]) w
theorem years30C (a b y m d z n e r : Int) (hv : Date.Valid y m d) (hva : Date.num y m d = a) (ha : 0 ≤ a ∧ a ≤ 73048) (hw : Date.Valid z n e) (hwb : Date.num z n e = b) (hb : 0 ≤ b ∧ b ≤ 73048) (hr : Date.years30 y m d z n e = r) (w : World) :
    Calls Tryd.prog 21 #[.int .i64 a, .int .i64 b] w fun e w' => e = .returned (.int .i64 r) ∧ Below w.heap.size w w' :=
  hr ▸ XDate.years30 a b y m d z n e hv (by rw [hva, Date.clamp_self ha]) hw (by rw [hwb, Date.clamp_self hb]) w
theorem yearsC (a b r : Int) (hr : Date.years a b = r) (w : World) : Calls Tryd.prog 19 #[.int .i64 a, .int .i64 b] w fun e w' => e = .returned (.int .i64 r) ∧ Dr w w' := hr ▸ XDate.years a b w
theorem negC (a r : Int) (hr : Num.neg a = r) (w : World) : Calls Tryd.prog 12 #[.int .i64 a] w fun e w' => e = .returned (.int .i64 r) ∧ w = w' := hr ▸ XNum.neg a w

set_option maxRecDepth 100000 in
set_option maxHeartbeats 4000000 in
/-- The walk inside the statement's bounds, over what its calls answer. -/
theorem walk (day a b mid q y m d z n c M12 p1 r1 r2 s1 s2 : Int) (w : World) (ht : Hid (XShow3.Tab w.heap.size w))
    (h1 : 0 ≤ day) (h2 : day ≤ 73048) (h3 : -100000 ≤ a) (h4 : a ≤ 100000) (h5 : -100000 ≤ b) (h6 : b ≤ 100000) (h7 : day + a = mid) (h8 : 0 ≤ mid) (h9 : mid ≤ 73048)
    (c1 : Hid (Date.plus day a = mid)) (c2 : Hid (Date.Valid y m d)) (c3 : Hid (Date.num y m d = day)) (c4 : Hid (Date.monthsOf y m d 12 = M12)) (c5 : Hid (Date.Valid z n c)) (c6 : Hid (Date.num z n c = M12))
    (c7 : Hid (Date.plus mid b = p1)) (c8 : Hid (Date.plus day (a + b) = p1)) (c9 : Hid (Date.years day mid = r1)) (c10 : Hid (Date.years mid day = r2)) (c11 : Hid (Num.neg r2 = r1))
    (c12 : ∀ w, Hid (Calls Tryd.prog 21 #[.int .i64 day, .int .i64 mid] w fun e w' => e = .returned (.int .i64 s1) ∧ Below w.heap.size w w'))
    (c13 : ∀ w, Hid (Calls Tryd.prog 21 #[.int .i64 mid, .int .i64 day] w fun e w' => e = .returned (.int .i64 s2) ∧ Below w.heap.size w w')) (c14 : Hid (Num.neg s2 = s1))
    (c15 : Hid (Date.monthsOf y m d 0 = day)) (hy1 : 1900 ≤ y) (hy2 : y ≤ 2099)
    (hq : (y = 2099 ∧ z = 2099) ∨ (y < 2099 ∧ z = y + 1 ∧ n = m ∧ c = d) ∨ (y < 2099 ∧ z = y + 1 ∧ n = m ∧ m = 2 ∧ d = 29 ∧ c = 28)) (_hq' : q = q) :
    Calls Tryd.prog 6 #[.int .i64 day, .int .i64 a, .int .i64 b] w fun e w' => e = .returned (.bool true) ∧ Below w.heap.size w w' := by
  have t1 : decide (day < 0) = false := decide_eq_false (by omega)
  have t2 : decide (73048 < day) = false := decide_eq_false (by omega)
  have t3 : decide (a < -100000) = false := decide_eq_false (by omega)
  have t4 : decide (100000 < a) = false := decide_eq_false (by omega)
  have t5 : decide (b < -100000) = false := decide_eq_false (by omega)
  have t6 : decide (100000 < b) = false := decide_eq_false (by omega)
  have t7 : decide (mid < 0) = false := decide_eq_false (by omega)
  have t8 : decide (73048 < mid) = false := decide_eq_false (by omega)
  have hM : 0 ≤ M12 ∧ M12 ≤ 73048 := by have := c5.out.range; rw [c6.out] at this; exact this
  rcases hq with ⟨rfl, rfl⟩ | ⟨hy, rfl, rfl, rfl⟩ | ⟨hy, rfl, rfl, rfl, rfl, rfl⟩
  all_goals
    first
      | have t9 : (y == 2099) = false := beq_eq_false_iff_ne.2 (by omega)
      | skip
    go_enter Tryd.func6, Tryd.ntmps6
    go_wp2_with fail
    refine (XShow3.shown w ht.out).mono ?_
    rintro e w1 ⟨rfl, hb1⟩
    go_wp2_with fail
    refine (plusC _ _ mid c1.out w1).mono ?_
    rintro e w2 ⟨rfl, rfl⟩
    go_wp2_with fail
    refine (XDate.partsC _ _ _ _ c2.out c3.out w1).mono ?_
    rintro e w3 ⟨rfl, hb3⟩
    go_wp2_with fail
    refine (monthsC _ _ _ _ 12 M12 c2.out c3.out ⟨h1, h2⟩ c4.out w3).mono ?_
    rintro e w4 ⟨rfl, hb4⟩
    go_wp2_with fail
    refine (XDate.partsC _ _ _ _ c5.out c6.out w4).mono ?_
    rintro e w5 ⟨rfl, hb5⟩
    go_wp2_with fail
    refine (plusC _ _ p1 c7.out w5).mono ?_
    rintro e w6 ⟨rfl, rfl⟩
    go_wp2_with fail
    refine (plusC _ _ p1 c8.out w5).mono ?_
    rintro e w6 ⟨rfl, rfl⟩
    go_wp2_with fail
    refine (yearsC _ _ r1 c9.out w5).mono ?_
    rintro e w6 ⟨rfl, n6, rfl⟩
    go_wp2_with fail
    refine (yearsC _ _ r2 c10.out _).mono ?_
    rintro e w7 ⟨rfl, n7, rfl⟩
    go_wp2_with fail
    refine (negC _ r1 c11.out _).mono ?_
    rintro e w8 ⟨rfl, rfl⟩
    go_wp2_with fail
    refine ((c12 _).out).mono ?_
    rintro e w9 ⟨rfl, hb9⟩
    go_wp2_with fail
    refine ((c13 w9).out).mono ?_
    rintro e w10 ⟨rfl, hb10⟩
    go_wp2_with fail
    refine (negC _ s1 c14.out w10).mono ?_
    rintro e w11 ⟨rfl, rfl⟩
    go_wp2_with fail
    refine (monthsC _ _ _ _ 0 day c2.out c3.out ⟨h1, h2⟩ c15.out w10).mono ?_
    rintro e w12 ⟨rfl, hb12⟩
    go_wp2_with fail
    go_ret
    refine ⟨by simp, ?_⟩
    have g3 := hb1.trans (hb3.mono hb1.size)
    have g4 := g3.trans (hb4.mono g3.size)
    have g5 := belowN (g4.trans (hb5.mono g4.size)) (n6 + n7)
    have g9 := g5.trans (hb9.mono g5.size)
    have g10 := g9.trans (hb10.mono g9.size)
    exact g10.trans (hb12.mono g10.size)

theorem dateSums (day a b : Int) (w : World) (ht : XShow3.Tab w.heap.size w) (wa : -9223372036854775808 ≤ a ∧ a ≤ 9223372036854775807) (wd : -9223372036854775808 ≤ day ∧ day ≤ 9223372036854775807) :
    Calls Tryd.prog 6 #[.int .i64 day, .int .i64 a, .int .i64 b] w fun e w' => e = .returned (.bool true) ∧ Below w.heap.size w w' := by
  by_cases h : day < 0 ∨ 73048 < day ∨ a < -100000 ∨ 100000 < a ∨ b < -100000 ∨ 100000 < b ∨ day + a < 0 ∨ 73048 < day + a
  · exact out day a b w (Lib.hid ht) wa wd h
  · obtain ⟨y, m, d, hv, hn⟩ := Date.exists_date day (by omega) (by omega)
    obtain ⟨y', m', d', hv', hn'⟩ := Date.exists_date (day + a) (by omega) (by omega)
    obtain ⟨z, n, c, hw, hw2, hw3⟩ := Date.months_year hv
    have e1 := Date.years_back day (day + a)
    have e2 := Date.years30_back hv hv'
    refine walk day a b (day + a) 0 y m d z n c (Date.monthsOf y m d 12) (Date.plus day (a + b)) (Date.years day (day + a)) (Date.years (day + a) day) (Date.years30 y m d y' m' d') (Date.years30 y' m' d' y m d) w (Lib.hid ht)
      (by omega) (by omega) (by omega) (by omega) (by omega) (by omega) rfl (by omega) (by omega)
      (Lib.hid (Date.plus_in (by omega) (by omega) (by omega) (by omega))) (Lib.hid hv) (Lib.hid hn) (Lib.hid rfl) (Lib.hid hw) (Lib.hid hw2)
      (Lib.hid (Date.plus_plus (by omega) (by omega) (by omega) (by omega))) (Lib.hid rfl) (Lib.hid rfl) (Lib.hid rfl) (Lib.hid e1.symm)
      (fun w => Lib.hid (years30C _ _ _ _ _ _ _ _ _ hv hn (by omega) hv' hn' (by omega) rfl w)) (fun w => Lib.hid (years30C _ _ _ _ _ _ _ _ _ hv' hn' (by omega) hv hn (by omega) rfl w)) (Lib.hid e2.symm)
      (Lib.hid (by rw [Date.months_zero hv, hn])) hv.y1 hv.y2 ?_ rfl
    by_cases hy : y = 2099
    · left
      have : z = 2099 := by
        have k := Date.last_valid
        have hm : Date.monthsOf y m d 12 = Date.num 2099 12 31 := by
          have := hv.m1; have := hv.m2
          unfold Date.monthsOf
          rw [show Date.within 12 25188 = 12 from rfl, if_neg (by omega), if_pos (by omega)]
          decide
        exact (hw.inj k (by rw [hw2, hm])).1
      exact ⟨hy, this⟩
    · right
      obtain ⟨a1, a2, a3⟩ := hw3 hy
      have := hv.y2
      rcases a3 with a3 | ⟨a3, a4, a5⟩
      · exact .inl ⟨by omega, a1, a2, a3⟩
      · exact .inr ⟨by omega, a1, a2, a3, a4, a5⟩
end Go.Proofs.YtoiodfiphighgaaDoor.XLawSums
