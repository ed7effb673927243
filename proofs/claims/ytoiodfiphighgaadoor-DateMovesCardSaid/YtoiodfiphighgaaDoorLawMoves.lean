/- The walk of DateMoves: it answers true. -/
import Derived.Test.YtoiodfiphighgaaDoorShow3
import Derived.Test.YtoiodfiphighgaaDoorRefMoves
namespace Go.Proofs.YtoiodfiphighgaaDoor.XLawMoves
open Go Go.RowKit Go.Proofs Go.Proofs.YtoiodfiphighgaaDoor

theorem plusC (a n r : Int) (h : Date.plus a n = r) (w : World) : Calls Tryd.prog 15 #[.int .i64 a, .int .i64 n] w fun e w' => e = .returned (.int .i64 r) ∧ w = w' := h ▸ XDate.plus a n w
theorem rplusC (a n r : Int) (h : Date.plus a n = r) (w : World) : Calls Tryd.prog 16 #[.int .i64 a, .int .i64 n] w fun e w' => e = .returned (.int .i64 r) ∧ w = w' := h ▸ XRef.plus a n w
theorem yearsC (a b r : Int) (hr : Date.years a b = r) (w : World) : Calls Tryd.prog 19 #[.int .i64 a, .int .i64 b] w fun e w' => e = .returned (.int .i64 r) ∧ Dr w w' := hr ▸ XDate.years a b w
theorem ryearsC (a b r : Int) (hr : Date.years a b = r) (w : World) : Calls Tryd.prog 20 #[.int .i64 a, .int .i64 b] w fun e w' => e = .returned (.int .i64 r) ∧ w = w' := hr ▸ XRef.years a b w

set_option maxRecDepth 100000 in
set_option maxHeartbeats 4000000 in
theorem walk (day other n p1 p2 p3 p4 : Int) (w : World) (ht : Hid (XShow3.Tab w.heap.size w))
    (c1 : Hid (Date.plus day n = p1)) (c3 : Hid (Date.years day other = p3))
    (m1 : ∀ w, Hid (Calls Tryd.prog 17 #[.int .i64 day, .int .i64 n] w fun e w' => e = .returned (.int .i64 p2) ∧ Below w.heap.size w w'))
    (m2 : ∀ w, Hid (Calls Tryd.prog 18 #[.int .i64 day, .int .i64 n] w fun e w' => e = .returned (.int .i64 p2) ∧ Below w.heap.size w w'))
    (z1 : ∀ w, Hid (Calls Tryd.prog 21 #[.int .i64 day, .int .i64 other] w fun e w' => e = .returned (.int .i64 p4) ∧ Below w.heap.size w w'))
    (z2 : ∀ w, Hid (Calls Tryd.prog 22 #[.int .i64 day, .int .i64 other] w fun e w' => e = .returned (.int .i64 p4) ∧ Below w.heap.size w w')) :
    Calls Tryd.prog 5 #[.int .i64 day, .int .i64 other, .int .i64 n] w fun e w' => e = .returned (.bool true) ∧ Below w.heap.size w w' := by
  go_enter Tryd.func5, Tryd.ntmps5
  go_wp2_with fail
  refine (XShow3.shown w ht.out).mono ?_
  rintro e w1 ⟨rfl, hb1⟩
  go_wp2_with fail
  refine (plusC _ _ p1 c1.out w1).mono ?_
  rintro e w2 ⟨rfl, rfl⟩
  go_wp2_with fail
  refine (rplusC _ _ p1 c1.out w1).mono ?_
  rintro e w2 ⟨rfl, rfl⟩
  go_wp2_with fail
  refine ((m1 _).out).mono ?_
  rintro e w3 ⟨rfl, hb3⟩
  go_wp2_with fail
  refine ((m2 _).out).mono ?_
  rintro e w4 ⟨rfl, hb4⟩
  go_wp2_with fail
  refine (yearsC _ _ p3 c3.out _).mono ?_
  rintro e w5 ⟨rfl, n5, rfl⟩
  go_wp2_with fail
  refine (ryearsC _ _ p3 c3.out _).mono ?_
  rintro e w6 ⟨rfl, rfl⟩
  go_wp2_with fail
  refine ((z1 _).out).mono ?_
  rintro e w7 ⟨rfl, hb7⟩
  go_wp2_with fail
  refine ((z2 _).out).mono ?_
  rintro e w8 ⟨rfl, hb8⟩
  go_wp2_with fail
  go_ret
  refine ⟨by simp, ?_⟩
  have g3 := hb1.trans (hb3.mono hb1.size)
  have g4 := belowN (g3.trans (hb4.mono g3.size)) n5
  have g7 := g4.trans (hb7.mono g4.size)
  exact g7.trans (hb8.mono g7.size)

theorem dateMoves (day other n : Int) (w : World) (ht : XShow3.Tab w.heap.size w) :
    Calls Tryd.prog 5 #[.int .i64 day, .int .i64 other, .int .i64 n] w fun e w' => e = .returned (.bool true) ∧ Below w.heap.size w w' := by
  have h1 := Date.clamp_le day
  have h2 := Date.clamp_le other
  obtain ⟨y, m, d, hv, hn⟩ := Date.exists_date (Date.clamp day) h1.1 h1.2
  obtain ⟨y', m', d', hv', hn'⟩ := Date.exists_date (Date.clamp other) h2.1 h2.2
  exact walk day other n (Date.plus day n) (Date.monthsOf y m d n) (Date.years day other) (Date.years30 y m d y' m' d') w (Lib.hid ht) (Lib.hid rfl) (Lib.hid rfl)
    (fun w => Lib.hid (XDate.months day y m d n hv hn w)) (fun w => Lib.hid (XRef.months day y m d n hv hn w))
    (fun w => Lib.hid (XDate.years30 day other y m d y' m' d' hv hn hv' hn' w)) (fun w => Lib.hid (XRef.years30 day other y m d y' m' d' hv hn hv' hn' w))
end Go.Proofs.YtoiodfiphighgaaDoor.XLawMoves
