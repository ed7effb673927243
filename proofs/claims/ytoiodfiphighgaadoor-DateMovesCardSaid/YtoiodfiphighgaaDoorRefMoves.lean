/- The reference's moves of a day. -/
import Derived.Test.YtoiodfiphighgaaDoorRefDate
import Derived.Test.YtoiodfiphighgaaDoorDateB
namespace Go.Proofs.YtoiodfiphighgaaDoor.XRef
open Go Go.RowKit Go.Proofs Go.Proofs.YtoiodfiphighgaaDoor
attribute [local go_sem] max2m min2m maxTwo minTwo

theorem clampD (a : Int) (w : World) : Calls Tryd.prog 30 #[.int .i64 a] w fun e w' => e = .returned (.int .i64 (Date.clamp a)) ∧ w = w' := by
  have h : Hid (mx 0 (mn 73048 a) = Date.clamp a) := Lib.hid (by unfold mx mn Date.clamp; repeat' split <;> omega)
  go_enter Tryd.func30, Tryd.ntmps30
  go_wp2
  go_ret
  exact ⟨by rw [← h.out]; simp, rfl⟩

theorem clampE (a c : Int) (h : Date.clamp a = c) (w : World) : Calls Tryd.prog 30 #[.int .i64 a] w fun e w' => e = .returned (.int .i64 c) ∧ w = w' := h ▸ clampD a w

theorem plus (day n : Int) (w : World) : Calls Tryd.prog 16 #[.int .i64 day, .int .i64 n] w fun e w' => e = .returned (.int .i64 (Date.plus day n)) ∧ w = w' := by
  obtain ⟨r, er⟩ : ∃ r, Date.plus day n = r := ⟨_, rfl⟩
  have hc := Date.clamp_le day
  have er' := er
  unfold Date.plus at er'
  obtain ⟨c, ec⟩ : ∃ c, Date.clamp day = c := ⟨_, rfl⟩
  rw [ec] at hc er'
  rw [er]
  have h1 := fun w => clampE day c ec w
  have H1 := Lib.hid h1
  obtain ⟨hc1, hc2⟩ := hc
  clear er ec h1
  by_cases c1 : 73048 < n
  · have t1 : decide (73048 < n) = true := decide_eq_true c1
    have hr : Hid (r = 73048) := Lib.hid (by rw [← er', if_neg (by omega), if_pos c1]; unfold Date.clamp; rw [if_neg (by omega)]; split <;> omega)
    clear er'
    go_enter Tryd.func16, Tryd.ntmps16
    go_wp2_with fail
    refine (H1.out _).mono ?_
    rintro e w' ⟨rfl, rfl⟩
    go_wp2_with fail
    go_ret
    exact ⟨by rw [hr.out]; rfl, rfl⟩
  · have t1 : decide (73048 < n) = false := decide_eq_false c1
    rw [if_neg c1] at er'
    by_cases c2 : n < -73048
    · have t2 : decide (n < -73048) = true := decide_eq_true c2
      have hr : Hid (r = 0) := Lib.hid (by rw [← er', if_pos c2]; unfold Date.clamp; repeat' split <;> omega)
      clear er'
      go_enter Tryd.func16, Tryd.ntmps16
      go_wp2_with fail
      refine (H1.out _).mono ?_
      rintro e w' ⟨rfl, rfl⟩
      go_wp2_with fail
      go_ret
      exact ⟨by rw [hr.out]; rfl, rfl⟩
    · have t2 : decide (n < -73048) = false := decide_eq_false c2
      rw [if_neg c2] at er'
      have h2 := fun w => clampE (c + n) r er' w
      have H2 := Lib.hid h2
      clear er' h2
      go_enter Tryd.func16, Tryd.ntmps16
      go_wp2_with fail
      refine (H1.out _).mono ?_
      rintro e w' ⟨rfl, rfl⟩
      go_wp2_with fail
      refine (H2.out _).mono ?_
      rintro e w' ⟨rfl, rfl⟩
      go_wp2_with fail
      go_ret
      exact ⟨rfl, rfl⟩

theorem divC (a b r : Int) (h : Num.div a b = r) (w : World) : Calls Tryd.prog 36 #[.int .i64 a, .int .i64 b] w fun e w' => e = .returned (.int .i64 r) ∧ w = w' := h ▸ div a b w

theorem years (a b : Int) (w : World) : Calls Tryd.prog 20 #[.int .i64 a, .int .i64 b] w fun e w' => e = .returned (.int .i64 (Date.years a b)) ∧ w = w' := by
  have ha := Date.clamp_le a
  have hb := Date.clamp_le b
  obtain ⟨r, er⟩ : ∃ r, Date.years a b = r := ⟨_, rfl⟩
  have er' := er
  unfold Date.years at er'
  rw [er]
  obtain ⟨ca, ea⟩ : ∃ c, Date.clamp a = c := ⟨_, rfl⟩
  obtain ⟨cb, eb⟩ : ∃ c, Date.clamp b = c := ⟨_, rfl⟩
  have h1 := fun w => clampE a ca ea w
  have h2 := fun w => clampE b cb eb w
  rw [ea] at ha er'
  rw [eb] at hb er'
  have h3 := fun w => divC _ _ r er' w
  have H1 := Lib.hid h1; have H2 := Lib.hid h2; have H3 := Lib.hid h3
  obtain ⟨ha1, ha2⟩ := ha
  obtain ⟨hb1, hb2⟩ := hb
  clear h1 h2 h3 er er' ea eb
  go_enter Tryd.func20, Tryd.ntmps20
  go_wp2_with fail
  refine (H2.out _).mono ?_
  rintro e w' ⟨rfl, rfl⟩
  go_wp2_with fail
  refine (H1.out _).mono ?_
  rintro e w' ⟨rfl, rfl⟩
  go_wp2_with fail
  refine (H3.out _).mono ?_
  rintro e w' ⟨rfl, rfl⟩
  go_wp2_with fail
  go_ret
  exact ⟨rfl, rfl⟩

set_option maxHeartbeats 1000000 in
theorem years30 (a b y m d z n e : Int) (hv : Date.Valid y m d) (hva : Date.num y m d = Date.clamp a) (hw : Date.Valid z n e) (hwb : Date.num z n e = Date.clamp b) (w : World) :
    Calls Tryd.prog 22 #[.int .i64 a, .int .i64 b] w fun r w' => r = .returned (.int .i64 (Date.years30 y m d z n e)) ∧ Below w.heap.size w w' := by
  have k1 := hv.y1; have k2 := hv.y2; have k3 := hv.m1; have k4 := hv.m2; have k5 := hv.d1; have k6 := hv.d2; have k7 := (Date.mlen_le (Date.leap y) m).2
  have l1 := hw.y1; have l2 := hw.y2; have l3 := hw.m1; have l4 := hw.m2; have l5 := hw.d1; have l6 := hw.d2; have l7 := (Date.mlen_le (Date.leap z) n).2
  have k8 : d ≤ 31 := by omega
  have l8 : e ≤ 31 := by omega
  have h1 := fun w => parts y m d (Date.clamp a) hv hva w
  have h2 := fun w => parts z n e (Date.clamp b) hw hwb w
  obtain ⟨ca, eca⟩ : ∃ c, Date.clamp a = c := ⟨_, rfl⟩
  obtain ⟨cb, ecb⟩ : ∃ c, Date.clamp b = c := ⟨_, rfl⟩
  have g1 := fun w => clampE a ca eca w
  have g2 := fun w => clampE b cb ecb w
  rw [eca] at h1
  rw [ecb] at h2
  obtain ⟨p, ep⟩ : ∃ p, mn e 30 = p := ⟨_, rfl⟩
  obtain ⟨q, eq⟩ : ∃ q, mn d 30 = q := ⟨_, rfl⟩
  have hp : 1 ≤ p ∧ p ≤ 30 := by rw [← ep]; unfold mn; split <;> omega
  have hq : 1 ≤ q ∧ q ≤ 30 := by rw [← eq]; unfold mn; split <;> omega
  obtain ⟨r, er⟩ : ∃ r, Date.years30 y m d z n e = r := ⟨_, rfl⟩
  have hr : Num.div ((360 * (z - y) + 30 * (n - m) + p - q) * 1000000) (360 * 1000000) = r := by rw [← er, ← ep, ← eq]; rfl
  rw [er]
  obtain ⟨p1, p2⟩ := hp
  obtain ⟨q1, q2⟩ := hq
  have h3 := fun w => divC _ _ r hr w
  have H1 := Lib.hid h1; have H2 := Lib.hid h2; have G1 := Lib.hid g1; have G2 := Lib.hid g2; have H3 := Lib.hid h3
  clear h1 h2 g1 g2 k6 k7 l6 l7 hva hwb eca ecb hv hw hr h3 er
  go_enter Tryd.func22, Tryd.ntmps22
  go_wp2_with fail
  refine (G1.out _).mono ?_
  rintro r w1 ⟨rfl, rfl⟩
  go_wp2_with fail
  refine (H1.out _).mono ?_
  rintro r w1 ⟨rfl, hb1⟩
  go_wp2_with fail
  refine (G2.out _).mono ?_
  rintro r w2 ⟨rfl, rfl⟩
  go_wp2_with fail
  refine (H2.out _).mono ?_
  rintro r w3 ⟨rfl, hb3⟩
  go_wp2_with fail
  refine (H3.out _).mono ?_
  rintro r w4 ⟨rfl, rfl⟩
  go_wp2_with fail
  go_ret
  exact ⟨rfl, hb1.trans (hb3.mono hb1.size)⟩

set_option maxHeartbeats 2000000 in
set_option maxRecDepth 100000 in
theorem months (a y m d n : Int) (hv : Date.Valid y m d) (hva : Date.num y m d = Date.clamp a) (w : World) :
    Calls Tryd.prog 18 #[.int .i64 a, .int .i64 n] w fun r w' => r = .returned (.int .i64 (Date.monthsOf y m d n)) ∧ Below w.heap.size w w' := by
  have k1 := hv.y1; have k2 := hv.y2; have k3 := hv.m1; have k4 := hv.m2; have k5 := hv.d1; have k6 := hv.d2; have k7 := (Date.mlen_le (Date.leap y) m).2
  have k8 : d ≤ 31 := by omega
  have h1 := fun w => parts y m d (Date.clamp a) hv hva w
  obtain ⟨ca, eca⟩ : ∃ c, Date.clamp a = c := ⟨_, rfl⟩
  have g1 := fun w => clampE a ca eca w
  rw [eca] at h1
  obtain ⟨r, er⟩ : ∃ r, Date.monthsOf y m d n = r := ⟨_, rfl⟩
  have er' := er
  unfold Date.monthsOf at er'
  rw [er]
  have H1 := Lib.hid h1; have G1 := Lib.hid g1
  clear h1 g1 k6 k7 hva eca hv er
  by_cases c1 : 2400 < n
  · have t1 : decide (2400 < n) = true := decide_eq_true c1
    have hw2 : 2400 < Date.within n 25188 := by unfold Date.within; repeat' split <;> omega
    have hr : Hid (r = 73048) := Lib.hid (by rw [← er', if_neg (by omega), if_pos (by omega)])
    clear er' hw2
    go_enter Tryd.func18, Tryd.ntmps18
    go_wp2_with fail
    refine (G1.out _).mono ?_
    rintro e w1 ⟨rfl, rfl⟩
    go_wp2_with fail
    refine (H1.out _).mono ?_
    rintro e w1 ⟨rfl, hb1⟩
    go_wp2_with fail
    go_ret
    exact ⟨by rw [hr.out]; rfl, hb1⟩
  have t1 : decide (2400 < n) = false := decide_eq_false c1
  by_cases c2 : n < -2400
  · have t2 : decide (n < -2400) = true := decide_eq_true c2
    have hw2 : Date.within n 25188 < -2400 := by unfold Date.within; repeat' split <;> omega
    have hr : Hid (r = 0) := Lib.hid (by rw [← er', if_pos (by omega)])
    clear er' hw2
    go_enter Tryd.func18, Tryd.ntmps18
    go_wp2_with fail
    refine (G1.out _).mono ?_
    rintro e w1 ⟨rfl, rfl⟩
    go_wp2_with fail
    refine (H1.out _).mono ?_
    rintro e w1 ⟨rfl, hb1⟩
    go_wp2_with fail
    go_ret
    exact ⟨by rw [hr.out]; rfl, hb1⟩
  have t2 : decide (n < -2400) = false := decide_eq_false c2
  have hw : Date.within n 25188 = n := by unfold Date.within; repeat' split <;> omega
  rw [hw] at er'
  clear hw
  by_cases c3 : 12 * y + m - 1 + n < 22800
  · have t3 : decide (12 * y + m - 1 + n < 22800) = true := decide_eq_true c3
    rw [if_pos c3] at er'
    subst er'
    go_enter Tryd.func18, Tryd.ntmps18
    go_wp2_with fail
    refine (G1.out _).mono ?_
    rintro e w1 ⟨rfl, rfl⟩
    go_wp2_with fail
    refine (H1.out _).mono ?_
    rintro e w1 ⟨rfl, hb1⟩
    go_wp2_with fail
    go_ret
    exact ⟨by simp, hb1⟩
  have t3 : decide (12 * y + m - 1 + n < 22800) = false := decide_eq_false c3
  rw [if_neg c3] at er'
  by_cases c4 : 25200 ≤ 12 * y + m - 1 + n
  · have t4 : decide (25200 ≤ 12 * y + m - 1 + n) = true := decide_eq_true c4
    rw [if_pos c4] at er'
    subst er'
    go_enter Tryd.func18, Tryd.ntmps18
    go_wp2_with fail
    refine (G1.out _).mono ?_
    rintro e w1 ⟨rfl, rfl⟩
    go_wp2_with fail
    refine (H1.out _).mono ?_
    rintro e w1 ⟨rfl, hb1⟩
    go_wp2_with fail
    go_ret
    exact ⟨by simp, hb1⟩
  have t4 : decide (25200 ≤ 12 * y + m - 1 + n) = false := decide_eq_false c4
  rw [if_neg c4] at er'
  have hv2 := Date.valid_moved (k := 12 * y + m - 1 + n) (d := d) (by omega) (by omega) k5
  obtain ⟨Y, eY⟩ : ∃ Y, (12 * y + m - 1 + n) / 12 = Y := ⟨_, rfl⟩
  obtain ⟨M, eM⟩ : ∃ M, (12 * y + m - 1 + n) % 12 = M := ⟨_, rfl⟩
  have yb : 1900 ≤ Y ∧ Y ≤ 2099 := by omega
  have mb : 0 ≤ M ∧ M < 12 := by omega
  rw [eY, eM] at er' hv2
  have hL := fun w => length Y (M + 1) (by omega) (by omega) (by omega) (by omega) w
  obtain ⟨l, el⟩ : ∃ l, Date.mlen (Date.leap Y) (M + 1) = l := ⟨_, rfl⟩
  rw [el] at er' hv2 hL
  obtain ⟨p, ep⟩ : ∃ p, mn d l = p := ⟨_, rfl⟩
  have hO := fun w => of Y (M + 1) p r (by rw [← ep]; exact hv2) (by rw [← ep]; exact er') w
  have HL := Lib.hid hL; have HO := Lib.hid hO
  obtain ⟨yb1, yb2⟩ := yb
  obtain ⟨mb1, mb2⟩ := mb
  clear hL hO er' hv2 el
  go_enter Tryd.func18, Tryd.ntmps18
  go_wp2_with fail
  refine (G1.out _).mono ?_
  rintro e w1 ⟨rfl, rfl⟩
  go_wp2_with fail
  refine (H1.out _).mono ?_
  rintro e w1 ⟨rfl, hb1⟩
  go_wp2_with fail
  refine (HL.out _).mono ?_
  rintro e w2 ⟨rfl, hb2⟩
  go_wp2_with fail
  refine (HO.out _).mono ?_
  rintro e w3 ⟨rfl, hb3⟩
  go_wp2_with fail
  go_ret
  exact ⟨by simp, (hb1.trans (hb2.mono hb1.size)).trans (hb3.mono (Nat.le_trans hb1.size hb2.size))⟩
end Go.Proofs.YtoiodfiphighgaaDoor.XRef
