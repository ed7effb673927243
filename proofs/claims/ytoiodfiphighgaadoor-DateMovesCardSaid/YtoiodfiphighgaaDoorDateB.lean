/- The moves of layer 3 (date). -/
import Derived.Test.YtoiodfiphighgaaDoorOf
namespace Go.Proofs.YtoiodfiphighgaaDoor.XDate
open Go Go.RowKit Go.Proofs Go.Proofs.YtoiodfiphighgaaDoor
attribute [local go_sem] max2m min2m maxTwo minTwo

theorem mnD (x y : Int) : mn x y = Date.mn x y := rfl
theorem within_mx (n c : Int) (hc : 0 ≤ c) : mx (-c) (mn c n) = Date.within n c := by unfold mx mn Date.within; repeat' split <;> omega

theorem plus (day n : Int) (w : World) : Calls Tryd.prog 15 #[.int .i64 day, .int .i64 n] w fun e w' => e = .returned (.int .i64 (Date.plus day n)) ∧ w = w' := by
  have hc := Date.clamp_le day
  have h1 := within_mx n 73048 (by omega)
  have hb : -73048 ≤ Date.within n 73048 ∧ Date.within n 73048 ≤ 73048 := by unfold Date.within; repeat' split <;> omega
  have hp : Hid (Date.plus day n = Date.clamp (Date.clamp day + Date.within n 73048)) := Lib.hid rfl
  obtain ⟨c, ec⟩ : ∃ c, Date.within n 73048 = c := ⟨_, rfl⟩
  rw [ec] at h1 hb hp
  obtain ⟨hb1, hb2⟩ := hb
  obtain ⟨hc1, hc2⟩ := hc
  clear ec
  go_enter Tryd.func15, Tryd.ntmps15
  go_wp2_with (go_at_call 29; refine (clamp _ _).mono ?_; rintro e w' ⟨rfl, rfl⟩)
  go_ret
  exact ⟨by rw [hp.out]; simp, rfl⟩

theorem ratio (n d : Int) (hn : -1000000 ≤ n ∧ n ≤ 1000000) (hd : 0 ≤ d ∧ d ≤ 1000) (w : World) : Calls Tryd.prog 35 #[.int .i64 n, .int .i64 d] w fun e w' => e = .returned (.int .i64 (Num.div (n * 1000000) (d * 1000000))) ∧ Dr w w' := by
  obtain ⟨a, b⟩ := hn
  obtain ⟨c, f⟩ := hd
  go_enter Tryd.func35, Tryd.ntmps35
  go_wp2_with (go_at_call 8; refine (XNum.div _ _ _).mono ?_; rintro e w' ⟨rfl, n, rfl⟩)
  go_ret
  exact ⟨by simp, ⟨_, rfl⟩⟩

theorem years (a b : Int) (w : World) : Calls Tryd.prog 19 #[.int .i64 a, .int .i64 b] w fun e w' => e = .returned (.int .i64 (Date.years a b)) ∧ Dr w w' := by
  have ha := Date.clamp_le a
  have hb := Date.clamp_le b
  have hy : Hid (Date.years a b = Num.div ((Date.clamp b - Date.clamp a) * 1000000) (365 * 1000000)) := Lib.hid rfl
  obtain ⟨ha1, ha2⟩ := ha
  obtain ⟨hb1, hb2⟩ := hb
  go_enter Tryd.func19, Tryd.ntmps19
  go_wp2_with (first | (go_at_call 29; refine (clamp _ _).mono ?_; rintro e w' ⟨rfl, rfl⟩) | (go_at_call 35; refine (ratio _ _ (by omega) (by omega) _).mono ?_; rintro e w' ⟨rfl, n, rfl⟩))
  go_ret
  exact ⟨by rw [hy.out]; simp, ⟨_, rfl⟩⟩

/-- Parts of a clamped day. -/
theorem partsC (c y m d : Int) (hv : Date.Valid y m d) (e : Date.num y m d = c) (w : World) :
    Calls Tryd.prog 23 #[.int .i64 c] w fun e w' => e = .returned (.tuple #[.int .i64 y, .int .i64 m, .int .i64 d, .int .i64 0]) ∧ Below w.heap.size w w' := e ▸ parts y m d hv w

set_option maxHeartbeats 1000000 in
theorem years30 (a b y m d z n e : Int) (hv : Date.Valid y m d) (hva : Date.num y m d = Date.clamp a) (hw : Date.Valid z n e) (hwb : Date.num z n e = Date.clamp b) (w : World) :
    Calls Tryd.prog 21 #[.int .i64 a, .int .i64 b] w fun r w' => r = .returned (.int .i64 (Date.years30 y m d z n e)) ∧ Below w.heap.size w w' := by
  have k1 := hv.y1; have k2 := hv.y2; have k3 := hv.m1; have k4 := hv.m2; have k5 := hv.d1; have k6 := hv.d2; have k7 := (Date.mlen_le (Date.leap y) m).2
  have l1 := hw.y1; have l2 := hw.y2; have l3 := hw.m1; have l4 := hw.m2; have l5 := hw.d1; have l6 := hw.d2; have l7 := (Date.mlen_le (Date.leap z) n).2
  have k8 : d ≤ 31 := by omega
  have l8 : e ≤ 31 := by omega
  obtain ⟨b1, b2⟩ := Date.days30_le hv hw
  have h1 := fun w => partsC (Date.clamp a) y m d hv hva w
  have h2 := fun w => partsC (Date.clamp b) z n e hw hwb w
  obtain ⟨ca, eca⟩ : ∃ c, Date.clamp a = c := ⟨_, rfl⟩
  obtain ⟨cb, ecb⟩ : ∃ c, Date.clamp b = c := ⟨_, rfl⟩
  have g1 := fun w => clamp a w
  have g2 := fun w => clamp b w
  rw [eca] at h1 g1
  rw [ecb] at h2 g2
  obtain ⟨p, ep⟩ : ∃ p, mn e 30 = p := ⟨_, rfl⟩
  obtain ⟨q, eq⟩ : ∃ q, mn d 30 = q := ⟨_, rfl⟩
  have hp := mn_le e 30
  have hq := mn_le d 30
  rw [ep] at hp
  rw [eq] at hq
  have hr : Hid (Date.years30 y m d z n e = Num.div ((360 * (z - y) + 30 * (n - m) + p - q) * 1000000) (360 * 1000000)) := Lib.hid (by rw [← ep, ← eq]; rfl)
  have p1 : 1 ≤ p := by omega
  have p2 : p ≤ 30 := by omega
  have q1 : 1 ≤ q := by omega
  have q2 : q ≤ 30 := by omega
  have H1 := Lib.hid h1; have H2 := Lib.hid h2; have G1 := Lib.hid g1; have G2 := Lib.hid g2
  clear h1 h2 g1 g2 k6 k7 l6 l7 hp hq hva hwb eca ecb hv hw b1 b2
  go_enter Tryd.func21, Tryd.ntmps21
  go_wp2_with fail
  refine (G1.out _).mono ?_
  rintro r w1 ⟨rfl, rfl⟩
  go_wp2_with fail
  refine (H1.out _).mono ?_
  rintro r w1 ⟨rfl, hb1⟩
  go_wp2_with fail
  refine (G2.out _).mono ?_
  rintro r w2 ⟨rfl, rfl⟩
  go_wp2_with fail
  refine (H2.out _).mono ?_
  rintro r w3 ⟨rfl, hb3⟩
  go_wp2_with (go_at_call 35; refine (ratio _ _ (by omega) (by omega) _).mono ?_; rintro e w' ⟨rfl, n, rfl⟩)
  go_ret
  exact ⟨by rw [hr.out]; simp, belowN (hb1.trans (hb3.mono hb1.size)) _⟩
end Go.Proofs.YtoiodfiphighgaaDoor.XDate
