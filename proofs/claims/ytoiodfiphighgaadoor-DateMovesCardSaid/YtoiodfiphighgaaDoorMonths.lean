/- date.Months. -/
import Derived.Test.YtoiodfiphighgaaDoorDateB
namespace Go.Proofs.YtoiodfiphighgaaDoor.XDate
open Go Go.RowKit Go.Proofs Go.Proofs.YtoiodfiphighgaaDoor
attribute [local go_sem] max2m min2m maxTwo minTwo

theorem lensC (y : Int) (h1 : 1 ≤ y) (h2 : y ≤ 10000) (b : Bool) (hb : Date.leap y = b) (w : World) : Calls Tryd.prog 31 #[.int .i64 y] w fun e w' =>
    e = .returned (.agg (lens b)) ∧ Below w.heap.size w w' := hb ▸ lengths y h1 h2 w
theorem lens_at' (b : Bool) (i : Int) (h0 : 0 ≤ i) (hi : i < 12) (l : Int) (hl : Date.mlen b (i + 1) = l) (w : World) :
    (Instr.index 43 (.agg (lens b)) (.int .i64 i)).run Tryd.prog w = .ok (.int .i64 l) w := by
  obtain ⟨k, rfl⟩ : ∃ k : Nat, i = (k : Int) := ⟨i.toNat, by omega⟩
  rw [lens_at b k (by omega) w, hl]
theorem ofC (y m d c : Int) (hv : Date.Valid y m d) (e : Date.num y m d = c) (w : World) :
    Calls Tryd.prog 28 #[.int .i64 y, .int .i64 m, .int .i64 d] w fun e w' => e = .returned (.tuple #[.int .i64 c, .int .i64 0]) ∧ Below w.heap.size w w' := e ▸ of y m d hv w

set_option maxHeartbeats 2000000 in
set_option maxRecDepth 100000 in
theorem months (a y m d n : Int) (hv : Date.Valid y m d) (hva : Date.num y m d = Date.clamp a) (w : World) :
    Calls Tryd.prog 17 #[.int .i64 a, .int .i64 n] w fun r w' => r = .returned (.int .i64 (Date.monthsOf y m d n)) ∧ Below w.heap.size w w' := by
  have k1 := hv.y1; have k2 := hv.y2; have k3 := hv.m1; have k4 := hv.m2; have k5 := hv.d1; have k6 := hv.d2; have k7 := (Date.mlen_le (Date.leap y) m).2
  have k8 : d ≤ 31 := by omega
  have h1 := fun w => partsC (Date.clamp a) y m d hv hva w
  obtain ⟨ca, eca⟩ : ∃ c, Date.clamp a = c := ⟨_, rfl⟩
  have g1 := fun w => clamp a w
  rw [eca] at h1 g1
  have hw1 := within_mx n 25188 (by omega)
  have hw2 : -25188 ≤ Date.within n 25188 ∧ Date.within n 25188 ≤ 25188 := by unfold Date.within; repeat' split <;> omega
  obtain ⟨r, er⟩ : ∃ r, Date.monthsOf y m d n = r := ⟨_, rfl⟩
  have er' := er
  unfold Date.monthsOf at er'
  rw [er]
  obtain ⟨wn, ew⟩ : ∃ c, Date.within n 25188 = c := ⟨_, rfl⟩
  rw [ew] at hw1 hw2 er'
  obtain ⟨hw2, hw3⟩ := hw2
  have H1 := Lib.hid h1; have G1 := Lib.hid g1
  clear h1 g1 k6 k7 hva eca hv ew er
  by_cases c1 : 12 * y + m - 1 + wn < 22800
  · have t1 : decide (12 * y + m - 1 + wn < 22800) = true := decide_eq_true c1
    rw [if_pos c1] at er'
    subst er'
    go_enter Tryd.func17, Tryd.ntmps17
    go_wp2_with (first | (go_at_call 29; refine (G1.out _).mono ?_; rintro r w1 ⟨rfl, rfl⟩) | (go_at_call 23; refine (H1.out _).mono ?_; rintro r w1 ⟨rfl, hb1⟩))
    go_ret
    exact ⟨by simp, hb1⟩
  · have t1 : decide (12 * y + m - 1 + wn < 22800) = false := decide_eq_false c1
    rw [if_neg c1] at er'
    by_cases c2 : 25200 ≤ 12 * y + m - 1 + wn
    · have t2 : decide (25200 ≤ 12 * y + m - 1 + wn) = true := decide_eq_true c2
      rw [if_pos c2] at er'
      subst er'
      go_enter Tryd.func17, Tryd.ntmps17
      go_wp2_with (first | (go_at_call 29; refine (G1.out _).mono ?_; rintro r w1 ⟨rfl, rfl⟩) | (go_at_call 23; refine (H1.out _).mono ?_; rintro r w1 ⟨rfl, hb1⟩))
      go_ret
      exact ⟨by simp, hb1⟩
    · have t2 : decide (25200 ≤ 12 * y + m - 1 + wn) = false := decide_eq_false c2
      rw [if_neg c2] at er'
      have hv2 := Date.valid_moved (k := 12 * y + m - 1 + wn) (d := d) (by omega) (by omega) k5
      obtain ⟨Y, eY⟩ : ∃ Y, (12 * y + m - 1 + wn) / 12 = Y := ⟨_, rfl⟩
      obtain ⟨M, eM⟩ : ∃ M, (12 * y + m - 1 + wn) % 12 = M := ⟨_, rfl⟩
      have yb : 1900 ≤ Y ∧ Y ≤ 2099 := by omega
      have mb : 0 ≤ M ∧ M < 12 := by omega
      rw [eY, eM] at er' hv2
      obtain ⟨b, eb⟩ : ∃ b, Date.leap Y = b := ⟨_, rfl⟩
      have hL := fun w => lensC Y (by omega) (by omega) b eb w
      obtain ⟨l, el⟩ : ∃ l, Date.mlen b (M + 1) = l := ⟨_, rfl⟩
      have hI := fun w => lens_at' b M (by omega) (by omega) l el w
      rw [eb, el] at er' hv2
      obtain ⟨p, ep⟩ : ∃ p, mn d l = p := ⟨_, rfl⟩
      have hO := fun w => ofC Y (M + 1) p r (by rw [← ep]; exact hv2) (by rw [← ep]; exact er') w
      have HL := Lib.hid hL; have HO := Lib.hid hO
      obtain ⟨yb1, yb2⟩ := yb
      obtain ⟨mb1, mb2⟩ := mb
      clear hL hO er' hv2 eb el
      go_enter Tryd.func17, Tryd.ntmps17
      go_wp2_with fail
      refine (G1.out _).mono ?_
      rintro e w1 ⟨rfl, rfl⟩
      go_wp2_with fail
      refine (H1.out _).mono ?_
      rintro e w1 ⟨rfl, hb1⟩
      go_wp2_with fail
      refine (HL.out _).mono ?_
      rintro e w2 ⟨rfl, hb2⟩
      go_wp2_with fail
      refine (HO.out _).mono ?_
      rintro e w3 ⟨rfl, hb3⟩
      go_wp2_with fail
      go_ret
      exact ⟨by simp, (hb1.trans (hb2.mono hb1.size)).trans (hb3.mono (Nat.le_trans hb1.size hb2.size))⟩
end Go.Proofs.YtoiodfiphighgaaDoor.XDate
