/- What DateSums asks, of the plain functions. -/
import Derived.Test.YtoiodfiphighgaaDoorPDate
import Derived.Test.YtoiodfiphighgaaDoorPNear
namespace Go.Proofs.YtoiodfiphighgaaDoor.Date

theorem div_neg (a b : Int) (ha : -1000000000000000 ≤ a ∧ a ≤ 1000000000000000) : Num.div (-a) b = -Num.div a b := by
  have ca : Num.clamp a = a := Num.clamp_self ha
  have cna : Num.clamp (-a) = -a := Num.clamp_self (by omega)
  have hs : Num.size (-a) = Num.size a := by unfold Num.size; rw [ca, cna]; omega
  unfold Num.div
  rw [hs]
  split
  · rfl
  · by_cases h0 : a = 0
    · subst h0
      have : Num.size 0 = 0 := rfl
      rw [this, show Num.rnd 0 1000000 (Num.size b) = 0 from by rw [Num.rnd_comm]; exact Num.rnd_zero _ _ (by omega)]
      unfold Num.sgn; split <;> split <;> rfl
    · have e : Num.below (-a) = !Num.below a := by
        unfold Num.below; rw [ca, cna]
        by_cases h : a < 0
        · simp [h]; omega
        · simp [h]; omega
      rw [e]
      generalize Num.rnd (Num.size a) 1000000 (Num.size b) = n
      cases Num.below a <;> cases Num.below b <;> simp [Num.sgn]
theorem neg_div (a b : Int) : Num.neg (Num.div a b) = -Num.div a b := by unfold Num.neg; rw [Num.clamp_div]
theorem years_back (a b : Int) : years a b = Num.neg (years b a) := by
  have := clamp_le a; have := clamp_le b
  unfold years
  rw [neg_div, ← div_neg _ _ (by omega)]
  congr 1
  omega
theorem years30_back {y m d z n e : Int} (h : Valid y m d) (h' : Valid z n e) : years30 y m d z n e = Num.neg (years30 z n e y m d) := by
  have := days30_le h' h
  unfold years30
  rw [neg_div, ← div_neg _ _ (by omega)]
  congr 1
  unfold days30
  omega
theorem plus_in {day a : Int} (h0 : 0 ≤ day) (h1 : day ≤ 73048) (h2 : 0 ≤ day + a) (h3 : day + a ≤ 73048) : plus day a = day + a := by
  unfold plus
  rw [clamp_self ⟨h0, h1⟩]
  unfold clamp
  repeat' split
  all_goals omega
theorem plus_plus {day a b : Int} (h0 : 0 ≤ day) (h1 : day ≤ 73048) (h2 : 0 ≤ day + a) (h3 : day + a ≤ 73048) : plus (day + a) b = plus day (a + b) := by
  unfold plus
  rw [clamp_self ⟨h0, h1⟩, clamp_self ⟨h2, h3⟩]
  unfold clamp
  repeat' split
  all_goals omega
theorem mn_self {a b : Int} (h : a ≤ b) : mn a b = a := by unfold mn; split <;> omega
theorem months_zero {y m d : Int} (h : Valid y m d) : monthsOf y m d 0 = num y m d := by
  have := h.y1; have := h.y2; have := h.m1; have := h.m2; have := h.d2
  unfold monthsOf
  rw [show within 0 25188 = 0 from rfl, show (12 * y + m - 1 + 0) / 12 = y from by omega, show (12 * y + m - 1 + 0) % 12 + 1 = m from by omega, mn_self h.d2,
    if_neg (by omega), if_neg (by omega)]
theorem mlen_two (b : Bool) : mlen b 2 = 28 ∨ mlen b 2 = 29 := by cases b <;> decide
theorem mlen_other (b b' : Bool) {m : Int} (h : m ≠ 2) : mlen b m = mlen b' m := by unfold mlen; rw [if_neg h, if_neg h]
theorem last_valid : Valid 2099 12 31 := ⟨by decide, by decide, by decide, by decide, by decide, by decide⟩
/-- A year later. -/
theorem months_year {y m d : Int} (h : Valid y m d) : ∃ z n c, Valid z n c ∧ num z n c = monthsOf y m d 12 ∧ (y ≠ 2099 → z = y + 1 ∧ n = m ∧ (c = d ∨ (m = 2 ∧ d = 29 ∧ c = 28))) := by
  have hy1 := h.y1; have hy2 := h.y2; have hm1 := h.m1; have hm2 := h.m2; have hd1 := h.d1; have hd2 := h.d2
  by_cases hy : y = 2099
  · refine ⟨2099, 12, 31, last_valid, ?_, fun h => absurd hy h⟩
    unfold monthsOf
    rw [show within 12 25188 = 12 from rfl, if_neg (by omega), if_pos (by omega)]
    decide
  · refine ⟨y + 1, m, mn d (mlen (leap (y + 1)) m), ⟨by omega, by omega, hm1, hm2, ?_, (mn_le _ _).2.1⟩, ?_, fun _ => ⟨rfl, rfl, ?_⟩⟩
    · have := mn_le d (mlen (leap (y + 1)) m); have := mlen_le (leap (y + 1)) m; omega
    · unfold monthsOf
      rw [show within 12 25188 = 12 from rfl, show (12 * y + m - 1 + 12) / 12 = y + 1 from by omega, show (12 * y + m - 1 + 12) % 12 + 1 = m from by omega, if_neg (by omega), if_neg (by omega)]
    · have h3 := mn_le d (mlen (leap (y + 1)) m)
      by_cases h2 : m = 2
      · subst h2
        have e1 := mlen_two (leap y)
        have e2 := mlen_two (leap (y + 1))
        omega
      · have e1 := mlen_other (leap y) (leap (y + 1)) h2
        omega
end Go.Proofs.YtoiodfiphighgaaDoor.Date
