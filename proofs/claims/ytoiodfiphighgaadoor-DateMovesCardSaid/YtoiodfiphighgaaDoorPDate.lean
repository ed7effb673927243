/- Layer 3 in plain Lean: days of the calendar from 1900 to 2099. -/
import Derived.Test.YtoiodfiphighgaaDoorPNum
namespace Go.Proofs.YtoiodfiphighgaaDoor.Date

def leap (y : Int) : Bool := y % 4 == 0 && (!(y % 100 == 0) || y % 400 == 0)
def mlen (b : Bool) (m : Int) : Int := if m = 2 then (if b then 29 else 28) else if m = 4 ∨ m = 6 ∨ m = 9 ∨ m = 11 then 30 else 31
/-- The days of the first months of a year. -/
def cum (b : Bool) : Nat → Int
  | 0 => 0
  | k + 1 => cum b k + mlen b (k + 1)
def ahead (y : Int) : Int := 365 * (y - 1900) + (y - 1) / 4 - (y - 1) / 100 + (y - 1) / 400 - 460
def num (y m d : Int) : Int := ahead y + cum (leap y) (m - 1).toNat + d - 1
structure Valid (y m d : Int) : Prop where
  y1 : 1900 ≤ y
  y2 : y ≤ 2099
  m1 : 1 ≤ m
  m2 : m ≤ 12
  d1 : 1 ≤ d
  d2 : d ≤ mlen (leap y) m

theorem mlen_le (b : Bool) (m : Int) : 28 ≤ mlen b m ∧ mlen b m ≤ 31 := by
  unfold mlen; split
  · cases b <;> simp
  · split <;> omega
theorem cum_year (b : Bool) : cum b 12 = 365 + (if b then 1 else 0) := by cases b <;> decide
theorem cum_mono (b : Bool) {i j : Nat} (h : i ≤ j) : cum b i ≤ cum b j := by
  induction h with
  | refl => exact Int.le_refl _
  | @step k _ ih => have := mlen_le b ((k : Int) + 1); simp only [cum]; omega
theorem cum_nonneg (b : Bool) (i : Nat) : 0 ≤ cum b i := cum_mono b (Nat.zero_le i)
theorem leap_iff (y : Int) : leap y = true ↔ (y % 4 = 0 ∧ (¬ y % 100 = 0 ∨ y % 400 = 0)) := by
  simp [leap]
theorem ahead_succ (y : Int) : ahead (y + 1) = ahead y + 365 + (if leap y then 1 else 0) := by
  have h := leap_iff y
  unfold ahead
  by_cases hl : leap y = true
  · rw [if_pos hl]
    have := h.1 hl
    omega
  · rw [if_neg hl]
    have : ¬ (y % 4 = 0 ∧ (¬ y % 100 = 0 ∨ y % 400 = 0)) := fun h' => hl (h.2 h')
    omega
theorem ahead_le {y z : Int} (h : y ≤ z) : ahead y + 365 * (z - y) ≤ ahead z := by unfold ahead; omega
theorem ahead_ub {y : Int} (h : 1900 ≤ y) : ahead y ≤ 366 * (y - 1900) := by unfold ahead; omega
theorem ahead_lb {y : Int} (h : 1900 ≤ y) : 365 * (y - 1900) ≤ ahead y := by unfold ahead; omega
theorem ahead_1900 : ahead 1900 = 0 := by decide
theorem ahead_2100 : ahead 2100 = 73049 := by decide
theorem toNat_succ {b : Bool} {m : Int} (h1 : 1 ≤ m) : cum b m.toNat = cum b (m - 1).toNat + mlen b m := by
  obtain ⟨k, hk⟩ : ∃ k : Nat, m = (k : Int) + 1 := ⟨(m - 1).toNat, by omega⟩
  subst hk
  rw [show ((k : Int) + 1).toNat = k + 1 from by omega, show ((k : Int) + 1 - 1).toNat = k from by omega]
  rfl
/-- A date's day lies in its year, and in its month. -/
theorem Valid.in_year {y m d : Int} (h : Valid y m d) : ahead y ≤ num y m d ∧ num y m d < ahead (y + 1) := by
  have c0 := cum_nonneg (leap y) (m - 1).toNat
  have c1 := cum_mono (leap y) (i := m.toNat) (j := 12) (by have := h.m2; omega)
  have c2 := toNat_succ (b := leap y) h.m1
  have c3 := cum_year (leap y)
  have := h.d1; have := h.d2
  rw [ahead_succ]
  unfold num
  omega
theorem Valid.range {y m d : Int} (h : Valid y m d) : 0 ≤ num y m d ∧ num y m d ≤ 73048 := by
  have h1 := h.in_year
  have h2 := ahead_le h.y1
  have h3 := ahead_le (y := y + 1) (z := 2100) (by have := h.y2; omega)
  rw [ahead_1900] at h2
  rw [ahead_2100] at h3
  have := h.y1; have := h.y2
  omega
/-- One day, one date. -/
theorem Valid.inj {y m d y' m' d' : Int} (h : Valid y m d) (h' : Valid y' m' d') (e : num y m d = num y' m' d') : y = y' ∧ m = m' ∧ d = d' := by
  have h1 := h.in_year
  have h2 := h'.in_year
  have hy : y = y' := by
    rcases Int.lt_trichotomy y y' with hlt | heq | hgt
    · have := ahead_le (y := y + 1) (z := y') (by omega); omega
    · exact heq
    · have := ahead_le (y := y' + 1) (z := y) (by omega); omega
  subst hy
  have hm : m = m' := by
    rcases Int.lt_trichotomy m m' with hlt | heq | hgt
    · exfalso
      have c1 := cum_mono (leap y) (i := m.toNat) (j := (m' - 1).toNat) (by omega)
      have c2 := toNat_succ (b := leap y) h.m1
      have := h.d2; have := h'.d1
      unfold num at e
      omega
    · exact heq
    · exfalso
      have c1 := cum_mono (leap y) (i := m'.toNat) (j := (m - 1).toNat) (by omega)
      have c2 := toNat_succ (b := leap y) h'.m1
      have := h'.d2; have := h.d1
      unfold num at e
      omega
  subst hm
  refine ⟨rfl, rfl, ?_⟩
  unfold num at e
  omega
/-- Each day has a date. -/
theorem exists_year (n : Nat) : ∀ day : Int, 0 ≤ day → day < ahead (1900 + (n : Int)) → ∃ y : Int, 1900 ≤ y ∧ y < 1900 + (n : Int) ∧ ahead y ≤ day ∧ day < ahead (y + 1) := by
  induction n with
  | zero => intro day h0 h1; rw [show (1900 : Int) + ((0 : Nat) : Int) = 1900 from rfl, ahead_1900] at h1; omega
  | succ n ih =>
    intro day h0 h1
    by_cases h : day < ahead (1900 + n)
    · obtain ⟨y, a, b, c, d⟩ := ih day h0 h; exact ⟨y, a, by omega, c, d⟩
    · exact ⟨1900 + n, by omega, by omega, by omega, by rw [show (1900 : Int) + (n : Int) + 1 = 1900 + ((n + 1 : Nat) : Int) from by omega]; exact h1⟩
theorem exists_month (b : Bool) (n : Nat) : ∀ r : Int, 0 ≤ r → r < cum b n → ∃ k : Nat, k < n ∧ cum b k ≤ r ∧ r < cum b (k + 1) := by
  induction n with
  | zero => intro r h0 h1; simp [cum] at h1; omega
  | succ n ih =>
    intro r h0 h1
    by_cases h : r < cum b n
    · obtain ⟨k, a, c⟩ := ih r h0 h; exact ⟨k, by omega, c⟩
    · exact ⟨n, by omega, by omega, h1⟩
theorem exists_date (day : Int) (h0 : 0 ≤ day) (h1 : day ≤ 73048) : ∃ y m d, Valid y m d ∧ num y m d = day := by
  obtain ⟨y, a, b, c, e⟩ := exists_year 200 day h0 (by rw [show (1900 : Int) + ((200 : Nat) : Int) = 2100 from rfl, ahead_2100]; omega)
  rw [ahead_succ] at e
  obtain ⟨k, k1, k2, k3⟩ := exists_month (leap y) 12 (day - ahead y) (by omega) (by rw [cum_year]; omega)
  refine ⟨y, (k : Int) + 1, day - ahead y - cum (leap y) k + 1, ⟨a, by omega, by omega, by omega, by omega, ?_⟩, ?_⟩
  · simp only [cum] at k3; omega
  · unfold num; rw [show ((k : Int) + 1 - 1).toNat = k from by omega]; omega

def clamp (day : Int) : Int := if day < 0 then 0 else if 73048 < day then 73048 else day
theorem clamp_le (day : Int) : 0 ≤ clamp day ∧ clamp day ≤ 73048 := by unfold clamp; repeat' split <;> omega
theorem clamp_self {day : Int} (h : 0 ≤ day ∧ day ≤ 73048) : clamp day = day := by unfold clamp; repeat' split <;> omega
def mn (x y : Int) : Int := if y < x then y else x
theorem mn_le (x y : Int) : mn x y ≤ x ∧ mn x y ≤ y ∧ (mn x y = x ∨ mn x y = y) := by unfold mn; split <;> omega
def within (n c : Int) : Int := if n < -c then -c else if c < n then c else n
/-- The date y m d, so many months later. -/
def monthsOf (y m d n : Int) : Int :=
  if 12 * y + m - 1 + within n 25188 < 22800 then 0 else if 25200 ≤ 12 * y + m - 1 + within n 25188 then 73048
  else num ((12 * y + m - 1 + within n 25188) / 12) ((12 * y + m - 1 + within n 25188) % 12 + 1) (mn d (mlen (leap ((12 * y + m - 1 + within n 25188) / 12)) ((12 * y + m - 1 + within n 25188) % 12 + 1)))
def years (a b : Int) : Int := Num.div ((clamp b - clamp a) * 1000000) 365000000
def days30 (y m d z n e : Int) : Int := 360 * (z - y) + 30 * (n - m) + mn e 30 - mn d 30
def years30 (y m d z n e : Int) : Int := Num.div (days30 y m d z n e * 1000000) 360000000
theorem valid_moved {k d : Int} (h1 : 22800 ≤ k) (h2 : k < 25200) (hd : 1 ≤ d) : Valid (k / 12) (k % 12 + 1) (mn d (mlen (leap (k / 12)) (k % 12 + 1))) := by
  have := mlen_le (leap (k / 12)) (k % 12 + 1)
  have := mn_le d (mlen (leap (k / 12)) (k % 12 + 1))
  exact ⟨by omega, by omega, by omega, by omega, by omega, by omega⟩
theorem days30_le {y m d z n e : Int} (h : Valid y m d) (h' : Valid z n e) : -72100 ≤ days30 y m d z n e ∧ days30 y m d z n e ≤ 72100 := by
  have := h.y1; have := h.y2; have := h.m1; have := h.m2; have := h.d1
  have := h'.y1; have := h'.y2; have := h'.m1; have := h'.m2; have := h'.d1
  have := mn_le e 30; have := mn_le d 30
  unfold days30
  omega
def plus (day n : Int) : Int := clamp (clamp day + (if n < -73048 then -73048 else if 73048 < n then 73048 else n))
end Go.Proofs.YtoiodfiphighgaaDoor.Date
