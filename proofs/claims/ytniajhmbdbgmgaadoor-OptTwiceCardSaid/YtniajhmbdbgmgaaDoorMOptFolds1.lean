/- math/bits.Div64 answers the quotient and the rest of hi * 2^64 + lo by y, wherever hi < y: the numbers laid into the walk. The Go functions of layer 1 (num) answer what the plain ones say. Sums and differences of layer 1 (num). Layer 3 in plain Lean: days of the calendar from 1900 to 2099. Small functions of layer 3 (date). date.Parts tells a day's date. date.Of tells a date's day. The moves of layer 3 (date). date.Months. num.Mul, num.Div and the moves of a day in the print's form. The seven rules of layer 16 over right terms: what comes of one is right, of the same type, and less. Layer 16 over right terms: what rewriting comes to is right, of the same type, no greater, and nothing is left to do at any of its terms. causal.small tells whether a term has at most 2000 terms, none deeper than 200. strings.Cut at one byte, and strings.IndexByte. -/
import Derived.Test.YtniajhmbdbgmgaaDoorMOptFolds0
import Derived.Laws.Rows
import Derived.Laws.ResultCell
import Derived.RegionTactic
import Derived.KernelRfl
import Derived.LoopTactic
import Derived.Outline
import Derived.Deep.DeepCutAuto
import Derived.Deep.CutBlock
import Derived.Shelf.Strings.SlTrimAscii
/- math/bits.Div64 answers the quotient and the rest of hi * 2^64 + lo by y, wherever hi < y: the numbers laid into the walk. -/
namespace Go.Proofs.YtniajhmbdbgmgaaDoor.XDiv
open Go Go.RowKit Go.Proofs

theorem wrapM (a : Nat) : IntKind.u64.wrap (a : Int) = ((a % 18446744073709551616 : Nat) : Int) := by rw [IntKind.wrap_u64]; omega
theorem mulw (a b : Nat) : IntKind.u64.wrap ((a : Int) * (b : Int)) = ((a * b % 18446744073709551616 : Nat) : Int) := by
  rw [← Int.natCast_mul]; exact wrapM _
theorem mulw32 (a : Nat) : IntKind.u64.wrap ((a : Int) * 4294967296) = ((a * 4294967296 % 18446744073709551616 : Nat) : Int) := mulw a 4294967296
theorem addw (a b : Nat) : IntKind.u64.wrap (((a % 18446744073709551616 : Nat) : Int) + (b : Int)) = (((a + b) % 18446744073709551616 : Nat) : Int) := by
  rw [IntKind.wrap_u64]; omega
theorem subw (n c r : Nat) (h : c + r = n) (hr : r < 18446744073709551616) :
    IntKind.u64.wrap (((n % 18446744073709551616 : Nat) : Int) - ((c % 18446744073709551616 : Nat) : Int)) = (r : Int) := by
  rw [IntKind.wrap_u64]; omega
theorem quow (a b : Nat) (h : a < 18446744073709551616) : IntKind.u64.wrap ((a : Int) / (b : Int)) = ((a / b : Nat) : Int) := by
  rw [← Int.natCast_ediv]; exact wrapN _ (Nat.lt_of_le_of_lt (Nat.div_le_self _ _) h)
theorem powc (a s : Nat) : (a : Int) * 2 ^ s = ((a * 2 ^ s : Nat) : Int) := by simp
theorem powd (a s : Nat) : (a : Int) / 2 ^ s = ((a / 2 ^ s : Nat) : Int) := by simp

theorem digit {U W1 Y : Nat} (hU : U < Y) (hW : W1 < 4294967296) :
    Digit U W1 (Y / 4294967296) (Y % 4294967296) (U / (Y / 4294967296)) (U % (Y / 4294967296)) ((U * 4294967296 + W1) / Y) where
  eq := Nat.div_add_mod' _ _
  down _ _ h hc := PDiv.down hU hW h hc
  up _ _ h hc := PDiv.up hU h hc
  up2 _ _ h hQ hR := PDiv.up2 hU h hQ hR

theorem div_pos (hi lo y : Nat) (hhi : 0 < hi) (hlt : hi < y) (hlo : lo < 18446744073709551616) (hy2 : y < 18446744073709551616) (w : World) :
    Calls Tryd.prog 124 #[.int .u64 hi, .int .u64 lo, .int .u64 y] w fun e w' =>
      e = .returned (.tuple #[.int .u64 (((hi * 18446744073709551616 + lo) / y : Nat) : Int), .int .u64 (((hi * 18446744073709551616 + lo) % y : Nat) : Int)]) ∧ ∃ n, w' = w.drewN n := by
  have hy0 : 0 < y := by omega
  obtain ⟨a0, a1, a2, a3⟩ := bitLen_pow y hy0 hy2
  obtain ⟨y1, y2, y3⟩ := scaled_div y hy0 hy2
  obtain ⟨s, hs⟩ : ∃ s, 64 - Lib.bitLen y = s := ⟨_, rfl⟩
  rw [hs] at y1 y2 y3
  have hk : 0 < 2 ^ s := Nat.pow_pos (by omega)
  have hkj : 2 ^ s * 2 ^ (64 - s) = 18446744073709551616 := by
    rw [← Nat.pow_add, Nat.add_sub_cancel' (by omega)]
  obtain ⟨hn, hU, hl⟩ := PDiv.upper (hi := hi) (lo := lo) (y := y) hk hkj hlo hlt
  obtain ⟨Y, eY⟩ : ∃ Y, Y = y * 2 ^ s := ⟨_, rfl⟩
  rw [← eY] at y1 y2 hU
  obtain ⟨U1, eU⟩ : ∃ U1, U1 = hi * 2 ^ s + lo / 2 ^ (64 - s) := ⟨_, rfl⟩
  rw [← eU] at hU hn
  have hUM : U1 < 18446744073709551616 := by omega
  obtain ⟨W, eW⟩ : ∃ W, W = lo * 2 ^ s % 18446744073709551616 := ⟨_, rfl⟩
  rw [← eW] at hn
  have hWM : W < 18446744073709551616 := by rw [eW]; exact Nat.mod_lt _ (by omega)
  have hW1 : W / 4294967296 < 4294967296 := by omega
  have hW0 : W % 4294967296 < 4294967296 := by omega
  have hY1 : 2147483648 ≤ Y / 4294967296 ∧ Y / 4294967296 < 4294967296 := by omega
  obtain ⟨p1, p2⟩ := PDiv.rest (U := U1) (u := W / 4294967296) (Y := Y) (by omega)
  have hq1 := PDiv.small hU hW1
  have hU0M := p1
  obtain ⟨q1, eq1⟩ : ∃ q1, q1 = (U1 * 4294967296 + W / 4294967296) / Y := ⟨_, rfl⟩
  obtain ⟨U0, eU0⟩ : ∃ U0, U0 = (U1 * 4294967296 + W / 4294967296) % Y := ⟨_, rfl⟩
  rw [← eq1, ← eU0] at p2
  rw [← eU0] at p1 hU0M
  obtain ⟨p3, p4⟩ := PDiv.rest (U := U0) (u := W % 4294967296) (Y := Y) (by omega)
  have hq0 := PDiv.small p1 hW0
  obtain ⟨q0, eq0⟩ : ∃ q0, q0 = (U0 * 4294967296 + W % 4294967296) / Y := ⟨_, rfl⟩
  obtain ⟨D2, eD2⟩ : ∃ D2, D2 = (U0 * 4294967296 + W % 4294967296) % Y := ⟨_, rfl⟩
  rw [← eq0, ← eD2] at p4
  rw [← eD2] at p3
  obtain ⟨z1, z2⟩ := PDiv.whole hk eY hn p2 p4 p3
  have hU0M2 : U0 < 18446744073709551616 := by omega
  have hor : (hi * 2 ^ s ||| lo / 2 ^ (64 - s)) = U1 := by
    rw [eU, Nat.mul_comm hi, ← Nat.two_pow_add_eq_or_of_lt hl]
  have hhk : hi * 2 ^ s < 18446744073709551616 := by
    have : hi * 2 ^ s ≤ U1 := by rw [eU]; exact Nat.le_add_right _ _
    omega
  have hlj : lo / 2 ^ (64 - s) < 18446744073709551616 := Nat.lt_of_le_of_lt (Nat.div_le_self _ _) hlo
  have d1 : U1 / (Y / 4294967296) * (Y / 4294967296) ≤ U1 := Nat.div_mul_le_self _ _
  have d2 : U0 / (Y / 4294967296) * (Y / 4294967296) ≤ U0 := Nat.div_mul_le_self _ _
  refine div_core hi lo y s Y (Y / 4294967296) (Y % 4294967296) U1 W (W / 4294967296) (W % 4294967296)
    (U1 / (Y / 4294967296)) (U1 / (Y / 4294967296) * (Y / 4294967296)) (U1 % (Y / 4294967296)) q1
    (U1 * 4294967296 % 18446744073709551616) ((U1 * 4294967296 + W / 4294967296) % 18446744073709551616) (q1 * Y % 18446744073709551616) U0
    (U0 / (Y / 4294967296)) (U0 / (Y / 4294967296) * (Y / 4294967296)) (U0 % (Y / 4294967296)) q0
    (U0 * 4294967296 % 18446744073709551616) ((U0 * 4294967296 + W % 4294967296) % 18446744073709551616) (q0 * Y % 18446744073709551616) D2
    hhi hlt a0 (Lib.hid hy2) (Lib.hid hs) y3 ?_ ?_ ?_ ?_ ?_ ?_ ?_ (quow _ _ hUM) ?_ ?_ (mulw32 _) (addw _ _) (mulw _ _) (subw _ _ _ p2 hU0M2)
    (quow _ _ hU0M2) ?_ ?_ (mulw32 _) (addw _ _) (mulw _ _) (subw _ _ _ p4 (by omega))
    (by omega) (by omega) (by omega) (by omega) (by omega) (by omega) (by omega)
    (eq1 ▸ digit hU hW1) ?_ ?_ ?_ (eq0 ▸ digit p1 hW0) ?_ ?_ ?_ _ _ (Lib.hid z1) (Lib.hid z2) w
  · rw [powc, ← eY]; exact wrapN _ y2
  · omega
  · exact Mul64.maskN Y y2
  · rw [powc, powd, wrapN _ hhk, bits_or_u64_nat _ _ hhk hlj, hor]
  · rw [powc, wrapM, eW]
  · omega
  · exact Mul64.maskN W hWM
  · rw [← Int.natCast_mul]; exact wrapN _ (by omega)
  · have := Nat.div_add_mod' U1 (Y / 4294967296)
    have e : ((U1 : Int) - ((U1 / (Y / 4294967296) * (Y / 4294967296) : Nat) : Int)) = ((U1 % (Y / 4294967296) : Nat) : Int) := by omega
    rw [e]; exact wrapN _ (by have := Nat.mod_lt U1 (show 0 < Y / 4294967296 by omega); omega)
  · rw [← Int.natCast_mul]; exact wrapN _ (by omega)
  · have := Nat.div_add_mod' U0 (Y / 4294967296)
    have e : ((U0 : Int) - ((U0 / (Y / 4294967296) * (Y / 4294967296) : Nat) : Int)) = ((U0 % (Y / 4294967296) : Nat) : Int) := by omega
    rw [e]; exact wrapN _ (by have := Nat.mod_lt U0 (show 0 < Y / 4294967296 by omega); omega)
  · have := Nat.mod_lt U1 (show 0 < Y / 4294967296 by omega); omega
  · have := PDiv.qhat_le y1 y2 hU; omega
  · rw [eq1]; exact PDiv.start y1 hW1
  · have := Nat.mod_lt U0 (show 0 < Y / 4294967296 by omega); omega
  · have := PDiv.qhat_le y1 y2 p1; omega
  · rw [eq0]; exact PDiv.start y1 hW0

/-- bits.Div64, wherever it does not panic. -/
theorem div64 (hi lo y : Nat) (hlt : hi < y) (hlo : lo < 18446744073709551616) (hy2 : y < 18446744073709551616) (w : World) :
    Calls Tryd.prog 124 #[.int .u64 hi, .int .u64 lo, .int .u64 y] w fun e w' =>
      e = .returned (.tuple #[.int .u64 (((hi * 18446744073709551616 + lo) / y : Nat) : Int), .int .u64 (((hi * 18446744073709551616 + lo) % y : Nat) : Int)]) ∧ ∃ n, w' = w.drewN n := by
  by_cases h : hi = 0
  · subst h
    have := div_zero lo y (by omega) hlo w
    simpa using this
  · exact div_pos hi lo y (by omega) hlt hlo hy2 w
end Go.Proofs.YtniajhmbdbgmgaaDoor.XDiv

/- The Go functions of layer 1 (num) answer what the plain ones say. -/
namespace Go.Proofs.YtniajhmbdbgmgaaDoor.XNum
open Go Go.RowKit Go.Proofs Go.Proofs.YtniajhmbdbgmgaaDoor
attribute [local go_sem] max2i min2i maxTwo minTwo

theorem ri {k : IntKind} {a b : Int} (h : a = b) : Ending.returned (.int k a) = .returned (.int k b) := by rw [h]

theorem clamp (a : Int) (w : World) : Calls Tryd.prog 34 #[.int .i64 a] w fun e w' => e = .returned (.int .i64 (Num.clamp a)) ∧ w = w' := by
  go_enter Tryd.func34, Tryd.ntmps34
  go_wp2
  all_goals
    go_ret
    refine ⟨ri ?_, rfl⟩
    show _ = Num.clamp a
    unfold Num.clamp
    repeat' split
    all_goals omega

theorem neg (a : Int) (w : World) : Calls Tryd.prog 60 #[.int .i64 a] w fun e w' => e = .returned (.int .i64 (Num.neg a)) ∧ w = w' := by
  have ha := Num.clamp_le a
  go_enter Tryd.func60, Tryd.ntmps60
  go_wp2_with (go_at_call 34; refine (clamp _ _).mono ?_; rintro e w' ⟨rfl, rfl⟩)
  go_ret
  exact ⟨by simp [Num.neg], rfl⟩

theorem split (a : Int) (w : World) : Calls Tryd.prog 95 #[.int .i64 a] w fun e w' => e = .returned (.tuple #[.int .u64 (Num.size a : Int), .bool (Num.below a)]) ∧ w = w' := by
  have ha := Num.clamp_le a
  by_cases h : Num.clamp a < 0
  · go_enter Tryd.func95, Tryd.ntmps95
    go_wp2_with (go_at_call 34; refine (clamp _ _).mono ?_; rintro e w' ⟨rfl, rfl⟩)
    go_ret2
    have e1 : ((Num.size a : Nat) : Int) = -Num.clamp a := by unfold Num.size; omega
    exact ⟨by simp [Num.below, h, e1], rfl⟩
  · go_enter Tryd.func95, Tryd.ntmps95
    go_wp2_with (go_at_call 34; refine (clamp _ _).mono ?_; rintro e w' ⟨rfl, rfl⟩)
    go_ret2
    have e1 : ((Num.size a : Nat) : Int) = Num.clamp a := by unfold Num.size; omega
    have h' : 0 ≤ Num.clamp a := by omega
    exact ⟨by simp [Num.below, h', e1], rfl⟩

theorem div64q (hi lo d q r : Nat) (hlt : hi < d) (hlo : lo < 18446744073709551616) (hd : d < 18446744073709551616)
    (hq : (hi * 18446744073709551616 + lo) / d = q) (hr : (hi * 18446744073709551616 + lo) % d = r) (w : World) :
    Calls Tryd.prog 124 #[.int .u64 hi, .int .u64 lo, .int .u64 d] w fun e w' => e = .returned (.tuple #[.int .u64 (q : Int), .int .u64 (r : Int)]) ∧ Dr w w' := by
  refine (XDiv.div64 hi lo d hlt hlo hd w).mono ?_
  rintro e w' ⟨rfl, n, rfl⟩
  rw [hq, hr]
  exact ⟨rfl, ⟨_, rfl⟩⟩

theorem mul64q (x y hi lo : Nat) (hx : x < 18446744073709551616) (hy : y < 18446744073709551616) (hhi : x * y / 18446744073709551616 = hi) (hlo : x * y % 18446744073709551616 = lo) (w : World) :
    Calls Tryd.prog 123 #[.int .u64 x, .int .u64 y] w fun e w' => e = .returned (.tuple #[.int .u64 (hi : Int), .int .u64 (lo : Int)]) ∧ w = w' := by
  refine (Tryd.bits_Mul64 x y hx hy w).mono ?_
  rintro e w' ⟨rfl, rfl⟩
  rw [hhi, hlo]
  exact ⟨rfl, rfl⟩

theorem scaled (x y d : Nat) (b : Bool) (hx : x < 18446744073709551616) (hy : y < 18446744073709551616) (hd0 : 0 < d) (hd : d < 18446744073709551616) (w : World) :
    Calls Tryd.prog 96 #[.int .u64 x, .int .u64 y, .int .u64 d, .bool b] w fun e w' => e = .returned (.int .i64 (Num.sgn b (Num.rnd x y d))) ∧ Dr w w' := by
  obtain ⟨hi, hhi⟩ : ∃ hi, x * y / 18446744073709551616 = hi := ⟨_, rfl⟩
  obtain ⟨lo, hlo⟩ : ∃ lo, x * y % 18446744073709551616 = lo := ⟨_, rfl⟩
  have hlo2 : lo < 18446744073709551616 := by omega
  have hxy : hi * 18446744073709551616 + lo = x * y := by omega
  obtain ⟨q, hq⟩ : ∃ q, x * y / d = q := ⟨_, rfl⟩
  obtain ⟨r, hr⟩ : ∃ r, x * y % d = r := ⟨_, rfl⟩
  have hr2 : r < d := by rw [← hr]; exact Nat.mod_lt _ hd0
  have HX := Lib.hid hx; have HY := Lib.hid hy; have HD := Lib.hid hd; have HLO := Lib.hid hlo2
  have Hhi := Lib.hid hhi; have Hlo := Lib.hid hlo
  have Hq : Hid ((hi * 18446744073709551616 + lo) / d = q) := Lib.hid (by rw [hxy]; exact hq)
  have Hr : Hid ((hi * 18446744073709551616 + lo) % d = r) := Lib.hid (by rw [hxy]; exact hr)
  have hrnd : Num.rnd x y d = if q < 1000000000000000 then (if d < 2 * r ∨ (2 * r = d ∧ q % 2 = 1) then q + 1 else q) else 1000000000000000 := by
    unfold Num.rnd; rw [hq, hr]
  have Hrnd := Lib.hid hrnd
  have hbig : d ≤ hi → 1000000000000000 ≤ q := fun h => by
    rw [← hq, Nat.le_div_iff_mul_le hd0, ← hxy]
    have := Nat.mul_le_mul_left 18446744073709551616 h
    omega
  have hbd : (d : Int) ≤ 18446744073709551615 := by omega
  clear hrnd hq hr hxy hhi hlo hx hy hd hlo2
  by_cases c1 : (hi : Int) < (d : Int)
  · have c1b : decide ((hi : Int) < (d : Int)) = true := decide_eq_true c1
    by_cases c2 : (q : Int) < 1000000000000000
    · have c2b : decide ((q : Int) < 1000000000000000) = true := decide_eq_true c2
      have key : ∀ n : Nat, (n : Int) ≤ 1000000000000000 → Num.rnd x y d = n → True := fun _ _ _ => trivial
      clear hbig key
      by_cases c3 : (d : Int) - (r : Int) < (r : Int)
      · have c3b : decide ((d : Int) - (r : Int) < (r : Int)) = true := decide_eq_true c3
        have hn : Hid (Num.rnd x y d = q + 1) := Lib.hid (by rw [Hrnd.out, if_pos (by omega), if_pos (.inl (by omega))])
        cases b
        all_goals
          go_enter Tryd.func96, Tryd.ntmps96
          go_wp2_with (first | (go_at_call 123; refine (mul64q _ _ hi lo HX.out HY.out Hhi.out Hlo.out _).mono ?_; rintro e w' ⟨rfl, rfl⟩) | (go_at_call 124; refine (div64q _ _ _ q r (by omega) HLO.out HD.out Hq.out Hr.out _).mono ?_; rintro e w' ⟨rfl, n, rfl⟩))
          go_ret
          exact ⟨by rw [hn.out]; simp [Num.sgn], ⟨_, rfl⟩⟩
      · have c3b : decide ((d : Int) - (r : Int) < (r : Int)) = false := decide_eq_false c3
        by_cases c4 : (r : Int) = (d : Int) - (r : Int)
        · have c4b : ((r : Int) == (d : Int) - (r : Int)) = true := beq_iff_eq.2 c4
          clear c4
          by_cases c5 : (q : Int) % 2 = 1
          · have c5b : ((q : Int) % 2 == 1) = true := beq_iff_eq.2 c5
            have hn : Hid (Num.rnd x y d = q + 1) := Lib.hid (by rw [Hrnd.out, if_pos (by omega), if_pos (.inr ⟨by rw [beq_iff_eq] at c4b; omega, by omega⟩)])
            clear c5
            cases b
            all_goals
              go_enter Tryd.func96, Tryd.ntmps96
              go_wp2_with (first | (go_at_call 123; refine (mul64q _ _ hi lo HX.out HY.out Hhi.out Hlo.out _).mono ?_; rintro e w' ⟨rfl, rfl⟩) | (go_at_call 124; refine (div64q _ _ _ q r (by omega) HLO.out HD.out Hq.out Hr.out _).mono ?_; rintro e w' ⟨rfl, n, rfl⟩))
              go_ret
              exact ⟨by rw [hn.out]; simp [Num.sgn], ⟨_, rfl⟩⟩
          · have c5b : ((q : Int) % 2 == 1) = false := beq_eq_false_iff_ne.2 c5
            have hn : Hid (Num.rnd x y d = q) := Lib.hid (by rw [Hrnd.out, if_pos (by omega), if_neg (by omega)])
            clear c5
            cases b
            all_goals
              go_enter Tryd.func96, Tryd.ntmps96
              go_wp2_with (first | (go_at_call 123; refine (mul64q _ _ hi lo HX.out HY.out Hhi.out Hlo.out _).mono ?_; rintro e w' ⟨rfl, rfl⟩) | (go_at_call 124; refine (div64q _ _ _ q r (by omega) HLO.out HD.out Hq.out Hr.out _).mono ?_; rintro e w' ⟨rfl, n, rfl⟩))
              go_ret
              exact ⟨by rw [hn.out]; simp [Num.sgn], ⟨_, rfl⟩⟩
        · have c4b : ((r : Int) == (d : Int) - (r : Int)) = false := beq_eq_false_iff_ne.2 c4
          have hn : Hid (Num.rnd x y d = q) := Lib.hid (by rw [Hrnd.out, if_pos (by omega), if_neg (by omega)])
          clear c4
          cases b
          all_goals
            go_enter Tryd.func96, Tryd.ntmps96
            go_wp2_with (first | (go_at_call 123; refine (mul64q _ _ hi lo HX.out HY.out Hhi.out Hlo.out _).mono ?_; rintro e w' ⟨rfl, rfl⟩) | (go_at_call 124; refine (div64q _ _ _ q r (by omega) HLO.out HD.out Hq.out Hr.out _).mono ?_; rintro e w' ⟨rfl, n, rfl⟩))
            go_ret
            exact ⟨by rw [hn.out]; simp [Num.sgn], ⟨_, rfl⟩⟩
    · have c2b : decide ((q : Int) < 1000000000000000) = false := decide_eq_false c2
      have hn : Hid (Num.rnd x y d = 1000000000000000) := Lib.hid (by rw [Hrnd.out, if_neg (by omega)])
      clear hbig
      cases b
      all_goals
        go_enter Tryd.func96, Tryd.ntmps96
        go_wp2_with (first | (go_at_call 123; refine (mul64q _ _ hi lo HX.out HY.out Hhi.out Hlo.out _).mono ?_; rintro e w' ⟨rfl, rfl⟩) | (go_at_call 124; refine (div64q _ _ _ q r (by omega) HLO.out HD.out Hq.out Hr.out _).mono ?_; rintro e w' ⟨rfl, n, rfl⟩))
        go_ret
        exact ⟨by rw [hn.out]; simp [Num.sgn], ⟨_, rfl⟩⟩
  · have c1b : decide ((hi : Int) < (d : Int)) = false := decide_eq_false c1
    have hb := hbig (by omega)
    have hn : Hid (Num.rnd x y d = 1000000000000000) := Lib.hid (by rw [Hrnd.out, if_neg (by omega)])
    clear hbig hb
    cases b
    all_goals
      go_enter Tryd.func96, Tryd.ntmps96
      go_wp2_with (go_at_call 123; refine (mul64q _ _ hi lo HX.out HY.out Hhi.out Hlo.out _).mono ?_; rintro e w' ⟨rfl, rfl⟩)
      go_ret
      exact ⟨by rw [hn.out]; simp [Num.sgn], ⟨0, rfl⟩⟩

theorem mul (a b : Int) (w : World) : Calls Tryd.prog 62 #[.int .i64 a, .int .i64 b] w fun e w' => e = .returned (.int .i64 (Num.mul a b)) ∧ Dr w w' := by
  have h1 := Num.size_le a
  have h2 := Num.size_le b
  have H1 : Hid (Num.size a < 18446744073709551616) := Lib.hid (by omega)
  have H2 : Hid (Num.size b < 18446744073709551616) := Lib.hid (by omega)
  clear h1 h2
  go_enter Tryd.func62, Tryd.ntmps62
  go_wp2_with (first | (go_at_call 95; refine (split _ _).mono ?_; rintro e w' ⟨rfl, rfl⟩) | (go_at_call 96; refine (scaled _ _ 1000000 _ H1.out H2.out (by omega) (by omega) _).mono ?_; rintro e w' ⟨rfl, n, rfl⟩))
  go_ret
  exact ⟨by simp [Num.mul], ⟨_, rfl⟩⟩

theorem div (a b : Int) (w : World) : Calls Tryd.prog 86 #[.int .i64 a, .int .i64 b] w fun e w' => e = .returned (.int .i64 (Num.div a b)) ∧ Dr w w' := by
  have h1 := Num.size_le a
  have h2 := Num.size_le b
  have H1 : Hid (Num.size a < 18446744073709551616) := Lib.hid (by omega)
  have H2 : Hid (Num.size b < 18446744073709551616) := Lib.hid (by omega)
  clear h1 h2
  by_cases h0 : Num.size b = 0
  · have hb : (((Num.size b : Nat) : Int) == 0) = true := beq_iff_eq.2 (by omega)
    have hn : Hid (Num.div a b = 0) := Lib.hid (by unfold Num.div; rw [if_pos h0])
    clear h0
    go_enter Tryd.func86, Tryd.ntmps86
    go_wp2_with (go_at_call 95; refine (split _ _).mono ?_; rintro e w' ⟨rfl, rfl⟩)
    go_ret
    exact ⟨by rw [hn.out]; simp, ⟨0, rfl⟩⟩
  · have hb : (((Num.size b : Nat) : Int) == 0) = false := beq_eq_false_iff_ne.2 (by omega)
    have hn : Hid (Num.div a b = Num.sgn (!(Num.below a == Num.below b)) (Num.rnd (Num.size a) 1000000 (Num.size b))) := Lib.hid (by unfold Num.div; rw [if_neg h0])
    go_enter Tryd.func86, Tryd.ntmps86
    go_wp2_with (first | (go_at_call 95; refine (split _ _).mono ?_; rintro e w' ⟨rfl, rfl⟩) | (go_at_call 96; refine (scaled _ 1000000 _ _ H1.out (by omega) (by omega) H2.out _).mono ?_; rintro e w' ⟨rfl, n, rfl⟩))
    go_ret
    exact ⟨by rw [hn.out]; simp, ⟨_, rfl⟩⟩
end Go.Proofs.YtniajhmbdbgmgaaDoor.XNum

/- Sums and differences of layer 1 (num). -/
namespace Go.Proofs.YtniajhmbdbgmgaaDoor.XNum
open Go Go.RowKit Go.Proofs Go.Proofs.YtniajhmbdbgmgaaDoor

theorem add (a b : Int) (w : World) : Calls Tryd.prog 84 #[.int .i64 a, .int .i64 b] w fun e w' => e = .returned (.int .i64 (Num.add a b)) ∧ w = w' := by
  have ha := Num.clamp_le a
  have hb := Num.clamp_le b
  go_enter Tryd.func84, Tryd.ntmps84
  go_wp2_with (go_at_call 34; refine (clamp _ _).mono ?_; rintro e w' ⟨rfl, rfl⟩)
  go_ret
  exact ⟨by simp [Num.add], rfl⟩

theorem sub (a b : Int) (w : World) : Calls Tryd.prog 85 #[.int .i64 a, .int .i64 b] w fun e w' => e = .returned (.int .i64 (Num.sub a b)) ∧ w = w' := by
  have ha := Num.clamp_le a
  have hb := Num.clamp_le b
  go_enter Tryd.func85, Tryd.ntmps85
  go_wp2_with (go_at_call 34; refine (clamp _ _).mono ?_; rintro e w' ⟨rfl, rfl⟩)
  go_ret
  exact ⟨by simp [Num.sub], rfl⟩
end Go.Proofs.YtniajhmbdbgmgaaDoor.XNum

/- Layer 3 in plain Lean: days of the calendar from 1900 to 2099. -/
namespace Go.Proofs.YtniajhmbdbgmgaaDoor.Date

def leap (y : Int) : Bool := y % 4 == 0 && (!(y % 100 == 0) || y % 400 == 0)
def mlen (b : Bool) (m : Int) : Int := if m = 2 then (if b then 29 else 28) else if m = 4 ∨ m = 6 ∨ m = 9 ∨ m = 11 then 30 else 31
/-- The days of the first months of a year. -/
def cum (b : Bool) : Nat → Int
  | 0 => 0
  | k + 1 => cum b k + mlen b (k + 1)
def ahead (y : Int) : Int := 365 * (y - 1900) + (y - 1) / 4 - (y - 1) / 100 + (y - 1) / 400 - 460
def num (y m d : Int) : Int := ahead y + cum (leap y) (m - 1).toNat + d - 1
structure Valid (y m d : Int) : Prop where
  y1 : 1900 ≤ y
  y2 : y ≤ 2099
  m1 : 1 ≤ m
  m2 : m ≤ 12
  d1 : 1 ≤ d
  d2 : d ≤ mlen (leap y) m

theorem mlen_le (b : Bool) (m : Int) : 28 ≤ mlen b m ∧ mlen b m ≤ 31 := by
  unfold mlen; split
  · cases b <;> simp
  · split <;> omega
theorem cum_year (b : Bool) : cum b 12 = 365 + (if b then 1 else 0) := by cases b <;> decide
theorem cum_mono (b : Bool) {i j : Nat} (h : i ≤ j) : cum b i ≤ cum b j := by
  induction h with
  | refl => exact Int.le_refl _
  | @step k _ ih => have := mlen_le b ((k : Int) + 1); simp only [cum]; omega
theorem cum_nonneg (b : Bool) (i : Nat) : 0 ≤ cum b i := cum_mono b (Nat.zero_le i)
theorem leap_iff (y : Int) : leap y = true ↔ (y % 4 = 0 ∧ (¬ y % 100 = 0 ∨ y % 400 = 0)) := by
  simp [leap]
theorem ahead_succ (y : Int) : ahead (y + 1) = ahead y + 365 + (if leap y then 1 else 0) := by
  have h := leap_iff y
  unfold ahead
  by_cases hl : leap y = true
  · rw [if_pos hl]
    have := h.1 hl
    omega
  · rw [if_neg hl]
    have : ¬ (y % 4 = 0 ∧ (¬ y % 100 = 0 ∨ y % 400 = 0)) := fun h' => hl (h.2 h')
    omega
theorem ahead_le {y z : Int} (h : y ≤ z) : ahead y + 365 * (z - y) ≤ ahead z := by unfold ahead; omega
theorem ahead_ub {y : Int} (h : 1900 ≤ y) : ahead y ≤ 366 * (y - 1900) := by unfold ahead; omega
theorem ahead_lb {y : Int} (h : 1900 ≤ y) : 365 * (y - 1900) ≤ ahead y := by unfold ahead; omega
theorem ahead_1900 : ahead 1900 = 0 := by decide
theorem ahead_2100 : ahead 2100 = 73049 := by decide
theorem toNat_succ {b : Bool} {m : Int} (h1 : 1 ≤ m) : cum b m.toNat = cum b (m - 1).toNat + mlen b m := by
  obtain ⟨k, hk⟩ : ∃ k : Nat, m = (k : Int) + 1 := ⟨(m - 1).toNat, by omega⟩
  subst hk
  rw [show ((k : Int) + 1).toNat = k + 1 from by omega, show ((k : Int) + 1 - 1).toNat = k from by omega]
  rfl
/-- A date's day lies in its year, and in its month. -/
theorem Valid.in_year {y m d : Int} (h : Valid y m d) : ahead y ≤ num y m d ∧ num y m d < ahead (y + 1) := by
  have c0 := cum_nonneg (leap y) (m - 1).toNat
  have c1 := cum_mono (leap y) (i := m.toNat) (j := 12) (by have := h.m2; omega)
  have c2 := toNat_succ (b := leap y) h.m1
  have c3 := cum_year (leap y)
  have := h.d1; have := h.d2
  rw [ahead_succ]
  unfold num
  omega
theorem Valid.range {y m d : Int} (h : Valid y m d) : 0 ≤ num y m d ∧ num y m d ≤ 73048 := by
  have h1 := h.in_year
  have h2 := ahead_le h.y1
  have h3 := ahead_le (y := y + 1) (z := 2100) (by have := h.y2; omega)
  rw [ahead_1900] at h2
  rw [ahead_2100] at h3
  have := h.y1; have := h.y2
  omega
/-- One day, one date. -/
theorem Valid.inj {y m d y' m' d' : Int} (h : Valid y m d) (h' : Valid y' m' d') (e : num y m d = num y' m' d') : y = y' ∧ m = m' ∧ d = d' := by
  have h1 := h.in_year
  have h2 := h'.in_year
  have hy : y = y' := by
    rcases Int.lt_trichotomy y y' with hlt | heq | hgt
    · have := ahead_le (y := y + 1) (z := y') (by omega); omega
    · exact heq
    · have := ahead_le (y := y' + 1) (z := y) (by omega); omega
  subst hy
  have hm : m = m' := by
    rcases Int.lt_trichotomy m m' with hlt | heq | hgt
    · exfalso
      have c1 := cum_mono (leap y) (i := m.toNat) (j := (m' - 1).toNat) (by omega)
      have c2 := toNat_succ (b := leap y) h.m1
      have := h.d2; have := h'.d1
      unfold num at e
      omega
    · exact heq
    · exfalso
      have c1 := cum_mono (leap y) (i := m'.toNat) (j := (m - 1).toNat) (by omega)
      have c2 := toNat_succ (b := leap y) h'.m1
      have := h'.d2; have := h.d1
      unfold num at e
      omega
  subst hm
  refine ⟨rfl, rfl, ?_⟩
  unfold num at e
  omega
/-- Each day has a date. -/
theorem exists_year (n : Nat) : ∀ day : Int, 0 ≤ day → day < ahead (1900 + (n : Int)) → ∃ y : Int, 1900 ≤ y ∧ y < 1900 + (n : Int) ∧ ahead y ≤ day ∧ day < ahead (y + 1) := by
  induction n with
  | zero => intro day h0 h1; rw [show (1900 : Int) + ((0 : Nat) : Int) = 1900 from rfl, ahead_1900] at h1; omega
  | succ n ih =>
    intro day h0 h1
    by_cases h : day < ahead (1900 + n)
    · obtain ⟨y, a, b, c, d⟩ := ih day h0 h; exact ⟨y, a, by omega, c, d⟩
    · exact ⟨1900 + n, by omega, by omega, by omega, by rw [show (1900 : Int) + (n : Int) + 1 = 1900 + ((n + 1 : Nat) : Int) from by omega]; exact h1⟩
theorem exists_month (b : Bool) (n : Nat) : ∀ r : Int, 0 ≤ r → r < cum b n → ∃ k : Nat, k < n ∧ cum b k ≤ r ∧ r < cum b (k + 1) := by
  induction n with
  | zero => intro r h0 h1; simp [cum] at h1; omega
  | succ n ih =>
    intro r h0 h1
    by_cases h : r < cum b n
    · obtain ⟨k, a, c⟩ := ih r h0 h; exact ⟨k, by omega, c⟩
    · exact ⟨n, by omega, by omega, h1⟩
theorem exists_date (day : Int) (h0 : 0 ≤ day) (h1 : day ≤ 73048) : ∃ y m d, Valid y m d ∧ num y m d = day := by
  obtain ⟨y, a, b, c, e⟩ := exists_year 200 day h0 (by rw [show (1900 : Int) + ((200 : Nat) : Int) = 2100 from rfl, ahead_2100]; omega)
  rw [ahead_succ] at e
  obtain ⟨k, k1, k2, k3⟩ := exists_month (leap y) 12 (day - ahead y) (by omega) (by rw [cum_year]; omega)
  refine ⟨y, (k : Int) + 1, day - ahead y - cum (leap y) k + 1, ⟨a, by omega, by omega, by omega, by omega, ?_⟩, ?_⟩
  · simp only [cum] at k3; omega
  · unfold num; rw [show ((k : Int) + 1 - 1).toNat = k from by omega]; omega

def clamp (day : Int) : Int := if day < 0 then 0 else if 73048 < day then 73048 else day
theorem clamp_le (day : Int) : 0 ≤ clamp day ∧ clamp day ≤ 73048 := by unfold clamp; repeat' split <;> omega
theorem clamp_self {day : Int} (h : 0 ≤ day ∧ day ≤ 73048) : clamp day = day := by unfold clamp; repeat' split <;> omega
def mn (x y : Int) : Int := if y < x then y else x
theorem mn_le (x y : Int) : mn x y ≤ x ∧ mn x y ≤ y ∧ (mn x y = x ∨ mn x y = y) := by unfold mn; split <;> omega
def within (n c : Int) : Int := if n < -c then -c else if c < n then c else n
/-- The date y m d, so many months later. -/
def monthsOf (y m d n : Int) : Int :=
  if 12 * y + m - 1 + within n 25188 < 22800 then 0 else if 25200 ≤ 12 * y + m - 1 + within n 25188 then 73048
  else num ((12 * y + m - 1 + within n 25188) / 12) ((12 * y + m - 1 + within n 25188) % 12 + 1) (mn d (mlen (leap ((12 * y + m - 1 + within n 25188) / 12)) ((12 * y + m - 1 + within n 25188) % 12 + 1)))
def years (a b : Int) : Int := Num.div ((clamp b - clamp a) * 1000000) 365000000
def days30 (y m d z n e : Int) : Int := 360 * (z - y) + 30 * (n - m) + mn e 30 - mn d 30
def years30 (y m d z n e : Int) : Int := Num.div (days30 y m d z n e * 1000000) 360000000
theorem valid_moved {k d : Int} (h1 : 22800 ≤ k) (h2 : k < 25200) (hd : 1 ≤ d) : Valid (k / 12) (k % 12 + 1) (mn d (mlen (leap (k / 12)) (k % 12 + 1))) := by
  have := mlen_le (leap (k / 12)) (k % 12 + 1)
  have := mn_le d (mlen (leap (k / 12)) (k % 12 + 1))
  exact ⟨by omega, by omega, by omega, by omega, by omega, by omega⟩
theorem days30_le {y m d z n e : Int} (h : Valid y m d) (h' : Valid z n e) : -72100 ≤ days30 y m d z n e ∧ days30 y m d z n e ≤ 72100 := by
  have := h.y1; have := h.y2; have := h.m1; have := h.m2; have := h.d1
  have := h'.y1; have := h'.y2; have := h'.m1; have := h'.m2; have := h'.d1
  have := mn_le e 30; have := mn_le d 30
  unfold days30
  omega
def plus (day n : Int) : Int := clamp (clamp day + (if n < -73048 then -73048 else if 73048 < n then 73048 else n))
end Go.Proofs.YtniajhmbdbgmgaaDoor.Date

/- Small functions of layer 3 (date). -/
namespace Go.Proofs.YtniajhmbdbgmgaaDoor.XDate
open Go Go.RowKit Go.Proofs Go.Proofs.YtniajhmbdbgmgaaDoor
attribute [local go_sem] max2i min2i maxTwo minTwo

theorem leap (y : Int) (h1 : 1 ≤ y) (h2 : y ≤ 10000) (w : World) : Calls Tryd.prog 134 #[.int .i64 y] w fun e w' => e = .returned (.bool (Date.leap y)) ∧ w = w' := by
  obtain ⟨r, hr⟩ : ∃ r, Date.leap y = r := ⟨_, rfl⟩
  rw [hr]
  have Hr := Lib.hid hr
  clear hr
  by_cases c1 : y % 4 = 0
  · have c1b : (y % 4 == 0) = true := beq_iff_eq.2 c1
    by_cases c2 : y % 100 = 0
    · have c2b : (y % 100 != 0) = false := by rw [bne_eq_false_iff_eq]; exact c2
      by_cases c3 : y % 400 = 0
      · have c3b : (y % 400 == 0) = true := beq_iff_eq.2 c3
        have e1 : r = true := by rw [← Hr.out, Date.leap_iff]; omega
        clear c1 c2 c3
        subst e1
        go_enter Tryd.func134, Tryd.ntmps134
        go_wp2
        go_ret
        exact ⟨by simp, rfl⟩
      · have c3b : (y % 400 == 0) = false := beq_eq_false_iff_ne.2 c3
        have e1 : r = false := by rw [← Hr.out, Bool.eq_false_iff, Ne, Date.leap_iff]; omega
        clear c1 c2 c3
        subst e1
        go_enter Tryd.func134, Tryd.ntmps134
        go_wp2
        go_ret
        exact ⟨by simp, rfl⟩
    · have c2b : (y % 100 != 0) = true := by rw [bne_iff_ne]; exact c2
      have e1 : r = true := by rw [← Hr.out, Date.leap_iff]; omega
      clear c1 c2
      subst e1
      go_enter Tryd.func134, Tryd.ntmps134
      go_wp2
      go_ret
      exact ⟨by simp, rfl⟩
  · have c1b : (y % 4 == 0) = false := beq_eq_false_iff_ne.2 c1
    have e1 : r = false := by rw [← Hr.out, Bool.eq_false_iff, Ne, Date.leap_iff]; omega
    clear c1
    subst e1
    go_enter Tryd.func134, Tryd.ntmps134
    go_wp2
    go_ret
    exact ⟨by simp, rfl⟩

theorem days (y : Int) (h1 : 1 ≤ y) (h2 : y ≤ 10000) (w : World) : Calls Tryd.prog 133 #[.int .i64 y] w fun e w' => e = .returned (.int .i64 (365 + if Date.leap y then 1 else 0)) ∧ w = w' := by
  obtain ⟨b, hb⟩ : ∃ b, Date.leap y = b := ⟨_, rfl⟩
  have hl := fun w => leap y h1 h2 w
  rw [hb] at hl ⊢
  have HL := Lib.hid hl
  clear hl hb
  cases b
  all_goals
    go_enter Tryd.func133, Tryd.ntmps133
    go_wp2_with (go_at_call 134; refine (HL.out _).mono ?_; rintro e w' ⟨rfl, rfl⟩)
    go_ret
    exact ⟨by simp, rfl⟩

theorem ahead (y : Int) (h1 : 1 ≤ y) (h2 : y ≤ 10000) (w : World) : Calls Tryd.prog 132 #[.int .i64 y] w fun e w' => e = .returned (.int .i64 (Date.ahead y)) ∧ w = w' := by
  go_enter Tryd.func132, Tryd.ntmps132
  go_wp2
  go_ret
  refine ⟨XNum.ri ?_, rfl⟩
  show _ = Date.ahead y
  unfold Date.ahead
  simp
  omega

def lens (b : Bool) : Array Value := #[.int .i64 31, .int .i64 (if b then 29 else 28), .int .i64 31, .int .i64 30, .int .i64 31, .int .i64 30, .int .i64 31, .int .i64 31, .int .i64 30, .int .i64 31, .int .i64 30, .int .i64 31]

set_option maxHeartbeats 1000000 in
theorem lengths (y : Int) (h1 : 1 ≤ y) (h2 : y ≤ 10000) (w : World) : Calls Tryd.prog 115 #[.int .i64 y] w fun e w' => e = .returned (.agg (lens (Date.leap y))) ∧ Below w.heap.size w w' := by
  obtain ⟨b, hb⟩ : ∃ b, Date.leap y = b := ⟨_, rfl⟩
  have hl := fun w => leap y h1 h2 w
  rw [hb] at hl ⊢
  have HL := Lib.hid hl
  clear hl hb
  cases b
  all_goals
    go_enter Tryd.func115, Tryd.ntmps115
    go_wp2_with (go_at_call 134; refine (HL.out _).mono ?_; rintro e w' ⟨rfl, rfl⟩)
    refine bodyPost_ret (v := .agg (lens _)) (by simp [results, Tryd.results115, go_sem]; rfl) rfl ⟨rfl, ?_⟩
    exact ((Below.refl _ _).alloc (Nat.le_refl _) _).alloc (by simp) _

theorem lens0 (b : Bool) (w : World) : (Instr.index 153 (.agg (lens b)) (.int .i64 0)).run Tryd.prog w = .ok (.int .i64 31) w := by cases b <;> kernel_rfl
theorem lens1 (b : Bool) (w : World) : (Instr.index 153 (.agg (lens b)) (.int .i64 1)).run Tryd.prog w = .ok (.int .i64 (if b then 29 else 28)) w := by cases b <;> kernel_rfl
theorem lens2 (b : Bool) (w : World) : (Instr.index 153 (.agg (lens b)) (.int .i64 2)).run Tryd.prog w = .ok (.int .i64 31) w := by cases b <;> kernel_rfl
theorem lens3 (b : Bool) (w : World) : (Instr.index 153 (.agg (lens b)) (.int .i64 3)).run Tryd.prog w = .ok (.int .i64 30) w := by cases b <;> kernel_rfl
theorem lens4 (b : Bool) (w : World) : (Instr.index 153 (.agg (lens b)) (.int .i64 4)).run Tryd.prog w = .ok (.int .i64 31) w := by cases b <;> kernel_rfl
theorem lens5 (b : Bool) (w : World) : (Instr.index 153 (.agg (lens b)) (.int .i64 5)).run Tryd.prog w = .ok (.int .i64 30) w := by cases b <;> kernel_rfl
theorem lens6 (b : Bool) (w : World) : (Instr.index 153 (.agg (lens b)) (.int .i64 6)).run Tryd.prog w = .ok (.int .i64 31) w := by cases b <;> kernel_rfl
theorem lens7 (b : Bool) (w : World) : (Instr.index 153 (.agg (lens b)) (.int .i64 7)).run Tryd.prog w = .ok (.int .i64 31) w := by cases b <;> kernel_rfl
theorem lens8 (b : Bool) (w : World) : (Instr.index 153 (.agg (lens b)) (.int .i64 8)).run Tryd.prog w = .ok (.int .i64 30) w := by cases b <;> kernel_rfl
theorem lens9 (b : Bool) (w : World) : (Instr.index 153 (.agg (lens b)) (.int .i64 9)).run Tryd.prog w = .ok (.int .i64 31) w := by cases b <;> kernel_rfl
theorem lens10 (b : Bool) (w : World) : (Instr.index 153 (.agg (lens b)) (.int .i64 10)).run Tryd.prog w = .ok (.int .i64 30) w := by cases b <;> kernel_rfl
theorem lens11 (b : Bool) (w : World) : (Instr.index 153 (.agg (lens b)) (.int .i64 11)).run Tryd.prog w = .ok (.int .i64 31) w := by cases b <;> kernel_rfl
theorem lens_at (b : Bool) (i : Nat) (hi : i < 12) (w : World) :
    (Instr.index 153 (.agg (lens b)) (.int .i64 (i : Int))).run Tryd.prog w = .ok (.int .i64 (Date.mlen b ((i : Int) + 1))) w := by
  match i, hi with
  | 0, _ => exact lens0 b w
  | 1, _ => exact lens1 b w
  | 2, _ => exact lens2 b w
  | 3, _ => exact lens3 b w
  | 4, _ => exact lens4 b w
  | 5, _ => exact lens5 b w
  | 6, _ => exact lens6 b w
  | 7, _ => exact lens7 b w
  | 8, _ => exact lens8 b w
  | 9, _ => exact lens9 b w
  | 10, _ => exact lens10 b w
  | 11, _ => exact lens11 b w

theorem clamp (day : Int) (w : World) : Calls Tryd.prog 103 #[.int .i64 day] w fun e w' => e = .returned (.int .i64 (Date.clamp day)) ∧ w = w' := by
  go_enter Tryd.func103, Tryd.ntmps103
  go_wp2
  all_goals
    go_ret
    refine ⟨XNum.ri ?_, rfl⟩
    show _ = Date.clamp day
    unfold Date.clamp
    repeat' split
    all_goals omega
end Go.Proofs.YtniajhmbdbgmgaaDoor.XDate

/- date.Parts tells a day's date. -/
namespace Go.Proofs.YtniajhmbdbgmgaaDoor.XDate
open Go Go.RowKit Go.Proofs Go.Proofs.YtniajhmbdbgmgaaDoor

theorem partsOut (day : Int) (h : day < 0 ∨ 73048 < day) (w : World) :
    Calls Tryd.prog 113 #[.int .i64 day] w fun e w' => e = .returned (.tuple #[.int .i64 0, .int .i64 0, .int .i64 0, .int .i64 30]) ∧ w = w' := by
  by_cases c1 : day < 0
  · have c1b : decide (day < 0) = true := decide_eq_true c1
    clear h
    go_enter Tryd.func113, Tryd.ntmps113
    go_wp2
    exact bodyPost_ret (v := .tuple #[.int .i64 0, .int .i64 0, .int .i64 0, .int .i64 30]) (by simp [results, Tryd.results113]) rfl ⟨rfl, rfl⟩
  · have c1b : decide (day < 0) = false := decide_eq_false c1
    have c2b : decide (73048 < day) = true := decide_eq_true (by omega)
    clear h
    go_enter Tryd.func113, Tryd.ntmps113
    go_wp2
    exact bodyPost_ret (v := .tuple #[.int .i64 0, .int .i64 0, .int .i64 0, .int .i64 30]) (by simp [results, Tryd.results113]) rfl ⟨rfl, rfl⟩

/-- The steps of the first loop: a year is the day's, or the day lies behind it. -/
theorem year_step {y m d Y : Int} (hv : Date.Valid y m d) (hY : 1900 ≤ Y) (hYy : Y ≤ y) :
    0 ≤ Date.ahead Y ∧ Date.ahead Y ≤ 73048 ∧ (Y < y → 365 + (if Date.leap Y then 1 else 0) ≤ Date.num y m d - Date.ahead Y) ∧ (Y = y → Date.num y m d - Date.ahead Y < 365 + (if Date.leap Y then 1 else 0)) := by
  have h1 := hv.in_year
  have h2 := hv.range
  have h3 := Date.ahead_lb hY
  have h4 := Date.ahead_le hYy
  have h5 := Date.ahead_succ Y
  refine ⟨by omega, by omega, fun h => ?_, fun h => ?_⟩
  · have := Date.ahead_le (y := Y + 1) (z := y) (by omega); omega
  · subst h; omega

set_option maxHeartbeats 2000000 in
set_option maxRecDepth 100000 in
theorem parts (y m d : Int) (hv : Date.Valid y m d) (w : World) :
    Calls Tryd.prog 113 #[.int .i64 (Date.num y m d)] w fun e w' => e = .returned (.tuple #[.int .i64 y, .int .i64 m, .int .i64 d, .int .i64 0]) ∧ Below w.heap.size w w' := by
  obtain ⟨day, hday⟩ : ∃ day, Date.num y m d = day := ⟨_, rfl⟩
  have hr := hv.range
  have hst := fun Y => year_step (Y := Y) hv
  rw [hday] at hr hst ⊢
  obtain ⟨r1, r2⟩ := hr
  have HV := Lib.hid hv
  have HST := Lib.hid hst
  have hy1 := hv.y1
  have hy2 := hv.y2
  have hst0 : 1900 + day / 366 ≤ y := by
    have h1 := hv.in_year
    have h2 := Date.ahead_ub (y := y + 1) (by omega)
    omega
  have HD := Lib.hid hday
  clear hst hday hv
  have c1 : decide (day < 0) = false := decide_eq_false (by omega)
  have c2 : decide (73048 < day) = false := decide_eq_false (by omega)
  go_enter Tryd.func113, Tryd.ntmps113
  go_upto_block 0 with fail
  go_cut [8] (fun v wr => v = .int .i64 y ∧ wr = w)
  case first =>
    go_wp2_with fail
    go_loop [8] (fun v => ∃ Y : Int, v = .int .i64 Y ∧ 1900 ≤ Y ∧ Y ≤ y) (fun v => (y - intOf v).toNat)
    case atStart => exact ⟨_, rfl, by omega, hst0⟩
    case round =>
      obtain ⟨Y, rfl, hY1, hY2⟩ := hrel
      obtain ⟨a1, a2, a3, a4⟩ := HST.out Y hY1 hY2
      have hA := fun w => ahead Y (by omega) (by omega) w
      have hB := fun w => days Y (by omega) (by omega) w
      obtain ⟨A, eA⟩ : ∃ A, Date.ahead Y = A := ⟨_, rfl⟩
      obtain ⟨B, eB⟩ : ∃ B, (365 + (if Date.leap Y then 1 else 0) : Int) = B := ⟨_, rfl⟩
      rw [eA] at hA a1 a2 a3 a4
      rw [eB] at hB a3 a4
      have hB1 : B ≤ 366 ∧ 365 ≤ B := by rw [← eB]; split <;> omega
      obtain ⟨hB1, hB2⟩ := hB1
      have HA := Lib.hid hA; have HB := Lib.hid hB
      clear hA hB eA eB
      by_cases hlt : Y < y
      · have b1 := a3 hlt
        have b2 : decide (B ≤ day - A) = true := decide_eq_true b1
        clear a3 a4
        go_wp2_with (first | (go_at_call 132; refine (HA.out _).mono ?_; rintro e w' ⟨rfl, rfl⟩) | (go_at_call 133; refine (HB.out _).mono ?_; rintro e w' ⟨rfl, rfl⟩))
        go_round
        case rel => exact ⟨Y + 1, rfl, by omega, by omega⟩
        case measure => simp [intOf]; omega
      · obtain rfl : Y = y := by omega
        have b1 := a4 rfl
        have b2 : decide (B ≤ day - A) = false := decide_eq_false (by omega)
        clear a3 a4
        go_wp2_with (first | (go_at_call 132; refine (HA.out _).mono ?_; rintro e w' ⟨rfl, rfl⟩) | (go_at_call 133; refine (HB.out _).mono ?_; rintro e w' ⟨rfl, rfl⟩))
        go_meet
        case rel => exact ⟨rfl, rfl⟩
  case rest =>
    obtain ⟨rfl, rfl⟩ := hcut
    have hv := HV.out
    have hA := fun w => ahead y (by omega) (by omega) w
    have hL := fun w => lengths y (by omega) (by omega) w
    have hin := hv.in_year
    rw [HD.out] at hin
    have hA0 := Date.ahead_lb hy1
    have hm1 := hv.m1; have hm2 := hv.m2
    have hnum : Date.ahead y + Date.cum (Date.leap y) (m - 1).toNat + d - 1 = day := HD.out
    have hd1 := hv.d1; have hd2 := hv.d2
    obtain ⟨b, eb⟩ : ∃ b, Date.leap y = b := ⟨_, rfl⟩
    obtain ⟨A, eA⟩ : ∃ A, Date.ahead y = A := ⟨_, rfl⟩
    rw [eb] at hL hnum hd2
    rw [eA] at hA hin hA0 hnum
    have hAu : A ≤ day := hin.1
    have HA := Lib.hid hA; have HL := Lib.hid hL; have HN := Lib.hid hnum; have HD2 := Lib.hid hd2
    clear hA hL hin hv eb eA hnum hd2 HV HST hst0
    go_wp2_with (first | (go_at_call 132; refine (HA.out _).mono ?_; rintro e w' ⟨rfl, rfl⟩) | (go_at_call 115; refine (HL.out _).mono ?_; rintro e w' ⟨rfl, hb⟩))
    go_loop [0, 38] (fun v0 v => ∃ i : Nat, v = .int .i64 (i : Int) ∧ (i : Int) < m ∧ v0 = .int .i64 (day - A - Date.cum b i)) (fun _ v => (12 - intOf v).toNat)
    case atStart => exact ⟨0, rfl, by omega, by simp [Date.cum]⟩
    case round =>
      obtain ⟨i, rfl, hi, rfl⟩ := hrel
      have hidx := fun w => lens_at b i (by omega) w
      have hc0 := Date.cum_nonneg b i
      have hck := Date.cum_mono b (i := i) (j := (m - 1).toNat) (by omega)
      have hcs : Date.cum b (i + 1) = Date.cum b i + Date.mlen b ((i : Int) + 1) := rfl
      have hml := Date.mlen_le b ((i : Int) + 1)
      have hn := HN.out
      by_cases hlt : (i : Int) + 1 < m
      · have hck2 := Date.cum_mono b (i := i + 1) (j := (m - 1).toNat) (by omega)
        rw [hcs] at hck2
        have HCS := Lib.hid hcs
        clear hcs
        obtain ⟨c, ec⟩ : ∃ c, Date.cum b i = c := ⟨_, rfl⟩
        obtain ⟨l, el⟩ : ∃ l, Date.mlen b ((i : Int) + 1) = l := ⟨_, rfl⟩
        have HCS2 : Hid (Date.cum b (i + 1) = c + l) := Lib.hid (by rw [HCS.out, ec, el])
        rw [ec] at hc0 hck hck2 ⊢
        rw [el] at hidx hck2 hml
        have t1 : decide (day - A - c < l) = false := decide_eq_false (by omega)
        have t2 : decide ((i : Int) < 12) = true := decide_eq_true (by omega)
        have z1 : c ≤ 366 := by
          have := Date.cum_mono b (i := i) (j := 12) (by omega)
          rw [Date.cum_year, ec] at this
          cases b <;> simp at this <;> omega
        obtain ⟨l1, l2⟩ := hml
        clear hn HCS ec el hck hck2
        go_wp2
        go_round
        case rel => exact ⟨i + 1, by go_num, by omega, by rw [HCS2.out]; rw [show day - A - c - l = day - A - (c + l) from by omega]⟩
        case measure => simp [intOf]; omega
      · obtain ⟨c, ec⟩ : ∃ c, Date.cum b i = c := ⟨_, rfl⟩
        obtain ⟨l, el⟩ : ∃ l, Date.mlen b ((i : Int) + 1) = l := ⟨_, rfl⟩
        have hmi : (m - 1).toNat = i := by omega
        have hmi2 : m = (i : Int) + 1 := by omega
        have hd2 := HD2.out
        rw [hmi, ec] at hn
        rw [hmi2, el] at hd2
        rw [ec] at hc0 ⊢
        rw [el] at hidx
        have t1 : decide (day - A - c < l) = true := decide_eq_true (by omega)
        have t2 : decide ((i : Int) < 12) = true := decide_eq_true (by omega)
        have HR : Hid (day - A - c + 1 = d) := Lib.hid (by omega)
        have HM : Hid ((i : Int) + 1 = m) := Lib.hid hmi2.symm
        have z1 : day - A - c ≤ 31 := by omega
        have z2 : 0 ≤ day - A - c := by omega
        clear hn hmi hmi2 hd2 hck hcs hml ec el HN HD2 HD
        go_wp2
        refine bodyPost_ret (v := .tuple #[.int .i64 y, .int .i64 ((i : Int) + 1), .int .i64 (day - A - c + 1), .int .i64 0]) (by simp [results, Tryd.results113]) rfl ⟨?_, hb⟩
        rw [HR.out, HM.out]
end Go.Proofs.YtniajhmbdbgmgaaDoor.XDate

/- date.Of tells a date's day. -/
namespace Go.Proofs.YtniajhmbdbgmgaaDoor.XDate
open Go Go.RowKit Go.Proofs Go.Proofs.YtniajhmbdbgmgaaDoor

theorem lensF (y : Int) (h1 : 1 ≤ y) (h2 : y ≤ 10000) (b : Bool) (hb : Date.leap y = b) (x : Int) (hx : (if b then 29 else 28) = x) (w : World) : Calls Tryd.prog 115 #[.int .i64 y] w fun e w' =>
    e = .returned (.agg #[.int .i64 31, .int .i64 x, .int .i64 31, .int .i64 30, .int .i64 31, .int .i64 30, .int .i64 31, .int .i64 31, .int .i64 30, .int .i64 31, .int .i64 30, .int .i64 31]) ∧ Below w.heap.size w w' := by
  have := lengths y h1 h2 w
  rw [hb] at this
  subst hx
  exact this

theorem lens_cell (W : World) (b : Bool) (x : Int) (hx : (if b then 29 else 28) = x) (T : TypeId) (i : Nat) (hi : i < 12) :
    (W.alloc (.cells #[.int .i64 31, .int .i64 x, .int .i64 31, .int .i64 30, .int .i64 31, .int .i64 30, .int .i64 31, .int .i64 31, .int .i64 30, .int .i64 31, .int .i64 30, .int .i64 31] T)).cell? ⟨W.heap.size, i, none⟩ =
      some (.int .i64 (Date.mlen b ((i : Int) + 1))) := by
  subst hx
  rw [World.cell?_alloc_new]
  match i, hi with
  | 0, _ => rfl
  | 1, _ => rfl
  | 2, _ => rfl
  | 3, _ => rfl
  | 4, _ => rfl
  | 5, _ => rfl
  | 6, _ => rfl
  | 7, _ => rfl
  | 8, _ => rfl
  | 9, _ => rfl
  | 10, _ => rfl
  | 11, _ => rfl

theorem arr12 : Tryd.prog.arrayLen 153 = 12 := by kernel_rfl
theorem size8 (w : World) : (sizeOf (Tryd.prog.elem 153)).run Tryd.prog w = .ok 1 w := by kernel_rfl
theorem slice12 (B k : Nat) (hk : k < 12) (w : World) : (Instr.sliceAt 153 (.pointer (some ⟨B, 0, none⟩)) none (some (.int .i64 (k : Int))) none).run Tryd.prog w = .ok (.slice (some ⟨B, 0, none⟩) k 12) w := by
  rw [run_sliceAt_array_h (P := Tryd.prog) w 153 ⟨B, 0, none⟩ (by kernel_rfl) .i64 (k : Int) (by omega) (by rw [arr12]; omega), size8]
  simp [Result.andThen, slicedAt, arr12, Addr.add]

set_option maxHeartbeats 2000000 in
set_option maxRecDepth 100000 in
theorem of (y m d : Int) (hv : Date.Valid y m d) (w : World) :
    Calls Tryd.prog 114 #[.int .i64 y, .int .i64 m, .int .i64 d] w fun e w' => e = .returned (.tuple #[.int .i64 (Date.num y m d), .int .i64 0]) ∧ Below w.heap.size w w' := by
  obtain ⟨day, hday⟩ : ∃ day, Date.num y m d = day := ⟨_, rfl⟩
  have hr := hv.range
  have hy1 := hv.y1; have hy2 := hv.y2; have hm1 := hv.m1; have hm2 := hv.m2; have hd1 := hv.d1; have hd2 := hv.d2
  rw [hday] at hr ⊢
  have hnum : Date.ahead y + Date.cum (Date.leap y) (m - 1).toNat + d - 1 = day := hday
  have hA := fun w => ahead y (by omega) (by omega) w
  have hL := fun w => lensF y (by omega) (by omega) _ rfl _ rfl w
  have hA0 := Date.ahead_lb hy1
  have hA1 := hv.in_year.1
  rw [hday] at hA1
  obtain ⟨b, eb⟩ : ∃ b, Date.leap y = b := ⟨_, rfl⟩
  obtain ⟨A, eA⟩ : ∃ A, Date.ahead y = A := ⟨_, rfl⟩
  rw [eb] at hL hnum hd2
  rw [eA] at hA hA0 hnum hA1
  obtain ⟨x, ex⟩ : ∃ x : Int, (if b then 29 else 28) = x := ⟨_, rfl⟩
  rw [ex] at hL
  obtain ⟨r1, r2⟩ := hr
  obtain ⟨k, ek⟩ : ∃ k : Nat, m = (k : Int) + 1 := ⟨(m - 1).toNat, by omega⟩
  subst ek
  have hk : (k : Int) < 12 := by omega
  have hml := Date.mlen_le b ((k : Int) + 1)
  have HN : Hid (A + Date.cum b k + d - 1 = day) := Lib.hid (by rw [show ((k : Int) + 1 - 1).toNat = k from by omega] at hnum; exact hnum)
  obtain ⟨l, el⟩ : ∃ l, Date.mlen b ((k : Int) + 1) = l := ⟨_, rfl⟩
  rw [el] at hd2 hml
  obtain ⟨l1, l2⟩ := hml
  have HA := Lib.hid hA; have HL := Lib.hid hL; have EL := Lib.hid el; have EX := Lib.hid ex
  have c1 : decide (y < 1900) = false := decide_eq_false (by omega)
  have c2 : decide (2099 < y) = false := decide_eq_false (by omega)
  have c3 : decide ((k : Int) + 1 < 1) = false := decide_eq_false (by omega)
  have c4 : decide (12 < (k : Int) + 1) = false := decide_eq_false (by omega)
  have c5 : decide (d < 1) = false := decide_eq_false (by omega)
  have c6 : decide (l < d) = false := decide_eq_false (by omega)
  have hadd : 365 * (y - 1900) ≤ 73048 := by omega
  clear hA hL eA eb el ex hnum hday hv
  go_enter Tryd.func114, Tryd.ntmps114
  go_upto_region 4 with (go_at_call 115; refine (HL.out _).mono ?_; rintro e w1 ⟨rfl, hb1⟩)
  have hcell := lens_cell w1 b x EX.out 153
  have hbW := hb1.alloc hb1.size (.cells #[.int .i64 31, .int .i64 x, .int .i64 31, .int .i64 30, .int .i64 31, .int .i64 30, .int .i64 31, .int .i64 31, .int .i64 30, .int .i64 31, .int .i64 30, .int .i64 31] 153)
  generalize w1.alloc (.cells #[.int .i64 31, .int .i64 x, .int .i64 31, .int .i64 30, .int .i64 31, .int .i64 30, .int .i64 31, .int .i64 31, .int .i64 30, .int .i64 31, .int .i64 30, .int .i64 31] 153) = W at hcell hbW ⊢
  generalize w1.heap.size = B at hcell ⊢
  have hck := hcell k (by omega)
  have HC := Lib.hid hcell
  clear hcell
  rw [EL.out] at hck
  have hsl := fun w => slice12 B k (by omega) w
  go_wp2_with (go_at_call 132; refine (HA.out _).mono ?_; rintro e w' ⟨rfl, rfl⟩)
  go_outline
  go_loop [9, 47] (fun v9 v => ∃ i : Nat, v = .int .i64 (i : Int) ∧ i ≤ k ∧ v9 = .int .i64 (A + d - 1 + Date.cum b i)) (fun _ v => (12 - intOf v).toNat)
  case atStart => exact ⟨0, rfl, by omega, by simp [Date.cum]⟩
  case round =>
    obtain ⟨i, rfl, hi, rfl⟩ := hrel
    clear hck hsl
    by_cases hlt : i < k
    · have hci := HC.out i (by omega)
      have t1 : decide (i < k) = true := decide_eq_true hlt
      have hcs : Hid (Date.cum b (i + 1) = Date.cum b i + Date.mlen b ((i : Int) + 1)) := Lib.hid rfl
      have hc0 := Date.cum_nonneg b i
      have hck := Date.cum_mono b (i := i) (j := 12) (by omega)
      rw [Date.cum_year] at hck
      have hml := Date.mlen_le b ((i : Int) + 1)
      obtain ⟨c, ec⟩ : ∃ c, Date.cum b i = c := ⟨_, rfl⟩
      obtain ⟨l', el⟩ : ∃ l', Date.mlen b ((i : Int) + 1) = l' := ⟨_, rfl⟩
      have HCS : Hid (Date.cum b (i + 1) = c + l') := Lib.hid (by rw [hcs.out, ec, el])
      rw [ec] at hc0 hck ⊢
      rw [el] at hci hml
      have hc1 : c ≤ 366 := by cases b <;> simp at hck <;> omega
      obtain ⟨l3, l4⟩ := hml
      clear hck hcs ec el
      go_wp2
      go_round
      case rel => exact ⟨i + 1, by go_num, by omega, by rw [HCS.out]; rw [show A + d - 1 + c + l' = A + d - 1 + (c + l') from by omega]⟩
      case measure => simp [intOf]; omega
    · obtain rfl : i = k := by omega
      have t1 : decide (i < i) = false := decide_eq_false (by omega)
      go_wp2
      go_ret2
      refine ⟨?_, hbW⟩
      have := HN.out
      simp
      omega
end Go.Proofs.YtniajhmbdbgmgaaDoor.XDate

/- The moves of layer 3 (date). -/
namespace Go.Proofs.YtniajhmbdbgmgaaDoor.XDate
open Go Go.RowKit Go.Proofs Go.Proofs.YtniajhmbdbgmgaaDoor
attribute [local go_sem] max2m min2m maxTwo minTwo

theorem mnD (x y : Int) : mn x y = Date.mn x y := rfl
theorem within_mx (n c : Int) (hc : 0 ≤ c) : mx (-c) (mn c n) = Date.within n c := by unfold mx mn Date.within; repeat' split <;> omega

theorem plus (day n : Int) (w : World) : Calls Tryd.prog 71 #[.int .i64 day, .int .i64 n] w fun e w' => e = .returned (.int .i64 (Date.plus day n)) ∧ w = w' := by
  have hc := Date.clamp_le day
  have h1 := within_mx n 73048 (by omega)
  have hb : -73048 ≤ Date.within n 73048 ∧ Date.within n 73048 ≤ 73048 := by unfold Date.within; repeat' split <;> omega
  have hp : Hid (Date.plus day n = Date.clamp (Date.clamp day + Date.within n 73048)) := Lib.hid rfl
  obtain ⟨c, ec⟩ : ∃ c, Date.within n 73048 = c := ⟨_, rfl⟩
  rw [ec] at h1 hb hp
  obtain ⟨hb1, hb2⟩ := hb
  obtain ⟨hc1, hc2⟩ := hc
  clear ec
  go_enter Tryd.func71, Tryd.ntmps71
  go_wp2_with (go_at_call 103; refine (clamp _ _).mono ?_; rintro e w' ⟨rfl, rfl⟩)
  go_ret
  exact ⟨by rw [hp.out]; simp, rfl⟩

theorem ratio (n d : Int) (hn : -1000000 ≤ n ∧ n ≤ 1000000) (hd : 0 ≤ d ∧ d ≤ 1000) (w : World) : Calls Tryd.prog 112 #[.int .i64 n, .int .i64 d] w fun e w' => e = .returned (.int .i64 (Num.div (n * 1000000) (d * 1000000))) ∧ Dr w w' := by
  obtain ⟨a, b⟩ := hn
  obtain ⟨c, f⟩ := hd
  go_enter Tryd.func112, Tryd.ntmps112
  go_wp2_with (go_at_call 86; refine (XNum.div _ _ _).mono ?_; rintro e w' ⟨rfl, n, rfl⟩)
  go_ret
  exact ⟨by simp, ⟨_, rfl⟩⟩

theorem years (a b : Int) (w : World) : Calls Tryd.prog 87 #[.int .i64 a, .int .i64 b] w fun e w' => e = .returned (.int .i64 (Date.years a b)) ∧ Dr w w' := by
  have ha := Date.clamp_le a
  have hb := Date.clamp_le b
  have hy : Hid (Date.years a b = Num.div ((Date.clamp b - Date.clamp a) * 1000000) (365 * 1000000)) := Lib.hid rfl
  obtain ⟨ha1, ha2⟩ := ha
  obtain ⟨hb1, hb2⟩ := hb
  go_enter Tryd.func87, Tryd.ntmps87
  go_wp2_with (first | (go_at_call 103; refine (clamp _ _).mono ?_; rintro e w' ⟨rfl, rfl⟩) | (go_at_call 112; refine (ratio _ _ (by omega) (by omega) _).mono ?_; rintro e w' ⟨rfl, n, rfl⟩))
  go_ret
  exact ⟨by rw [hy.out]; simp, ⟨_, rfl⟩⟩

/-- Parts of a clamped day. -/
theorem partsC (c y m d : Int) (hv : Date.Valid y m d) (e : Date.num y m d = c) (w : World) :
    Calls Tryd.prog 113 #[.int .i64 c] w fun e w' => e = .returned (.tuple #[.int .i64 y, .int .i64 m, .int .i64 d, .int .i64 0]) ∧ Below w.heap.size w w' := e ▸ parts y m d hv w

set_option maxHeartbeats 1000000 in
theorem years30 (a b y m d z n e : Int) (hv : Date.Valid y m d) (hva : Date.num y m d = Date.clamp a) (hw : Date.Valid z n e) (hwb : Date.num z n e = Date.clamp b) (w : World) :
    Calls Tryd.prog 88 #[.int .i64 a, .int .i64 b] w fun r w' => r = .returned (.int .i64 (Date.years30 y m d z n e)) ∧ Below w.heap.size w w' := by
  have k1 := hv.y1; have k2 := hv.y2; have k3 := hv.m1; have k4 := hv.m2; have k5 := hv.d1; have k6 := hv.d2; have k7 := (Date.mlen_le (Date.leap y) m).2
  have l1 := hw.y1; have l2 := hw.y2; have l3 := hw.m1; have l4 := hw.m2; have l5 := hw.d1; have l6 := hw.d2; have l7 := (Date.mlen_le (Date.leap z) n).2
  have k8 : d ≤ 31 := by omega
  have l8 : e ≤ 31 := by omega
  obtain ⟨b1, b2⟩ := Date.days30_le hv hw
  have h1 := fun w => partsC (Date.clamp a) y m d hv hva w
  have h2 := fun w => partsC (Date.clamp b) z n e hw hwb w
  obtain ⟨ca, eca⟩ : ∃ c, Date.clamp a = c := ⟨_, rfl⟩
  obtain ⟨cb, ecb⟩ : ∃ c, Date.clamp b = c := ⟨_, rfl⟩
  have g1 := fun w => clamp a w
  have g2 := fun w => clamp b w
  rw [eca] at h1 g1
  rw [ecb] at h2 g2
  obtain ⟨p, ep⟩ : ∃ p, mn e 30 = p := ⟨_, rfl⟩
  obtain ⟨q, eq⟩ : ∃ q, mn d 30 = q := ⟨_, rfl⟩
  have hp := mn_le e 30
  have hq := mn_le d 30
  rw [ep] at hp
  rw [eq] at hq
  have hr : Hid (Date.years30 y m d z n e = Num.div ((360 * (z - y) + 30 * (n - m) + p - q) * 1000000) (360 * 1000000)) := Lib.hid (by rw [← ep, ← eq]; rfl)
  have p1 : 1 ≤ p := by omega
  have p2 : p ≤ 30 := by omega
  have q1 : 1 ≤ q := by omega
  have q2 : q ≤ 30 := by omega
  have H1 := Lib.hid h1; have H2 := Lib.hid h2; have G1 := Lib.hid g1; have G2 := Lib.hid g2
  clear h1 h2 g1 g2 k6 k7 l6 l7 hp hq hva hwb eca ecb hv hw b1 b2
  go_enter Tryd.func88, Tryd.ntmps88
  go_wp2_with fail
  refine (G1.out _).mono ?_
  rintro r w1 ⟨rfl, rfl⟩
  go_wp2_with fail
  refine (H1.out _).mono ?_
  rintro r w1 ⟨rfl, hb1⟩
  go_wp2_with fail
  refine (G2.out _).mono ?_
  rintro r w2 ⟨rfl, rfl⟩
  go_wp2_with fail
  refine (H2.out _).mono ?_
  rintro r w3 ⟨rfl, hb3⟩
  go_wp2_with (go_at_call 112; refine (ratio _ _ (by omega) (by omega) _).mono ?_; rintro e w' ⟨rfl, n, rfl⟩)
  go_ret
  exact ⟨by rw [hr.out]; simp, belowN (hb1.trans (hb3.mono hb1.size)) _⟩
end Go.Proofs.YtniajhmbdbgmgaaDoor.XDate

/- date.Months. -/
namespace Go.Proofs.YtniajhmbdbgmgaaDoor.XDate
open Go Go.RowKit Go.Proofs Go.Proofs.YtniajhmbdbgmgaaDoor
attribute [local go_sem] max2m min2m maxTwo minTwo

theorem lensC (y : Int) (h1 : 1 ≤ y) (h2 : y ≤ 10000) (b : Bool) (hb : Date.leap y = b) (w : World) : Calls Tryd.prog 115 #[.int .i64 y] w fun e w' =>
    e = .returned (.agg (lens b)) ∧ Below w.heap.size w w' := hb ▸ lengths y h1 h2 w
theorem lens_at' (b : Bool) (i : Int) (h0 : 0 ≤ i) (hi : i < 12) (l : Int) (hl : Date.mlen b (i + 1) = l) (w : World) :
    (Instr.index 153 (.agg (lens b)) (.int .i64 i)).run Tryd.prog w = .ok (.int .i64 l) w := by
  obtain ⟨k, rfl⟩ : ∃ k : Nat, i = (k : Int) := ⟨i.toNat, by omega⟩
  rw [lens_at b k (by omega) w, hl]
theorem ofC (y m d c : Int) (hv : Date.Valid y m d) (e : Date.num y m d = c) (w : World) :
    Calls Tryd.prog 114 #[.int .i64 y, .int .i64 m, .int .i64 d] w fun e w' => e = .returned (.tuple #[.int .i64 c, .int .i64 0]) ∧ Below w.heap.size w w' := e ▸ of y m d hv w

set_option maxHeartbeats 2000000 in
set_option maxRecDepth 100000 in
theorem months (a y m d n : Int) (hv : Date.Valid y m d) (hva : Date.num y m d = Date.clamp a) (w : World) :
    Calls Tryd.prog 90 #[.int .i64 a, .int .i64 n] w fun r w' => r = .returned (.int .i64 (Date.monthsOf y m d n)) ∧ Below w.heap.size w w' := by
  have k1 := hv.y1; have k2 := hv.y2; have k3 := hv.m1; have k4 := hv.m2; have k5 := hv.d1; have k6 := hv.d2; have k7 := (Date.mlen_le (Date.leap y) m).2
  have k8 : d ≤ 31 := by omega
  have h1 := fun w => partsC (Date.clamp a) y m d hv hva w
  obtain ⟨ca, eca⟩ : ∃ c, Date.clamp a = c := ⟨_, rfl⟩
  have g1 := fun w => clamp a w
  rw [eca] at h1 g1
  have hw1 := within_mx n 25188 (by omega)
  have hw2 : -25188 ≤ Date.within n 25188 ∧ Date.within n 25188 ≤ 25188 := by unfold Date.within; repeat' split <;> omega
  obtain ⟨r, er⟩ : ∃ r, Date.monthsOf y m d n = r := ⟨_, rfl⟩
  have er' := er
  unfold Date.monthsOf at er'
  rw [er]
  obtain ⟨wn, ew⟩ : ∃ c, Date.within n 25188 = c := ⟨_, rfl⟩
  rw [ew] at hw1 hw2 er'
  obtain ⟨hw2, hw3⟩ := hw2
  have H1 := Lib.hid h1; have G1 := Lib.hid g1
  clear h1 g1 k6 k7 hva eca hv ew er
  by_cases c1 : 12 * y + m - 1 + wn < 22800
  · have t1 : decide (12 * y + m - 1 + wn < 22800) = true := decide_eq_true c1
    rw [if_pos c1] at er'
    subst er'
    go_enter Tryd.func90, Tryd.ntmps90
    go_wp2_with (first | (go_at_call 103; refine (G1.out _).mono ?_; rintro r w1 ⟨rfl, rfl⟩) | (go_at_call 113; refine (H1.out _).mono ?_; rintro r w1 ⟨rfl, hb1⟩))
    go_ret
    exact ⟨by simp, hb1⟩
  · have t1 : decide (12 * y + m - 1 + wn < 22800) = false := decide_eq_false c1
    rw [if_neg c1] at er'
    by_cases c2 : 25200 ≤ 12 * y + m - 1 + wn
    · have t2 : decide (25200 ≤ 12 * y + m - 1 + wn) = true := decide_eq_true c2
      rw [if_pos c2] at er'
      subst er'
      go_enter Tryd.func90, Tryd.ntmps90
      go_wp2_with (first | (go_at_call 103; refine (G1.out _).mono ?_; rintro r w1 ⟨rfl, rfl⟩) | (go_at_call 113; refine (H1.out _).mono ?_; rintro r w1 ⟨rfl, hb1⟩))
      go_ret
      exact ⟨by simp, hb1⟩
    · have t2 : decide (25200 ≤ 12 * y + m - 1 + wn) = false := decide_eq_false c2
      rw [if_neg c2] at er'
      have hv2 := Date.valid_moved (k := 12 * y + m - 1 + wn) (d := d) (by omega) (by omega) k5
      obtain ⟨Y, eY⟩ : ∃ Y, (12 * y + m - 1 + wn) / 12 = Y := ⟨_, rfl⟩
      obtain ⟨M, eM⟩ : ∃ M, (12 * y + m - 1 + wn) % 12 = M := ⟨_, rfl⟩
      have yb : 1900 ≤ Y ∧ Y ≤ 2099 := by omega
      have mb : 0 ≤ M ∧ M < 12 := by omega
      rw [eY, eM] at er' hv2
      obtain ⟨b, eb⟩ : ∃ b, Date.leap Y = b := ⟨_, rfl⟩
      have hL := fun w => lensC Y (by omega) (by omega) b eb w
      obtain ⟨l, el⟩ : ∃ l, Date.mlen b (M + 1) = l := ⟨_, rfl⟩
      have hI := fun w => lens_at' b M (by omega) (by omega) l el w
      rw [eb, el] at er' hv2
      obtain ⟨p, ep⟩ : ∃ p, mn d l = p := ⟨_, rfl⟩
      have hO := fun w => ofC Y (M + 1) p r (by rw [← ep]; exact hv2) (by rw [← ep]; exact er') w
      have HL := Lib.hid hL; have HO := Lib.hid hO
      obtain ⟨yb1, yb2⟩ := yb
      obtain ⟨mb1, mb2⟩ := mb
      clear hL hO er' hv2 eb el
      go_enter Tryd.func90, Tryd.ntmps90
      go_wp2_with fail
      refine (G1.out _).mono ?_
      rintro e w1 ⟨rfl, rfl⟩
      go_wp2_with fail
      refine (H1.out _).mono ?_
      rintro e w1 ⟨rfl, hb1⟩
      go_wp2_with fail
      refine (HL.out _).mono ?_
      rintro e w2 ⟨rfl, hb2⟩
      go_wp2_with fail
      refine (HO.out _).mono ?_
      rintro e w3 ⟨rfl, hb3⟩
      go_wp2_with fail
      go_ret
      exact ⟨by simp, (hb1.trans (hb2.mono hb1.size)).trans (hb3.mono (Nat.le_trans hb1.size hb2.size))⟩
end Go.Proofs.YtniajhmbdbgmgaaDoor.XDate

/- num.Mul, num.Div and the moves of a day in the print's form. -/
namespace Go.Proofs.YtniajhmbdbgmgaaDoor.Q
open Go Go.RowKit Go.Proofs Go.Proofs.YtniajhmbdbgmgaaDoor

theorem below_of_dr {w w' : World} (h : Dr w w') : Below w.heap.size w w' := by
  obtain ⟨n, rfl⟩ := h.out
  exact belowN (Below.refl _ _) n

def num_Mul.f (a0 a1 : Int) : Option Int := some (Num.mul a0 a1)
theorem num_Mul.calls (a0 a1 r : Int) (w : World) (h : num_Mul.f a0 a1 = some r) : Calls Tryd.prog 62 #[.int .i64 a0, .int .i64 a1] w fun e w' => e = .returned (.int .i64 r) ∧ Below w.heap.size w w' := by
  obtain rfl := Option.some.inj h
  exact (XNum.mul a0 a1 w).mono fun e w' h => ⟨h.1, below_of_dr h.2⟩
def num_Div.f (a0 a1 : Int) : Option Int := some (Num.div a0 a1)
theorem num_Div.calls (a0 a1 r : Int) (w : World) (h : num_Div.f a0 a1 = some r) : Calls Tryd.prog 86 #[.int .i64 a0, .int .i64 a1] w fun e w' => e = .returned (.int .i64 r) ∧ Below w.heap.size w w' := by
  obtain rfl := Option.some.inj h
  exact (XNum.div a0 a1 w).mono fun e w' h => ⟨h.1, below_of_dr h.2⟩

/-- A day's date. -/
structure Ymd where
  y : Int
  m : Int
  d : Int
theorem date_of (a : Int) : ∃ p : Ymd, Date.Valid p.y p.m p.d ∧ Date.num p.y p.m p.d = Date.clamp a := by
  obtain ⟨y, m, d, h⟩ := Date.exists_date (Date.clamp a) (Date.clamp_le a).1 (Date.clamp_le a).2
  exact ⟨⟨y, m, d⟩, h⟩
noncomputable def ymd (a : Int) : Ymd := Classical.choose (date_of a)
theorem ymd_valid (a : Int) : Date.Valid (ymd a).y (ymd a).m (ymd a).d := (Classical.choose_spec (date_of a)).1
theorem ymd_num (a : Int) : Date.num (ymd a).y (ymd a).m (ymd a).d = Date.clamp a := (Classical.choose_spec (date_of a)).2

def date_Years.f (a0 a1 : Int) : Option Int := some (Date.years a0 a1)
theorem date_Years.calls (a0 a1 r : Int) (w : World) (h : date_Years.f a0 a1 = some r) : Calls Tryd.prog 87 #[.int .i64 a0, .int .i64 a1] w fun e w' => e = .returned (.int .i64 r) ∧ Below w.heap.size w w' := by
  obtain rfl := Option.some.inj h
  exact (XDate.years a0 a1 w).mono fun e w' h => ⟨h.1, below_of_dr h.2⟩
noncomputable def date_Years30.f (a0 a1 : Int) : Option Int := some (Date.years30 (ymd a0).y (ymd a0).m (ymd a0).d (ymd a1).y (ymd a1).m (ymd a1).d)
theorem date_Years30.calls (a0 a1 r : Int) (w : World) (h : date_Years30.f a0 a1 = some r) : Calls Tryd.prog 88 #[.int .i64 a0, .int .i64 a1] w fun e w' => e = .returned (.int .i64 r) ∧ Below w.heap.size w w' := by
  obtain rfl := Option.some.inj h
  exact XDate.years30 a0 a1 _ _ _ _ _ _ (ymd_valid a0) (ymd_num a0) (ymd_valid a1) (ymd_num a1) w
noncomputable def date_Months.f (a0 a1 : Int) : Option Int := some (Date.monthsOf (ymd a0).y (ymd a0).m (ymd a0).d a1)
theorem date_Months.calls (a0 a1 r : Int) (w : World) (h : date_Months.f a0 a1 = some r) : Calls Tryd.prog 90 #[.int .i64 a0, .int .i64 a1] w fun e w' => e = .returned (.int .i64 r) ∧ Below w.heap.size w w' := by
  obtain rfl := Option.some.inj h
  exact XDate.months a0 _ _ _ a1 (ymd_valid a0) (ymd_num a0) w
end Go.Proofs.YtniajhmbdbgmgaaDoor.Q

/- The seven rules of layer 16 over right terms: what comes of one is right, of the same type, and less. -/
namespace Go.Proofs.YtniajhmbdbgmgaaDoor.Q

/-- What the fields of the terms that rules make must be. -/
structure FlOk (fl : Int → Int → ByteArray → Bool) : Prop where
  num : ∀ n, -1000000000000000 ≤ n → n ≤ 1000000000000000 → fl 1 n ⟨#[]⟩ = true
  bool : ∀ n, 0 ≤ n → n ≤ 1 → fl 2 n ⟨#[]⟩ = true
  date : ∀ n, 0 ≤ n → n ≤ 73048 → fl 3 n ⟨#[]⟩ = true
  zero : fl 23 0 ⟨#[]⟩ = true
  is_num : ∀ n s, fl 1 n s = true → -1000000000000000 ≤ n ∧ n ≤ 1000000000000000
  is_bool : ∀ n s, fl 2 n s = true → 0 ≤ n ∧ n ≤ 1
  is_date : ∀ n s, fl 3 n s = true → 0 ≤ n ∧ n ≤ 73048
  at_ : ∀ n m s t, fl 29 n s = true → fl 29 m t = true → fl 29 (if n < m then m else n) ⟨#[]⟩ = true
  when : ∀ n s, fl 30 n s = true → fl 30 n ⟨#[]⟩ = true

structure POk (P : Int → Int → Prop) : Prop where
  num : ∀ n, -1000000000000000 ≤ n → n ≤ 1000000000000000 → P 1 n
  bool : ∀ n, 0 ≤ n → n ≤ 1 → P 2 n
  date : ∀ n, 0 ≤ n → n ≤ 73048 → P 3 n
  zero : P 23 0

def mea (x : Core) : Nat := 2 * sizeT x + (match x.f3 with | [_, b] => if x.f0 = 30 ∧ b.f0 ≠ 23 then 1 else 0 | _ => 0)
theorem mea_le (x : Core) : 2 * sizeT x ≤ mea x ∧ mea x ≤ 2 * sizeT x + 1 := by
  unfold mea
  split
  · split <;> omega
  · omega

/-- What a rule owes: its result is right, of the same type, less, and made of the same parts. -/
structure Good (fl : Int → Int → ByteArray → Bool) (x y : Core) : Prop where
  ty : tyT fl y = tyT fl x
  lt : mea y < mea x
  size : sizeT y ≤ sizeT x
  depth : depthT y ≤ depthT x
  all : ∀ P, POk P → allT P x → allT P y
  kids : ∀ N : Core → Prop, (∀ z, N z → ∀ k ∈ z.f3, N k) → N ⟨23, 0, ⟨#[]⟩, []⟩ → (∀ k ∈ x.f3, N k) → ∀ k ∈ y.f3, N k

variable {fl : Int → Int → ByteArray → Bool}

/-- A kid. -/
theorem good_kid {x y : Core} (hy : y ∈ x.f3) (ht : tyT fl y = tyT fl x) : Good fl x y := by
  have h1 := sizeL_mem hy
  have h2 := depthL_mem hy
  have e1 := sizeT_eq x
  have e2 := depthT_eq x
  have m1 := mea_le x
  have m2 := mea_le y
  exact ⟨ht, by omega, by omega, by omega, fun P _ h => (allL_iff P x.f3).1 ((allT_eq P x).1 h).2 y hy, fun N hN _ h => hN y (h y hy)⟩
theorem good_grandkid {x y z : Core} (hz : z ∈ x.f3) (hy : y ∈ z.f3) (ht : tyT fl y = tyT fl x) : Good fl x y := by
  have h1 := sizeL_mem hy
  have h2 := depthL_mem hy
  have e1 := sizeT_eq z
  have e2 := depthT_eq z
  have h3 := sizeL_mem hz
  have h4 := depthL_mem hz
  have e3 := sizeT_eq x
  have e4 := depthT_eq x
  have m1 := mea_le x
  have m2 := mea_le y
  refine ⟨ht, by omega, by omega, by omega, fun P _ h => ?_, fun N hN _ h => hN y (hN z (h z hz) y hy)⟩
  exact (allL_iff P z.f3).1 ((allT_eq P z).1 ((allL_iff P x.f3).1 ((allT_eq P x).1 h).2 z hz)).2 y hy
/-- A constant, of a term that has a kid. -/
theorem good_leaf {x : Core} {op n : Int} {s : ByteArray} (hk : x.f3 ≠ []) (ht : tyT fl ⟨op, n, s, []⟩ = tyT fl x) (hP : ∀ P, POk P → P op n) : Good fl x ⟨op, n, s, []⟩ := by
  obtain ⟨a, l, e⟩ : ∃ a l, x.f3 = a :: l := by
    cases h : x.f3 with
    | nil => exact absurd h hk
    | cons a l => exact ⟨a, l, rfl⟩
  have e1 := sizeT_eq x
  have e2 := depthT_eq x
  rw [e, sizeL] at e1
  rw [e, depthL] at e2
  have := sizeT_pos a
  have m1 := mea_le x
  refine ⟨ht, ?_, ?_, ?_, fun P h _ => ?_, fun N _ _ _ k hk => ?_⟩
  · simp [mea, sizeT, sizeL]; omega
  · simp [sizeT, sizeL]; omega
  · simp [depthT, depthL]; omega
  · simp [allT, allL, hP P h]
  · cases hk

/-! ### the rules, over terms -/
def isNumT (x : Core) (n : Int) : Bool := x.f0 == 1 && x.f1 == n
def isBoolT (x : Core) (n : Int) : Bool := x.f0 == 2 && x.f1 == n
def constT (x : Core) : Bool := x.f0 == 1 || x.f0 == 2 || x.f0 == 3
def numC (n : Int) : Core := ⟨1, n, ⟨#[]⟩, []⟩
def boolC (b : Bool) : Core := ⟨2, if b then 1 else 0, ⟨#[]⟩, []⟩
def dayC (n : Int) : Core := ⟨3, n, ⟨#[]⟩, []⟩
def twiceC (x : Core) : Option (Core × Bool) :=
  if x.f0 = 6 ∨ x.f0 = 14 ∨ x.f0 = 25 then
    match x.f3 with
    | [] => none
    | a :: _ => if a.f0 = x.f0 then (match a.f3 with
      | [] => none
      | b :: _ => some (b, true)) else some (x, false)
  else some (x, false)
def idleWhich (op : Int) (a b : Core) : Bool × Bool :=
  if op = 7 then (isNumT b 0, isNumT a 0) else if op = 8 then (isNumT b 0, false) else if op = 9 then (isNumT b 1000000, isNumT a 1000000) else if op = 10 then (isNumT b 1000000, false)
  else if op = 15 then (isBoolT b 1, isBoolT a 1) else if op = 16 then (isBoolT b 0, isBoolT a 0) else if op = 27 then (b.f0 == 23, a.f0 == 23)
  else if op = 26 then (false, isNumT a 1000000 || (a.f0 == 1 && b.f0 == 23)) else (false, false)
def idleF (x : Core) : Option (Core × Bool) :=
  match x.f3 with
  | [a, b] => some (if (idleWhich x.f0 a b).2 = true then (b, true) else if (idleWhich x.f0 a b).1 = true then (a, true) else (x, false))
  | _ => some (x, false)
def settledC (x : Core) : Option (Core × Bool) :=
  match x.f3 with
  | [] => none
  | a :: _ => some (a, (x.f0 == 15 && isBoolT a 0) || (x.f0 == 16 && isBoolT a 1) || (x.f0 == 25 && a.f0 == 23))
def laterC (x : Core) : Option (Core × Bool) :=
  if x.f0 = 29 then
    match x.f3 with
    | [] => none
    | a :: _ => if a.f0 = 29 then some (⟨29, if x.f1 < a.f1 then a.f1 else x.f1, ⟨#[]⟩, a.f3⟩, true) else some (x, false)
  else some (x, false)
def chosenC (x : Core) : Option (Core × Bool) :=
  match x.f3 with
  | [] => none
  | a :: _ => if (x.f0 = 22 ∨ x.f0 = 28) ∧ a.f0 = 2 then (if a.f1 = 0 ∨ a.f1 = 1 then (x.f3[(2 - a.f1).toNat]?).map (fun y => (y, true)) else none) else some (x, false)
def neverC (x : Core) : Option (Core × Bool) :=
  if x.f0 = 30 then
    match x.f3 with
    | a :: b :: _ => if isBoolT a 0 = true ∧ b.f0 ≠ 23 then some (⟨30, x.f1, ⟨#[]⟩, [a, ⟨23, 0, ⟨#[]⟩, []⟩]⟩, true) else some (x, false)
    | _ => none
  else some (x, false)
variable (ym : Int → Ymd)
/-- What a fold of two constants comes to. -/
def foldV (op a b : Int) : Core :=
  if op = 7 then numC (Num.add a b) else if op = 8 then numC (Num.sub a b) else if op = 9 then numC (Num.mul a b) else if op = 10 then numC (Num.div a b)
  else if op = 11 ∨ op = 17 then boolC (decide (a < b)) else if op = 12 then boolC (decide (a ≤ b)) else if op = 13 then boolC (a == b)
  else if op = 18 then dayC (Date.plus a (Int.tdiv (Num.clamp b) 1000000)) else if op = 19 then dayC (Date.monthsOf (ym a).y (ym a).m (ym a).d (Int.tdiv (Num.clamp b) 1000000))
  else if op = 20 then numC (Date.years a b) else numC (Date.years30 (ym a).y (ym a).m (ym a).d (ym b).y (ym b).m (ym b).d)
/-- A constant of constants; none: an operation that wants another number of kids. -/
def foldC (x : Core) : Option (Core × Bool) :=
  if 6 ≤ x.f0 ∧ x.f0 ≤ 21 ∧ x.f0 ≠ 15 ∧ x.f0 ≠ 16 then
    if x.f0 = 6 ∨ x.f0 = 14 then
      match x.f3 with
      | [a] => some (if constT a = true then (if x.f0 = 6 then numC (Num.neg a.f1) else boolC (a.f1 == 0), true) else (x, false))
      | _ => none
    else
      match x.f3 with
      | [a, b] => some (if constT a = true ∧ constT b = true then (foldV ym x.f0 a.f1 b.f1, true) else (x, false))
      | _ => none
  else some (x, false)
variable {ym}
theorem ty_mk {op n : Int} {s : ByteArray} {l : List Core} (h : fl op n s = true) : tyT fl ⟨op, n, s, l⟩ = nodeT op (l.map (tyT fl)) := by rw [tyT_eq]; exact if_pos h
theorem numC_ty (ho : FlOk fl) {n : Int} (h0 : -1000000000000000 ≤ n) (h1 : n ≤ 1000000000000000) : tyT fl (numC n) = 110 := by
  exact ty_mk (ho.num n h0 h1)
theorem boolC_ty (ho : FlOk fl) (b : Bool) : tyT fl (boolC b) = 98 := by
  exact ty_mk (ho.bool _ (by split <;> omega) (by split <;> omega))
theorem dayC_ty (ho : FlOk fl) {n : Int} (h0 : 0 ≤ n) (h1 : n ≤ 73048) : tyT fl (dayC n) = 100 := by
  exact ty_mk (ho.date n h0 h1)
theorem months_le {y m d n : Int} (hd : 1 ≤ d) : 0 ≤ Date.monthsOf y m d n ∧ Date.monthsOf y m d n ≤ 73048 := by
  unfold Date.monthsOf
  split
  · omega
  · split
    · omega
    · exact (Date.valid_moved (by omega) (by omega) hd).range
theorem good_num (ho : FlOk fl) {x : Core} (hk : x.f3 ≠ []) (ht : tyT fl x = 110) {n : Int} (h : -1000000000000000 ≤ n ∧ n ≤ 1000000000000000) : Good fl x (numC n) :=
  good_leaf hk ((numC_ty ho h.1 h.2).trans ht.symm) (fun _ hP => hP.num n h.1 h.2)
theorem good_bool (ho : FlOk fl) {x : Core} (hk : x.f3 ≠ []) (ht : tyT fl x = 98) (b : Bool) : Good fl x (boolC b) :=
  good_leaf hk ((boolC_ty ho b).trans ht.symm) (fun _ hP => hP.bool _ (by split <;> omega) (by split <;> omega))
theorem good_day (ho : FlOk fl) {x : Core} (hk : x.f3 ≠ []) (ht : tyT fl x = 100) {n : Int} (h : 0 ≤ n ∧ n ≤ 73048) : Good fl x (dayC n) :=
  good_leaf hk ((dayC_ty ho h.1 h.2).trans ht.symm) (fun _ hP => hP.date n h.1 h.2)

/-- What a rule does with a right term that has kids: it answers, and where it fits what comes of it is good. -/
def Does (fl : Int → Int → ByteArray → Bool) (g : Core → Option (Core × Bool)) : Prop :=
  ∀ x, tyT fl x ≠ 0 → x.f3 ≠ [] → ∃ y ok, g x = some (y, ok) ∧ (ok = true → Good fl x y)
theorem does_no {g : Core → Option (Core × Bool)} {x : Core} (h : g x = some (x, false)) : ∃ y ok, g x = some (y, ok) ∧ (ok = true → Good fl x y) := ⟨x, false, h, fun h => by cases h⟩

theorem sig_at {x : Core} (h : tyT fl x ≠ 0) {op : Int} (ho : x.f0 = op) {ks : List Int} {own : Int} (h22 : op ≠ 22) (hs : sig op = some (ks, own)) : fl op x.f1 x.f2 = true ∧ x.f3.map (tyT fl) = ks ∧ tyT fl x = own := by
  subst ho
  obtain ⟨h1, h2⟩ := ty_sig h h22
  rw [hs] at h2
  simp only [Option.some.injEq, Prod.mk.injEq] at h2
  exact ⟨h1, h2.1.symm, h2.2.symm⟩

theorem twice_does : Does fl twiceC := by
  intro x h hk
  by_cases h1 : x.f0 = 6 ∨ x.f0 = 14 ∨ x.f0 = 25
  · obtain ⟨t, hs, ht⟩ : ∃ t, sig x.f0 = some ([t], t) ∧ t ≠ 0 := by rcases h1 with h1 | h1 | h1 <;> rw [h1] <;> exact ⟨_, rfl, by decide⟩
    obtain ⟨hf, hm, hx⟩ := sig_at h rfl (by omega) hs
    obtain ⟨a, hl, ha⟩ := map_one hm
    by_cases h2 : a.f0 = x.f0
    · rw [← h2] at hs
      obtain ⟨_, hm2, _⟩ := sig_at (fl := fl) (x := a) (by omega) rfl (by omega) hs
      obtain ⟨b, hl2, hb⟩ := map_one hm2
      refine ⟨b, true, ?_, fun _ => good_grandkid (z := a) (by simp [hl]) (by simp [hl2]) (by omega)⟩
      unfold twiceC
      rw [if_pos h1, hl]
      simp only
      rw [if_pos h2, hl2]
    · refine does_no ?_
      unfold twiceC
      rw [if_pos h1, hl]
      simp only
      rw [if_neg h2]
  · exact does_no (by unfold twiceC; rw [if_neg h1])
theorem settled_does : Does fl settledC := by
  intro x h hk
  cases hl : x.f3 with
  | nil => exact absurd hl hk
  | cons a l =>
    have e : settledC x = some (a, (x.f0 == 15 && isBoolT a 0) || (x.f0 == 16 && isBoolT a 1) || (x.f0 == 25 && a.f0 == 23)) := by unfold settledC; rw [hl]
    refine ⟨_, _, e, fun hok => good_kid (by simp [hl]) ?_⟩
    simp only [Bool.or_eq_true, Bool.and_eq_true, beq_iff_eq] at hok
    have h3 : x.f0 = 15 ∨ x.f0 = 16 ∨ x.f0 = 25 := by omega
    obtain ⟨t, r, hs⟩ : ∃ t r, sig x.f0 = some (t :: r, t) := by rcases h3 with h3 | h3 | h3 <;> rw [h3] <;> exact ⟨_, _, rfl⟩
    obtain ⟨_, hm, hx⟩ := sig_at h rfl (by omega) hs
    rw [hl, List.map_cons, List.cons.injEq] at hm
    omega
theorem idle_does : Does fl idleF := by
  intro x h hk
  unfold idleF
  split
  case h_2 => exact ⟨_, _, rfl, fun h => by cases h⟩
  case h_1 a b hl =>
    by_cases h2 : (idleWhich x.f0 a b).2 = true
    · rw [if_pos h2]
      refine ⟨_, _, rfl, fun _ => good_kid (by simp [hl]) ?_⟩
      have h3 : x.f0 = 7 ∨ x.f0 = 9 ∨ x.f0 = 15 ∨ x.f0 = 16 ∨ x.f0 = 27 ∨ x.f0 = 26 := by
        refine Classical.byContradiction fun hn => ?_
        unfold idleWhich at h2
        rw [if_neg (by omega)] at h2
        by_cases e8 : x.f0 = 8
        · rw [if_pos e8] at h2; exact absurd h2 (by simp)
        · rw [if_neg e8, if_neg (by omega)] at h2
          by_cases e10 : x.f0 = 10
          · rw [if_pos e10] at h2; exact absurd h2 (by simp)
          · rw [if_neg e10] at h2
            repeat rw [if_neg (by omega)] at h2
            exact absurd h2 (by simp)
      obtain ⟨t, u, hs⟩ : ∃ t u, sig x.f0 = some ([t, u], u) := by rcases h3 with h3 | h3 | h3 | h3 | h3 | h3 <;> rw [h3] <;> exact ⟨_, _, rfl⟩
      obtain ⟨_, hm, hx⟩ := sig_at h rfl (by omega) hs
      simp only [hl, List.map_cons, List.map_nil, List.cons.injEq, and_true] at hm
      omega
    · rw [if_neg h2]
      by_cases h1 : (idleWhich x.f0 a b).1 = true
      · rw [if_pos h1]
        refine ⟨_, _, rfl, fun _ => good_kid (by simp [hl]) ?_⟩
        have h3 : x.f0 = 7 ∨ x.f0 = 8 ∨ x.f0 = 9 ∨ x.f0 = 10 ∨ x.f0 = 15 ∨ x.f0 = 16 ∨ x.f0 = 27 := by
          refine Classical.byContradiction fun hn => ?_
          unfold idleWhich at h1
          repeat rw [if_neg (by omega)] at h1
          split at h1 <;> exact absurd h1 (by simp)
        obtain ⟨t, u, hs⟩ : ∃ t u, sig x.f0 = some ([t, u], t) := by rcases h3 with h3 | h3 | h3 | h3 | h3 | h3 | h3 <;> rw [h3] <;> exact ⟨_, _, rfl⟩
        obtain ⟨_, hm, hx⟩ := sig_at h rfl (by omega) hs
        simp only [hl, List.map_cons, List.map_nil, List.cons.injEq, and_true] at hm
        omega
      · rw [if_neg h1]
        exact ⟨_, _, rfl, fun h => by cases h⟩
theorem later_does (ho : FlOk fl) (hmax : ∀ P, POk P → ∀ n m, P 29 n → P 29 m → P 29 (if n < m then m else n)) : Does fl laterC := by
  intro x h hk
  by_cases h1 : x.f0 = 29
  · obtain ⟨hf, hm, hx⟩ := sig_at h h1 (by omega) (ks := [99]) (own := 99) rfl
    obtain ⟨a, hl, ha⟩ := map_one hm
    by_cases h2 : a.f0 = 29
    · obtain ⟨hf2, hm2, _⟩ := sig_at (fl := fl) (x := a) (by omega) h2 (by omega) (ks := [99]) (own := 99) rfl
      have e : laterC x = some (⟨29, if x.f1 < a.f1 then a.f1 else x.f1, ⟨#[]⟩, a.f3⟩, true) := by
        unfold laterC
        rw [if_pos h1, hl]
        simp only
        rw [if_pos h2]
      refine ⟨_, _, e, fun _ => ?_⟩
      have s1 := sizeT_eq x
      have s2 := sizeT_eq a
      have s3 : sizeT ⟨29, if x.f1 < a.f1 then a.f1 else x.f1, ⟨#[]⟩, a.f3⟩ = 1 + sizeL a.f3 := by rw [sizeT_eq]
      have d1 := depthT_eq x
      have d2 := depthT_eq a
      have d3 : depthT ⟨29, if x.f1 < a.f1 then a.f1 else x.f1, ⟨#[]⟩, a.f3⟩ = 1 + depthL a.f3 := by rw [depthT_eq]
      rw [hl] at s1 d1
      simp only [sizeL, depthL] at s1 d1
      have m1 := mea_le x
      have m2 : mea ⟨29, if x.f1 < a.f1 then a.f1 else x.f1, ⟨#[]⟩, a.f3⟩ ≤ 2 * sizeT ⟨29, if x.f1 < a.f1 then a.f1 else x.f1, ⟨#[]⟩, a.f3⟩ + 1 := (mea_le _).2
      refine ⟨?_, by omega, by omega, by omega, fun P hP hall => ?_, fun N hN _ hn k hk => hN a (hn a (by simp [hl])) k hk⟩
      · rw [hx, ty_mk (ho.at_ _ _ _ _ hf hf2), hm2]
        rfl
      · rw [allT_eq] at hall ⊢
        rw [h1, allL_iff] at hall
        have ha3 := (allT_eq P a).1 (hall.2 a (by simp [hl]))
        rw [h2] at ha3
        exact ⟨hmax P hP _ _ hall.1 ha3.1, ha3.2⟩
    · refine does_no ?_
      unfold laterC
      rw [if_pos h1, hl]
      simp only
      rw [if_neg h2]
  · exact does_no (by unfold laterC; rw [if_neg h1])
theorem leaf_n (ho : FlOk fl) {a : Core} (h : tyT fl a = 98) (h2 : a.f0 = 2) : a.f1 = 0 ∨ a.f1 = 1 := by
  obtain ⟨hf, _⟩ := sig_at (fl := fl) (x := a) (by omega) h2 (by omega) (ks := []) (own := 98) rfl
  have := ho.is_bool _ _ hf
  omega
theorem chosen_does (ho : FlOk fl) : Does fl chosenC := by
  intro x h hk
  by_cases h1 : x.f0 = 22 ∨ x.f0 = 28
  · obtain ⟨a, b, c, hl, ha, hb, hc⟩ : ∃ a b c, x.f3 = [a, b, c] ∧ tyT fl a = 98 ∧ tyT fl b = tyT fl x ∧ tyT fl c = tyT fl x := by
      rcases h1 with h1 | h1
      · obtain ⟨_, a, b, c, hl, ha, hb, hc, _⟩ := ty_if h h1
        exact ⟨a, b, c, hl, ha, hb, hc⟩
      · obtain ⟨hf, hm, hx⟩ := sig_at h h1 (by omega) (ks := [98, 99, 99]) (own := 99) rfl
        obtain ⟨a, b, c, hl, ha, hb, hc⟩ := map_three hm
        exact ⟨a, b, c, hl, ha, by omega, by omega⟩
    by_cases h2 : a.f0 = 2
    · rcases leaf_n ho ha h2 with h3 | h3
      · refine ⟨c, true, ?_, fun _ => good_kid (by simp [hl]) hc⟩
        unfold chosenC
        rw [hl]
        simp only
        rw [if_pos ⟨h1, h2⟩, h3]
        rfl
      · refine ⟨b, true, ?_, fun _ => good_kid (by simp [hl]) hb⟩
        unfold chosenC
        rw [hl]
        simp only
        rw [if_pos ⟨h1, h2⟩, h3]
        rfl
    · refine does_no ?_
      unfold chosenC
      rw [hl]
      simp only
      rw [if_neg (fun hn => h2 hn.2)]
  · cases hl : x.f3 with
    | nil => exact absurd hl hk
    | cons a l =>
      refine does_no ?_
      unfold chosenC
      rw [hl]
      simp only
      rw [if_neg (fun hn => h1 hn.1)]
theorem never_does (ho : FlOk fl) : Does fl neverC := by
  intro x h hk
  by_cases h1 : x.f0 = 30
  · obtain ⟨hf, hm, hx⟩ := sig_at h h1 (by omega) (ks := [98, 99]) (own := 99) rfl
    obtain ⟨a, b, hl, ha, hb⟩ := map_two hm
    by_cases h2 : isBoolT a 0 = true ∧ b.f0 ≠ 23
    · have e : neverC x = some (⟨30, x.f1, ⟨#[]⟩, [a, ⟨23, 0, ⟨#[]⟩, []⟩]⟩, true) := by
        unfold neverC
        rw [if_pos h1, hl]
        simp only
        rw [if_pos h2]
      refine ⟨_, _, e, fun _ => ?_⟩
      have s1 := sizeT_eq x
      have d1 := depthT_eq x
      rw [hl] at s1 d1
      simp only [sizeL, depthL] at s1 d1
      have sb := sizeT_pos b
      have db := depthT_eq b
      have m1 : mea x = 2 * sizeT x + 1 := by unfold mea; rw [hl]; simp only; rw [if_pos ⟨h1, h2.2⟩]
      have m2 : mea ⟨30, x.f1, ⟨#[]⟩, [a, ⟨23, 0, ⟨#[]⟩, []⟩]⟩ = 2 * (2 + sizeT a) := by simp [mea, sizeT, sizeL]; omega
      have m3 : sizeT ⟨30, x.f1, ⟨#[]⟩, [a, ⟨23, 0, ⟨#[]⟩, []⟩]⟩ = 2 + sizeT a := by simp [sizeT, sizeL]; omega
      have m4 : depthT ⟨30, x.f1, ⟨#[]⟩, [a, ⟨23, 0, ⟨#[]⟩, []⟩]⟩ = 1 + max (depthT a) 1 := by simp [depthT, depthL]
      refine ⟨?_, by omega, by omega, by omega, fun P hP hall => ?_, fun N hN hz hn k hk => ?_⟩
      · have hz : tyT fl ⟨23, 0, ⟨#[]⟩, []⟩ = 99 := ty_mk ho.zero
        rw [hx, ty_mk (ho.when _ _ hf)]
        simp only [List.map_cons, List.map_nil, ha, hz]
        rfl
      · rw [allT_eq] at hall ⊢
        rw [h1, hl] at hall
        simp only [allL] at hall ⊢
        refine ⟨hall.1, hall.2.1, ?_, trivial⟩
        rw [allT_eq]
        exact ⟨hP.zero, trivial⟩
      · rcases List.mem_cons.1 hk with rfl | hk
        · exact hn _ (by simp [hl])
        · rcases List.mem_cons.1 hk with rfl | hk
          · exact hz
          · cases hk
    · refine does_no ?_
      unfold neverC
      rw [if_pos h1, hl]
      simp only
      rw [if_neg h2]
  · exact does_no (by unfold neverC; rw [if_neg h1])
theorem fold_does (ho : FlOk fl) (hym : ∀ a, 1 ≤ (ym a).d) : Does fl (foldC ym) := by
  intro x h hk
  by_cases h1 : 6 ≤ x.f0 ∧ x.f0 ≤ 21 ∧ x.f0 ≠ 15 ∧ x.f0 ≠ 16
  · by_cases h2 : x.f0 = 6 ∨ x.f0 = 14
    · obtain ⟨t, hs, ht⟩ : ∃ t, sig x.f0 = some ([t], t) ∧ t ≠ 0 := by rcases h2 with h2 | h2 <;> rw [h2] <;> exact ⟨_, rfl, by decide⟩
      obtain ⟨hf, hm, hx⟩ := sig_at h rfl (by omega) hs
      obtain ⟨a, hl, ha⟩ := map_one hm
      have e : foldC ym x = some (if constT a = true then (if x.f0 = 6 then numC (Num.neg a.f1) else boolC (a.f1 == 0), true) else (x, false)) := by
        unfold foldC
        rw [if_pos h1, if_pos h2, hl]
      by_cases hc : constT a = true
      · rw [if_pos hc] at e
        refine ⟨_, _, e, fun _ => ?_⟩
        rcases h2 with h2 | h2
        · rw [if_pos h2]
          refine good_num ho hk ?_ (Num.neg_le _)
          have := sig_at h h2 (by omega) (ks := [110]) (own := 110) rfl
          omega
        · rw [if_neg (by omega)]
          refine good_bool ho hk ?_ _
          have := sig_at h h2 (by omega) (ks := [98]) (own := 98) rfl
          omega
      · rw [if_neg hc] at e
        exact does_no e
    · obtain ⟨t, u, v, hs⟩ : ∃ t u v, sig x.f0 = some ([t, u], v) := by
        have : x.f0 = 7 ∨ x.f0 = 8 ∨ x.f0 = 9 ∨ x.f0 = 10 ∨ x.f0 = 11 ∨ x.f0 = 12 ∨ x.f0 = 13 ∨ x.f0 = 17 ∨ x.f0 = 18 ∨ x.f0 = 19 ∨ x.f0 = 20 ∨ x.f0 = 21 := by omega
        rcases this with h3 | h3 | h3 | h3 | h3 | h3 | h3 | h3 | h3 | h3 | h3 | h3 <;> rw [h3] <;> exact ⟨_, _, _, rfl⟩
      obtain ⟨hf, hm, hx⟩ := sig_at h rfl (by omega) hs
      obtain ⟨a, b, hl, ha, hb⟩ := map_two hm
      have e : foldC ym x = some (if constT a = true ∧ constT b = true then (foldV ym x.f0 a.f1 b.f1, true) else (x, false)) := by
        unfold foldC
        rw [if_pos h1, if_neg h2, hl]
      by_cases hc : constT a = true ∧ constT b = true
      · rw [if_pos hc] at e
        refine ⟨_, _, e, fun _ => ?_⟩
        have tn : ∀ {op : Int} {ks : List Int} {own : Int}, x.f0 = op → op ≠ 22 → sig op = some (ks, own) → tyT fl x = own := fun h3 h4 h5 => (sig_at h h3 h4 h5).2.2
        unfold foldV
        repeat' split
        · exact good_num ho hk (tn ‹_› (by decide) rfl) (Num.clamp_le _)
        · exact good_num ho hk (tn ‹_› (by decide) rfl) (Num.clamp_le _)
        · exact good_num ho hk (tn ‹_› (by decide) rfl) (Num.mul_le _ _)
        · exact good_num ho hk (tn ‹_› (by decide) rfl) (Num.div_le _ _)
        · rename_i h3
          rcases h3 with h3 | h3
          · exact good_bool ho hk (tn h3 (by decide) rfl) _
          · exact good_bool ho hk (tn h3 (by decide) rfl) _
        · exact good_bool ho hk (tn ‹_› (by decide) rfl) _
        · exact good_bool ho hk (tn ‹_› (by decide) rfl) _
        · exact good_day ho hk (tn ‹_› (by decide) rfl) (Date.clamp_le _)
        · exact good_day ho hk (tn ‹_› (by decide) rfl) (months_le (hym _))
        · exact good_num ho hk (tn ‹_› (by decide) rfl) (Num.div_le _ _)
        · exact good_num ho hk (tn (op := 21) (by omega) (by decide) rfl) (Num.div_le _ _)
      · rw [if_neg hc] at e
        exact does_no e
  · exact does_no (by unfold foldC; rw [if_neg h1])
end Go.Proofs.YtniajhmbdbgmgaaDoor.Q

/- Layer 16 over right terms: what rewriting comes to is right, of the same type, no greater, and nothing is left to do at any of its terms. -/
namespace Go.Proofs.YtniajhmbdbgmgaaDoor.Q
abbrev Rule := Core → Option (Core × Bool)
section
variable (band : Int → Int → Int)
def firstF (passes : Int) (x : Core) : List (Int × Rule) → Option (Core × Bool)
  | [] => some (⟨0, 0, ⟨#[]⟩, []⟩, false)
  | (p, g) :: r => if band passes p = 0 then firstF passes x r else (g x).bind fun y => if y.2 = true then some y else firstF passes x r
variable (rules : List (Int × Rule))
def loopF (passes : Int) : Nat → Core → Option Core
  | 0, _ => none
  | k + 1, x => if x.f3 = [] then some x else (firstF band passes x rules).bind fun y => if y.2 = true then loopF passes k y.1 else some x
def rewriteF (passes : Int) : Nat → Core → Option Core
  | 0, _ => none
  | k + 1, x => if x.f3.length ≤ 1000 then (x.f3.mapM (rewriteF passes k)).bind fun l => loopF band rules passes k ⟨x.f0, x.f1, x.f2, l⟩ else none
/-- Nothing is to do at a term. -/
def Still (passes : Int) (x : Core) : Prop := x.f3 = [] ∨ ∃ z, firstF band passes x rules = some (z, false)
mutual
/-- Nothing is to do at any term of a term. -/
def normT (passes : Int) : Core → Prop
  | ⟨a, b, c, l⟩ => Still band rules passes ⟨a, b, c, l⟩ ∧ normL passes l
def normL (passes : Int) : List Core → Prop
  | [] => True
  | x :: l => normT passes x ∧ normL passes l
end
end
variable {band : Int → Int → Int} {rules : List (Int × Rule)} {fl : Int → Int → ByteArray → Bool} {passes : Int}
theorem normL_iff (l : List Core) : normL band rules passes l ↔ ∀ x ∈ l, normT band rules passes x := by
  induction l with
  | nil => simp [normL]
  | cons x l ih => simp [normL, ih]
theorem normT_eq (x : Core) : normT band rules passes x ↔ Still band rules passes x ∧ ∀ k ∈ x.f3, normT band rules passes k := by
  rw [← normL_iff]
  cases x
  simp [normT]
/-- The first rule that fits. -/
theorem first_does (L : List (Int × Rule)) (hL : ∀ r ∈ L, Does fl r.2) {x : Core} (h : tyT fl x ≠ 0) (hk : x.f3 ≠ []) : ∃ y ok, firstF band passes x L = some (y, ok) ∧ (ok = true → Good fl x y) := by
  induction L with
  | nil => exact ⟨_, _, rfl, fun h => by cases h⟩
  | cons r L ih =>
    obtain ⟨p, g⟩ := r
    have ih := ih (fun r hr => hL r (List.mem_cons_of_mem _ hr))
    unfold firstF
    by_cases hb : band passes p = 0
    · rw [if_pos hb]
      exact ih
    · rw [if_neg hb]
      obtain ⟨y, ok, he, hg⟩ := hL _ (List.mem_cons_self ..) x h hk
      simp only at he
      rw [he, Option.bind_some]
      by_cases ho : ok = true
      · rw [if_pos ho]
        exact ⟨y, ok, rfl, hg⟩
      · rw [if_neg ho]
        exact ih
theorem first_none {L : List (Int × Rule)} {x z : Core} (h : firstF band passes x L = some (z, false)) : ∀ r ∈ L, band passes r.1 ≠ 0 → ∃ z', r.2 x = some (z', false) := by
  induction L with
  | nil => intro r hr; cases hr
  | cons r L ih =>
    obtain ⟨p, g⟩ := r
    unfold firstF at h
    intro q hq hb
    by_cases hp : band passes p = 0
    · rw [if_pos hp] at h
      rcases List.mem_cons.1 hq with rfl | hq
      · exact absurd hp hb
      · exact ih h q hq hb
    · rw [if_neg hp] at h
      obtain ⟨y, hy, h⟩ := Option.bind_eq_some_iff.1 h
      by_cases ho : y.2 = true
      · rw [if_pos ho] at h
        cases h
        cases ho
      · rw [if_neg ho] at h
        rcases List.mem_cons.1 hq with rfl | hq
        · exact ⟨y.1, by show g x = _; rw [hy]; simp only [Option.some.injEq]; exact Prod.ext rfl (by simpa using ho)⟩
        · exact ih h q hq hb
/-- What rewriting owes. -/
structure Came (band : Int → Int → Int) (rules : List (Int × Rule)) (fl : Int → Int → ByteArray → Bool) (passes : Int) (x y : Core) : Prop where
  ty : tyT fl y = tyT fl x
  size : sizeT y ≤ sizeT x
  depth : depthT y ≤ depthT x
  all : ∀ P, POk P → allT P x → allT P y
  norm : normT band rules passes y
theorem loop_comes (hL : ∀ r ∈ rules, Does fl r.2) : ∀ n x, mea x ≤ n → tyT fl x ≠ 0 → (∀ k ∈ x.f3, normT band rules passes k) → ∃ y, Came band rules fl passes x y ∧ ∃ K, ∀ k, K ≤ k → loopF band rules passes k x = some y := by
  intro n
  induction n with
  | zero =>
    intro x hn
    have := mea_le x
    have := sizeT_pos x
    omega
  | succ n ih =>
    intro x hn ht hk
    by_cases hl : x.f3 = []
    · refine ⟨x, ⟨rfl, Nat.le_refl _, Nat.le_refl _, fun _ _ h => h, (normT_eq x).2 ⟨.inl hl, hk⟩⟩, 1, fun k h1 => ?_⟩
      obtain ⟨k, rfl⟩ : ∃ j, k = j + 1 := ⟨k - 1, by omega⟩
      rw [loopF, if_pos hl]
    · obtain ⟨y, ok, he, hg⟩ := first_does (band := band) (passes := passes) rules hL ht hl
      by_cases ho : ok = true
      · subst ho
        have hg := hg rfl
        have hz : normT band rules passes ⟨23, 0, ⟨#[]⟩, []⟩ := (normT_eq _).2 ⟨.inl rfl, fun k hk => by cases hk⟩
        obtain ⟨z, hc, K, hK⟩ := ih y (by have := hg.lt; omega) (by rw [hg.ty]; exact ht) (hg.kids (normT band rules passes) (fun z hz => ((normT_eq z).1 hz).2) hz hk)
        refine ⟨z, ⟨hc.ty.trans hg.ty, Nat.le_trans hc.size hg.size, Nat.le_trans hc.depth hg.depth, fun P hP h => hc.all P hP (hg.all P hP h), hc.norm⟩, K + 1, fun k h1 => ?_⟩
        obtain ⟨k, rfl⟩ : ∃ j, k = j + 1 := ⟨k - 1, by omega⟩
        rw [loopF, if_neg hl, he, Option.bind_some, if_pos rfl]
        exact hK k (by omega)
      · have ho : ok = false := by simpa using ho
        subst ho
        refine ⟨x, ⟨rfl, Nat.le_refl _, Nat.le_refl _, fun _ _ h => h, (normT_eq x).2 ⟨.inr ⟨y, he⟩, hk⟩⟩, 1, fun k h1 => ?_⟩
        obtain ⟨k, rfl⟩ : ∃ j, k = j + 1 := ⟨k - 1, by omega⟩
        rw [loopF, if_neg hl, he, Option.bind_some, if_neg (by simp)]
inductive Each2 (R : Core → Core → Prop) : List Core → List Core → Prop
  | nil : Each2 R [] []
  | cons {x y : Core} {l m : List Core} : R x y → Each2 R l m → Each2 R (x :: l) (y :: m)
theorem core_eta (x : Core) : (⟨x.f0, x.f1, x.f2, x.f3⟩ : Core) = x := by cases x; rfl
theorem mapM_all {f : Nat → Core → Option Core} {R : Core → Core → Prop} (l : List Core) (h : ∀ x ∈ l, ∃ y, R x y ∧ ∃ K, ∀ k, K ≤ k → f k x = some y) :
    ∃ m : List Core, Each2 R l m ∧ ∃ K, ∀ k, K ≤ k → l.mapM (f k) = some m := by
  induction l with
  | nil => exact ⟨[], .nil, 0, fun k _ => by simp⟩
  | cons x l ih =>
    obtain ⟨y, hR, K1, h1⟩ := h x (List.mem_cons_self ..)
    obtain ⟨m, hm, K2, h2⟩ := ih (fun z hz => h z (List.mem_cons_of_mem _ hz))
    refine ⟨y :: m, .cons hR hm, K1 + K2, fun k hk => ?_⟩
    rw [List.mapM_cons, h1 k (by omega), h2 k (by omega)]
    rfl
theorem came_kids {l m : List Core} (h : Each2 (Came band rules fl passes) l m) : l.map (tyT fl) = m.map (tyT fl) ∧ sizeL m ≤ sizeL l ∧ depthL m ≤ depthL l ∧ (∀ P, POk P → allL P l → allL P m) ∧ ∀ k ∈ m, normT band rules passes k := by
  induction h with
  | nil => exact ⟨rfl, Nat.le_refl _, Nat.le_refl _, fun _ _ h => h, fun k hk => by cases hk⟩
  | cons hR _ ih =>
    obtain ⟨h1, h2, h3, h4, h5⟩ := ih
    have := hR.size
    have := hR.depth
    refine ⟨by simp [h1, hR.ty], by simp only [sizeL]; omega, by simp only [depthL]; omega, fun P hP h => ⟨hR.all P hP h.1, h4 P hP h.2⟩, fun k hk => ?_⟩
    rcases List.mem_cons.1 hk with rfl | hk
    · exact hR.norm
    · exact h5 k hk
/-- Rewriting a right term ends. -/
theorem rewrite_comes (hL : ∀ r ∈ rules, Does fl r.2) (x : Core) : tyT fl x ≠ 0 → ∃ y, Came band rules fl passes x y ∧ ∃ K, ∀ k, K ≤ k → rewriteF band rules passes k x = some y := by
  refine ind_core (P := fun x => tyT fl x ≠ 0 → ∃ y, Came band rules fl passes x y ∧ ∃ K, ∀ k, K ≤ k → rewriteF band rules passes k x = some y) (fun x ih ht => ?_) x
  obtain ⟨m, hm, K1, h1⟩ := mapM_all (R := Came band rules fl passes) (f := rewriteF band rules passes) x.f3 (fun k hk => ih k hk (ty_kids ht k hk))
  obtain ⟨c1, c2, c3, c4, c5⟩ := came_kids hm
  have e : tyT fl ⟨x.f0, x.f1, x.f2, m⟩ = tyT fl x := by rw [← ty_congr c1, core_eta]
  obtain ⟨y, hc, K2, h2⟩ := loop_comes (band := band) (passes := passes) hL _ ⟨x.f0, x.f1, x.f2, m⟩ (Nat.le_refl _) (by rw [e]; exact ht) c5
  have s1 := sizeT_eq x
  have s2 := sizeT_eq ⟨x.f0, x.f1, x.f2, m⟩
  have d1 := depthT_eq x
  have d2 := depthT_eq ⟨x.f0, x.f1, x.f2, m⟩
  have := hc.size
  have := hc.depth
  refine ⟨y, ⟨hc.ty.trans e, by simp only at s2; omega, by simp only at d2; omega, fun P hP h => hc.all P hP ?_, hc.norm⟩, K1 + K2 + 1, fun k hk => ?_⟩
  · rw [allT_eq] at h ⊢
    exact ⟨h.1, c4 P hP h.2⟩
  · obtain ⟨k, rfl⟩ : ∃ j, k = j + 1 := ⟨k - 1, by omega⟩
    rw [rewriteF, if_pos (by have := ty_len ht; omega), h1 k (by omega), Option.bind_some]
    exact h2 k (by omega)
theorem mapM_same {f : Nat → Core → Option Core} (l : List Core) (h : ∀ x ∈ l, ∃ K, ∀ k, K ≤ k → f k x = some x) : ∃ K, ∀ k, K ≤ k → l.mapM (f k) = some l := by
  obtain ⟨m, hm, K, hK⟩ := mapM_all (R := fun x y => x = y) (f := f) l (fun x hx => ⟨x, rfl, h x hx⟩)
  refine ⟨K, fun k hk => ?_⟩
  rw [hK k hk]
  have : l = m := by
    clear hK h
    induction hm with
    | nil => rfl
    | cons h _ ih => rw [h, ih]
  rw [this]
/-- Where nothing is to do a term stays as it is. -/
theorem rewrite_still (x : Core) : tyT fl x ≠ 0 → normT band rules passes x → ∃ K, ∀ k, K ≤ k → rewriteF band rules passes k x = some x := by
  refine ind_core (P := fun x => tyT fl x ≠ 0 → normT band rules passes x → ∃ K, ∀ k, K ≤ k → rewriteF band rules passes k x = some x) (fun x ih ht hn => ?_) x
  obtain ⟨hs, hk⟩ := (normT_eq x).1 hn
  obtain ⟨K, hK⟩ := mapM_same (f := rewriteF band rules passes) x.f3 (fun k h => ih k h (ty_kids ht k h) (hk k h))
  refine ⟨K + 2, fun k hk => ?_⟩
  obtain ⟨k, rfl⟩ : ∃ j, k = j + 2 := ⟨k - 2, by omega⟩
  rw [rewriteF, if_pos (by have := ty_len ht; omega), hK (k + 1) (by omega), Option.bind_some, loopF]
  rcases hs with hs | ⟨z, hz⟩
  · rw [if_pos hs, core_eta]
  · by_cases hl : x.f3 = []
    · rw [if_pos hl, core_eta]
    · rw [if_neg hl, core_eta, hz]
      rfl
theorem first_off {L : List (Int × Rule)} (h : ∀ r ∈ L, band passes r.1 = 0) (x : Core) : firstF band passes x L = some (⟨0, 0, ⟨#[]⟩, []⟩, false) := by
  induction L with
  | nil => rfl
  | cons r L ih =>
    obtain ⟨p, g⟩ := r
    rw [firstF, if_pos (h (p, g) (List.mem_cons_self ..))]
    exact ih (fun r hr => h r (List.mem_cons_of_mem _ hr))
/-- Without passes nothing is to do. -/
theorem norm_none (h : ∀ r ∈ rules, band passes r.1 = 0) (x : Core) : normT band rules passes x := by
  refine ind_core (P := fun x => normT band rules passes x) (fun x ih => (normT_eq x).2 ⟨.inr ⟨_, first_off h x⟩, ih⟩) x

/-! ### all passes over a contract that hangs on nothing -/
def ruleC (ym : Int → Ymd) : List (Int × Rule) := [(1, foldC ym), (2, twiceC), (2, idleF), (2, settledC), (2, laterC), (4, chosenC), (4, neverC)]
theorem rules_do {ym : Int → Ymd} (ho : FlOk fl) (hym : ∀ a, 1 ≤ (ym a).d) (hmax : ∀ P, POk P → ∀ n m, P 29 n → P 29 m → P 29 (if n < m then m else n)) : ∀ r ∈ ruleC ym, Does fl r.2 := by
  intro r hr
  simp only [ruleC, List.mem_cons, List.not_mem_nil, or_false] at hr
  rcases hr with rfl | rfl | rfl | rfl | rfl | rfl | rfl
  · exact fold_does ho hym
  · exact twice_does
  · exact idle_does
  · exact settled_does
  · exact later_does ho hmax
  · exact chosen_does ho
  · exact never_does ho
/-- Is nothing left to reckon? -/
def Settled (op _n : Int) : Prop := ¬ (6 ≤ op ∧ op < 23)
def Const (op _n : Int) : Prop := op ≠ 4 ∧ op ≠ 5
theorem const_leaf {x : Core} (ht : tyT fl x ≠ 0) (hn : tyT fl x ≠ 99) (hs : ¬ (6 ≤ x.f0 ∧ x.f0 < 23)) (hc : x.f0 ≠ 4 ∧ x.f0 ≠ 5) : x.f0 = 1 ∨ x.f0 = 2 ∨ x.f0 = 3 := by
  have h1 := ty_op ht
  have h2 := ty_contract ht
  omega
theorem const_is {x : Core} (h : x.f0 = 1 ∨ x.f0 = 2 ∨ x.f0 = 3) : constT x = true := by
  unfold constT
  rcases h with h | h | h <;> simp [h]
theorem leaf_bool (ho : FlOk fl) {a : Core} (h : tyT fl a = 98) (hc : a.f0 = 1 ∨ a.f0 = 2 ∨ a.f0 = 3) : a.f0 = 2 ∧ (a.f1 = 0 ∨ a.f1 = 1) := by
  have h2 : a.f0 = 2 := by
    rcases hc with hc | hc | hc
    · have := sig_at (fl := fl) (x := a) (by omega) hc (by omega) (ks := []) (own := 110) rfl; omega
    · exact hc
    · have := sig_at (fl := fl) (x := a) (by omega) hc (by omega) (ks := []) (own := 100) rfl; omega
  exact ⟨h2, leaf_n ho h h2⟩
theorem settled_all (ho : FlOk fl) {ym : Int → Ymd} (h1 : band passes 1 ≠ 0) (h2 : band passes 2 ≠ 0) (h4 : band passes 4 ≠ 0) (x : Core) :
    tyT fl x ≠ 0 → normT band (ruleC ym) passes x → allT Const x → allT Settled x := by
  refine ind_core (P := fun x => tyT fl x ≠ 0 → normT band (ruleC ym) passes x → allT Const x → allT Settled x) (fun x ih ht hn hc => ?_) x
  obtain ⟨hs, hkn⟩ := (normT_eq x).1 hn
  obtain ⟨hc0, hcl⟩ := (allT_eq Const x).1 hc
  have hcl := (allL_iff Const x.f3).1 hcl
  have hkt := ty_kids ht
  have hks : ∀ k ∈ x.f3, allT Settled k := fun k hk => ih k hk (hkt k hk) (hkn k hk) (hcl k hk)
  have hleaf : ∀ k ∈ x.f3, tyT fl k ≠ 99 → k.f0 = 1 ∨ k.f0 = 2 ∨ k.f0 = 3 := fun k hk h => const_leaf (hkt k hk) h ((allT_eq _ k).1 (hks k hk)).1 ((allT_eq _ k).1 (hcl k hk)).1
  refine (allT_eq Settled x).2 ⟨fun hop => ?_, (allL_iff _ _).2 hks⟩
  have no : x.f3 ≠ [] → (∀ g, (1, g) ∈ ruleC ym ∨ (2, g) ∈ ruleC ym ∨ (4, g) ∈ ruleC ym → ∃ z, g x = some (z, false)) := by
    intro hl g hg
    rcases hs with hs | ⟨z, hz⟩
    · exact absurd hs hl
    · rcases hg with hg | hg | hg
      · exact first_none hz _ hg h1
      · exact first_none hz _ hg h2
      · exact first_none hz _ hg h4
  by_cases h22 : x.f0 = 22
  · obtain ⟨_, a, b, c, hl, ha, _⟩ := ty_if ht h22
    obtain ⟨h3, h5⟩ := leaf_bool ho ha (hleaf a (by simp [hl]) (by omega))
    obtain ⟨z, hz⟩ := no (by simp [hl]) chosenC (.inr (.inr (by simp [ruleC])))
    unfold chosenC at hz
    rw [hl] at hz
    simp only at hz
    rw [if_pos ⟨.inl h22, h3⟩] at hz
    rcases h5 with h5 | h5 <;> rw [h5] at hz <;> simp at hz
  · by_cases hb : x.f0 = 15 ∨ x.f0 = 16
    · obtain ⟨_, hm, _⟩ := sig_at ht rfl h22 (ks := [98, 98]) (own := 98) (by rcases hb with hb | hb <;> rw [hb] <;> rfl)
      obtain ⟨a, b, hl, ha, hb2⟩ := map_two hm
      obtain ⟨h3, h5⟩ := leaf_bool ho ha (hleaf a (by simp [hl]) (by omega))
      obtain ⟨z, hz⟩ := no (by simp [hl]) idleF (.inr (.inl (by simp [ruleC])))
      obtain ⟨y, hy⟩ := no (by simp [hl]) settledC (.inr (.inl (by simp [ruleC])))
      unfold idleF at hz
      unfold settledC at hy
      rw [hl] at hz hy
      simp only [idleWhich, isBoolT, h3] at hz hy
      rcases hb with hb | hb <;> rcases h5 with h5 | h5 <;> simp [hb, h5] at hz hy
    · have hf : 6 ≤ x.f0 ∧ x.f0 ≤ 21 ∧ x.f0 ≠ 15 ∧ x.f0 ≠ 16 := by omega
      by_cases hu : x.f0 = 6 ∨ x.f0 = 14
      · obtain ⟨t, hs', ht'⟩ : ∃ t, sig x.f0 = some ([t], t) ∧ t ≠ 99 := by rcases hu with hu | hu <;> rw [hu] <;> exact ⟨_, rfl, by decide⟩
        obtain ⟨_, hm, _⟩ := sig_at ht rfl h22 hs'
        obtain ⟨a, hl, ha⟩ := map_one hm
        have hca := const_is (hleaf a (by simp [hl]) (by omega))
        obtain ⟨z, hz⟩ := no (by simp [hl]) (foldC ym) (.inl (by simp [ruleC]))
        unfold foldC at hz
        rw [if_pos hf, if_pos hu, hl] at hz
        simp only at hz
        rw [if_pos hca] at hz
        simp at hz
      · obtain ⟨t, u, v, hs', ht', hu'⟩ : ∃ t u v, sig x.f0 = some ([t, u], v) ∧ t ≠ 99 ∧ u ≠ 99 := by
          have : x.f0 = 7 ∨ x.f0 = 8 ∨ x.f0 = 9 ∨ x.f0 = 10 ∨ x.f0 = 11 ∨ x.f0 = 12 ∨ x.f0 = 13 ∨ x.f0 = 17 ∨ x.f0 = 18 ∨ x.f0 = 19 ∨ x.f0 = 20 ∨ x.f0 = 21 := by omega
          rcases this with h3 | h3 | h3 | h3 | h3 | h3 | h3 | h3 | h3 | h3 | h3 | h3 <;> rw [h3] <;> exact ⟨_, _, _, rfl, by decide, by decide⟩
        obtain ⟨_, hm, _⟩ := sig_at ht rfl h22 hs'
        obtain ⟨a, b, hl, ha, hb2⟩ := map_two hm
        have hca := const_is (hleaf a (by simp [hl]) (by omega))
        have hcb := const_is (hleaf b (by simp [hl]) (by omega))
        obtain ⟨z, hz⟩ := no (by simp [hl]) (foldC ym) (.inl (by simp [ruleC]))
        unfold foldC at hz
        rw [if_pos hf, if_neg hu, hl] at hz
        simp only at hz
        rw [if_pos ⟨hca, hcb⟩] at hz
        simp at hz
end Go.Proofs.YtniajhmbdbgmgaaDoor.Q

/- causal.small tells whether a term has at most 2000 terms, none deeper than 200. -/
namespace Go.Proofs.YtniajhmbdbgmgaaDoor.Q
open Go Go.RowKit Go.Proofs Go.Proofs.YtniajhmbdbgmgaaDoor Go.Shelf Go.Proofs.YtniajhmbdbgmgaaDoorW.PrintWords Go.Proofs.YtniajhmbdbgmgaaDoorW.PrintLast Go.Proofs.YtniajhmbdbgmgaaDoorW.PrintMore
attribute [local go_sem] Oper.semAt_some

theorem boxed_frozen {W : World} {B : Nat} {t : TypeId} {v : Value} (h : Boxed W B t v) : W.frozen? ⟨B, 0, none⟩ = false := by simp [World.frozen?, show W.heap[B]? = _ from h]
theorem boxed_set {W : World} {B : Nat} {t : TypeId} {v : Value} (h : Boxed W B t v) (u : Value) : Boxed (W.setCell ⟨B, 0, none⟩ u) B t u := by
  have h' : W.heap[B]? = some (.cells #[v] t (0, 0)) := h
  show (W.setCell ⟨B, 0, none⟩ u).heap[B]? = some (.cells #[u] t (0, 0))
  unfold World.setCell
  simp [Array.getElem?_modify, h']
theorem KC.put {own : Nat → Prop} {n₀ : Nat} (W : World) (l : Nat) (o o' : Obj) (hl : n₀ ≤ l) (h : W.heap[l]? = some o) (hc : o.isCells = false) : KC own n₀ W (W.putObj l o') :=
  have hg := grownBy_putObj' W l o'
  have hlt := (Array.getElem?_eq_some_iff.1 h).1
  ⟨hg.size, fun k hk _ => hg.block k (by omega) (fun e => by cases e; omega), fun k o2 hk hc2 _ => (hg.block k (Array.getElem?_eq_some_iff.1 hk).1 (fun e => by cases e; rw [h] at hk; cases hk; rw [hc] at hc2; cases hc2)).trans hk⟩
theorem KC.set {own : Nat → Prop} {n₀ : Nat} (W : World) (B : Nat) (h : own B) (v : Value) : KC own n₀ W (W.setCell ⟨B, 0, none⟩ v) :=
  have hm : ∀ k, ¬ own k → (W.setCell ⟨B, 0, none⟩ v).heap[k]? = W.heap[k]? := fun k hk => Below.heap_setCell W ⟨B, 0, none⟩ v k (fun e => hk (by cases e; exact h))
  ⟨by simp, fun k _ hk => hm k hk, fun k o hk _ ho => (hm k ho).trans hk⟩

def smallT (x : S24) : Bool := decide ((preT 1 x).length ≤ 2000) && (preT 1 x).all (fun k => decide (k.1 ≤ 200))
def causal_small.f (a b : Int) (c : ByteArray) (l : List S24) : Option Bool := some (smallT ⟨a, b, c, l⟩)

set_option maxRecDepth 100000 in
set_option maxHeartbeats 4000000 in
theorem small_in (F : Fence) (hd : F.depth = none) (hF : ∀ f, F.fn f) (hro : F.round = none) (n : Nat) (hn : 3 ≤ n) (x : S24) (A : Option Addr) (c : Nat) (w : World) (ht : Kd.C k24 w A x.f3.length x.f3) (hc : x.f3.length ≤ c) :
    CallsIn F n Tryd.prog 75 #[.agg #[.int .i64 x.f0, .int .i64 x.f1, .string x.f2, .slice A x.f3.length c]] w fun e w' => e = .returned (.bool (smallT x)) ∧ Below w.heap.size w w' := by
  have h1 : 1 ≤ n := by omega
  have hF1 := hF 75; have hF2 := hF 49; have hF3 := hF 78
  have hT := Lib.hid ht
  clear ht
  refine callsIn_of_wp_marks Tryd.func75 rfl hF1 ?_ hro
  simp only [Tryd.ntmps75, List.size_toArray, List.length_cons, List.length_nil, Nat.reduceAdd, Nat.reduceSub, Array.replicate_succ, Array.replicate_zero, List.push_toArray, List.append_toArray, List.nil_append, List.cons_append]
  gi_wp2_with (gi_at_call 49; refine (all_in F (n - 1) hF2 hro _ _ _ _ _ _ _).mono ?_; rintro e w' ⟨rfl, rfl⟩)
  obtain ⟨w3, ew3⟩ : ∃ w3, ((w.alloc (.cells #[.int .i64 x.f0, .int .i64 x.f1, .string x.f2, .slice A x.f3.length c] 24)).alloc (.cells #[.bool false] 4)).alloc (.cells #[.int .i64 0] 3) = w3 := ⟨_, rfl⟩
  have s3 : w3.heap.size = w.heap.size + 1 + 1 + 1 := by rw [← ew3]; simp
  have hB3 : Below w.heap.size w w3 := by rw [← ew3]; exact (((Below.refl _ w).alloc (Nat.le_refl _) _).alloc (by simp) _).alloc (by simp; omega) _
  have b2 : Boxed w3 (w.heap.size + 1) 4 (.bool false) := by
    rw [← ew3]
    refine boxed_more ?_ _
    have := Boxed.new (w.alloc (.cells #[.int .i64 x.f0, .int .i64 x.f1, .string x.f2, .slice A x.f3.length c] 24)) 4 (.bool false)
    rwa [World.size_alloc] at this
  have b3 : Boxed w3 (w.heap.size + 1 + 1) 3 (.int .i64 0) := by
    rw [← ew3]
    have := Boxed.new ((w.alloc (.cells #[.int .i64 x.f0, .int .i64 x.f1, .string x.f2, .slice A x.f3.length c] 24)).alloc (.cells #[.bool false] 4)) 3 (.int .i64 0)
    rwa [World.size_alloc, World.size_alloc] at this
  rw [ew3]
  obtain ⟨w4, ew4⟩ : ∃ w4, w3.alloc (.cells #[.int .i64 x.f0, .int .i64 x.f1, .string x.f2, .slice A x.f3.length c] 24) = w4 := ⟨_, rfl⟩
  have s4 : w4.heap.size = w.heap.size + 1 + 1 + 1 + 1 := by rw [← ew4]; simp [s3]
  have hB4 : Below w.heap.size w w4 := by rw [← ew4]; exact hB3.alloc (by omega) _
  have b4 : w4.heap[w.heap.size + 1 + 1 + 1]? = some (.cells #[.int .i64 x.f0, .int .i64 x.f1, .string x.f2, .slice A x.f3.length c] 24 (0, 0)) := by rw [← ew4, ← s3]; exact World.alloc_heap_new w3 _
  have b2' : Boxed w4 (w.heap.size + 1) 4 (.bool false) := by rw [← ew4]; exact boxed_more b2 _
  have b3' : Boxed w4 (w.heap.size + 1 + 1) 3 (.int .i64 0) := by rw [← ew4]; exact boxed_more b3 _
  rw [ew4]
  clear ew4 ew3 b2 b3 hB3 s3
  have hF4 : Kd.F k24 w4 (fun i => i < w4.heap.size ∧ ¬ (i = w.heap.size + 1 ∨ i = w.heap.size + 1 + 1)) A x.f3.length x.f3 :=
    Kd.F_mono (Kd.F_below (Kd.C_F k24_heap hT.out) hB4) (fun k hk => ⟨by omega, by omega⟩)
  refine wpIn_rangeFunc_ownF hro h1 (gf := 78) (lb := #[.pointer (some ⟨w.heap.size + 1 + 1 + 1, 0, none⟩)]) rfl hF3 (enters_of Tryd.func78 (by kernel_rfl) rfl)
    (all_stops F hd (n - 1) hF3 (hF _) hro (w.heap.size + 1 + 1 + 1) w4.heap.size (fun i => i = w.heap.size + 1 ∨ i = w.heap.size + 1 + 1) (fun k hk => by omega) x A c w4 b4 hF4 hc (Nat.le_refl _))
    (fun h k => h.trans k) (fun W l o o' hl h hc _ => KC.put W l o o' hl h hc) (Below.refl _ _) (fun _ => rfl)
    (fun pre W => ((pre.length ≤ 2000 ∧ ∀ y ∈ pre, y.d ≤ 200) ∧ Boxed W (w.heap.size + 1) 4 (.bool false) ∧ Boxed W (w.heap.size + 1 + 1) 3 (.int .i64 (pre.length : Int))) ∧ Below w.heap.size w W)
    (fun k pre W => ((k = .ret ∧ (2000 < pre.length ∨ ∃ y ∈ pre, 200 < y.d)) ∧ Boxed W (w.heap.size + 1) 4 (.bool false)) ∧ Below w.heap.size w W)
    (OwnFrom.and (OwnFrom.and (ownFrom_pure _ _) (OwnFrom.and (Own.from (boxed_own _ _ _) _) (Own.from (boxed_own _ _ (fun pre => Value.int .i64 ((List.length pre : Nat) : Int))) _))) (ownFrom_below (Nat.le_refl _) (by omega)))
    (fun k => OwnFrom.and (OwnFrom.and (ownFrom_pure _ _) (Own.from (boxed_own _ _ _) _)) (ownFrom_below (Nat.le_refl _) (by omega)))
    ⟨⟨⟨by simp, by simp⟩, b2', b3'⟩, hB4⟩
    (fun y => { tmps := #[.agg #[.int .i64 x.f0, .int .i64 x.f1, .string x.f2, .slice A x.f3.length c], .pointer (some ⟨w.heap.size, 0, none⟩), .pointer (some ⟨w.heap.size + 1, 0, none⟩), .pointer (some ⟨w.heap.size + 1 + 1, 0, none⟩), .int .i64 y.d, .agg #[.int .i64 x.f0, .int .i64 x.f1, .string x.f2, .slice A x.f3.length c], .func (.func 78) #[] #[.pointer (some ⟨w.heap.size + 1 + 1 + 1, 0, none⟩)], .int .i64 y.d, .agg #[.int .i64 y.op, .int .i64 y.n, .string y.s, .slice y.A y.len y.cap], undef, undef, undef, undef, undef, undef, undef, undef], defers := [] }) ?assign ?body ?done ?stop
  case assign =>
    intro l y W K hK
    simp only [Item.enc]
    gi_wp2
    exact hK
  case body =>
    rintro l pre y W ⟨⟨⟨hp1, hp2⟩, hbr, hbn⟩, hB⟩ _
    have hcn := boxed_cell hbn
    have hfn := boxed_frozen hbn
    have hcr := boxed_cell hbr
    have hfr := boxed_frozen hbr
    obtain ⟨m, em⟩ : ∃ m : Int, (pre.length : Int) = m := ⟨_, rfl⟩
    rw [em] at hcn
    have m1 : 0 ≤ m := by omega
    have m2 : m ≤ 2000 := by omega
    have hset := boxed_set hbn (.int .i64 (m + 1))
    have hset2 := Boxed.other hbr (B' := w.heap.size + 1 + 1) (by omega) (.int .i64 (m + 1))
    have hcn2 := boxed_cell hset
    have hcr2 := boxed_cell hset2
    have hfr2 := boxed_frozen hset2
    have hB2 : Below w.heap.size w (W.setCell ⟨w.heap.size + 1 + 1, 0, none⟩ (.int .i64 (m + 1))) := hB.setCell (p := ⟨w.heap.size + 1 + 1, 0, none⟩) (by simp; omega) _
    have H1 := Lib.hid (And.intro hset hset2); have H2 := Lib.hid hB2; have H3 := Lib.hid hp2
    clear hset hset2 hB2 hp2 hbr hbn hB
    by_cases c1 : 2000 < m + 1
    · have t1 : decide (2000 < m + 1) = true := decide_eq_true c1
      gi_wp2
      exact ⟨(KeepsOthers.setCell _ _ _).trans (KeepsOthers.setCell _ _ _), ⟨⟨rfl, .inl (by simp; omega)⟩, boxed_set H1.out.2 _⟩, H2.out.setCell (p := ⟨w.heap.size + 1, 0, none⟩) (by simp) _⟩
    · have t1 : decide (2000 < m + 1) = false := decide_eq_false c1
      by_cases c2 : 200 < y.d
      · have t2 : decide (200 < y.d) = true := decide_eq_true c2
        gi_wp2
        exact ⟨(KeepsOthers.setCell _ _ _).trans (KeepsOthers.setCell _ _ _), ⟨⟨rfl, .inr ⟨y, by simp, c2⟩⟩, boxed_set H1.out.2 _⟩, H2.out.setCell (p := ⟨w.heap.size + 1, 0, none⟩) (by simp) _⟩
      · have t2 : decide (200 < y.d) = false := decide_eq_false c2
        gi_wp2
        refine ⟨KeepsOthers.setCell _ _ _, KC.set _ _ (.inr rfl) _, ⟨⟨by simp; omega, ?_⟩, H1.out.2, ?_⟩, H2.out⟩
        · intro z hz
          rcases List.mem_append.1 hz with hz | hz
          · exact H3.out z hz
          · simp at hz; subst hz; omega
        · have := H1.out.1
          rw [List.length_append, List.length_singleton]
          rw [show ((pre.length + 1 : Nat) : Int) = m + 1 from by omega]
          exact this
  case done =>
    rintro D ys W hD hS ⟨⟨⟨hp1, hp2⟩, hbr, _⟩, hB⟩ hK
    have hcr := boxed_cell hbr
    have hfr := boxed_frozen hbr
    have hres : smallT x = true := by
      unfold smallT
      rw [← hS, List.length_map, decide_eq_true hp1, Bool.true_and, List.all_map, List.all_eq_true]
      intro z hz
      exact decide_eq_true (hp2 z hz)
    gi_wp2
    have hK' := (KeepsOthers.setCell W ⟨w.heap.size + 1, 0, none⟩ (.bool true)).same D _ hK rfl
    refine ⟨by simp, .inl ⟨_, _, rfl, run_takeDeferred hK', ?_⟩⟩
    have hc5 := cell_kept (World.cell?_setCell_same' W ⟨w.heap.size + 1, 0, none⟩ (.bool true) (by rw [hcr]; rfl)) (grownBy_putObj' _ D (.deferred none)) (fun r e => by cases e; exact ⟨_, hK', rfl⟩)
    refine ⟨.bool true, ?_, by rw [hres], (hB.setCell (p := ⟨w.heap.size + 1, 0, none⟩) (by simp) _).trans (belowK_b (w := w) (Nat.le_refl _) _ D _ _ (by omega) hK' rfl rfl)⟩
    simp [results, Tryd.f75, go_sem, hc5]
  case stop =>
    rintro D k pre W hD hS ⟨⟨⟨rfl, hor⟩, hbr⟩, hB⟩ hK
    have hres : smallT x = false := by
      obtain ⟨r, hr⟩ := hS
      have hmem : ∀ y ∈ pre, y.key ∈ preT 1 x := fun y hy => by rw [← hr]; exact List.mem_append_left _ (List.mem_map_of_mem hy)
      have hlen : pre.length ≤ (preT 1 x).length := by rw [← hr, List.length_append, List.length_map]; omega
      rw [Bool.eq_false_iff]
      intro ht
      unfold smallT at ht
      rw [Bool.and_eq_true, List.all_eq_true] at ht
      have h1 := of_decide_eq_true ht.1
      rcases hor with hor | ⟨y, hy, hd⟩
      · omega
      · have := of_decide_eq_true (ht.2 _ (hmem y hy))
        simp [Item.key] at this
        omega
    gi_wp2
    refine ⟨by simp, .inl ⟨_, _, rfl, run_takeDeferred hK, ?_⟩⟩
    have hc5 := cell_kept (boxed_cell hbr) (grownBy_putObj' _ D (.deferred none)) (fun r e => by cases e; exact ⟨_, hK, rfl⟩)
    refine ⟨.bool false, ?_, by rw [hres], hB.trans (belowK_b (w := w) (Nat.le_refl _) W D _ _ (by omega) hK rfl rfl)⟩
    simp [results, Tryd.f75, go_sem, hc5]

theorem causal_small.calls (a0_0 : Int) (a0_1 : Int) (a0_2 : ByteArray) (A0_3 : Option Addr) (c0_3 : Nat) (l0_3 : List S24) (r : Bool) (w : World) (hr0_3 : Kd.C k24 w A0_3 l0_3.length l0_3) (hc0_3 : l0_3.length ≤ c0_3) (h : causal_small.f a0_0 a0_1 a0_2 l0_3 = some r) :
    Calls Tryd.prog 75 #[.agg #[.int .i64 a0_0, .int .i64 a0_1, .string a0_2, .slice A0_3 l0_3.length c0_3]] w fun e w' => e = .returned (.bool r) ∧ Below w.heap.size w w' := by
  obtain rfl := Option.some.inj h
  exact (callsIn_wide (n := 3)).1 (small_in Fence.wide rfl (fun _ => trivial) rfl 3 (Nat.le_refl _) ⟨a0_0, a0_1, a0_2, l0_3⟩ A0_3 c0_3 w hr0_3 hc0_3)
end Go.Proofs.YtniajhmbdbgmgaaDoor.Q

/- strings.Cut at one byte, and strings.IndexByte. -/
namespace Go.Proofs.YtniajhmbdbgmgaaDoor.Q
open Go Go.RowKit Go.Proofs Go.Proofs.YtniajhmbdbgmgaaDoor

def strings_IndexByte.f (a0 : ByteArray) (a1 : Int) : Option Int := some (Lib.indexByte a0.data.toList a1.toNat.toUInt8)
theorem strings_IndexByte.calls (a0 : ByteArray) (a1 : Int) (r : Int) (w : World) (h : strings_IndexByte.f a0 a1 = some r) :
    Calls Tryd.prog 77 #[.string a0, .int .u8 a1] w fun e w' => e = .returned (.int .i64 r) ∧ Below w.heap.size w w' := by
  obtain rfl := Option.some.inj h
  exact (Tryd.strings_IndexByte a0 a1 w).mono fun e w' h => ⟨h.1, by rw [h.2]; exact Below.refl _ _⟩

theorem indexByte_lt (l : List UInt8) (c : UInt8) : Lib.indexByte l c < l.length := by
  induction l with
  | nil => simp [Lib.indexByte]
  | cons b l ih => simp only [Lib.indexByte, List.length_cons]; repeat' split <;> omega

theorem index62 (s : ByteArray) (w : World) : Calls Tryd.prog 138 #[.string s, .string ⟨#[62]⟩] w fun e w' => e = .returned (.int .i64 (Lib.indexByte s.data.toList 62)) ∧ w = w' := by
  cases hs : ([62] == s.toList)
  · go_enter Tryd.func138, Tryd.ntmps138
    go_wp2_with fail
    refine (Tryd.stringslite_IndexByte s 62 w).mono ?_
    rintro e w' ⟨rfl, rfl⟩
    go_wp2_with fail
    go_ret
    exact ⟨rfl, rfl⟩
  · have hz : Hid (Lib.indexByte s.data.toList 62 = 0) := Lib.hid (by rw [← Lib.toList_data, ← eq_of_beq hs]; rfl)
    go_enter Tryd.func138, Tryd.ntmps138
    go_wp2_with fail
    go_ret
    exact ⟨by rw [hz.out]; rfl, rfl⟩

def cutAt (s : ByteArray) (i : Int) : ByteArray × ByteArray × Bool := if i < 0 then (s, ⟨#[]⟩, false) else (s.extract 0 i.toNat, s.extract (i + 1).toNat s.size, true)
theorem cut62 (s : ByteArray) (hs : (s.size : Int) ≤ 140737488351232) (w : World) : Calls Tryd.prog 127 #[.string s, .string ⟨#[62]⟩] w fun e w' =>
    e = .returned (.tuple #[.string (cutAt s (Lib.indexByte s.data.toList 62)).1, .string (cutAt s (Lib.indexByte s.data.toList 62)).2.1, .bool (cutAt s (Lib.indexByte s.data.toList 62)).2.2]) ∧ Below w.heap.size w w' := by
  obtain ⟨i, ei⟩ : ∃ i, Lib.indexByte s.data.toList 62 = i := ⟨_, rfl⟩
  have hge := Lib.indexByte_ge s.data.toList 62
  have hlt := indexByte_lt s.data.toList 62
  have hl : s.data.toList.length = s.size := rfl
  rw [hl] at hlt
  have hx := fun w => index62 s w
  rw [ei] at hge hlt hx
  rw [ei]
  have HX := Lib.hid hx
  clear hx ei hl
  by_cases hi : i < 0
  · have t1 : decide (0 ≤ i) = false := decide_eq_false (by omega)
    rw [show cutAt s i = (s, ⟨#[]⟩, false) from if_pos hi]
    go_enter Tryd.func127, Tryd.ntmps127
    go_wp2_with fail
    refine (HX.out w).mono ?_
    rintro e w' ⟨rfl, rfl⟩
    go_wp2_with fail
    exact bodyPost_ret (v := .tuple #[.string s, .string ⟨#[]⟩, .bool false]) (by simp [results, Tryd.results127, go_sem]) rfl ⟨rfl, Below.refl _ _⟩
  · have t1 : decide (0 ≤ i) = true := decide_eq_true (by omega)
    have h0 : 0 ≤ i := by omega
    rw [show cutAt s i = (s.extract 0 i.toNat, s.extract (i + 1).toNat s.size, true) from if_neg hi]
    go_enter Tryd.func127, Tryd.ntmps127
    go_wp2_with fail
    refine (HX.out w).mono ?_
    rintro e w' ⟨rfl, rfl⟩
    go_wp2_with fail
    go_quiet (fail)
    go_wp2_with fail
    exact bodyPost_ret (v := .tuple #[.string (s.extract 0 i.toNat), .string (s.extract (i + 1).toNat s.size), .bool true]) (by simp [results, Tryd.results127, go_sem]) rfl ⟨rfl, belowN (Below.refl _ _) _⟩

def strings_Cut.f (a0 a1 : ByteArray) : Option (ByteArray × ByteArray × Bool) := if a1 = ⟨#[62]⟩ ∧ (a0.size : Int) ≤ 140737488351232 then some (cutAt a0 (Lib.indexByte a0.data.toList 62)) else none
theorem strings_Cut.calls (a0 a1 : ByteArray) (r1 : ByteArray) (r2 : ByteArray) (r3 : Bool) (w : World) (h : strings_Cut.f a0 a1 = some (r1, r2, r3)) :
    Calls Tryd.prog 108 #[.string a0, .string a1] w fun e w' => e = .returned (.tuple #[.string r1, .string r2, .bool r3]) ∧ Below w.heap.size w w' := by
  unfold strings_Cut.f at h
  split at h
  case isFalse => cases h
  case isTrue hc =>
    obtain ⟨rfl, hs⟩ := hc
    have hr := Option.some.inj h
    have hx := fun w => cut62 a0 hs w
    rw [hr] at hx
    have HX := Lib.hid hx
    clear hx hr h hs
    go_enter Tryd.func108, Tryd.ntmps108
    go_wp2_with fail
    refine (HX.out w).mono ?_
    rintro e w' ⟨rfl, hb⟩
    go_wp2_with fail
    exact bodyPost_ret (v := .tuple #[.string r1, .string r2, .bool r3]) (by simp [results, Tryd.results108, go_sem]) rfl ⟨rfl, hb⟩

def strings_Trim.f (a0 a1 : ByteArray) : Option ByteArray :=
  if (a0.size : Int) ≤ 140737488351232 ∧ a1.size < 4294967281 ∧ a1.data.toList.all (fun b => b.toNat < 128) = true then some ⟨(Lib.trimS a0.data.toList a1.data.toList).toArray⟩ else none
theorem strings_Trim.calls (a0 a1 : ByteArray) (r : ByteArray) (w : World) (h : strings_Trim.f a0 a1 = some r) :
    Calls Tryd.prog 139 #[.string a0, .string a1] w fun e w' => e = .returned (.string r) ∧ Below w.heap.size w w' := by
  unfold strings_Trim.f at h
  split at h
  case isFalse => cases h
  case isTrue hc =>
    obtain ⟨h1, h2, h3⟩ := hc
    obtain rfl := Option.some.inj h
    refine Any.strings_Trim_laid Tryd.lays160 (by kernel_rfl) a0 a1 w (by omega) h2 ?_
    intro j b hj
    exact of_decide_eq_true (List.all_eq_true.1 h3 b (List.mem_of_getElem? hj))
end Go.Proofs.YtniajhmbdbgmgaaDoor.Q

namespace Go.Proofs.YtniajhmbdbgmgaaDoor.Q
open Go.RowKit Go.Proofs.YtniajhmbdbgmgaaDoorW.PrintWords Go.Proofs.YtniajhmbdbgmgaaDoorW.PrintLast Go.Proofs.YtniajhmbdbgmgaaDoorW.PrintMore
attribute [local go_sem] max2_int min2_int max_two min_two max_three min_three max_four min_four   -- for this text's walks alone
set_option linter.unusedVariables false
set_option linter.unusedSimpArgs false

/-! ### causal_isName: function 128 -/
def causal_isName.f (a0 : ByteArray) : Option (Bool) := if a0.toList = ([] : List UInt8) then (some false) else (if (a0.size : Int) > 24 then (some false) else (if 0 < (a0.size : Int) then (if (bt a0 0) < 97 then (some false) else (if (bt a0 0) > 122 then (some false) else ((strings_Trim.f a0 (⟨#[97, 98, 99, 100, 101, 102, 103, 104, 105, 106, 107, 108, 109, 110, 111, 112, 113, 114, 115, 116, 117, 118, 119, 120, 121, 122, 48, 49, 50, 51, 52, 53, 54, 55, 56, 57, 95]⟩ : ByteArray)).bind fun t241 => (some (t241.toList == ([] : List UInt8)))))) else (none)))
set_option maxHeartbeats 8000000 in
set_option maxRecDepth 100000 in
theorem causal_isName.calls (a0 : ByteArray) (r : Bool) (w : World) (h : causal_isName.f a0 = some r) :
    Calls Tryd.prog 128 #[.string a0] w fun e w' => e = .returned (.bool r) ∧ Below w.heap.size w w' := by
  have HB := Aside0.mk (Below.refl w.heap.size w)
  have H : (if a0.toList = ([] : List UInt8) then (some false) else (if (a0.size : Int) > 24 then (some false) else (if 0 < (a0.size : Int) then (if (bt a0 0) < 97 then (some false) else (if (bt a0 0) > 122 then (some false) else ((strings_Trim.f a0 (⟨#[97, 98, 99, 100, 101, 102, 103, 104, 105, 106, 107, 108, 109, 110, 111, 112, 113, 114, 115, 116, 117, 118, 119, 120, 121, 122, 48, 49, 50, 51, 52, 53, 54, 55, 56, 57, 95]⟩ : ByteArray)).bind fun t241 => (some (t241.toList == ([] : List UInt8)))))) else (none)))) = some r := h
  clear h
  by_cases c2 : a0.toList = ([] : List UInt8)
  · rw [if_pos c2] at H
    have c2b0 : (a0.toList == ([] : List UInt8)) = true := beq_iff_eq.mpr c2
    have c2b1 : (a0.toList != ([] : List UInt8)) = false := bne_eq_false_iff_eq.mpr c2
    clear c2
    obtain rfl := Option.some.inj H
    go_enter Tryd.func128, Tryd.ntmps128
    go_wp2
    go_ret
    exact ⟨by first | rfl | (simp [errW_none, errW_some] <;> rfl) | (simp [*, errW_none, errW_some] <;> rfl), by repeat (first | (with_reducible first | exact HB.out | apply below_alloc | apply pw_below_drewN | apply below_drew1) | exact HB.out)⟩
  · rw [if_neg c2] at H
    have c2b0 : (a0.toList == ([] : List UInt8)) = false := beq_eq_false_iff_ne.mpr c2
    have c2b1 : (a0.toList != ([] : List UInt8)) = true := bne_iff_ne.mpr c2
    by_cases c3 : (a0.size : Int) > 24
    · rw [if_pos c3] at H
      have c3b0 : decide (24 < (a0.size : Int)) = true := decide_eq_true c3
      have c3b1 : decide (24 < a0.size) = true := decide_eq_true (by omega)
      clear c3
      obtain rfl := Option.some.inj H
      go_enter Tryd.func128, Tryd.ntmps128
      go_wp2
      go_ret
      exact ⟨by first | rfl | (simp [errW_none, errW_some] <;> rfl) | (simp [*, errW_none, errW_some] <;> rfl), by repeat (first | (with_reducible first | exact HB.out | apply below_alloc | apply pw_below_drewN | apply below_drew1) | exact HB.out)⟩
    · rw [if_neg c3] at H
      have c3b0 : decide (24 < (a0.size : Int)) = false := decide_eq_false c3
      have c3b1 : decide (24 < a0.size) = false := decide_eq_false (by omega)
      clear c3
      by_cases c4 : 0 < (a0.size : Int)
      · rw [if_pos c4] at H
        have c4b0 : decide (0 < (a0.size : Int)) = true := decide_eq_true c4
        have c4b1 : decide (0 < a0.size) = true := decide_eq_true (by omega)
        clear c4
        by_cases c6 : (bt a0 0) < 97
        · rw [if_pos c6] at H
          have c6b0 : decide ((bt a0 0) < 97) = true := decide_eq_true c6
          clear c6
          obtain rfl := Option.some.inj H
          have p5 : 0 ≤ (0 : Int) := (by omega)
          have q5 : 0 < a0.size := (by have : (0 : Int) < (a0.size : Int) := of_decide_eq_true (by first | (with_reducible assumption) | assumption); omega)
          have hx5 : ∀ h : 0 < a0.size, ((a0[0]'h).toNat : Int) = bt a0 0 := bt_at a0 0
          clear p5
          have qi5 : (0 < (a0.size : Int)) = True := eq_true (of_decide_eq_true (by first | (with_reducible assumption) | assumption))
          replace q5 := eq_true q5
          go_enter Tryd.func128, Tryd.ntmps128
          go_wp2
          go_ret
          exact ⟨by first | rfl | (simp [errW_none, errW_some] <;> rfl) | (simp [*, errW_none, errW_some] <;> rfl), by repeat (first | (with_reducible first | exact HB.out | apply below_alloc | apply pw_below_drewN | apply below_drew1) | exact HB.out)⟩
        · rw [if_neg c6] at H
          have c6b0 : decide ((bt a0 0) < 97) = false := decide_eq_false c6
          clear c6
          by_cases c8 : (bt a0 0) > 122
          · rw [if_pos c8] at H
            have c8b0 : decide (122 < (bt a0 0)) = true := decide_eq_true c8
            clear c8
            obtain rfl := Option.some.inj H
            have p5 : 0 ≤ (0 : Int) := (by omega)
            have q5 : 0 < a0.size := (by have : (0 : Int) < (a0.size : Int) := of_decide_eq_true (by first | (with_reducible assumption) | assumption); omega)
            have hx5 : ∀ h : 0 < a0.size, ((a0[0]'h).toNat : Int) = bt a0 0 := bt_at a0 0
            clear p5
            have qi5 : (0 < (a0.size : Int)) = True := eq_true (of_decide_eq_true (by first | (with_reducible assumption) | assumption))
            replace q5 := eq_true q5
            have p7 : 0 ≤ (0 : Int) := (by omega)
            have q7 : 0 < a0.size := (by have : (0 : Int) < (a0.size : Int) := of_decide_eq_true (by first | (with_reducible assumption) | assumption); omega)
            have hx7 : ∀ h : 0 < a0.size, ((a0[0]'h).toNat : Int) = bt a0 0 := bt_at a0 0
            clear p7
            have qi7 : (0 < (a0.size : Int)) = True := eq_true (of_decide_eq_true (by first | (with_reducible assumption) | assumption))
            replace q7 := eq_true q7
            go_enter Tryd.func128, Tryd.ntmps128
            go_wp2
            go_ret
            exact ⟨by first | rfl | (simp [errW_none, errW_some] <;> rfl) | (simp [*, errW_none, errW_some] <;> rfl), by repeat (first | (with_reducible first | exact HB.out | apply below_alloc | apply pw_below_drewN | apply below_drew1) | exact HB.out)⟩
          · rw [if_neg c8] at H
            have c8b0 : decide (122 < (bt a0 0)) = false := decide_eq_false c8
            clear c8
            replace H := Option.bind_eq_some_iff.mp H
            obtain ⟨t241, A90, H⟩ := H
            replace H : (some (t241.toList == ([] : List UInt8))) = some r := H
            have A9 := Aside0.mk A90
            clear A90
            obtain rfl := Option.some.inj H
            have p5 : 0 ≤ (0 : Int) := (by omega)
            have q5 : 0 < a0.size := (by have : (0 : Int) < (a0.size : Int) := of_decide_eq_true (by first | (with_reducible assumption) | assumption); omega)
            have hx5 : ∀ h : 0 < a0.size, ((a0[0]'h).toNat : Int) = bt a0 0 := bt_at a0 0
            clear p5
            have qi5 : (0 < (a0.size : Int)) = True := eq_true (of_decide_eq_true (by first | (with_reducible assumption) | assumption))
            replace q5 := eq_true q5
            have p7 : 0 ≤ (0 : Int) := (by omega)
            have q7 : 0 < a0.size := (by have : (0 : Int) < (a0.size : Int) := of_decide_eq_true (by first | (with_reducible assumption) | assumption); omega)
            have hx7 : ∀ h : 0 < a0.size, ((a0[0]'h).toNat : Int) = bt a0 0 := bt_at a0 0
            clear p7
            have qi7 : (0 < (a0.size : Int)) = True := eq_true (of_decide_eq_true (by first | (with_reducible assumption) | assumption))
            replace q7 := eq_true q7
            go_enter Tryd.func128, Tryd.ntmps128
            go_wp2_with (first | ((with_reducible refine gate_callee (f := 139) rfl ?_); refine goesL_ (some 21) rfl rfl Tryd.func139 (by kernel_rfl) rfl #[.string a0, .string (⟨#[97, 98, 99, 100, 101, 102, 103, 104, 105, 106, 107, 108, 109, 110, 111, 112, 113, 114, 115, 116, 117, 118, 119, 120, 121, 122, 48, 49, 50, 51, 52, 53, 54, 55, 56, 57, 95]⟩ : ByteArray)] rfl (by (try simp only [List.map_toArray, List.map_cons, List.map_nil]); first | done | rfl | (simp only [List.length_drop, List.length_take]; rfl)) ?_; (with_reducible refine (strings_Trim.calls a0 (⟨#[97, 98, 99, 100, 101, 102, 103, 104, 105, 106, 107, 108, 109, 110, 111, 112, 113, 114, 115, 116, 117, 118, 119, 120, 121, 122, 48, 49, 50, 51, 52, 53, 54, 55, 56, 57, 95]⟩ : ByteArray) t241 _ A9.out).mono ?_); rintro e w10 ⟨rfl, hb⟩; refine ⟨_, rfl, ?_⟩; have n0_ := Aside0.mk (below_step (by repeat (first | (with_reducible first | exact HB.out | apply below_alloc | apply pw_below_drewN | apply below_drew1) | exact HB.out)) hb); clear HB; have HB := n0_; clear n0_; (try clear hb); (try clear hb2); (try clear hk); (try clear hi)))
            go_ret
            exact ⟨by first | rfl | (simp [errW_none, errW_some] <;> rfl) | (simp [*, errW_none, errW_some] <;> rfl), by repeat (first | (with_reducible first | exact HB.out | apply below_alloc | apply pw_below_drewN | apply below_drew1) | exact HB.out)⟩
      · rw [if_neg c4] at H
        exact absurd H (by simp)

/-! ### causal_within: function 129 -/
def causal_within.f (a0 : Int) (a1 : Int) (a2 : Int) : Option (Bool) := if a0 ≥ a1 then (some (decide (a0 ≤ a2))) else (some false)
set_option maxHeartbeats 8000000 in
set_option maxRecDepth 100000 in
theorem causal_within.calls (a0 : Int) (a1 : Int) (a2 : Int) (r : Bool) (w : World) (h : causal_within.f a0 a1 a2 = some r) :
    Calls Tryd.prog 129 #[.int .i64 a0, .int .i64 a1, .int .i64 a2] w fun e w' => e = .returned (.bool r) ∧ Drawn0 w w' := by
  have H : (if a0 ≥ a1 then (some (decide (a0 ≤ a2))) else (some false)) = some r := h
  clear h
  by_cases c4 : a0 ≥ a1
  · rw [if_pos c4] at H
    have c4b0 : decide (a1 ≤ a0) = true := decide_eq_true c4
    clear c4
    obtain rfl := Option.some.inj H
    go_enter Tryd.func129, Tryd.ntmps129
    go_wp2
    go_ret
    exact ⟨by first | rfl | (simp; done) | (simp [*]; done), by repeat (first | exact Drawn0.refl _ | apply Drawn0.step)⟩
  · rw [if_neg c4] at H
    have c4b0 : decide (a1 ≤ a0) = false := decide_eq_false c4
    clear c4
    obtain rfl := Option.some.inj H
    go_enter Tryd.func129, Tryd.ntmps129
    go_wp2
    go_ret
    exact ⟨by first | rfl | (simp; done) | (simp [*]; done), by repeat (first | exact Drawn0.refl _ | apply Drawn0.step)⟩

/-! ### causal_isCur: function 130 -/
def causal_isCur.f (a0 : ByteArray) : Option (Bool) := if (a0.size : Int) = 3 then ((strings_Trim.f a0 (⟨#[65, 66, 67, 68, 69, 70, 71, 72, 73, 74, 75, 76, 77, 78, 79, 80, 81, 82, 83, 84, 85, 86, 87, 88, 89, 90]⟩ : ByteArray)).bind fun t242 => (some (t242.toList == ([] : List UInt8)))) else (some false)
set_option maxHeartbeats 8000000 in
set_option maxRecDepth 100000 in
theorem causal_isCur.calls (a0 : ByteArray) (r : Bool) (w : World) (h : causal_isCur.f a0 = some r) :
    Calls Tryd.prog 130 #[.string a0] w fun e w' => e = .returned (.bool r) ∧ Below w.heap.size w w' := by
  have HB := Aside0.mk (Below.refl w.heap.size w)
  have H : (if (a0.size : Int) = 3 then ((strings_Trim.f a0 (⟨#[65, 66, 67, 68, 69, 70, 71, 72, 73, 74, 75, 76, 77, 78, 79, 80, 81, 82, 83, 84, 85, 86, 87, 88, 89, 90]⟩ : ByteArray)).bind fun t242 => (some (t242.toList == ([] : List UInt8)))) else (some false)) = some r := h
  clear h
  by_cases c2 : (a0.size : Int) = 3
  · rw [if_pos c2] at H
    have c2b0 : ((a0.size : Int) == 3) = true := beq_iff_eq.mpr c2
    have c2b1 : ((a0.size : Int) != 3) = false := bne_eq_false_iff_eq.mpr c2
    clear c2
    replace H := Option.bind_eq_some_iff.mp H
    obtain ⟨t242, A30, H⟩ := H
    replace H : (some (t242.toList == ([] : List UInt8))) = some r := H
    have A3 := Aside0.mk A30
    clear A30
    obtain rfl := Option.some.inj H
    go_enter Tryd.func130, Tryd.ntmps130
    go_wp2_with (first | (go_at_call 139; (with_reducible refine (strings_Trim.calls a0 (⟨#[65, 66, 67, 68, 69, 70, 71, 72, 73, 74, 75, 76, 77, 78, 79, 80, 81, 82, 83, 84, 85, 86, 87, 88, 89, 90]⟩ : ByteArray) t242 _ A3.out).mono ?_); rintro e w4 ⟨rfl, hb⟩; have n0_ := Aside0.mk (below_step (by repeat (first | (with_reducible first | exact HB.out | apply below_alloc | apply pw_below_drewN | apply below_drew1) | exact HB.out)) hb); clear HB; have HB := n0_; clear n0_; (try clear hb); (try clear hb2); (try clear hk); (try clear hi)))
    go_ret
    exact ⟨by first | rfl | (simp [errW_none, errW_some] <;> rfl) | (simp [*, errW_none, errW_some] <;> rfl), by repeat (first | (with_reducible first | exact HB.out | apply below_alloc | apply pw_below_drewN | apply below_drew1) | exact HB.out)⟩
  · rw [if_neg c2] at H
    have c2b0 : ((a0.size : Int) == 3) = false := beq_eq_false_iff_ne.mpr c2
    have c2b1 : ((a0.size : Int) != 3) = true := bne_iff_ne.mpr c2
    obtain rfl := Option.some.inj H
    go_enter Tryd.func130, Tryd.ntmps130
    go_wp2
    go_ret
    exact ⟨by first | rfl | (simp [errW_none, errW_some] <;> rfl) | (simp [*, errW_none, errW_some] <;> rfl), by repeat (first | (with_reducible first | exact HB.out | apply below_alloc | apply pw_below_drewN | apply below_drew1) | exact HB.out)⟩

end Go.Proofs.YtniajhmbdbgmgaaDoor.Q
