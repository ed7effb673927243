/- math/bits.Div64 answers the quotient and the rest of hi * 2^64 + lo by y, wherever hi < y: the numbers laid into the walk. -/
import Derived.Test.YtoiodfiphighgaaDoorDiv
namespace Go.Proofs.YtoiodfiphighgaaDoor.XDiv
open Go Go.RowKit Go.Proofs

theorem wrapM (a : Nat) : IntKind.u64.wrap (a : Int) = ((a % 18446744073709551616 : Nat) : Int) := by rw [IntKind.wrap_u64]; omega
theorem mulw (a b : Nat) : IntKind.u64.wrap ((a : Int) * (b : Int)) = ((a * b % 18446744073709551616 : Nat) : Int) := by
  rw [← Int.natCast_mul]; exact wrapM _
theorem mulw32 (a : Nat) : IntKind.u64.wrap ((a : Int) * 4294967296) = ((a * 4294967296 % 18446744073709551616 : Nat) : Int) := mulw a 4294967296
theorem addw (a b : Nat) : IntKind.u64.wrap (((a % 18446744073709551616 : Nat) : Int) + (b : Int)) = (((a + b) % 18446744073709551616 : Nat) : Int) := by
  rw [IntKind.wrap_u64]; omega
theorem subw (n c r : Nat) (h : c + r = n) (hr : r < 18446744073709551616) :
    IntKind.u64.wrap (((n % 18446744073709551616 : Nat) : Int) - ((c % 18446744073709551616 : Nat) : Int)) = (r : Int) := by
  rw [IntKind.wrap_u64]; omega
theorem quow (a b : Nat) (h : a < 18446744073709551616) : IntKind.u64.wrap ((a : Int) / (b : Int)) = ((a / b : Nat) : Int) := by
  rw [← Int.natCast_ediv]; exact wrapN _ (Nat.lt_of_le_of_lt (Nat.div_le_self _ _) h)
theorem powc (a s : Nat) : (a : Int) * 2 ^ s = ((a * 2 ^ s : Nat) : Int) := by simp
theorem powd (a s : Nat) : (a : Int) / 2 ^ s = ((a / 2 ^ s : Nat) : Int) := by simp

theorem digit {U W1 Y : Nat} (hU : U < Y) (hW : W1 < 4294967296) :
    Digit U W1 (Y / 4294967296) (Y % 4294967296) (U / (Y / 4294967296)) (U % (Y / 4294967296)) ((U * 4294967296 + W1) / Y) where
  eq := Nat.div_add_mod' _ _
  down _ _ h hc := PDiv.down hU hW h hc
  up _ _ h hc := PDiv.up hU h hc
  up2 _ _ h hQ hR := PDiv.up2 hU h hQ hR

theorem div_pos (hi lo y : Nat) (hhi : 0 < hi) (hlt : hi < y) (hlo : lo < 18446744073709551616) (hy2 : y < 18446744073709551616) (w : World) :
    Calls Tryd.prog 42 #[.int .u64 hi, .int .u64 lo, .int .u64 y] w fun e w' =>
      e = .returned (.tuple #[.int .u64 (((hi * 18446744073709551616 + lo) / y : Nat) : Int), .int .u64 (((hi * 18446744073709551616 + lo) % y : Nat) : Int)]) ∧ ∃ n, w' = w.drewN n := by
  have hy0 : 0 < y := by omega
  obtain ⟨a0, a1, a2, a3⟩ := bitLen_pow y hy0 hy2
  obtain ⟨y1, y2, y3⟩ := scaled_div y hy0 hy2
  obtain ⟨s, hs⟩ : ∃ s, 64 - Lib.bitLen y = s := ⟨_, rfl⟩
  rw [hs] at y1 y2 y3
  have hk : 0 < 2 ^ s := Nat.pow_pos (by omega)
  have hkj : 2 ^ s * 2 ^ (64 - s) = 18446744073709551616 := by
    rw [← Nat.pow_add, Nat.add_sub_cancel' (by omega)]
  obtain ⟨hn, hU, hl⟩ := PDiv.upper (hi := hi) (lo := lo) (y := y) hk hkj hlo hlt
  obtain ⟨Y, eY⟩ : ∃ Y, Y = y * 2 ^ s := ⟨_, rfl⟩
  rw [← eY] at y1 y2 hU
  obtain ⟨U1, eU⟩ : ∃ U1, U1 = hi * 2 ^ s + lo / 2 ^ (64 - s) := ⟨_, rfl⟩
  rw [← eU] at hU hn
  have hUM : U1 < 18446744073709551616 := by omega
  obtain ⟨W, eW⟩ : ∃ W, W = lo * 2 ^ s % 18446744073709551616 := ⟨_, rfl⟩
  rw [← eW] at hn
  have hWM : W < 18446744073709551616 := by rw [eW]; exact Nat.mod_lt _ (by omega)
  have hW1 : W / 4294967296 < 4294967296 := by omega
  have hW0 : W % 4294967296 < 4294967296 := by omega
  have hY1 : 2147483648 ≤ Y / 4294967296 ∧ Y / 4294967296 < 4294967296 := by omega
  obtain ⟨p1, p2⟩ := PDiv.rest (U := U1) (u := W / 4294967296) (Y := Y) (by omega)
  have hq1 := PDiv.small hU hW1
  have hU0M := p1
  obtain ⟨q1, eq1⟩ : ∃ q1, q1 = (U1 * 4294967296 + W / 4294967296) / Y := ⟨_, rfl⟩
  obtain ⟨U0, eU0⟩ : ∃ U0, U0 = (U1 * 4294967296 + W / 4294967296) % Y := ⟨_, rfl⟩
  rw [← eq1, ← eU0] at p2
  rw [← eU0] at p1 hU0M
  obtain ⟨p3, p4⟩ := PDiv.rest (U := U0) (u := W % 4294967296) (Y := Y) (by omega)
  have hq0 := PDiv.small p1 hW0
  obtain ⟨q0, eq0⟩ : ∃ q0, q0 = (U0 * 4294967296 + W % 4294967296) / Y := ⟨_, rfl⟩
  obtain ⟨D2, eD2⟩ : ∃ D2, D2 = (U0 * 4294967296 + W % 4294967296) % Y := ⟨_, rfl⟩
  rw [← eq0, ← eD2] at p4
  rw [← eD2] at p3
  obtain ⟨z1, z2⟩ := PDiv.whole hk eY hn p2 p4 p3
  have hU0M2 : U0 < 18446744073709551616 := by omega
  have hor : (hi * 2 ^ s ||| lo / 2 ^ (64 - s)) = U1 := by
    rw [eU, Nat.mul_comm hi, ← Nat.two_pow_add_eq_or_of_lt hl]
  have hhk : hi * 2 ^ s < 18446744073709551616 := by
    have : hi * 2 ^ s ≤ U1 := by rw [eU]; exact Nat.le_add_right _ _
    omega
  have hlj : lo / 2 ^ (64 - s) < 18446744073709551616 := Nat.lt_of_le_of_lt (Nat.div_le_self _ _) hlo
  have d1 : U1 / (Y / 4294967296) * (Y / 4294967296) ≤ U1 := Nat.div_mul_le_self _ _
  have d2 : U0 / (Y / 4294967296) * (Y / 4294967296) ≤ U0 := Nat.div_mul_le_self _ _
  refine div_core hi lo y s Y (Y / 4294967296) (Y % 4294967296) U1 W (W / 4294967296) (W % 4294967296)
    (U1 / (Y / 4294967296)) (U1 / (Y / 4294967296) * (Y / 4294967296)) (U1 % (Y / 4294967296)) q1
    (U1 * 4294967296 % 18446744073709551616) ((U1 * 4294967296 + W / 4294967296) % 18446744073709551616) (q1 * Y % 18446744073709551616) U0
    (U0 / (Y / 4294967296)) (U0 / (Y / 4294967296) * (Y / 4294967296)) (U0 % (Y / 4294967296)) q0
    (U0 * 4294967296 % 18446744073709551616) ((U0 * 4294967296 + W % 4294967296) % 18446744073709551616) (q0 * Y % 18446744073709551616) D2
    hhi hlt a0 (Lib.hid hy2) (Lib.hid hs) y3 ?_ ?_ ?_ ?_ ?_ ?_ ?_ (quow _ _ hUM) ?_ ?_ (mulw32 _) (addw _ _) (mulw _ _) (subw _ _ _ p2 hU0M2)
    (quow _ _ hU0M2) ?_ ?_ (mulw32 _) (addw _ _) (mulw _ _) (subw _ _ _ p4 (by omega))
    (by omega) (by omega) (by omega) (by omega) (by omega) (by omega) (by omega)
    (eq1 ▸ digit hU hW1) ?_ ?_ ?_ (eq0 ▸ digit p1 hW0) ?_ ?_ ?_ _ _ (Lib.hid z1) (Lib.hid z2) w
  · rw [powc, ← eY]; exact wrapN _ y2
  · omega
  · exact Mul64.maskN Y y2
  · rw [powc, powd, wrapN _ hhk, bits_or_u64_nat _ _ hhk hlj, hor]
  · rw [powc, wrapM, eW]
  · omega
  · exact Mul64.maskN W hWM
  · rw [← Int.natCast_mul]; exact wrapN _ (by omega)
  · have := Nat.div_add_mod' U1 (Y / 4294967296)
    have e : ((U1 : Int) - ((U1 / (Y / 4294967296) * (Y / 4294967296) : Nat) : Int)) = ((U1 % (Y / 4294967296) : Nat) : Int) := by omega
    rw [e]; exact wrapN _ (by have := Nat.mod_lt U1 (show 0 < Y / 4294967296 by omega); omega)
  · rw [← Int.natCast_mul]; exact wrapN _ (by omega)
  · have := Nat.div_add_mod' U0 (Y / 4294967296)
    have e : ((U0 : Int) - ((U0 / (Y / 4294967296) * (Y / 4294967296) : Nat) : Int)) = ((U0 % (Y / 4294967296) : Nat) : Int) := by omega
    rw [e]; exact wrapN _ (by have := Nat.mod_lt U0 (show 0 < Y / 4294967296 by omega); omega)
  · have := Nat.mod_lt U1 (show 0 < Y / 4294967296 by omega); omega
  · have := PDiv.qhat_le y1 y2 hU; omega
  · rw [eq1]; exact PDiv.start y1 hW1
  · have := Nat.mod_lt U0 (show 0 < Y / 4294967296 by omega); omega
  · have := PDiv.qhat_le y1 y2 p1; omega
  · rw [eq0]; exact PDiv.start y1 hW0

/-- bits.Div64, wherever it does not panic. -/
theorem div64 (hi lo y : Nat) (hlt : hi < y) (hlo : lo < 18446744073709551616) (hy2 : y < 18446744073709551616) (w : World) :
    Calls Tryd.prog 42 #[.int .u64 hi, .int .u64 lo, .int .u64 y] w fun e w' =>
      e = .returned (.tuple #[.int .u64 (((hi * 18446744073709551616 + lo) / y : Nat) : Int), .int .u64 (((hi * 18446744073709551616 + lo) % y : Nat) : Int)]) ∧ ∃ n, w' = w.drewN n := by
  by_cases h : hi = 0
  · subst h
    have := div_zero lo y (by omega) hlo w
    simpa using this
  · exact div_pos hi lo y (by omega) hlt hlo hy2 w
end Go.Proofs.YtoiodfiphighgaaDoor.XDiv
