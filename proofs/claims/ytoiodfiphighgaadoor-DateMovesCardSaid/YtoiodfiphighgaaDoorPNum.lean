/- The numbers of layer 1 in plain Lean: sums, products and quotients of decimals of six places, rounded and within their limits. -/
namespace Go.Proofs.YtoiodfiphighgaaDoor.Num

def clamp (a : Int) : Int := if a < -1000000000000000 then -1000000000000000 else if 1000000000000000 < a then 1000000000000000 else a
/-- x y / d, rounded to the nearer, a half to the even one, at most 10^15. -/
def rnd (x y d : Nat) : Nat :=
  if x * y / d < 1000000000000000 then
    (if d < 2 * (x * y % d) ∨ (2 * (x * y % d) = d ∧ x * y / d % 2 = 1) then x * y / d + 1 else x * y / d)
  else 1000000000000000
def sgn (b : Bool) (n : Nat) : Int := if b then -(n : Int) else n
def below (a : Int) : Bool := decide (clamp a < 0)
def size (a : Int) : Nat := (clamp a).natAbs
def add (a b : Int) : Int := clamp (clamp a + clamp b)
def sub (a b : Int) : Int := clamp (clamp a - clamp b)
def neg (a : Int) : Int := -clamp a
def mul (a b : Int) : Int := sgn (!(below a == below b)) (rnd (size a) (size b) 1000000)
def div (a b : Int) : Int := if size b = 0 then 0 else sgn (!(below a == below b)) (rnd (size a) 1000000 (size b))
def whole (a : Int) : Int := (clamp a).tdiv 1000000

theorem clamp_le (a : Int) : -1000000000000000 ≤ clamp a ∧ clamp a ≤ 1000000000000000 := by unfold clamp; repeat' split <;> omega
theorem size_le (a : Int) : size a ≤ 1000000000000000 := by have := clamp_le a; unfold size; omega
theorem rnd_le (x y d : Nat) : rnd x y d ≤ 1000000000000000 := by
  unfold rnd; split
  · split <;> omega
  · omega
theorem sgn_le (b : Bool) (n : Nat) (h : n ≤ 1000000000000000) : -1000000000000000 ≤ sgn b n ∧ sgn b n ≤ 1000000000000000 := by
  cases b <;> simp [sgn] <;> omega
theorem mul_le (a b : Int) : -1000000000000000 ≤ mul a b ∧ mul a b ≤ 1000000000000000 := sgn_le _ _ (rnd_le _ _ _)
theorem div_le (a b : Int) : -1000000000000000 ≤ div a b ∧ div a b ≤ 1000000000000000 := by
  unfold div; split
  · omega
  · exact sgn_le _ _ (rnd_le _ _ _)
theorem clamp_self {a : Int} (h : -1000000000000000 ≤ a ∧ a ≤ 1000000000000000) : clamp a = a := by unfold clamp; repeat' split <;> omega
theorem clamp_clamp (a : Int) : clamp (clamp a) = clamp a := clamp_self (clamp_le a)
theorem clamp_mul (a b : Int) : clamp (mul a b) = mul a b := clamp_self (mul_le a b)
theorem clamp_div (a b : Int) : clamp (div a b) = div a b := clamp_self (div_le a b)
theorem neg_le (a : Int) : -1000000000000000 ≤ neg a ∧ neg a ≤ 1000000000000000 := by have := clamp_le a; unfold neg; omega
end Go.Proofs.YtoiodfiphighgaaDoor.Num
