import Derived.Test.YtniajhmbdbgmgaaGreatDoorMOptLess2
import Derived.Shelf.Strings.SlTrimAscii
import Derived.Laws.Tables
import Derived.Great.Walk
import Derived.Deep.WholeRow
/- The seven rules of layer 16 over right terms: what comes of one is right, of the same type, and less. -/
namespace Go.Proofs.YtniajhmbdbgmgaaGreatDoor.Q

/-- What the fields of the terms that rules make must be. -/
structure FlOk (fl : Int → Int → ByteArray → Bool) : Prop where
  num : ∀ n, -1000000000000000 ≤ n → n ≤ 1000000000000000 → fl 1 n ⟨#[]⟩ = true
  bool : ∀ n, 0 ≤ n → n ≤ 1 → fl 2 n ⟨#[]⟩ = true
  date : ∀ n, 0 ≤ n → n ≤ 73048 → fl 3 n ⟨#[]⟩ = true
  zero : fl 23 0 ⟨#[]⟩ = true
  is_num : ∀ n s, fl 1 n s = true → -1000000000000000 ≤ n ∧ n ≤ 1000000000000000
  is_bool : ∀ n s, fl 2 n s = true → 0 ≤ n ∧ n ≤ 1
  is_date : ∀ n s, fl 3 n s = true → 0 ≤ n ∧ n ≤ 73048
  at_ : ∀ n m s t, fl 29 n s = true → fl 29 m t = true → fl 29 (if n < m then m else n) ⟨#[]⟩ = true
  when : ∀ n s, fl 30 n s = true → fl 30 n ⟨#[]⟩ = true

structure POk (P : Int → Int → Prop) : Prop where
  num : ∀ n, -1000000000000000 ≤ n → n ≤ 1000000000000000 → P 1 n
  bool : ∀ n, 0 ≤ n → n ≤ 1 → P 2 n
  date : ∀ n, 0 ≤ n → n ≤ 73048 → P 3 n
  zero : P 23 0

def mea (x : Core) : Nat := 2 * sizeT x + (match x.f3 with | [_, b] => if x.f0 = 30 ∧ b.f0 ≠ 23 then 1 else 0 | _ => 0)
theorem mea_le (x : Core) : 2 * sizeT x ≤ mea x ∧ mea x ≤ 2 * sizeT x + 1 := by
  unfold mea
  split
  · split <;> omega
  · omega

/-- What a rule owes: its result is right, of the same type, less, and made of the same parts. -/
structure Good (fl : Int → Int → ByteArray → Bool) (x y : Core) : Prop where
  ty : tyT fl y = tyT fl x
  lt : mea y < mea x
  size : sizeT y ≤ sizeT x
  depth : depthT y ≤ depthT x
  all : ∀ P, POk P → allT P x → allT P y
  kids : ∀ N : Core → Prop, (∀ z, N z → ∀ k ∈ z.f3, N k) → N ⟨23, 0, ⟨#[]⟩, []⟩ → (∀ k ∈ x.f3, N k) → ∀ k ∈ y.f3, N k

variable {fl : Int → Int → ByteArray → Bool}

/-- A kid. -/
theorem good_kid {x y : Core} (hy : y ∈ x.f3) (ht : tyT fl y = tyT fl x) : Good fl x y := by
  have h1 := sizeL_mem hy
  have h2 := depthL_mem hy
  have e1 := sizeT_eq x
  have e2 := depthT_eq x
  have m1 := mea_le x
  have m2 := mea_le y
  exact ⟨ht, by omega, by omega, by omega, fun P _ h => (allL_iff P x.f3).1 ((allT_eq P x).1 h).2 y hy, fun N hN _ h => hN y (h y hy)⟩
theorem good_grandkid {x y z : Core} (hz : z ∈ x.f3) (hy : y ∈ z.f3) (ht : tyT fl y = tyT fl x) : Good fl x y := by
  have h1 := sizeL_mem hy
  have h2 := depthL_mem hy
  have e1 := sizeT_eq z
  have e2 := depthT_eq z
  have h3 := sizeL_mem hz
  have h4 := depthL_mem hz
  have e3 := sizeT_eq x
  have e4 := depthT_eq x
  have m1 := mea_le x
  have m2 := mea_le y
  refine ⟨ht, by omega, by omega, by omega, fun P _ h => ?_, fun N hN _ h => hN y (hN z (h z hz) y hy)⟩
  exact (allL_iff P z.f3).1 ((allT_eq P z).1 ((allL_iff P x.f3).1 ((allT_eq P x).1 h).2 z hz)).2 y hy
/-- A constant, of a term that has a kid. -/
theorem good_leaf {x : Core} {op n : Int} {s : ByteArray} (hk : x.f3 ≠ []) (ht : tyT fl ⟨op, n, s, []⟩ = tyT fl x) (hP : ∀ P, POk P → P op n) : Good fl x ⟨op, n, s, []⟩ := by
  obtain ⟨a, l, e⟩ : ∃ a l, x.f3 = a :: l := by
    cases h : x.f3 with
    | nil => exact absurd h hk
    | cons a l => exact ⟨a, l, rfl⟩
  have e1 := sizeT_eq x
  have e2 := depthT_eq x
  rw [e, sizeL] at e1
  rw [e, depthL] at e2
  have := sizeT_pos a
  have m1 := mea_le x
  refine ⟨ht, ?_, ?_, ?_, fun P h _ => ?_, fun N _ _ _ k hk => ?_⟩
  · simp [mea, sizeT, sizeL]; omega
  · simp [sizeT, sizeL]; omega
  · simp [depthT, depthL]; omega
  · simp [allT, allL, hP P h]
  · cases hk

/-! ### the rules, over terms -/
def isNumT (x : Core) (n : Int) : Bool := x.f0 == 1 && x.f1 == n
def isBoolT (x : Core) (n : Int) : Bool := x.f0 == 2 && x.f1 == n
def constT (x : Core) : Bool := x.f0 == 1 || x.f0 == 2 || x.f0 == 3
def numC (n : Int) : Core := ⟨1, n, ⟨#[]⟩, []⟩
def boolC (b : Bool) : Core := ⟨2, if b then 1 else 0, ⟨#[]⟩, []⟩
def dayC (n : Int) : Core := ⟨3, n, ⟨#[]⟩, []⟩
def twiceC (x : Core) : Option (Core × Bool) :=
  if x.f0 = 6 ∨ x.f0 = 14 ∨ x.f0 = 25 then
    match x.f3 with
    | [] => none
    | a :: _ => if a.f0 = x.f0 then (match a.f3 with
      | [] => none
      | b :: _ => some (b, true)) else some (x, false)
  else some (x, false)
def idleWhich (op : Int) (a b : Core) : Bool × Bool :=
  if op = 7 then (isNumT b 0, isNumT a 0) else if op = 8 then (isNumT b 0, false) else if op = 9 then (isNumT b 1000000, isNumT a 1000000) else if op = 10 then (isNumT b 1000000, false)
  else if op = 15 then (isBoolT b 1, isBoolT a 1) else if op = 16 then (isBoolT b 0, isBoolT a 0) else if op = 27 then (b.f0 == 23, a.f0 == 23)
  else if op = 26 then (false, isNumT a 1000000 || (a.f0 == 1 && b.f0 == 23)) else (false, false)
def idleF (x : Core) : Option (Core × Bool) :=
  match x.f3 with
  | [a, b] => some (if (idleWhich x.f0 a b).2 = true then (b, true) else if (idleWhich x.f0 a b).1 = true then (a, true) else (x, false))
  | _ => some (x, false)
def settledC (x : Core) : Option (Core × Bool) :=
  match x.f3 with
  | [] => none
  | a :: _ => some (a, (x.f0 == 15 && isBoolT a 0) || (x.f0 == 16 && isBoolT a 1) || (x.f0 == 25 && a.f0 == 23))
def laterC (x : Core) : Option (Core × Bool) :=
  if x.f0 = 29 then
    match x.f3 with
    | [] => none
    | a :: _ => if a.f0 = 29 then some (⟨29, if x.f1 < a.f1 then a.f1 else x.f1, ⟨#[]⟩, a.f3⟩, true) else some (x, false)
  else some (x, false)
def chosenC (x : Core) : Option (Core × Bool) :=
  match x.f3 with
  | [] => none
  | a :: _ => if (x.f0 = 22 ∨ x.f0 = 28) ∧ a.f0 = 2 then (if a.f1 = 0 ∨ a.f1 = 1 then (x.f3[(2 - a.f1).toNat]?).map (fun y => (y, true)) else none) else some (x, false)
def neverC (x : Core) : Option (Core × Bool) :=
  if x.f0 = 30 then
    match x.f3 with
    | a :: b :: _ => if isBoolT a 0 = true ∧ b.f0 ≠ 23 then some (⟨30, x.f1, ⟨#[]⟩, [a, ⟨23, 0, ⟨#[]⟩, []⟩]⟩, true) else some (x, false)
    | _ => none
  else some (x, false)
variable (ym : Int → Ymd)
/-- What a fold of two constants comes to. -/
def foldV (op a b : Int) : Core :=
  if op = 7 then numC (Num.add a b) else if op = 8 then numC (Num.sub a b) else if op = 9 then numC (Num.mul a b) else if op = 10 then numC (Num.div a b)
  else if op = 11 ∨ op = 17 then boolC (decide (a < b)) else if op = 12 then boolC (decide (a ≤ b)) else if op = 13 then boolC (a == b)
  else if op = 18 then dayC (Date.plus a (Int.tdiv (Num.clamp b) 1000000)) else if op = 19 then dayC (Date.monthsOf (ym a).y (ym a).m (ym a).d (Int.tdiv (Num.clamp b) 1000000))
  else if op = 20 then numC (Date.years a b) else numC (Date.years30 (ym a).y (ym a).m (ym a).d (ym b).y (ym b).m (ym b).d)
/-- A constant of constants; none: an operation that wants another number of kids. -/
def foldC (x : Core) : Option (Core × Bool) :=
  if 6 ≤ x.f0 ∧ x.f0 ≤ 21 ∧ x.f0 ≠ 15 ∧ x.f0 ≠ 16 then
    if x.f0 = 6 ∨ x.f0 = 14 then
      match x.f3 with
      | [a] => some (if constT a = true then (if x.f0 = 6 then numC (Num.neg a.f1) else boolC (a.f1 == 0), true) else (x, false))
      | _ => none
    else
      match x.f3 with
      | [a, b] => some (if constT a = true ∧ constT b = true then (foldV ym x.f0 a.f1 b.f1, true) else (x, false))
      | _ => none
  else some (x, false)
variable {ym}
theorem ty_mk {op n : Int} {s : ByteArray} {l : List Core} (h : fl op n s = true) : tyT fl ⟨op, n, s, l⟩ = nodeT op (l.map (tyT fl)) := by rw [tyT_eq]; exact if_pos h
theorem numC_ty (ho : FlOk fl) {n : Int} (h0 : -1000000000000000 ≤ n) (h1 : n ≤ 1000000000000000) : tyT fl (numC n) = 110 := by
  exact ty_mk (ho.num n h0 h1)
theorem boolC_ty (ho : FlOk fl) (b : Bool) : tyT fl (boolC b) = 98 := by
  exact ty_mk (ho.bool _ (by split <;> omega) (by split <;> omega))
theorem dayC_ty (ho : FlOk fl) {n : Int} (h0 : 0 ≤ n) (h1 : n ≤ 73048) : tyT fl (dayC n) = 100 := by
  exact ty_mk (ho.date n h0 h1)
theorem months_le {y m d n : Int} (hd : 1 ≤ d) : 0 ≤ Date.monthsOf y m d n ∧ Date.monthsOf y m d n ≤ 73048 := by
  unfold Date.monthsOf
  split
  · omega
  · split
    · omega
    · exact (Date.valid_moved (by omega) (by omega) hd).range
theorem good_num (ho : FlOk fl) {x : Core} (hk : x.f3 ≠ []) (ht : tyT fl x = 110) {n : Int} (h : -1000000000000000 ≤ n ∧ n ≤ 1000000000000000) : Good fl x (numC n) :=
  good_leaf hk ((numC_ty ho h.1 h.2).trans ht.symm) (fun _ hP => hP.num n h.1 h.2)
theorem good_bool (ho : FlOk fl) {x : Core} (hk : x.f3 ≠ []) (ht : tyT fl x = 98) (b : Bool) : Good fl x (boolC b) :=
  good_leaf hk ((boolC_ty ho b).trans ht.symm) (fun _ hP => hP.bool _ (by split <;> omega) (by split <;> omega))
theorem good_day (ho : FlOk fl) {x : Core} (hk : x.f3 ≠ []) (ht : tyT fl x = 100) {n : Int} (h : 0 ≤ n ∧ n ≤ 73048) : Good fl x (dayC n) :=
  good_leaf hk ((dayC_ty ho h.1 h.2).trans ht.symm) (fun _ hP => hP.date n h.1 h.2)

/-- What a rule does with a right term that has kids: it answers, and where it fits what comes of it is good. -/
def Does (fl : Int → Int → ByteArray → Bool) (g : Core → Option (Core × Bool)) : Prop :=
  ∀ x, tyT fl x ≠ 0 → x.f3 ≠ [] → ∃ y ok, g x = some (y, ok) ∧ (ok = true → Good fl x y)
theorem does_no {g : Core → Option (Core × Bool)} {x : Core} (h : g x = some (x, false)) : ∃ y ok, g x = some (y, ok) ∧ (ok = true → Good fl x y) := ⟨x, false, h, fun h => by cases h⟩

theorem sig_at {x : Core} (h : tyT fl x ≠ 0) {op : Int} (ho : x.f0 = op) {ks : List Int} {own : Int} (h22 : op ≠ 22) (hs : sig op = some (ks, own)) : fl op x.f1 x.f2 = true ∧ x.f3.map (tyT fl) = ks ∧ tyT fl x = own := by
  subst ho
  obtain ⟨h1, h2⟩ := ty_sig h h22
  rw [hs] at h2
  simp only [Option.some.injEq, Prod.mk.injEq] at h2
  exact ⟨h1, h2.1.symm, h2.2.symm⟩

theorem twice_does : Does fl twiceC := by
  intro x h hk
  by_cases h1 : x.f0 = 6 ∨ x.f0 = 14 ∨ x.f0 = 25
  · obtain ⟨t, hs, ht⟩ : ∃ t, sig x.f0 = some ([t], t) ∧ t ≠ 0 := by rcases h1 with h1 | h1 | h1 <;> rw [h1] <;> exact ⟨_, rfl, by decide⟩
    obtain ⟨hf, hm, hx⟩ := sig_at h rfl (by omega) hs
    obtain ⟨a, hl, ha⟩ := map_one hm
    by_cases h2 : a.f0 = x.f0
    · rw [← h2] at hs
      obtain ⟨_, hm2, _⟩ := sig_at (fl := fl) (x := a) (by omega) rfl (by omega) hs
      obtain ⟨b, hl2, hb⟩ := map_one hm2
      refine ⟨b, true, ?_, fun _ => good_grandkid (z := a) (by simp [hl]) (by simp [hl2]) (by omega)⟩
      unfold twiceC
      rw [if_pos h1, hl]
      simp only
      rw [if_pos h2, hl2]
    · refine does_no ?_
      unfold twiceC
      rw [if_pos h1, hl]
      simp only
      rw [if_neg h2]
  · exact does_no (by unfold twiceC; rw [if_neg h1])
theorem settled_does : Does fl settledC := by
  intro x h hk
  cases hl : x.f3 with
  | nil => exact absurd hl hk
  | cons a l =>
    have e : settledC x = some (a, (x.f0 == 15 && isBoolT a 0) || (x.f0 == 16 && isBoolT a 1) || (x.f0 == 25 && a.f0 == 23)) := by unfold settledC; rw [hl]
    refine ⟨_, _, e, fun hok => good_kid (by simp [hl]) ?_⟩
    simp only [Bool.or_eq_true, Bool.and_eq_true, beq_iff_eq] at hok
    have h3 : x.f0 = 15 ∨ x.f0 = 16 ∨ x.f0 = 25 := by omega
    obtain ⟨t, r, hs⟩ : ∃ t r, sig x.f0 = some (t :: r, t) := by rcases h3 with h3 | h3 | h3 <;> rw [h3] <;> exact ⟨_, _, rfl⟩
    obtain ⟨_, hm, hx⟩ := sig_at h rfl (by omega) hs
    rw [hl, List.map_cons, List.cons.injEq] at hm
    omega
theorem idle_does : Does fl idleF := by
  intro x h hk
  unfold idleF
  split
  case h_2 => exact ⟨_, _, rfl, fun h => by cases h⟩
  case h_1 a b hl =>
    by_cases h2 : (idleWhich x.f0 a b).2 = true
    · rw [if_pos h2]
      refine ⟨_, _, rfl, fun _ => good_kid (by simp [hl]) ?_⟩
      have h3 : x.f0 = 7 ∨ x.f0 = 9 ∨ x.f0 = 15 ∨ x.f0 = 16 ∨ x.f0 = 27 ∨ x.f0 = 26 := by
        refine Classical.byContradiction fun hn => ?_
        unfold idleWhich at h2
        rw [if_neg (by omega)] at h2
        by_cases e8 : x.f0 = 8
        · rw [if_pos e8] at h2; exact absurd h2 (by simp)
        · rw [if_neg e8, if_neg (by omega)] at h2
          by_cases e10 : x.f0 = 10
          · rw [if_pos e10] at h2; exact absurd h2 (by simp)
          · rw [if_neg e10] at h2
            repeat rw [if_neg (by omega)] at h2
            exact absurd h2 (by simp)
      obtain ⟨t, u, hs⟩ : ∃ t u, sig x.f0 = some ([t, u], u) := by rcases h3 with h3 | h3 | h3 | h3 | h3 | h3 <;> rw [h3] <;> exact ⟨_, _, rfl⟩
      obtain ⟨_, hm, hx⟩ := sig_at h rfl (by omega) hs
      simp only [hl, List.map_cons, List.map_nil, List.cons.injEq, and_true] at hm
      omega
    · rw [if_neg h2]
      by_cases h1 : (idleWhich x.f0 a b).1 = true
      · rw [if_pos h1]
        refine ⟨_, _, rfl, fun _ => good_kid (by simp [hl]) ?_⟩
        have h3 : x.f0 = 7 ∨ x.f0 = 8 ∨ x.f0 = 9 ∨ x.f0 = 10 ∨ x.f0 = 15 ∨ x.f0 = 16 ∨ x.f0 = 27 := by
          refine Classical.byContradiction fun hn => ?_
          unfold idleWhich at h1
          repeat rw [if_neg (by omega)] at h1
          split at h1 <;> exact absurd h1 (by simp)
        obtain ⟨t, u, hs⟩ : ∃ t u, sig x.f0 = some ([t, u], t) := by rcases h3 with h3 | h3 | h3 | h3 | h3 | h3 | h3 <;> rw [h3] <;> exact ⟨_, _, rfl⟩
        obtain ⟨_, hm, hx⟩ := sig_at h rfl (by omega) hs
        simp only [hl, List.map_cons, List.map_nil, List.cons.injEq, and_true] at hm
        omega
      · rw [if_neg h1]
        exact ⟨_, _, rfl, fun h => by cases h⟩
theorem later_does (ho : FlOk fl) (hmax : ∀ P, POk P → ∀ n m, P 29 n → P 29 m → P 29 (if n < m then m else n)) : Does fl laterC := by
  intro x h hk
  by_cases h1 : x.f0 = 29
  · obtain ⟨hf, hm, hx⟩ := sig_at h h1 (by omega) (ks := [99]) (own := 99) rfl
    obtain ⟨a, hl, ha⟩ := map_one hm
    by_cases h2 : a.f0 = 29
    · obtain ⟨hf2, hm2, _⟩ := sig_at (fl := fl) (x := a) (by omega) h2 (by omega) (ks := [99]) (own := 99) rfl
      have e : laterC x = some (⟨29, if x.f1 < a.f1 then a.f1 else x.f1, ⟨#[]⟩, a.f3⟩, true) := by
        unfold laterC
        rw [if_pos h1, hl]
        simp only
        rw [if_pos h2]
      refine ⟨_, _, e, fun _ => ?_⟩
      have s1 := sizeT_eq x
      have s2 := sizeT_eq a
      have s3 : sizeT ⟨29, if x.f1 < a.f1 then a.f1 else x.f1, ⟨#[]⟩, a.f3⟩ = 1 + sizeL a.f3 := by rw [sizeT_eq]
      have d1 := depthT_eq x
      have d2 := depthT_eq a
      have d3 : depthT ⟨29, if x.f1 < a.f1 then a.f1 else x.f1, ⟨#[]⟩, a.f3⟩ = 1 + depthL a.f3 := by rw [depthT_eq]
      rw [hl] at s1 d1
      simp only [sizeL, depthL] at s1 d1
      have m1 := mea_le x
      have m2 : mea ⟨29, if x.f1 < a.f1 then a.f1 else x.f1, ⟨#[]⟩, a.f3⟩ ≤ 2 * sizeT ⟨29, if x.f1 < a.f1 then a.f1 else x.f1, ⟨#[]⟩, a.f3⟩ + 1 := (mea_le _).2
      refine ⟨?_, by omega, by omega, by omega, fun P hP hall => ?_, fun N hN _ hn k hk => hN a (hn a (by simp [hl])) k hk⟩
      · rw [hx, ty_mk (ho.at_ _ _ _ _ hf hf2), hm2]
        rfl
      · rw [allT_eq] at hall ⊢
        rw [h1, allL_iff] at hall
        have ha3 := (allT_eq P a).1 (hall.2 a (by simp [hl]))
        rw [h2] at ha3
        exact ⟨hmax P hP _ _ hall.1 ha3.1, ha3.2⟩
    · refine does_no ?_
      unfold laterC
      rw [if_pos h1, hl]
      simp only
      rw [if_neg h2]
  · exact does_no (by unfold laterC; rw [if_neg h1])
theorem leaf_n (ho : FlOk fl) {a : Core} (h : tyT fl a = 98) (h2 : a.f0 = 2) : a.f1 = 0 ∨ a.f1 = 1 := by
  obtain ⟨hf, _⟩ := sig_at (fl := fl) (x := a) (by omega) h2 (by omega) (ks := []) (own := 98) rfl
  have := ho.is_bool _ _ hf
  omega
theorem chosen_does (ho : FlOk fl) : Does fl chosenC := by
  intro x h hk
  by_cases h1 : x.f0 = 22 ∨ x.f0 = 28
  · obtain ⟨a, b, c, hl, ha, hb, hc⟩ : ∃ a b c, x.f3 = [a, b, c] ∧ tyT fl a = 98 ∧ tyT fl b = tyT fl x ∧ tyT fl c = tyT fl x := by
      rcases h1 with h1 | h1
      · obtain ⟨_, a, b, c, hl, ha, hb, hc, _⟩ := ty_if h h1
        exact ⟨a, b, c, hl, ha, hb, hc⟩
      · obtain ⟨hf, hm, hx⟩ := sig_at h h1 (by omega) (ks := [98, 99, 99]) (own := 99) rfl
        obtain ⟨a, b, c, hl, ha, hb, hc⟩ := map_three hm
        exact ⟨a, b, c, hl, ha, by omega, by omega⟩
    by_cases h2 : a.f0 = 2
    · rcases leaf_n ho ha h2 with h3 | h3
      · refine ⟨c, true, ?_, fun _ => good_kid (by simp [hl]) hc⟩
        unfold chosenC
        rw [hl]
        simp only
        rw [if_pos ⟨h1, h2⟩, h3]
        rfl
      · refine ⟨b, true, ?_, fun _ => good_kid (by simp [hl]) hb⟩
        unfold chosenC
        rw [hl]
        simp only
        rw [if_pos ⟨h1, h2⟩, h3]
        rfl
    · refine does_no ?_
      unfold chosenC
      rw [hl]
      simp only
      rw [if_neg (fun hn => h2 hn.2)]
  · cases hl : x.f3 with
    | nil => exact absurd hl hk
    | cons a l =>
      refine does_no ?_
      unfold chosenC
      rw [hl]
      simp only
      rw [if_neg (fun hn => h1 hn.1)]
theorem never_does (ho : FlOk fl) : Does fl neverC := by
  intro x h hk
  by_cases h1 : x.f0 = 30
  · obtain ⟨hf, hm, hx⟩ := sig_at h h1 (by omega) (ks := [98, 99]) (own := 99) rfl
    obtain ⟨a, b, hl, ha, hb⟩ := map_two hm
    by_cases h2 : isBoolT a 0 = true ∧ b.f0 ≠ 23
    · have e : neverC x = some (⟨30, x.f1, ⟨#[]⟩, [a, ⟨23, 0, ⟨#[]⟩, []⟩]⟩, true) := by
        unfold neverC
        rw [if_pos h1, hl]
        simp only
        rw [if_pos h2]
      refine ⟨_, _, e, fun _ => ?_⟩
      have s1 := sizeT_eq x
      have d1 := depthT_eq x
      rw [hl] at s1 d1
      simp only [sizeL, depthL] at s1 d1
      have sb := sizeT_pos b
      have db := depthT_eq b
      have m1 : mea x = 2 * sizeT x + 1 := by unfold mea; rw [hl]; simp only; rw [if_pos ⟨h1, h2.2⟩]
      have m2 : mea ⟨30, x.f1, ⟨#[]⟩, [a, ⟨23, 0, ⟨#[]⟩, []⟩]⟩ = 2 * (2 + sizeT a) := by simp [mea, sizeT, sizeL]; omega
      have m3 : sizeT ⟨30, x.f1, ⟨#[]⟩, [a, ⟨23, 0, ⟨#[]⟩, []⟩]⟩ = 2 + sizeT a := by simp [sizeT, sizeL]; omega
      have m4 : depthT ⟨30, x.f1, ⟨#[]⟩, [a, ⟨23, 0, ⟨#[]⟩, []⟩]⟩ = 1 + max (depthT a) 1 := by simp [depthT, depthL]
      refine ⟨?_, by omega, by omega, by omega, fun P hP hall => ?_, fun N hN hz hn k hk => ?_⟩
      · have hz : tyT fl ⟨23, 0, ⟨#[]⟩, []⟩ = 99 := ty_mk ho.zero
        rw [hx, ty_mk (ho.when _ _ hf)]
        simp only [List.map_cons, List.map_nil, ha, hz]
        rfl
      · rw [allT_eq] at hall ⊢
        rw [h1, hl] at hall
        simp only [allL] at hall ⊢
        refine ⟨hall.1, hall.2.1, ?_, trivial⟩
        rw [allT_eq]
        exact ⟨hP.zero, trivial⟩
      · rcases List.mem_cons.1 hk with rfl | hk
        · exact hn _ (by simp [hl])
        · rcases List.mem_cons.1 hk with rfl | hk
          · exact hz
          · cases hk
    · refine does_no ?_
      unfold neverC
      rw [if_pos h1, hl]
      simp only
      rw [if_neg h2]
  · exact does_no (by unfold neverC; rw [if_neg h1])
theorem fold_does (ho : FlOk fl) (hym : ∀ a, 1 ≤ (ym a).d) : Does fl (foldC ym) := by
  intro x h hk
  by_cases h1 : 6 ≤ x.f0 ∧ x.f0 ≤ 21 ∧ x.f0 ≠ 15 ∧ x.f0 ≠ 16
  · by_cases h2 : x.f0 = 6 ∨ x.f0 = 14
    · obtain ⟨t, hs, ht⟩ : ∃ t, sig x.f0 = some ([t], t) ∧ t ≠ 0 := by rcases h2 with h2 | h2 <;> rw [h2] <;> exact ⟨_, rfl, by decide⟩
      obtain ⟨hf, hm, hx⟩ := sig_at h rfl (by omega) hs
      obtain ⟨a, hl, ha⟩ := map_one hm
      have e : foldC ym x = some (if constT a = true then (if x.f0 = 6 then numC (Num.neg a.f1) else boolC (a.f1 == 0), true) else (x, false)) := by
        unfold foldC
        rw [if_pos h1, if_pos h2, hl]
      by_cases hc : constT a = true
      · rw [if_pos hc] at e
        refine ⟨_, _, e, fun _ => ?_⟩
        rcases h2 with h2 | h2
        · rw [if_pos h2]
          refine good_num ho hk ?_ (Num.neg_le _)
          have := sig_at h h2 (by omega) (ks := [110]) (own := 110) rfl
          omega
        · rw [if_neg (by omega)]
          refine good_bool ho hk ?_ _
          have := sig_at h h2 (by omega) (ks := [98]) (own := 98) rfl
          omega
      · rw [if_neg hc] at e
        exact does_no e
    · obtain ⟨t, u, v, hs⟩ : ∃ t u v, sig x.f0 = some ([t, u], v) := by
        have : x.f0 = 7 ∨ x.f0 = 8 ∨ x.f0 = 9 ∨ x.f0 = 10 ∨ x.f0 = 11 ∨ x.f0 = 12 ∨ x.f0 = 13 ∨ x.f0 = 17 ∨ x.f0 = 18 ∨ x.f0 = 19 ∨ x.f0 = 20 ∨ x.f0 = 21 := by omega
        rcases this with h3 | h3 | h3 | h3 | h3 | h3 | h3 | h3 | h3 | h3 | h3 | h3 <;> rw [h3] <;> exact ⟨_, _, _, rfl⟩
      obtain ⟨hf, hm, hx⟩ := sig_at h rfl (by omega) hs
      obtain ⟨a, b, hl, ha, hb⟩ := map_two hm
      have e : foldC ym x = some (if constT a = true ∧ constT b = true then (foldV ym x.f0 a.f1 b.f1, true) else (x, false)) := by
        unfold foldC
        rw [if_pos h1, if_neg h2, hl]
      by_cases hc : constT a = true ∧ constT b = true
      · rw [if_pos hc] at e
        refine ⟨_, _, e, fun _ => ?_⟩
        have tn : ∀ {op : Int} {ks : List Int} {own : Int}, x.f0 = op → op ≠ 22 → sig op = some (ks, own) → tyT fl x = own := fun h3 h4 h5 => (sig_at h h3 h4 h5).2.2
        unfold foldV
        repeat' split
        · exact good_num ho hk (tn ‹_› (by decide) rfl) (Num.clamp_le _)
        · exact good_num ho hk (tn ‹_› (by decide) rfl) (Num.clamp_le _)
        · exact good_num ho hk (tn ‹_› (by decide) rfl) (Num.mul_le _ _)
        · exact good_num ho hk (tn ‹_› (by decide) rfl) (Num.div_le _ _)
        · rename_i h3
          rcases h3 with h3 | h3
          · exact good_bool ho hk (tn h3 (by decide) rfl) _
          · exact good_bool ho hk (tn h3 (by decide) rfl) _
        · exact good_bool ho hk (tn ‹_› (by decide) rfl) _
        · exact good_bool ho hk (tn ‹_› (by decide) rfl) _
        · exact good_day ho hk (tn ‹_› (by decide) rfl) (Date.clamp_le _)
        · exact good_day ho hk (tn ‹_› (by decide) rfl) (months_le (hym _))
        · exact good_num ho hk (tn ‹_› (by decide) rfl) (Num.div_le _ _)
        · exact good_num ho hk (tn (op := 21) (by omega) (by decide) rfl) (Num.div_le _ _)
      · rw [if_neg hc] at e
        exact does_no e
  · exact does_no (by unfold foldC; rw [if_neg h1])
end Go.Proofs.YtniajhmbdbgmgaaGreatDoor.Q

/- Layer 16 over right terms: what rewriting comes to is right, of the same type, no greater, and nothing is left to do at any of its terms. -/
namespace Go.Proofs.YtniajhmbdbgmgaaGreatDoor.Q
abbrev Rule := Core → Option (Core × Bool)
section
variable (band : Int → Int → Int)
def firstF (passes : Int) (x : Core) : List (Int × Rule) → Option (Core × Bool)
  | [] => some (⟨0, 0, ⟨#[]⟩, []⟩, false)
  | (p, g) :: r => if band passes p = 0 then firstF passes x r else (g x).bind fun y => if y.2 = true then some y else firstF passes x r
variable (rules : List (Int × Rule))
def loopF (passes : Int) : Nat → Core → Option Core
  | 0, _ => none
  | k + 1, x => if x.f3 = [] then some x else (firstF band passes x rules).bind fun y => if y.2 = true then loopF passes k y.1 else some x
def rewriteF (passes : Int) : Nat → Core → Option Core
  | 0, _ => none
  | k + 1, x => if x.f3.length ≤ 1000 then (x.f3.mapM (rewriteF passes k)).bind fun l => loopF band rules passes k ⟨x.f0, x.f1, x.f2, l⟩ else none
/-- Nothing is to do at a term. -/
def Still (passes : Int) (x : Core) : Prop := x.f3 = [] ∨ ∃ z, firstF band passes x rules = some (z, false)
mutual
/-- Nothing is to do at any term of a term. -/
def normT (passes : Int) : Core → Prop
  | ⟨a, b, c, l⟩ => Still band rules passes ⟨a, b, c, l⟩ ∧ normL passes l
def normL (passes : Int) : List Core → Prop
  | [] => True
  | x :: l => normT passes x ∧ normL passes l
end
end
variable {band : Int → Int → Int} {rules : List (Int × Rule)} {fl : Int → Int → ByteArray → Bool} {passes : Int}
theorem normL_iff (l : List Core) : normL band rules passes l ↔ ∀ x ∈ l, normT band rules passes x := by
  induction l with
  | nil => simp [normL]
  | cons x l ih => simp [normL, ih]
theorem normT_eq (x : Core) : normT band rules passes x ↔ Still band rules passes x ∧ ∀ k ∈ x.f3, normT band rules passes k := by
  rw [← normL_iff]
  cases x
  simp [normT]
/-- The first rule that fits. -/
theorem first_does (L : List (Int × Rule)) (hL : ∀ r ∈ L, Does fl r.2) {x : Core} (h : tyT fl x ≠ 0) (hk : x.f3 ≠ []) : ∃ y ok, firstF band passes x L = some (y, ok) ∧ (ok = true → Good fl x y) := by
  induction L with
  | nil => exact ⟨_, _, rfl, fun h => by cases h⟩
  | cons r L ih =>
    obtain ⟨p, g⟩ := r
    have ih := ih (fun r hr => hL r (List.mem_cons_of_mem _ hr))
    unfold firstF
    by_cases hb : band passes p = 0
    · rw [if_pos hb]
      exact ih
    · rw [if_neg hb]
      obtain ⟨y, ok, he, hg⟩ := hL _ (List.mem_cons_self ..) x h hk
      simp only at he
      rw [he, Option.bind_some]
      by_cases ho : ok = true
      · rw [if_pos ho]
        exact ⟨y, ok, rfl, hg⟩
      · rw [if_neg ho]
        exact ih
/-- What rewriting owes. -/
structure Came (band : Int → Int → Int) (rules : List (Int × Rule)) (fl : Int → Int → ByteArray → Bool) (passes : Int) (x y : Core) : Prop where
  ty : tyT fl y = tyT fl x
  size : sizeT y ≤ sizeT x
  depth : depthT y ≤ depthT x
  all : ∀ P, POk P → allT P x → allT P y
  norm : normT band rules passes y
theorem loop_comes (hL : ∀ r ∈ rules, Does fl r.2) : ∀ n x, mea x ≤ n → tyT fl x ≠ 0 → (∀ k ∈ x.f3, normT band rules passes k) → ∃ y, Came band rules fl passes x y ∧ ∃ K, ∀ k, K ≤ k → loopF band rules passes k x = some y := by
  intro n
  induction n with
  | zero =>
    intro x hn
    have := mea_le x
    have := sizeT_pos x
    omega
  | succ n ih =>
    intro x hn ht hk
    by_cases hl : x.f3 = []
    · refine ⟨x, ⟨rfl, Nat.le_refl _, Nat.le_refl _, fun _ _ h => h, (normT_eq x).2 ⟨.inl hl, hk⟩⟩, 1, fun k h1 => ?_⟩
      obtain ⟨k, rfl⟩ : ∃ j, k = j + 1 := ⟨k - 1, by omega⟩
      rw [loopF, if_pos hl]
    · obtain ⟨y, ok, he, hg⟩ := first_does (band := band) (passes := passes) rules hL ht hl
      by_cases ho : ok = true
      · subst ho
        have hg := hg rfl
        have hz : normT band rules passes ⟨23, 0, ⟨#[]⟩, []⟩ := (normT_eq _).2 ⟨.inl rfl, fun k hk => by cases hk⟩
        obtain ⟨z, hc, K, hK⟩ := ih y (by have := hg.lt; omega) (by rw [hg.ty]; exact ht) (hg.kids (normT band rules passes) (fun z hz => ((normT_eq z).1 hz).2) hz hk)
        refine ⟨z, ⟨hc.ty.trans hg.ty, Nat.le_trans hc.size hg.size, Nat.le_trans hc.depth hg.depth, fun P hP h => hc.all P hP (hg.all P hP h), hc.norm⟩, K + 1, fun k h1 => ?_⟩
        obtain ⟨k, rfl⟩ : ∃ j, k = j + 1 := ⟨k - 1, by omega⟩
        rw [loopF, if_neg hl, he, Option.bind_some, if_pos rfl]
        exact hK k (by omega)
      · have ho : ok = false := by simpa using ho
        subst ho
        refine ⟨x, ⟨rfl, Nat.le_refl _, Nat.le_refl _, fun _ _ h => h, (normT_eq x).2 ⟨.inr ⟨y, he⟩, hk⟩⟩, 1, fun k h1 => ?_⟩
        obtain ⟨k, rfl⟩ : ∃ j, k = j + 1 := ⟨k - 1, by omega⟩
        rw [loopF, if_neg hl, he, Option.bind_some, if_neg (by simp)]
inductive Each2 (R : Core → Core → Prop) : List Core → List Core → Prop
  | nil : Each2 R [] []
  | cons {x y : Core} {l m : List Core} : R x y → Each2 R l m → Each2 R (x :: l) (y :: m)
theorem core_eta (x : Core) : (⟨x.f0, x.f1, x.f2, x.f3⟩ : Core) = x := by cases x; rfl
theorem mapM_all {f : Nat → Core → Option Core} {R : Core → Core → Prop} (l : List Core) (h : ∀ x ∈ l, ∃ y, R x y ∧ ∃ K, ∀ k, K ≤ k → f k x = some y) :
    ∃ m : List Core, Each2 R l m ∧ ∃ K, ∀ k, K ≤ k → l.mapM (f k) = some m := by
  induction l with
  | nil => exact ⟨[], .nil, 0, fun k _ => by simp⟩
  | cons x l ih =>
    obtain ⟨y, hR, K1, h1⟩ := h x (List.mem_cons_self ..)
    obtain ⟨m, hm, K2, h2⟩ := ih (fun z hz => h z (List.mem_cons_of_mem _ hz))
    refine ⟨y :: m, .cons hR hm, K1 + K2, fun k hk => ?_⟩
    rw [List.mapM_cons, h1 k (by omega), h2 k (by omega)]
    rfl
theorem came_kids {l m : List Core} (h : Each2 (Came band rules fl passes) l m) : l.map (tyT fl) = m.map (tyT fl) ∧ sizeL m ≤ sizeL l ∧ depthL m ≤ depthL l ∧ (∀ P, POk P → allL P l → allL P m) ∧ ∀ k ∈ m, normT band rules passes k := by
  induction h with
  | nil => exact ⟨rfl, Nat.le_refl _, Nat.le_refl _, fun _ _ h => h, fun k hk => by cases hk⟩
  | cons hR _ ih =>
    obtain ⟨h1, h2, h3, h4, h5⟩ := ih
    have := hR.size
    have := hR.depth
    refine ⟨by simp [h1, hR.ty], by simp only [sizeL]; omega, by simp only [depthL]; omega, fun P hP h => ⟨hR.all P hP h.1, h4 P hP h.2⟩, fun k hk => ?_⟩
    rcases List.mem_cons.1 hk with rfl | hk
    · exact hR.norm
    · exact h5 k hk
/-- Rewriting a right term ends. -/
theorem rewrite_comes (hL : ∀ r ∈ rules, Does fl r.2) (x : Core) : tyT fl x ≠ 0 → ∃ y, Came band rules fl passes x y ∧ ∃ K, ∀ k, K ≤ k → rewriteF band rules passes k x = some y := by
  refine ind_core (P := fun x => tyT fl x ≠ 0 → ∃ y, Came band rules fl passes x y ∧ ∃ K, ∀ k, K ≤ k → rewriteF band rules passes k x = some y) (fun x ih ht => ?_) x
  obtain ⟨m, hm, K1, h1⟩ := mapM_all (R := Came band rules fl passes) (f := rewriteF band rules passes) x.f3 (fun k hk => ih k hk (ty_kids ht k hk))
  obtain ⟨c1, c2, c3, c4, c5⟩ := came_kids hm
  have e : tyT fl ⟨x.f0, x.f1, x.f2, m⟩ = tyT fl x := by rw [← ty_congr c1, core_eta]
  obtain ⟨y, hc, K2, h2⟩ := loop_comes (band := band) (passes := passes) hL _ ⟨x.f0, x.f1, x.f2, m⟩ (Nat.le_refl _) (by rw [e]; exact ht) c5
  have s1 := sizeT_eq x
  have s2 := sizeT_eq ⟨x.f0, x.f1, x.f2, m⟩
  have d1 := depthT_eq x
  have d2 := depthT_eq ⟨x.f0, x.f1, x.f2, m⟩
  have := hc.size
  have := hc.depth
  refine ⟨y, ⟨hc.ty.trans e, by simp only at s2; omega, by simp only at d2; omega, fun P hP h => hc.all P hP ?_, hc.norm⟩, K1 + K2 + 1, fun k hk => ?_⟩
  · rw [allT_eq] at h ⊢
    exact ⟨h.1, c4 P hP h.2⟩
  · obtain ⟨k, rfl⟩ : ∃ j, k = j + 1 := ⟨k - 1, by omega⟩
    rw [rewriteF, if_pos (by have := ty_len ht; omega), h1 k (by omega), Option.bind_some]
    exact h2 k (by omega)
/-! ### all passes over a contract that hangs on nothing -/
def ruleC (ym : Int → Ymd) : List (Int × Rule) := [(1, foldC ym), (2, twiceC), (2, idleF), (2, settledC), (2, laterC), (4, chosenC), (4, neverC)]
theorem rules_do {ym : Int → Ymd} (ho : FlOk fl) (hym : ∀ a, 1 ≤ (ym a).d) (hmax : ∀ P, POk P → ∀ n m, P 29 n → P 29 m → P 29 (if n < m then m else n)) : ∀ r ∈ ruleC ym, Does fl r.2 := by
  intro r hr
  simp only [ruleC, List.mem_cons, List.not_mem_nil, or_false] at hr
  rcases hr with rfl | rfl | rfl | rfl | rfl | rfl | rfl
  · exact fold_does ho hym
  · exact twice_does
  · exact idle_does
  · exact settled_does
  · exact later_does ho hmax
  · exact chosen_does ho
  · exact never_does ho
end Go.Proofs.YtniajhmbdbgmgaaGreatDoor.Q

/- causal.small tells whether a term has at most 2000 terms, none deeper than 200. -/
namespace Go.Proofs.YtniajhmbdbgmgaaGreatDoor.Q
open Go Go.RowKit Go.Proofs Go.Proofs.YtniajhmbdbgmgaaGreatDoor Go.Shelf Go.Proofs.YtniajhmbdbgmgaaGreatDoorW.PrintWords Go.Proofs.YtniajhmbdbgmgaaGreatDoorW.PrintLast Go.Proofs.YtniajhmbdbgmgaaGreatDoorW.PrintMore
attribute [local go_sem] Oper.semAt_some

theorem boxed_frozen {W : World} {B : Nat} {t : TypeId} {v : Value} (h : Boxed W B t v) : W.frozen? ⟨B, 0, none⟩ = false := by simp [World.frozen?, show W.heap[B]? = _ from h]
theorem boxed_set {W : World} {B : Nat} {t : TypeId} {v : Value} (h : Boxed W B t v) (u : Value) : Boxed (W.setCell ⟨B, 0, none⟩ u) B t u := by
  have h' : W.heap[B]? = some (.cells #[v] t (0, 0)) := h
  show (W.setCell ⟨B, 0, none⟩ u).heap[B]? = some (.cells #[u] t (0, 0))
  unfold World.setCell
  simp [Array.getElem?_modify, h']
theorem KC.put {own : Nat → Prop} {n₀ : Nat} (W : World) (l : Nat) (o o' : Obj) (hl : n₀ ≤ l) (h : W.heap[l]? = some o) (hc : o.isCells = false) : KC own n₀ W (W.putObj l o') :=
  have hg := grownBy_putObj' W l o'
  have hlt := (Array.getElem?_eq_some_iff.1 h).1
  ⟨hg.size, fun k hk _ => hg.block k (by omega) (fun e => by cases e; omega), fun k o2 hk hc2 _ => (hg.block k (Array.getElem?_eq_some_iff.1 hk).1 (fun e => by cases e; rw [h] at hk; cases hk; rw [hc] at hc2; cases hc2)).trans hk⟩
theorem KC.set {own : Nat → Prop} {n₀ : Nat} (W : World) (B : Nat) (h : own B) (v : Value) : KC own n₀ W (W.setCell ⟨B, 0, none⟩ v) :=
  have hm : ∀ k, ¬ own k → (W.setCell ⟨B, 0, none⟩ v).heap[k]? = W.heap[k]? := fun k hk => Below.heap_setCell W ⟨B, 0, none⟩ v k (fun e => hk (by cases e; exact h))
  ⟨by simp, fun k _ hk => hm k hk, fun k o hk _ ho => (hm k ho).trans hk⟩

def smallT (x : S24) : Bool := decide ((preT 1 x).length ≤ 2000) && (preT 1 x).all (fun k => decide (k.1 ≤ 200))
def causal_small.f (a b : Int) (c : ByteArray) (l : List S24) : Option Bool := some (smallT ⟨a, b, c, l⟩)

set_option maxRecDepth 100000 in
set_option maxHeartbeats 4000000 in
theorem small_in (F : Fence) (hd : F.depth = none) (hF : ∀ f, F.fn f) (hro : F.round = none) (n : Nat) (hn : 3 ≤ n) (x : S24) (A : Option Addr) (c : Nat) (w : World) (ht : Kd.C k24 w A x.f3.length x.f3) (hc : x.f3.length ≤ c) :
    CallsIn F n Tryz.prog 129 #[.agg #[.int .i64 x.f0, .int .i64 x.f1, .string x.f2, .slice A x.f3.length c]] w fun e w' => e = .returned (.bool (smallT x)) ∧ Below w.heap.size w w' := by
  have h1 : 1 ≤ n := by omega
  have hF1 := hF 129; have hF2 := hF 78; have hF3 := hF 132
  have hT := Lib.hid ht
  clear ht
  refine callsIn_of_wp_marks Tryz.func129 rfl hF1 ?_ hro
  simp only [Tryz.ntmps129, List.size_toArray, List.length_cons, List.length_nil, Nat.reduceAdd, Nat.reduceSub, Array.replicate_succ, Array.replicate_zero, List.push_toArray, List.append_toArray, List.nil_append, List.cons_append]
  gi_wp2_with (gi_at_call 78; refine (all_in F (n - 1) hF2 hro _ _ _ _ _ _ _).mono ?_; rintro e w' ⟨rfl, rfl⟩)
  obtain ⟨w3, ew3⟩ : ∃ w3, ((w.alloc (.cells #[.int .i64 x.f0, .int .i64 x.f1, .string x.f2, .slice A x.f3.length c] 24)).alloc (.cells #[.bool false] 4)).alloc (.cells #[.int .i64 0] 3) = w3 := ⟨_, rfl⟩
  have s3 : w3.heap.size = w.heap.size + 1 + 1 + 1 := by rw [← ew3]; simp
  have hB3 : Below w.heap.size w w3 := by rw [← ew3]; exact (((Below.refl _ w).alloc (Nat.le_refl _) _).alloc (by simp) _).alloc (by simp; omega) _
  have b2 : Boxed w3 (w.heap.size + 1) 4 (.bool false) := by
    rw [← ew3]
    refine boxed_more ?_ _
    have := Boxed.new (w.alloc (.cells #[.int .i64 x.f0, .int .i64 x.f1, .string x.f2, .slice A x.f3.length c] 24)) 4 (.bool false)
    rwa [World.size_alloc] at this
  have b3 : Boxed w3 (w.heap.size + 1 + 1) 3 (.int .i64 0) := by
    rw [← ew3]
    have := Boxed.new ((w.alloc (.cells #[.int .i64 x.f0, .int .i64 x.f1, .string x.f2, .slice A x.f3.length c] 24)).alloc (.cells #[.bool false] 4)) 3 (.int .i64 0)
    rwa [World.size_alloc, World.size_alloc] at this
  rw [ew3]
  obtain ⟨w4, ew4⟩ : ∃ w4, w3.alloc (.cells #[.int .i64 x.f0, .int .i64 x.f1, .string x.f2, .slice A x.f3.length c] 24) = w4 := ⟨_, rfl⟩
  have s4 : w4.heap.size = w.heap.size + 1 + 1 + 1 + 1 := by rw [← ew4]; simp [s3]
  have hB4 : Below w.heap.size w w4 := by rw [← ew4]; exact hB3.alloc (by omega) _
  have b4 : w4.heap[w.heap.size + 1 + 1 + 1]? = some (.cells #[.int .i64 x.f0, .int .i64 x.f1, .string x.f2, .slice A x.f3.length c] 24 (0, 0)) := by rw [← ew4, ← s3]; exact World.alloc_heap_new w3 _
  have b2' : Boxed w4 (w.heap.size + 1) 4 (.bool false) := by rw [← ew4]; exact boxed_more b2 _
  have b3' : Boxed w4 (w.heap.size + 1 + 1) 3 (.int .i64 0) := by rw [← ew4]; exact boxed_more b3 _
  rw [ew4]
  clear ew4 ew3 b2 b3 hB3 s3
  have hF4 : Kd.F k24 w4 (fun i => i < w4.heap.size ∧ ¬ (i = w.heap.size + 1 ∨ i = w.heap.size + 1 + 1)) A x.f3.length x.f3 :=
    Kd.F_mono (Kd.F_below (Kd.C_F k24_heap hT.out) hB4) (fun k hk => ⟨by omega, by omega⟩)
  refine wpIn_rangeFunc_ownF hro h1 (gf := 132) (lb := #[.pointer (some ⟨w.heap.size + 1 + 1 + 1, 0, none⟩)]) rfl hF3 (enters_of Tryz.func132 (by kernel_rfl) rfl)
    (all_stops F hd (n - 1) hF3 (hF _) hro (w.heap.size + 1 + 1 + 1) w4.heap.size (fun i => i = w.heap.size + 1 ∨ i = w.heap.size + 1 + 1) (fun k hk => by omega) x A c w4 b4 hF4 hc (Nat.le_refl _))
    (fun h k => h.trans k) (fun W l o o' hl h hc _ => KC.put W l o o' hl h hc) (Below.refl _ _) (fun _ => rfl)
    (fun pre W => ((pre.length ≤ 2000 ∧ ∀ y ∈ pre, y.d ≤ 200) ∧ Boxed W (w.heap.size + 1) 4 (.bool false) ∧ Boxed W (w.heap.size + 1 + 1) 3 (.int .i64 (pre.length : Int))) ∧ Below w.heap.size w W)
    (fun k pre W => ((k = .ret ∧ (2000 < pre.length ∨ ∃ y ∈ pre, 200 < y.d)) ∧ Boxed W (w.heap.size + 1) 4 (.bool false)) ∧ Below w.heap.size w W)
    (OwnFrom.and (OwnFrom.and (ownFrom_pure _ _) (OwnFrom.and (Own.from (boxed_own _ _ _) _) (Own.from (boxed_own _ _ (fun pre => Value.int .i64 ((List.length pre : Nat) : Int))) _))) (ownFrom_below (Nat.le_refl _) (by omega)))
    (fun k => OwnFrom.and (OwnFrom.and (ownFrom_pure _ _) (Own.from (boxed_own _ _ _) _)) (ownFrom_below (Nat.le_refl _) (by omega)))
    ⟨⟨⟨by simp, by simp⟩, b2', b3'⟩, hB4⟩
    (fun y => { tmps := #[.agg #[.int .i64 x.f0, .int .i64 x.f1, .string x.f2, .slice A x.f3.length c], .pointer (some ⟨w.heap.size, 0, none⟩), .pointer (some ⟨w.heap.size + 1, 0, none⟩), .pointer (some ⟨w.heap.size + 1 + 1, 0, none⟩), .int .i64 y.d, .agg #[.int .i64 x.f0, .int .i64 x.f1, .string x.f2, .slice A x.f3.length c], .func (.func 132) #[] #[.pointer (some ⟨w.heap.size + 1 + 1 + 1, 0, none⟩)], .int .i64 y.d, .agg #[.int .i64 y.op, .int .i64 y.n, .string y.s, .slice y.A y.len y.cap], undef, undef, undef, undef, undef, undef, undef, undef], defers := [] }) ?assign ?body ?done ?stop
  case assign =>
    intro l y W K hK
    simp only [Item.enc]
    gi_wp2
    exact hK
  case body =>
    rintro l pre y W ⟨⟨⟨hp1, hp2⟩, hbr, hbn⟩, hB⟩ _
    have hcn := boxed_cell hbn
    have hfn := boxed_frozen hbn
    have hcr := boxed_cell hbr
    have hfr := boxed_frozen hbr
    obtain ⟨m, em⟩ : ∃ m : Int, (pre.length : Int) = m := ⟨_, rfl⟩
    rw [em] at hcn
    have m1 : 0 ≤ m := by omega
    have m2 : m ≤ 2000 := by omega
    have hset := boxed_set hbn (.int .i64 (m + 1))
    have hset2 := Boxed.other hbr (B' := w.heap.size + 1 + 1) (by omega) (.int .i64 (m + 1))
    have hcn2 := boxed_cell hset
    have hcr2 := boxed_cell hset2
    have hfr2 := boxed_frozen hset2
    have hB2 : Below w.heap.size w (W.setCell ⟨w.heap.size + 1 + 1, 0, none⟩ (.int .i64 (m + 1))) := hB.setCell (p := ⟨w.heap.size + 1 + 1, 0, none⟩) (by simp; omega) _
    have H1 := Lib.hid (And.intro hset hset2); have H2 := Lib.hid hB2; have H3 := Lib.hid hp2
    clear hset hset2 hB2 hp2 hbr hbn hB
    by_cases c1 : 2000 < m + 1
    · have t1 : decide (2000 < m + 1) = true := decide_eq_true c1
      gi_wp2
      exact ⟨(KeepsOthers.setCell _ _ _).trans (KeepsOthers.setCell _ _ _), ⟨⟨rfl, .inl (by simp; omega)⟩, boxed_set H1.out.2 _⟩, H2.out.setCell (p := ⟨w.heap.size + 1, 0, none⟩) (by simp) _⟩
    · have t1 : decide (2000 < m + 1) = false := decide_eq_false c1
      by_cases c2 : 200 < y.d
      · have t2 : decide (200 < y.d) = true := decide_eq_true c2
        gi_wp2
        exact ⟨(KeepsOthers.setCell _ _ _).trans (KeepsOthers.setCell _ _ _), ⟨⟨rfl, .inr ⟨y, by simp, c2⟩⟩, boxed_set H1.out.2 _⟩, H2.out.setCell (p := ⟨w.heap.size + 1, 0, none⟩) (by simp) _⟩
      · have t2 : decide (200 < y.d) = false := decide_eq_false c2
        gi_wp2
        refine ⟨KeepsOthers.setCell _ _ _, KC.set _ _ (.inr rfl) _, ⟨⟨by simp; omega, ?_⟩, H1.out.2, ?_⟩, H2.out⟩
        · intro z hz
          rcases List.mem_append.1 hz with hz | hz
          · exact H3.out z hz
          · simp at hz; subst hz; omega
        · have := H1.out.1
          rw [List.length_append, List.length_singleton]
          rw [show ((pre.length + 1 : Nat) : Int) = m + 1 from by omega]
          exact this
  case done =>
    rintro D ys W hD hS ⟨⟨⟨hp1, hp2⟩, hbr, _⟩, hB⟩ hK
    have hcr := boxed_cell hbr
    have hfr := boxed_frozen hbr
    have hres : smallT x = true := by
      unfold smallT
      rw [← hS, List.length_map, decide_eq_true hp1, Bool.true_and, List.all_map, List.all_eq_true]
      intro z hz
      exact decide_eq_true (hp2 z hz)
    gi_wp2
    have hK' := (KeepsOthers.setCell W ⟨w.heap.size + 1, 0, none⟩ (.bool true)).same D _ hK rfl
    refine ⟨by simp, .inl ⟨_, _, rfl, run_takeDeferred hK', ?_⟩⟩
    have hc5 := cell_kept (World.cell?_setCell_same' W ⟨w.heap.size + 1, 0, none⟩ (.bool true) (by rw [hcr]; rfl)) (grownBy_putObj' _ D (.deferred none)) (fun r e => by cases e; exact ⟨_, hK', rfl⟩)
    refine ⟨.bool true, ?_, by rw [hres], (hB.setCell (p := ⟨w.heap.size + 1, 0, none⟩) (by simp) _).trans (belowK_b (w := w) (Nat.le_refl _) _ D _ _ (by omega) hK' rfl rfl)⟩
    simp [results, Tryz.f129, go_sem, hc5]
  case stop =>
    rintro D k pre W hD hS ⟨⟨⟨rfl, hor⟩, hbr⟩, hB⟩ hK
    have hres : smallT x = false := by
      obtain ⟨r, hr⟩ := hS
      have hmem : ∀ y ∈ pre, y.key ∈ preT 1 x := fun y hy => by rw [← hr]; exact List.mem_append_left _ (List.mem_map_of_mem hy)
      have hlen : pre.length ≤ (preT 1 x).length := by rw [← hr, List.length_append, List.length_map]; omega
      rw [Bool.eq_false_iff]
      intro ht
      unfold smallT at ht
      rw [Bool.and_eq_true, List.all_eq_true] at ht
      have h1 := of_decide_eq_true ht.1
      rcases hor with hor | ⟨y, hy, hd⟩
      · omega
      · have := of_decide_eq_true (ht.2 _ (hmem y hy))
        simp [Item.key] at this
        omega
    gi_wp2
    refine ⟨by simp, .inl ⟨_, _, rfl, run_takeDeferred hK, ?_⟩⟩
    have hc5 := cell_kept (boxed_cell hbr) (grownBy_putObj' _ D (.deferred none)) (fun r e => by cases e; exact ⟨_, hK, rfl⟩)
    refine ⟨.bool false, ?_, by rw [hres], hB.trans (belowK_b (w := w) (Nat.le_refl _) W D _ _ (by omega) hK rfl rfl)⟩
    simp [results, Tryz.f129, go_sem, hc5]

theorem causal_small.calls (a0_0 : Int) (a0_1 : Int) (a0_2 : ByteArray) (A0_3 : Option Addr) (c0_3 : Nat) (l0_3 : List S24) (r : Bool) (w : World) (hr0_3 : Kd.C k24 w A0_3 l0_3.length l0_3) (hc0_3 : l0_3.length ≤ c0_3) (h : causal_small.f a0_0 a0_1 a0_2 l0_3 = some r) :
    Calls Tryz.prog 129 #[.agg #[.int .i64 a0_0, .int .i64 a0_1, .string a0_2, .slice A0_3 l0_3.length c0_3]] w fun e w' => e = .returned (.bool r) ∧ Below w.heap.size w w' := by
  obtain rfl := Option.some.inj h
  exact (callsIn_wide (n := 3)).1 (small_in Fence.wide rfl (fun _ => trivial) rfl 3 (Nat.le_refl _) ⟨a0_0, a0_1, a0_2, l0_3⟩ A0_3 c0_3 w hr0_3 hc0_3)
end Go.Proofs.YtniajhmbdbgmgaaGreatDoor.Q

/- strings.Cut at one byte, and strings.IndexByte. -/
namespace Go.Proofs.YtniajhmbdbgmgaaGreatDoor.Q
open Go Go.RowKit Go.Proofs Go.Proofs.YtniajhmbdbgmgaaGreatDoor

def strings_IndexByte.f (a0 : ByteArray) (a1 : Int) : Option Int := some (Lib.indexByte a0.data.toList a1.toNat.toUInt8)
theorem strings_IndexByte.calls (a0 : ByteArray) (a1 : Int) (r : Int) (w : World) (h : strings_IndexByte.f a0 a1 = some r) :
    Calls Tryz.prog 131 #[.string a0, .int .u8 a1] w fun e w' => e = .returned (.int .i64 r) ∧ Below w.heap.size w w' := by
  obtain rfl := Option.some.inj h
  exact (Tryz.strings_IndexByte a0 a1 w).mono fun e w' h => ⟨h.1, by rw [h.2]; exact Below.refl _ _⟩

theorem indexByte_lt (l : List UInt8) (c : UInt8) : Lib.indexByte l c < l.length := by
  induction l with
  | nil => simp [Lib.indexByte]
  | cons b l ih => simp only [Lib.indexByte, List.length_cons]; repeat' split <;> omega

theorem index62 (s : ByteArray) (w : World) : Calls Tryz.prog 214 #[.string s, .string ⟨#[62]⟩] w fun e w' => e = .returned (.int .i64 (Lib.indexByte s.data.toList 62)) ∧ w = w' := by
  cases hs : ([62] == s.toList)
  · go_enter Tryz.func214, Tryz.ntmps214
    go_wp2_with fail
    refine (Tryz.stringslite_IndexByte s 62 w).mono ?_
    rintro e w' ⟨rfl, rfl⟩
    go_wp2_with fail
    go_ret
    exact ⟨rfl, rfl⟩
  · have hz : Hid (Lib.indexByte s.data.toList 62 = 0) := Lib.hid (by rw [← Lib.toList_data, ← eq_of_beq hs]; rfl)
    go_enter Tryz.func214, Tryz.ntmps214
    go_wp2_with fail
    go_ret
    exact ⟨by rw [hz.out]; rfl, rfl⟩

def cutAt (s : ByteArray) (i : Int) : ByteArray × ByteArray × Bool := if i < 0 then (s, ⟨#[]⟩, false) else (s.extract 0 i.toNat, s.extract (i + 1).toNat s.size, true)
theorem cut62 (s : ByteArray) (hs : (s.size : Int) ≤ 140737488351232) (w : World) : Calls Tryz.prog 217 #[.string s, .string ⟨#[62]⟩] w fun e w' =>
    e = .returned (.tuple #[.string (cutAt s (Lib.indexByte s.data.toList 62)).1, .string (cutAt s (Lib.indexByte s.data.toList 62)).2.1, .bool (cutAt s (Lib.indexByte s.data.toList 62)).2.2]) ∧ Below w.heap.size w w' := by
  obtain ⟨i, ei⟩ : ∃ i, Lib.indexByte s.data.toList 62 = i := ⟨_, rfl⟩
  have hge := Lib.indexByte_ge s.data.toList 62
  have hlt := indexByte_lt s.data.toList 62
  have hl : s.data.toList.length = s.size := rfl
  rw [hl] at hlt
  have hx := fun w => index62 s w
  rw [ei] at hge hlt hx
  rw [ei]
  have HX := Lib.hid hx
  clear hx ei hl
  by_cases hi : i < 0
  · have t1 : decide (0 ≤ i) = false := decide_eq_false (by omega)
    rw [show cutAt s i = (s, ⟨#[]⟩, false) from if_pos hi]
    go_enter Tryz.func217, Tryz.ntmps217
    go_wp2_with fail
    refine (HX.out w).mono ?_
    rintro e w' ⟨rfl, rfl⟩
    go_wp2_with fail
    exact bodyPost_ret (v := .tuple #[.string s, .string ⟨#[]⟩, .bool false]) (by simp [results, Tryz.results217, go_sem]) rfl ⟨rfl, Below.refl _ _⟩
  · have t1 : decide (0 ≤ i) = true := decide_eq_true (by omega)
    have h0 : 0 ≤ i := by omega
    rw [show cutAt s i = (s.extract 0 i.toNat, s.extract (i + 1).toNat s.size, true) from if_neg hi]
    go_enter Tryz.func217, Tryz.ntmps217
    go_wp2_with fail
    refine (HX.out w).mono ?_
    rintro e w' ⟨rfl, rfl⟩
    go_wp2_with fail
    go_quiet (fail)
    go_wp2_with fail
    exact bodyPost_ret (v := .tuple #[.string (s.extract 0 i.toNat), .string (s.extract (i + 1).toNat s.size), .bool true]) (by simp [results, Tryz.results217, go_sem]) rfl ⟨rfl, belowN (Below.refl _ _) _⟩

def strings_Cut.f (a0 a1 : ByteArray) : Option (ByteArray × ByteArray × Bool) := if a1 = ⟨#[62]⟩ ∧ (a0.size : Int) ≤ 140737488351232 then some (cutAt a0 (Lib.indexByte a0.data.toList 62)) else none
theorem strings_Cut.calls (a0 a1 : ByteArray) (r1 : ByteArray) (r2 : ByteArray) (r3 : Bool) (w : World) (h : strings_Cut.f a0 a1 = some (r1, r2, r3)) :
    Calls Tryz.prog 185 #[.string a0, .string a1] w fun e w' => e = .returned (.tuple #[.string r1, .string r2, .bool r3]) ∧ Below w.heap.size w w' := by
  unfold strings_Cut.f at h
  split at h
  case isFalse => cases h
  case isTrue hc =>
    obtain ⟨rfl, hs⟩ := hc
    have hr := Option.some.inj h
    have hx := fun w => cut62 a0 hs w
    rw [hr] at hx
    have HX := Lib.hid hx
    clear hx hr h hs
    go_enter Tryz.func185, Tryz.ntmps185
    go_wp2_with fail
    refine (HX.out w).mono ?_
    rintro e w' ⟨rfl, hb⟩
    go_wp2_with fail
    exact bodyPost_ret (v := .tuple #[.string r1, .string r2, .bool r3]) (by simp [results, Tryz.results185, go_sem]) rfl ⟨rfl, hb⟩

def strings_Trim.f (a0 a1 : ByteArray) : Option ByteArray :=
  if (a0.size : Int) ≤ 140737488351232 ∧ a1.size < 4294967281 ∧ a1.data.toList.all (fun b => b.toNat < 128) = true then some ⟨(Lib.trimS a0.data.toList a1.data.toList).toArray⟩ else none
theorem strings_Trim.calls (a0 a1 : ByteArray) (r : ByteArray) (w : World) (h : strings_Trim.f a0 a1 = some r) :
    Calls Tryz.prog 239 #[.string a0, .string a1] w fun e w' => e = .returned (.string r) ∧ Below w.heap.size w w' := by
  unfold strings_Trim.f at h
  split at h
  case isFalse => cases h
  case isTrue hc =>
    obtain ⟨h1, h2, h3⟩ := hc
    obtain rfl := Option.some.inj h
    refine Any.strings_Trim_laid Tryz.lays160 (by kernel_rfl) a0 a1 w (by omega) h2 ?_
    intro j b hj
    exact of_decide_eq_true (List.all_eq_true.1 h3 b (List.mem_of_getElem? hj))
end Go.Proofs.YtniajhmbdbgmgaaGreatDoor.Q

namespace Go.Proofs.YtniajhmbdbgmgaaGreatDoor.Q
open Go.RowKit Go.Proofs.YtniajhmbdbgmgaaGreatDoorW.PrintWords Go.Proofs.YtniajhmbdbgmgaaGreatDoorW.PrintLast Go.Proofs.YtniajhmbdbgmgaaGreatDoorW.PrintMore
attribute [local go_sem] max2_int min2_int max_two min_two max_three min_three max_four min_four   -- for this text's walks alone
set_option linter.unusedVariables false
set_option linter.unusedSimpArgs false

/-! ### causal_isName: function 218 -/
def causal_isName.f (a0 : ByteArray) : Option (Bool) := if a0.toList = ([] : List UInt8) then (some false) else (if (a0.size : Int) > 24 then (some false) else (if 0 < (a0.size : Int) then (if (bt a0 0) < 97 then (some false) else (if (bt a0 0) > 122 then (some false) else ((strings_Trim.f a0 (⟨#[97, 98, 99, 100, 101, 102, 103, 104, 105, 106, 107, 108, 109, 110, 111, 112, 113, 114, 115, 116, 117, 118, 119, 120, 121, 122, 48, 49, 50, 51, 52, 53, 54, 55, 56, 57, 95]⟩ : ByteArray)).bind fun t101 => (some (t101.toList == ([] : List UInt8)))))) else (none)))
set_option maxHeartbeats 8000000 in
set_option maxRecDepth 100000 in
theorem causal_isName.calls (a0 : ByteArray) (r : Bool) (w : World) (h : causal_isName.f a0 = some r) :
    Calls Tryz.prog 218 #[.string a0] w fun e w' => e = .returned (.bool r) ∧ Below w.heap.size w w' := by
  have HB := Aside0.mk (Below.refl w.heap.size w)
  have H : (if a0.toList = ([] : List UInt8) then (some false) else (if (a0.size : Int) > 24 then (some false) else (if 0 < (a0.size : Int) then (if (bt a0 0) < 97 then (some false) else (if (bt a0 0) > 122 then (some false) else ((strings_Trim.f a0 (⟨#[97, 98, 99, 100, 101, 102, 103, 104, 105, 106, 107, 108, 109, 110, 111, 112, 113, 114, 115, 116, 117, 118, 119, 120, 121, 122, 48, 49, 50, 51, 52, 53, 54, 55, 56, 57, 95]⟩ : ByteArray)).bind fun t101 => (some (t101.toList == ([] : List UInt8)))))) else (none)))) = some r := h
  clear h
  by_cases c2 : a0.toList = ([] : List UInt8)
  · rw [if_pos c2] at H
    have c2b0 : (a0.toList == ([] : List UInt8)) = true := beq_iff_eq.mpr c2
    have c2b1 : (a0.toList != ([] : List UInt8)) = false := bne_eq_false_iff_eq.mpr c2
    clear c2
    obtain rfl := Option.some.inj H
    go_enter Tryz.func218, Tryz.ntmps218
    go_wp2
    go_ret
    exact ⟨by first | rfl | (simp [errW_none, errW_some] <;> rfl) | (simp [*, errW_none, errW_some] <;> rfl), by repeat (first | (with_reducible first | exact HB.out | apply below_alloc | apply pw_below_drewN | apply below_drew1) | exact HB.out)⟩
  · rw [if_neg c2] at H
    have c2b0 : (a0.toList == ([] : List UInt8)) = false := beq_eq_false_iff_ne.mpr c2
    have c2b1 : (a0.toList != ([] : List UInt8)) = true := bne_iff_ne.mpr c2
    by_cases c3 : (a0.size : Int) > 24
    · rw [if_pos c3] at H
      have c3b0 : decide (24 < (a0.size : Int)) = true := decide_eq_true c3
      have c3b1 : decide (24 < a0.size) = true := decide_eq_true (by omega)
      clear c3
      obtain rfl := Option.some.inj H
      go_enter Tryz.func218, Tryz.ntmps218
      go_wp2
      go_ret
      exact ⟨by first | rfl | (simp [errW_none, errW_some] <;> rfl) | (simp [*, errW_none, errW_some] <;> rfl), by repeat (first | (with_reducible first | exact HB.out | apply below_alloc | apply pw_below_drewN | apply below_drew1) | exact HB.out)⟩
    · rw [if_neg c3] at H
      have c3b0 : decide (24 < (a0.size : Int)) = false := decide_eq_false c3
      have c3b1 : decide (24 < a0.size) = false := decide_eq_false (by omega)
      clear c3
      by_cases c4 : 0 < (a0.size : Int)
      · rw [if_pos c4] at H
        have c4b0 : decide (0 < (a0.size : Int)) = true := decide_eq_true c4
        have c4b1 : decide (0 < a0.size) = true := decide_eq_true (by omega)
        clear c4
        by_cases c6 : (bt a0 0) < 97
        · rw [if_pos c6] at H
          have c6b0 : decide ((bt a0 0) < 97) = true := decide_eq_true c6
          clear c6
          obtain rfl := Option.some.inj H
          have p5 : 0 ≤ (0 : Int) := (by omega)
          have q5 : 0 < a0.size := (by have : (0 : Int) < (a0.size : Int) := of_decide_eq_true (by first | (with_reducible assumption) | assumption); omega)
          have hx5 : ∀ h : 0 < a0.size, ((a0[0]'h).toNat : Int) = bt a0 0 := bt_at a0 0
          clear p5
          have qi5 : (0 < (a0.size : Int)) = True := eq_true (of_decide_eq_true (by first | (with_reducible assumption) | assumption))
          replace q5 := eq_true q5
          go_enter Tryz.func218, Tryz.ntmps218
          go_wp2
          go_ret
          exact ⟨by first | rfl | (simp [errW_none, errW_some] <;> rfl) | (simp [*, errW_none, errW_some] <;> rfl), by repeat (first | (with_reducible first | exact HB.out | apply below_alloc | apply pw_below_drewN | apply below_drew1) | exact HB.out)⟩
        · rw [if_neg c6] at H
          have c6b0 : decide ((bt a0 0) < 97) = false := decide_eq_false c6
          clear c6
          by_cases c8 : (bt a0 0) > 122
          · rw [if_pos c8] at H
            have c8b0 : decide (122 < (bt a0 0)) = true := decide_eq_true c8
            clear c8
            obtain rfl := Option.some.inj H
            have p5 : 0 ≤ (0 : Int) := (by omega)
            have q5 : 0 < a0.size := (by have : (0 : Int) < (a0.size : Int) := of_decide_eq_true (by first | (with_reducible assumption) | assumption); omega)
            have hx5 : ∀ h : 0 < a0.size, ((a0[0]'h).toNat : Int) = bt a0 0 := bt_at a0 0
            clear p5
            have qi5 : (0 < (a0.size : Int)) = True := eq_true (of_decide_eq_true (by first | (with_reducible assumption) | assumption))
            replace q5 := eq_true q5
            have p7 : 0 ≤ (0 : Int) := (by omega)
            have q7 : 0 < a0.size := (by have : (0 : Int) < (a0.size : Int) := of_decide_eq_true (by first | (with_reducible assumption) | assumption); omega)
            have hx7 : ∀ h : 0 < a0.size, ((a0[0]'h).toNat : Int) = bt a0 0 := bt_at a0 0
            clear p7
            have qi7 : (0 < (a0.size : Int)) = True := eq_true (of_decide_eq_true (by first | (with_reducible assumption) | assumption))
            replace q7 := eq_true q7
            go_enter Tryz.func218, Tryz.ntmps218
            go_wp2
            go_ret
            exact ⟨by first | rfl | (simp [errW_none, errW_some] <;> rfl) | (simp [*, errW_none, errW_some] <;> rfl), by repeat (first | (with_reducible first | exact HB.out | apply below_alloc | apply pw_below_drewN | apply below_drew1) | exact HB.out)⟩
          · rw [if_neg c8] at H
            have c8b0 : decide (122 < (bt a0 0)) = false := decide_eq_false c8
            clear c8
            replace H := Option.bind_eq_some_iff.mp H
            obtain ⟨t101, A90, H⟩ := H
            replace H : (some (t101.toList == ([] : List UInt8))) = some r := H
            have A9 := Aside0.mk A90
            clear A90
            obtain rfl := Option.some.inj H
            have p5 : 0 ≤ (0 : Int) := (by omega)
            have q5 : 0 < a0.size := (by have : (0 : Int) < (a0.size : Int) := of_decide_eq_true (by first | (with_reducible assumption) | assumption); omega)
            have hx5 : ∀ h : 0 < a0.size, ((a0[0]'h).toNat : Int) = bt a0 0 := bt_at a0 0
            clear p5
            have qi5 : (0 < (a0.size : Int)) = True := eq_true (of_decide_eq_true (by first | (with_reducible assumption) | assumption))
            replace q5 := eq_true q5
            have p7 : 0 ≤ (0 : Int) := (by omega)
            have q7 : 0 < a0.size := (by have : (0 : Int) < (a0.size : Int) := of_decide_eq_true (by first | (with_reducible assumption) | assumption); omega)
            have hx7 : ∀ h : 0 < a0.size, ((a0[0]'h).toNat : Int) = bt a0 0 := bt_at a0 0
            clear p7
            have qi7 : (0 < (a0.size : Int)) = True := eq_true (of_decide_eq_true (by first | (with_reducible assumption) | assumption))
            replace q7 := eq_true q7
            go_enter Tryz.func218, Tryz.ntmps218
            go_wp2_with (first | ((with_reducible refine gate_callee (f := 239) rfl ?_); refine goesL_ (some 21) rfl rfl Tryz.func239 (by kernel_rfl) rfl #[.string a0, .string (⟨#[97, 98, 99, 100, 101, 102, 103, 104, 105, 106, 107, 108, 109, 110, 111, 112, 113, 114, 115, 116, 117, 118, 119, 120, 121, 122, 48, 49, 50, 51, 52, 53, 54, 55, 56, 57, 95]⟩ : ByteArray)] rfl (by (try simp only [List.map_toArray, List.map_cons, List.map_nil]); first | done | rfl | (simp only [List.length_drop, List.length_take]; rfl)) ?_; (with_reducible refine (strings_Trim.calls a0 (⟨#[97, 98, 99, 100, 101, 102, 103, 104, 105, 106, 107, 108, 109, 110, 111, 112, 113, 114, 115, 116, 117, 118, 119, 120, 121, 122, 48, 49, 50, 51, 52, 53, 54, 55, 56, 57, 95]⟩ : ByteArray) t101 _ A9.out).mono ?_); rintro e w10 ⟨rfl, hb⟩; refine ⟨_, rfl, ?_⟩; have n0_ := Aside0.mk (below_step (by repeat (first | (with_reducible first | exact HB.out | apply below_alloc | apply pw_below_drewN | apply below_drew1) | exact HB.out)) hb); clear HB; have HB := n0_; clear n0_; (try clear hb); (try clear hb2); (try clear hk); (try clear hi)))
            go_ret
            exact ⟨by first | rfl | (simp [errW_none, errW_some] <;> rfl) | (simp [*, errW_none, errW_some] <;> rfl), by repeat (first | (with_reducible first | exact HB.out | apply below_alloc | apply pw_below_drewN | apply below_drew1) | exact HB.out)⟩
      · rw [if_neg c4] at H
        exact absurd H (by simp)

/-! ### causal_within: function 219 -/
def causal_within.f (a0 : Int) (a1 : Int) (a2 : Int) : Option (Bool) := if a0 ≥ a1 then (some (decide (a0 ≤ a2))) else (some false)
set_option maxHeartbeats 8000000 in
set_option maxRecDepth 100000 in
theorem causal_within.calls (a0 : Int) (a1 : Int) (a2 : Int) (r : Bool) (w : World) (h : causal_within.f a0 a1 a2 = some r) :
    Calls Tryz.prog 219 #[.int .i64 a0, .int .i64 a1, .int .i64 a2] w fun e w' => e = .returned (.bool r) ∧ Drawn0 w w' := by
  have H : (if a0 ≥ a1 then (some (decide (a0 ≤ a2))) else (some false)) = some r := h
  clear h
  by_cases c4 : a0 ≥ a1
  · rw [if_pos c4] at H
    have c4b0 : decide (a1 ≤ a0) = true := decide_eq_true c4
    clear c4
    obtain rfl := Option.some.inj H
    go_enter Tryz.func219, Tryz.ntmps219
    go_wp2
    go_ret
    exact ⟨by first | rfl | (simp; done) | (simp [*]; done), by repeat (first | exact Drawn0.refl _ | apply Drawn0.step)⟩
  · rw [if_neg c4] at H
    have c4b0 : decide (a1 ≤ a0) = false := decide_eq_false c4
    clear c4
    obtain rfl := Option.some.inj H
    go_enter Tryz.func219, Tryz.ntmps219
    go_wp2
    go_ret
    exact ⟨by first | rfl | (simp; done) | (simp [*]; done), by repeat (first | exact Drawn0.refl _ | apply Drawn0.step)⟩

/-! ### causal_isCur: function 220 -/
def causal_isCur.f (a0 : ByteArray) : Option (Bool) := if (a0.size : Int) = 3 then ((strings_Trim.f a0 (⟨#[65, 66, 67, 68, 69, 70, 71, 72, 73, 74, 75, 76, 77, 78, 79, 80, 81, 82, 83, 84, 85, 86, 87, 88, 89, 90]⟩ : ByteArray)).bind fun t102 => (some (t102.toList == ([] : List UInt8)))) else (some false)
set_option maxHeartbeats 8000000 in
set_option maxRecDepth 100000 in
theorem causal_isCur.calls (a0 : ByteArray) (r : Bool) (w : World) (h : causal_isCur.f a0 = some r) :
    Calls Tryz.prog 220 #[.string a0] w fun e w' => e = .returned (.bool r) ∧ Below w.heap.size w w' := by
  have HB := Aside0.mk (Below.refl w.heap.size w)
  have H : (if (a0.size : Int) = 3 then ((strings_Trim.f a0 (⟨#[65, 66, 67, 68, 69, 70, 71, 72, 73, 74, 75, 76, 77, 78, 79, 80, 81, 82, 83, 84, 85, 86, 87, 88, 89, 90]⟩ : ByteArray)).bind fun t102 => (some (t102.toList == ([] : List UInt8)))) else (some false)) = some r := h
  clear h
  by_cases c2 : (a0.size : Int) = 3
  · rw [if_pos c2] at H
    have c2b0 : ((a0.size : Int) == 3) = true := beq_iff_eq.mpr c2
    have c2b1 : ((a0.size : Int) != 3) = false := bne_eq_false_iff_eq.mpr c2
    clear c2
    replace H := Option.bind_eq_some_iff.mp H
    obtain ⟨t102, A30, H⟩ := H
    replace H : (some (t102.toList == ([] : List UInt8))) = some r := H
    have A3 := Aside0.mk A30
    clear A30
    obtain rfl := Option.some.inj H
    go_enter Tryz.func220, Tryz.ntmps220
    go_wp2_with (first | (go_at_call 239; (with_reducible refine (strings_Trim.calls a0 (⟨#[65, 66, 67, 68, 69, 70, 71, 72, 73, 74, 75, 76, 77, 78, 79, 80, 81, 82, 83, 84, 85, 86, 87, 88, 89, 90]⟩ : ByteArray) t102 _ A3.out).mono ?_); rintro e w4 ⟨rfl, hb⟩; have n0_ := Aside0.mk (below_step (by repeat (first | (with_reducible first | exact HB.out | apply below_alloc | apply pw_below_drewN | apply below_drew1) | exact HB.out)) hb); clear HB; have HB := n0_; clear n0_; (try clear hb); (try clear hb2); (try clear hk); (try clear hi)))
    go_ret
    exact ⟨by first | rfl | (simp [errW_none, errW_some] <;> rfl) | (simp [*, errW_none, errW_some] <;> rfl), by repeat (first | (with_reducible first | exact HB.out | apply below_alloc | apply pw_below_drewN | apply below_drew1) | exact HB.out)⟩
  · rw [if_neg c2] at H
    have c2b0 : ((a0.size : Int) == 3) = false := beq_eq_false_iff_ne.mpr c2
    have c2b1 : ((a0.size : Int) != 3) = true := bne_iff_ne.mpr c2
    obtain rfl := Option.some.inj H
    go_enter Tryz.func220, Tryz.ntmps220
    go_wp2
    go_ret
    exact ⟨by first | rfl | (simp [errW_none, errW_some] <;> rfl) | (simp [*, errW_none, errW_some] <;> rfl), by repeat (first | (with_reducible first | exact HB.out | apply below_alloc | apply pw_below_drewN | apply below_drew1) | exact HB.out)⟩

end Go.Proofs.YtniajhmbdbgmgaaGreatDoor.Q

namespace Go.Proofs.YtniajhmbdbgmgaaGreatDoor.Q
open Go.RowKit Go.Proofs.YtniajhmbdbgmgaaGreatDoorW.PrintWords Go.Proofs.YtniajhmbdbgmgaaGreatDoorW.PrintLast Go.Proofs.YtniajhmbdbgmgaaGreatDoorW.PrintMore
attribute [local go_sem] max2_int min2_int max_two min_two max_three min_three max_four min_four   -- for this text's walks alone
set_option linter.unusedVariables false
set_option linter.unusedSimpArgs false

/-! ### causal_fields: function 187 -/
def causal_fields.j0 : Nat → Int → Bool → Int → Int → ByteArray → List (S24) → Option (Bool)
  | 0, _, _, _, _, _, _ => none
  | k + 1, x4, x55, x104000, x104001, x104002, x104003 => if x55 = true then (if x104002.toList = ([] : List UInt8) then ((causal_within.f x104001 0 73048).bind fun t111 => (some t111)) else (some false)) else (if x4 = 5 then (if x104002.toList = ([] : List UInt8) then ((causal_within.f x104001 (-3660) 3660).bind fun t112 => (some t112)) else (some false)) else (if x104002.toList = ([] : List UInt8) then (some (x104001 == 0)) else (some false)))
def causal_fields.f (k : Nat) (a0_0 : Int) (a0_1 : Int) (a0_2 : ByteArray) (l0_3 : List (S24)) : Option (Bool) := if a0_0 = 4 then ((causal_isName.f a0_2).bind fun t104 => (if t104 = true then ((causal_within.f a0_1 (-3660) 3660).bind fun t105 => (some t105)) else (some false))) else (if a0_0 = 31 then ((causal_isName.f a0_2).bind fun t106 => (if t106 = true then ((causal_within.f a0_1 0 73048).bind fun t107 => (some t107)) else (some false))) else (if a0_0 = 24 then ((causal_isCur.f a0_2).bind fun t108 => (if t108 = true then (some (a0_1 == 0)) else (some false))) else (if a0_0 = 1 then (if a0_2.toList = ([] : List UInt8) then ((causal_within.f a0_1 (-1000000000000000) 1000000000000000).bind fun t109 => (some t109)) else (some false)) else (if a0_0 = 2 then (if a0_2.toList = ([] : List UInt8) then ((causal_within.f a0_1 0 1).bind fun t110 => (some t110)) else (some false)) else (if a0_0 = 3 then (causal_fields.j0 k a0_0 (a0_0 == 3) a0_0 a0_1 a0_2 l0_3) else (if a0_0 = 29 then (causal_fields.j0 k a0_0 (a0_0 == 29) a0_0 a0_1 a0_2 l0_3) else (causal_fields.j0 k a0_0 (a0_0 == 30) a0_0 a0_1 a0_2 l0_3)))))))
theorem causal_fields.mono_l : ∀ k, (∀ y0 y1 y2 y3 y4 y5, LeO (causal_fields.j0 k y0 y1 y2 y3 y4 y5) (causal_fields.j0 (k + 1) y0 y1 y2 y3 y4 y5))
  | 0 => fun _ _ _ _ _ _ r h => by simp [causal_fields.j0] at h
  | k + 1 => by
    have ih0 := causal_fields.mono_l k
    · intro y0 y1 y2 y3 y4 y5
      unfold causal_fields.j0
      repeat' first
      | (with_reducible exact ih0 _ _ _ _ _ _)
      | (with_reducible exact LeO.refl _)
      | (with_reducible exact LeO.none _)
      | (with_reducible refine LeO.ite ?_ ?_)
      | (with_reducible refine LeO.bind ?_ (fun _ => ?_))
      | exact ih0 _ _ _ _ _ _
      | exact LeO.none _
      | refine LeO.ite ?_ ?_
      | refine LeO.bind ?_ (fun _ => ?_)
theorem causal_fields.mono : ∀ a0 a1 a2 a3 k, LeO (causal_fields.f k a0 a1 a2 a3) (causal_fields.f (k + 1) a0 a1 a2 a3) := by
  intro a0 a1 a2 a3 k
  have ih0 := causal_fields.mono_l k
  unfold causal_fields.f
  repeat' first
      | (with_reducible exact ih0 _ _ _ _ _ _)
      | (with_reducible exact LeO.refl _)
      | (with_reducible exact LeO.none _)
      | (with_reducible refine LeO.ite ?_ ?_)
      | (with_reducible refine LeO.bind ?_ (fun _ => ?_))
      | exact ih0 _ _ _ _ _ _
      | exact LeO.none _
      | refine LeO.ite ?_ ?_
      | refine LeO.bind ?_ (fun _ => ?_)
set_option maxHeartbeats 8000000 in
set_option maxRecDepth 100000 in
theorem causal_fields.calls (k : Nat) (a0_0 : Int) (a0_1 : Int) (a0_2 : ByteArray) (A0_3 : Option Addr) (c0_3 : Nat) (l0_3 : List (S24)) (r : Bool) (w : World) (hr0_3 : Kd.C k24 w A0_3 l0_3.length l0_3) (hc0_3 : l0_3.length ≤ c0_3) (h : causal_fields.f k a0_0 a0_1 a0_2 l0_3 = some r) :
    Calls Tryz.prog 187 #[.agg #[.int .i64 a0_0, .int .i64 a0_1, .string a0_2, .slice A0_3 l0_3.length c0_3]] w fun e w' => e = .returned (.bool r) ∧ Below w.heap.size w w' := by
  have hu24 := Tryz.underlying24
  have HR0_3 := Aside0.mk hr0_3
  have HC0_3 := Aside0.mk hc0_3
  clear hr0_3 hc0_3
  have HB := Aside0.mk (Below.refl w.heap.size w)
  have H : (if a0_0 = 4 then ((causal_isName.f a0_2).bind fun t104 => (if t104 = true then ((causal_within.f a0_1 (-3660) 3660).bind fun t105 => (some t105)) else (some false))) else (if a0_0 = 31 then ((causal_isName.f a0_2).bind fun t106 => (if t106 = true then ((causal_within.f a0_1 0 73048).bind fun t107 => (some t107)) else (some false))) else (if a0_0 = 24 then ((causal_isCur.f a0_2).bind fun t108 => (if t108 = true then (some (a0_1 == 0)) else (some false))) else (if a0_0 = 1 then (if a0_2.toList = ([] : List UInt8) then ((causal_within.f a0_1 (-1000000000000000) 1000000000000000).bind fun t109 => (some t109)) else (some false)) else (if a0_0 = 2 then (if a0_2.toList = ([] : List UInt8) then ((causal_within.f a0_1 0 1).bind fun t110 => (some t110)) else (some false)) else (if a0_0 = 3 then (causal_fields.j0 k a0_0 (a0_0 == 3) a0_0 a0_1 a0_2 l0_3) else (if a0_0 = 29 then (causal_fields.j0 k a0_0 (a0_0 == 29) a0_0 a0_1 a0_2 l0_3) else (causal_fields.j0 k a0_0 (a0_0 == 30) a0_0 a0_1 a0_2 l0_3)))))))) = some r := h
  clear h
  by_cases c2 : a0_0 = 4
  · rw [if_pos c2] at H
    have c2b0 : (a0_0 == 4) = true := beq_iff_eq.mpr c2
    have c2b1 : (a0_0 != 4) = false := bne_eq_false_iff_eq.mpr c2
    clear c2
    replace H := Option.bind_eq_some_iff.mp H
    obtain ⟨t104, A30, H⟩ := H
    replace H : (if t104 = true then ((causal_within.f a0_1 (-3660) 3660).bind fun t105 => (some t105)) else (some false)) = some r := H
    have A3 := Aside0.mk A30
    clear A30
    by_cases c4 : t104 = true
    · subst c4
      have H1 : ((causal_within.f a0_1 (-3660) 3660).bind fun t105 => (some t105)) = some r := by rw [if_pos rfl] at H; exact H
      clear H
      have H := H1
      clear H1
      replace H := Option.bind_eq_some_iff.mp H
      obtain ⟨t105, A50, H⟩ := H
      replace H : (some t105) = some r := H
      have A5 := Aside0.mk A50
      clear A50
      obtain rfl := Option.some.inj H
      go_enter Tryz.func187, Tryz.ntmps187
      go_wp2_with (first | ((with_reducible refine gate_dst (N := 1) rfl ?_); refine box_event ?hg (N := 1) ?hd (cs := #[.int .i64 a0_0, .int .i64 a0_1, .string a0_2, .slice A0_3 l0_3.length c0_3]) (t := 24) ?hr ?_; (case hd => rfl); (case hg => rfl); (case hr => first | (go_simp; done) | (go_simp; rfl)); intro gb103 hg w6 hbox hb; have n0_ := Aside0.mk (below_step (by repeat (first | (with_reducible first | exact HB.out | apply below_alloc | apply pw_below_drewN | apply below_drew1) | exact HB.out)) hb); have n1_ := Aside0.mk (hbox); have n2_ := Aside0.mk ((by rw [hg]; exact (below_size (by repeat (first | (with_reducible first | exact HB.out | apply below_alloc | apply pw_below_drewN | apply below_drew1) | exact HB.out))) : w.heap.size ≤ gb103)); have n3_ := Aside0.mk ((by rw [hg]; exact (below_size (by repeat (first | (with_reducible first | exact HB.out | apply below_alloc | apply pw_below_drewN | apply below_drew1) | exact HB.out))) : w.heap.size ≤ gb103)); clear HB; have HB := n0_; have BK103 := n1_; have GW103 := n2_; have GE103 := n3_; clear n0_ n1_ n2_ n3_; clear hb hbox hg; have hcz7_0 : w6.cell? ⟨gb103, 0, none⟩ = some (.int .i64 a0_0) := (blk_cell BK103.out 0).trans rfl; have hcz7_1 : w6.cell? ⟨gb103, 1, none⟩ = some (.int .i64 a0_1) := (blk_cell BK103.out 1).trans rfl; have hcz7_2 : w6.cell? ⟨gb103, 2, none⟩ = some (.string a0_2) := (blk_cell BK103.out 2).trans rfl; have hcz7_3 : w6.cell? ⟨gb103, 3, none⟩ = some (.slice A0_3 l0_3.length c0_3) := (blk_cell BK103.out 3).trans rfl; have hfz7_0 := blk_frozen BK103.out 0; have hfz7_1 := blk_frozen BK103.out 1; have hfz7_2 := blk_frozen BK103.out 2; have hfz7_3 := blk_frozen BK103.out 3) | ((with_reducible refine gate_callee (f := 218) rfl ?_); refine goesL_ (some 9) rfl rfl Tryz.func218 (by kernel_rfl) rfl #[.string a0_2] rfl (by (try simp only [List.map_toArray, List.map_cons, List.map_nil]); first | done | rfl | (simp only [List.length_drop, List.length_take]; rfl)) ?_; (with_reducible refine (causal_isName.calls a0_2 true _ A3.out).mono ?_); rintro e w8 ⟨rfl, hb⟩; refine ⟨_, rfl, ?_⟩; have n0_ := Aside0.mk (blk_below (g := gb103) (o := .cells #[.int .i64 a0_0, .int .i64 a0_1, .string a0_2, .slice A0_3 l0_3.length c0_3] 24 (0, 0)) (by (with_reducible repeat (first | refine blk_drewN ?_ _ | refine blk_drew ?_ | refine blk_alloc ?_ _)); exact BK103.out) hb); have n1_ := Aside0.mk (below_step (by repeat (first | (with_reducible first | exact HB.out | apply below_alloc | apply pw_below_drewN | apply below_drew1 | refine below_set ?_ GE103.out) | exact HB.out)) hb); clear BK103; clear HB; have BK103 := n0_; have HB := n1_; clear n0_ n1_; (try clear hb); (try clear hb2); (try clear hk); (try clear hi); have hcz9_0 : w8.cell? ⟨gb103, 0, none⟩ = some (.int .i64 a0_0) := (blk_cell BK103.out 0).trans rfl; have hcz9_1 : w8.cell? ⟨gb103, 1, none⟩ = some (.int .i64 a0_1) := (blk_cell BK103.out 1).trans rfl; have hcz9_2 : w8.cell? ⟨gb103, 2, none⟩ = some (.string a0_2) := (blk_cell BK103.out 2).trans rfl; have hcz9_3 : w8.cell? ⟨gb103, 3, none⟩ = some (.slice A0_3 l0_3.length c0_3) := (blk_cell BK103.out 3).trans rfl; have hfz9_0 := blk_frozen BK103.out 0; have hfz9_1 := blk_frozen BK103.out 1; have hfz9_2 := blk_frozen BK103.out 2; have hfz9_3 := blk_frozen BK103.out 3) | (go_at_call 219; (with_reducible refine (causal_within.calls a0_1 (-3660) 3660 t105 _ A5.out).mono ?_); rintro e w' ⟨rfl, ⟨nd, rfl⟩⟩))
      go_ret
      exact ⟨by first | rfl | (simp [errW_none, errW_some] <;> rfl) | (simp [*, errW_none, errW_some] <;> rfl), by repeat (first | (with_reducible first | exact HB.out | apply below_alloc | apply pw_below_drewN | apply below_drew1 | refine below_set ?_ GE103.out) | exact HB.out)⟩
    · replace c4 := Bool.eq_false_iff.mpr c4
      subst c4
      have H1 : (some false) = some r := by rw [if_neg (show ¬ (false = true) by decide)] at H; exact H
      clear H
      have H := H1
      clear H1
      obtain rfl := Option.some.inj H
      go_enter Tryz.func187, Tryz.ntmps187
      go_wp2_with (first | ((with_reducible refine gate_dst (N := 1) rfl ?_); refine box_event ?hg (N := 1) ?hd (cs := #[.int .i64 a0_0, .int .i64 a0_1, .string a0_2, .slice A0_3 l0_3.length c0_3]) (t := 24) ?hr ?_; (case hd => rfl); (case hg => rfl); (case hr => first | (go_simp; done) | (go_simp; rfl)); intro gb103 hg w10 hbox hb; have n0_ := Aside0.mk (below_step (by repeat (first | (with_reducible first | exact HB.out | apply below_alloc | apply pw_below_drewN | apply below_drew1) | exact HB.out)) hb); have n1_ := Aside0.mk (hbox); have n2_ := Aside0.mk ((by rw [hg]; exact (below_size (by repeat (first | (with_reducible first | exact HB.out | apply below_alloc | apply pw_below_drewN | apply below_drew1) | exact HB.out))) : w.heap.size ≤ gb103)); have n3_ := Aside0.mk ((by rw [hg]; exact (below_size (by repeat (first | (with_reducible first | exact HB.out | apply below_alloc | apply pw_below_drewN | apply below_drew1) | exact HB.out))) : w.heap.size ≤ gb103)); clear HB; have HB := n0_; have BK103 := n1_; have GW103 := n2_; have GE103 := n3_; clear n0_ n1_ n2_ n3_; clear hb hbox hg; have hcz11_0 : w10.cell? ⟨gb103, 0, none⟩ = some (.int .i64 a0_0) := (blk_cell BK103.out 0).trans rfl; have hcz11_1 : w10.cell? ⟨gb103, 1, none⟩ = some (.int .i64 a0_1) := (blk_cell BK103.out 1).trans rfl; have hcz11_2 : w10.cell? ⟨gb103, 2, none⟩ = some (.string a0_2) := (blk_cell BK103.out 2).trans rfl; have hcz11_3 : w10.cell? ⟨gb103, 3, none⟩ = some (.slice A0_3 l0_3.length c0_3) := (blk_cell BK103.out 3).trans rfl; have hfz11_0 := blk_frozen BK103.out 0; have hfz11_1 := blk_frozen BK103.out 1; have hfz11_2 := blk_frozen BK103.out 2; have hfz11_3 := blk_frozen BK103.out 3) | ((with_reducible refine gate_callee (f := 218) rfl ?_); refine goesL_ (some 9) rfl rfl Tryz.func218 (by kernel_rfl) rfl #[.string a0_2] rfl (by (try simp only [List.map_toArray, List.map_cons, List.map_nil]); first | done | rfl | (simp only [List.length_drop, List.length_take]; rfl)) ?_; (with_reducible refine (causal_isName.calls a0_2 false _ A3.out).mono ?_); rintro e w12 ⟨rfl, hb⟩; refine ⟨_, rfl, ?_⟩; have n0_ := Aside0.mk (blk_below (g := gb103) (o := .cells #[.int .i64 a0_0, .int .i64 a0_1, .string a0_2, .slice A0_3 l0_3.length c0_3] 24 (0, 0)) (by (with_reducible repeat (first | refine blk_drewN ?_ _ | refine blk_drew ?_ | refine blk_alloc ?_ _)); exact BK103.out) hb); have n1_ := Aside0.mk (below_step (by repeat (first | (with_reducible first | exact HB.out | apply below_alloc | apply pw_below_drewN | apply below_drew1 | refine below_set ?_ GE103.out) | exact HB.out)) hb); clear BK103; clear HB; have BK103 := n0_; have HB := n1_; clear n0_ n1_; (try clear hb); (try clear hb2); (try clear hk); (try clear hi)))
      go_ret
      exact ⟨by first | rfl | (simp [errW_none, errW_some] <;> rfl) | (simp [*, errW_none, errW_some] <;> rfl), by repeat (first | (with_reducible first | exact HB.out | apply below_alloc | apply pw_below_drewN | apply below_drew1 | refine below_set ?_ GE103.out) | exact HB.out)⟩
  · rw [if_neg c2] at H
    have c2b0 : (a0_0 == 4) = false := beq_eq_false_iff_ne.mpr c2
    have c2b1 : (a0_0 != 4) = true := bne_iff_ne.mpr c2
    by_cases c13 : a0_0 = 31
    · rw [if_pos c13] at H
      have c13b0 : (a0_0 == 31) = true := beq_iff_eq.mpr c13
      have c13b1 : (a0_0 != 31) = false := bne_eq_false_iff_eq.mpr c13
      clear c13
      replace H := Option.bind_eq_some_iff.mp H
      obtain ⟨t106, A140, H⟩ := H
      replace H : (if t106 = true then ((causal_within.f a0_1 0 73048).bind fun t107 => (some t107)) else (some false)) = some r := H
      have A14 := Aside0.mk A140
      clear A140
      by_cases c15 : t106 = true
      · subst c15
        have H1 : ((causal_within.f a0_1 0 73048).bind fun t107 => (some t107)) = some r := by rw [if_pos rfl] at H; exact H
        clear H
        have H := H1
        clear H1
        replace H := Option.bind_eq_some_iff.mp H
        obtain ⟨t107, A160, H⟩ := H
        replace H : (some t107) = some r := H
        have A16 := Aside0.mk A160
        clear A160
        obtain rfl := Option.some.inj H
        go_enter Tryz.func187, Tryz.ntmps187
        go_wp2_with (first | ((with_reducible refine gate_dst (N := 1) rfl ?_); refine box_event ?hg (N := 1) ?hd (cs := #[.int .i64 a0_0, .int .i64 a0_1, .string a0_2, .slice A0_3 l0_3.length c0_3]) (t := 24) ?hr ?_; (case hd => rfl); (case hg => rfl); (case hr => first | (go_simp; done) | (go_simp; rfl)); intro gb103 hg w17 hbox hb; have n0_ := Aside0.mk (below_step (by repeat (first | (with_reducible first | exact HB.out | apply below_alloc | apply pw_below_drewN | apply below_drew1) | exact HB.out)) hb); have n1_ := Aside0.mk (hbox); have n2_ := Aside0.mk ((by rw [hg]; exact (below_size (by repeat (first | (with_reducible first | exact HB.out | apply below_alloc | apply pw_below_drewN | apply below_drew1) | exact HB.out))) : w.heap.size ≤ gb103)); have n3_ := Aside0.mk ((by rw [hg]; exact (below_size (by repeat (first | (with_reducible first | exact HB.out | apply below_alloc | apply pw_below_drewN | apply below_drew1) | exact HB.out))) : w.heap.size ≤ gb103)); clear HB; have HB := n0_; have BK103 := n1_; have GW103 := n2_; have GE103 := n3_; clear n0_ n1_ n2_ n3_; clear hb hbox hg; have hcz18_0 : w17.cell? ⟨gb103, 0, none⟩ = some (.int .i64 a0_0) := (blk_cell BK103.out 0).trans rfl; have hcz18_1 : w17.cell? ⟨gb103, 1, none⟩ = some (.int .i64 a0_1) := (blk_cell BK103.out 1).trans rfl; have hcz18_2 : w17.cell? ⟨gb103, 2, none⟩ = some (.string a0_2) := (blk_cell BK103.out 2).trans rfl; have hcz18_3 : w17.cell? ⟨gb103, 3, none⟩ = some (.slice A0_3 l0_3.length c0_3) := (blk_cell BK103.out 3).trans rfl; have hfz18_0 := blk_frozen BK103.out 0; have hfz18_1 := blk_frozen BK103.out 1; have hfz18_2 := blk_frozen BK103.out 2; have hfz18_3 := blk_frozen BK103.out 3) | ((with_reducible refine gate_callee (f := 218) rfl ?_); refine goesL_ (some 19) rfl rfl Tryz.func218 (by kernel_rfl) rfl #[.string a0_2] rfl (by (try simp only [List.map_toArray, List.map_cons, List.map_nil]); first | done | rfl | (simp only [List.length_drop, List.length_take]; rfl)) ?_; (with_reducible refine (causal_isName.calls a0_2 true _ A14.out).mono ?_); rintro e w19 ⟨rfl, hb⟩; refine ⟨_, rfl, ?_⟩; have n0_ := Aside0.mk (blk_below (g := gb103) (o := .cells #[.int .i64 a0_0, .int .i64 a0_1, .string a0_2, .slice A0_3 l0_3.length c0_3] 24 (0, 0)) (by (with_reducible repeat (first | refine blk_drewN ?_ _ | refine blk_drew ?_ | refine blk_alloc ?_ _)); exact BK103.out) hb); have n1_ := Aside0.mk (below_step (by repeat (first | (with_reducible first | exact HB.out | apply below_alloc | apply pw_below_drewN | apply below_drew1 | refine below_set ?_ GE103.out) | exact HB.out)) hb); clear BK103; clear HB; have BK103 := n0_; have HB := n1_; clear n0_ n1_; (try clear hb); (try clear hb2); (try clear hk); (try clear hi); have hcz20_0 : w19.cell? ⟨gb103, 0, none⟩ = some (.int .i64 a0_0) := (blk_cell BK103.out 0).trans rfl; have hcz20_1 : w19.cell? ⟨gb103, 1, none⟩ = some (.int .i64 a0_1) := (blk_cell BK103.out 1).trans rfl; have hcz20_2 : w19.cell? ⟨gb103, 2, none⟩ = some (.string a0_2) := (blk_cell BK103.out 2).trans rfl; have hcz20_3 : w19.cell? ⟨gb103, 3, none⟩ = some (.slice A0_3 l0_3.length c0_3) := (blk_cell BK103.out 3).trans rfl; have hfz20_0 := blk_frozen BK103.out 0; have hfz20_1 := blk_frozen BK103.out 1; have hfz20_2 := blk_frozen BK103.out 2; have hfz20_3 := blk_frozen BK103.out 3) | (go_at_call 219; (with_reducible refine (causal_within.calls a0_1 0 73048 t107 _ A16.out).mono ?_); rintro e w' ⟨rfl, ⟨nd, rfl⟩⟩))
        go_ret
        exact ⟨by first | rfl | (simp [errW_none, errW_some] <;> rfl) | (simp [*, errW_none, errW_some] <;> rfl), by repeat (first | (with_reducible first | exact HB.out | apply below_alloc | apply pw_below_drewN | apply below_drew1 | refine below_set ?_ GE103.out) | exact HB.out)⟩
      · replace c15 := Bool.eq_false_iff.mpr c15
        subst c15
        have H1 : (some false) = some r := by rw [if_neg (show ¬ (false = true) by decide)] at H; exact H
        clear H
        have H := H1
        clear H1
        obtain rfl := Option.some.inj H
        go_enter Tryz.func187, Tryz.ntmps187
        go_wp2_with (first | ((with_reducible refine gate_dst (N := 1) rfl ?_); refine box_event ?hg (N := 1) ?hd (cs := #[.int .i64 a0_0, .int .i64 a0_1, .string a0_2, .slice A0_3 l0_3.length c0_3]) (t := 24) ?hr ?_; (case hd => rfl); (case hg => rfl); (case hr => first | (go_simp; done) | (go_simp; rfl)); intro gb103 hg w21 hbox hb; have n0_ := Aside0.mk (below_step (by repeat (first | (with_reducible first | exact HB.out | apply below_alloc | apply pw_below_drewN | apply below_drew1) | exact HB.out)) hb); have n1_ := Aside0.mk (hbox); have n2_ := Aside0.mk ((by rw [hg]; exact (below_size (by repeat (first | (with_reducible first | exact HB.out | apply below_alloc | apply pw_below_drewN | apply below_drew1) | exact HB.out))) : w.heap.size ≤ gb103)); have n3_ := Aside0.mk ((by rw [hg]; exact (below_size (by repeat (first | (with_reducible first | exact HB.out | apply below_alloc | apply pw_below_drewN | apply below_drew1) | exact HB.out))) : w.heap.size ≤ gb103)); clear HB; have HB := n0_; have BK103 := n1_; have GW103 := n2_; have GE103 := n3_; clear n0_ n1_ n2_ n3_; clear hb hbox hg; have hcz22_0 : w21.cell? ⟨gb103, 0, none⟩ = some (.int .i64 a0_0) := (blk_cell BK103.out 0).trans rfl; have hcz22_1 : w21.cell? ⟨gb103, 1, none⟩ = some (.int .i64 a0_1) := (blk_cell BK103.out 1).trans rfl; have hcz22_2 : w21.cell? ⟨gb103, 2, none⟩ = some (.string a0_2) := (blk_cell BK103.out 2).trans rfl; have hcz22_3 : w21.cell? ⟨gb103, 3, none⟩ = some (.slice A0_3 l0_3.length c0_3) := (blk_cell BK103.out 3).trans rfl; have hfz22_0 := blk_frozen BK103.out 0; have hfz22_1 := blk_frozen BK103.out 1; have hfz22_2 := blk_frozen BK103.out 2; have hfz22_3 := blk_frozen BK103.out 3) | ((with_reducible refine gate_callee (f := 218) rfl ?_); refine goesL_ (some 19) rfl rfl Tryz.func218 (by kernel_rfl) rfl #[.string a0_2] rfl (by (try simp only [List.map_toArray, List.map_cons, List.map_nil]); first | done | rfl | (simp only [List.length_drop, List.length_take]; rfl)) ?_; (with_reducible refine (causal_isName.calls a0_2 false _ A14.out).mono ?_); rintro e w23 ⟨rfl, hb⟩; refine ⟨_, rfl, ?_⟩; have n0_ := Aside0.mk (blk_below (g := gb103) (o := .cells #[.int .i64 a0_0, .int .i64 a0_1, .string a0_2, .slice A0_3 l0_3.length c0_3] 24 (0, 0)) (by (with_reducible repeat (first | refine blk_drewN ?_ _ | refine blk_drew ?_ | refine blk_alloc ?_ _)); exact BK103.out) hb); have n1_ := Aside0.mk (below_step (by repeat (first | (with_reducible first | exact HB.out | apply below_alloc | apply pw_below_drewN | apply below_drew1 | refine below_set ?_ GE103.out) | exact HB.out)) hb); clear BK103; clear HB; have BK103 := n0_; have HB := n1_; clear n0_ n1_; (try clear hb); (try clear hb2); (try clear hk); (try clear hi)))
        go_ret
        exact ⟨by first | rfl | (simp [errW_none, errW_some] <;> rfl) | (simp [*, errW_none, errW_some] <;> rfl), by repeat (first | (with_reducible first | exact HB.out | apply below_alloc | apply pw_below_drewN | apply below_drew1 | refine below_set ?_ GE103.out) | exact HB.out)⟩
    · rw [if_neg c13] at H
      have c13b0 : (a0_0 == 31) = false := beq_eq_false_iff_ne.mpr c13
      have c13b1 : (a0_0 != 31) = true := bne_iff_ne.mpr c13
      by_cases c24 : a0_0 = 24
      · rw [if_pos c24] at H
        have c24b0 : (a0_0 == 24) = true := beq_iff_eq.mpr c24
        have c24b1 : (a0_0 != 24) = false := bne_eq_false_iff_eq.mpr c24
        clear c24
        replace H := Option.bind_eq_some_iff.mp H
        obtain ⟨t108, A250, H⟩ := H
        replace H : (if t108 = true then (some (a0_1 == 0)) else (some false)) = some r := H
        have A25 := Aside0.mk A250
        clear A250
        by_cases c26 : t108 = true
        · subst c26
          have H1 : (some (a0_1 == 0)) = some r := by rw [if_pos rfl] at H; exact H
          clear H
          have H := H1
          clear H1
          obtain rfl := Option.some.inj H
          go_enter Tryz.func187, Tryz.ntmps187
          go_wp2_with (first | ((with_reducible refine gate_dst (N := 1) rfl ?_); refine box_event ?hg (N := 1) ?hd (cs := #[.int .i64 a0_0, .int .i64 a0_1, .string a0_2, .slice A0_3 l0_3.length c0_3]) (t := 24) ?hr ?_; (case hd => rfl); (case hg => rfl); (case hr => first | (go_simp; done) | (go_simp; rfl)); intro gb103 hg w27 hbox hb; have n0_ := Aside0.mk (below_step (by repeat (first | (with_reducible first | exact HB.out | apply below_alloc | apply pw_below_drewN | apply below_drew1) | exact HB.out)) hb); have n1_ := Aside0.mk (hbox); have n2_ := Aside0.mk ((by rw [hg]; exact (below_size (by repeat (first | (with_reducible first | exact HB.out | apply below_alloc | apply pw_below_drewN | apply below_drew1) | exact HB.out))) : w.heap.size ≤ gb103)); have n3_ := Aside0.mk ((by rw [hg]; exact (below_size (by repeat (first | (with_reducible first | exact HB.out | apply below_alloc | apply pw_below_drewN | apply below_drew1) | exact HB.out))) : w.heap.size ≤ gb103)); clear HB; have HB := n0_; have BK103 := n1_; have GW103 := n2_; have GE103 := n3_; clear n0_ n1_ n2_ n3_; clear hb hbox hg; have hcz28_0 : w27.cell? ⟨gb103, 0, none⟩ = some (.int .i64 a0_0) := (blk_cell BK103.out 0).trans rfl; have hcz28_1 : w27.cell? ⟨gb103, 1, none⟩ = some (.int .i64 a0_1) := (blk_cell BK103.out 1).trans rfl; have hcz28_2 : w27.cell? ⟨gb103, 2, none⟩ = some (.string a0_2) := (blk_cell BK103.out 2).trans rfl; have hcz28_3 : w27.cell? ⟨gb103, 3, none⟩ = some (.slice A0_3 l0_3.length c0_3) := (blk_cell BK103.out 3).trans rfl; have hfz28_0 := blk_frozen BK103.out 0; have hfz28_1 := blk_frozen BK103.out 1; have hfz28_2 := blk_frozen BK103.out 2; have hfz28_3 := blk_frozen BK103.out 3) | ((with_reducible refine gate_callee (f := 220) rfl ?_); refine goesL_ (some 29) rfl rfl Tryz.func220 (by kernel_rfl) rfl #[.string a0_2] rfl (by (try simp only [List.map_toArray, List.map_cons, List.map_nil]); first | done | rfl | (simp only [List.length_drop, List.length_take]; rfl)) ?_; (with_reducible refine (causal_isCur.calls a0_2 true _ A25.out).mono ?_); rintro e w29 ⟨rfl, hb⟩; refine ⟨_, rfl, ?_⟩; have n0_ := Aside0.mk (blk_below (g := gb103) (o := .cells #[.int .i64 a0_0, .int .i64 a0_1, .string a0_2, .slice A0_3 l0_3.length c0_3] 24 (0, 0)) (by (with_reducible repeat (first | refine blk_drewN ?_ _ | refine blk_drew ?_ | refine blk_alloc ?_ _)); exact BK103.out) hb); have n1_ := Aside0.mk (below_step (by repeat (first | (with_reducible first | exact HB.out | apply below_alloc | apply pw_below_drewN | apply below_drew1 | refine below_set ?_ GE103.out) | exact HB.out)) hb); clear BK103; clear HB; have BK103 := n0_; have HB := n1_; clear n0_ n1_; (try clear hb); (try clear hb2); (try clear hk); (try clear hi); have hcz30_0 : w29.cell? ⟨gb103, 0, none⟩ = some (.int .i64 a0_0) := (blk_cell BK103.out 0).trans rfl; have hcz30_1 : w29.cell? ⟨gb103, 1, none⟩ = some (.int .i64 a0_1) := (blk_cell BK103.out 1).trans rfl; have hcz30_2 : w29.cell? ⟨gb103, 2, none⟩ = some (.string a0_2) := (blk_cell BK103.out 2).trans rfl; have hcz30_3 : w29.cell? ⟨gb103, 3, none⟩ = some (.slice A0_3 l0_3.length c0_3) := (blk_cell BK103.out 3).trans rfl; have hfz30_0 := blk_frozen BK103.out 0; have hfz30_1 := blk_frozen BK103.out 1; have hfz30_2 := blk_frozen BK103.out 2; have hfz30_3 := blk_frozen BK103.out 3))
          go_ret
          exact ⟨by first | rfl | (simp [errW_none, errW_some] <;> rfl) | (simp [*, errW_none, errW_some] <;> rfl), by repeat (first | (with_reducible first | exact HB.out | apply below_alloc | apply pw_below_drewN | apply below_drew1 | refine below_set ?_ GE103.out) | exact HB.out)⟩
        · replace c26 := Bool.eq_false_iff.mpr c26
          subst c26
          have H1 : (some false) = some r := by rw [if_neg (show ¬ (false = true) by decide)] at H; exact H
          clear H
          have H := H1
          clear H1
          obtain rfl := Option.some.inj H
          go_enter Tryz.func187, Tryz.ntmps187
          go_wp2_with (first | ((with_reducible refine gate_dst (N := 1) rfl ?_); refine box_event ?hg (N := 1) ?hd (cs := #[.int .i64 a0_0, .int .i64 a0_1, .string a0_2, .slice A0_3 l0_3.length c0_3]) (t := 24) ?hr ?_; (case hd => rfl); (case hg => rfl); (case hr => first | (go_simp; done) | (go_simp; rfl)); intro gb103 hg w31 hbox hb; have n0_ := Aside0.mk (below_step (by repeat (first | (with_reducible first | exact HB.out | apply below_alloc | apply pw_below_drewN | apply below_drew1) | exact HB.out)) hb); have n1_ := Aside0.mk (hbox); have n2_ := Aside0.mk ((by rw [hg]; exact (below_size (by repeat (first | (with_reducible first | exact HB.out | apply below_alloc | apply pw_below_drewN | apply below_drew1) | exact HB.out))) : w.heap.size ≤ gb103)); have n3_ := Aside0.mk ((by rw [hg]; exact (below_size (by repeat (first | (with_reducible first | exact HB.out | apply below_alloc | apply pw_below_drewN | apply below_drew1) | exact HB.out))) : w.heap.size ≤ gb103)); clear HB; have HB := n0_; have BK103 := n1_; have GW103 := n2_; have GE103 := n3_; clear n0_ n1_ n2_ n3_; clear hb hbox hg; have hcz32_0 : w31.cell? ⟨gb103, 0, none⟩ = some (.int .i64 a0_0) := (blk_cell BK103.out 0).trans rfl; have hcz32_1 : w31.cell? ⟨gb103, 1, none⟩ = some (.int .i64 a0_1) := (blk_cell BK103.out 1).trans rfl; have hcz32_2 : w31.cell? ⟨gb103, 2, none⟩ = some (.string a0_2) := (blk_cell BK103.out 2).trans rfl; have hcz32_3 : w31.cell? ⟨gb103, 3, none⟩ = some (.slice A0_3 l0_3.length c0_3) := (blk_cell BK103.out 3).trans rfl; have hfz32_0 := blk_frozen BK103.out 0; have hfz32_1 := blk_frozen BK103.out 1; have hfz32_2 := blk_frozen BK103.out 2; have hfz32_3 := blk_frozen BK103.out 3) | ((with_reducible refine gate_callee (f := 220) rfl ?_); refine goesL_ (some 29) rfl rfl Tryz.func220 (by kernel_rfl) rfl #[.string a0_2] rfl (by (try simp only [List.map_toArray, List.map_cons, List.map_nil]); first | done | rfl | (simp only [List.length_drop, List.length_take]; rfl)) ?_; (with_reducible refine (causal_isCur.calls a0_2 false _ A25.out).mono ?_); rintro e w33 ⟨rfl, hb⟩; refine ⟨_, rfl, ?_⟩; have n0_ := Aside0.mk (blk_below (g := gb103) (o := .cells #[.int .i64 a0_0, .int .i64 a0_1, .string a0_2, .slice A0_3 l0_3.length c0_3] 24 (0, 0)) (by (with_reducible repeat (first | refine blk_drewN ?_ _ | refine blk_drew ?_ | refine blk_alloc ?_ _)); exact BK103.out) hb); have n1_ := Aside0.mk (below_step (by repeat (first | (with_reducible first | exact HB.out | apply below_alloc | apply pw_below_drewN | apply below_drew1 | refine below_set ?_ GE103.out) | exact HB.out)) hb); clear BK103; clear HB; have BK103 := n0_; have HB := n1_; clear n0_ n1_; (try clear hb); (try clear hb2); (try clear hk); (try clear hi)))
          go_ret
          exact ⟨by first | rfl | (simp [errW_none, errW_some] <;> rfl) | (simp [*, errW_none, errW_some] <;> rfl), by repeat (first | (with_reducible first | exact HB.out | apply below_alloc | apply pw_below_drewN | apply below_drew1 | refine below_set ?_ GE103.out) | exact HB.out)⟩
      · rw [if_neg c24] at H
        have c24b0 : (a0_0 == 24) = false := beq_eq_false_iff_ne.mpr c24
        have c24b1 : (a0_0 != 24) = true := bne_iff_ne.mpr c24
        by_cases c34 : a0_0 = 1
        · rw [if_pos c34] at H
          have c34b0 : (a0_0 == 1) = true := beq_iff_eq.mpr c34
          have c34b1 : (a0_0 != 1) = false := bne_eq_false_iff_eq.mpr c34
          clear c34
          by_cases c35 : a0_2.toList = ([] : List UInt8)
          · rw [if_pos c35] at H
            have c35b0 : (a0_2.toList == ([] : List UInt8)) = true := beq_iff_eq.mpr c35
            have c35b1 : (a0_2.toList != ([] : List UInt8)) = false := bne_eq_false_iff_eq.mpr c35
            clear c35
            replace H := Option.bind_eq_some_iff.mp H
            obtain ⟨t109, A360, H⟩ := H
            replace H : (some t109) = some r := H
            have A36 := Aside0.mk A360
            clear A360
            obtain rfl := Option.some.inj H
            go_enter Tryz.func187, Tryz.ntmps187
            go_wp2_with (first | ((with_reducible refine gate_dst (N := 1) rfl ?_); refine box_event ?hg (N := 1) ?hd (cs := #[.int .i64 a0_0, .int .i64 a0_1, .string a0_2, .slice A0_3 l0_3.length c0_3]) (t := 24) ?hr ?_; (case hd => rfl); (case hg => rfl); (case hr => first | (go_simp; done) | (go_simp; rfl)); intro gb103 hg w37 hbox hb; have n0_ := Aside0.mk (below_step (by repeat (first | (with_reducible first | exact HB.out | apply below_alloc | apply pw_below_drewN | apply below_drew1) | exact HB.out)) hb); have n1_ := Aside0.mk (hbox); have n2_ := Aside0.mk ((by rw [hg]; exact (below_size (by repeat (first | (with_reducible first | exact HB.out | apply below_alloc | apply pw_below_drewN | apply below_drew1) | exact HB.out))) : w.heap.size ≤ gb103)); have n3_ := Aside0.mk ((by rw [hg]; exact (below_size (by repeat (first | (with_reducible first | exact HB.out | apply below_alloc | apply pw_below_drewN | apply below_drew1) | exact HB.out))) : w.heap.size ≤ gb103)); clear HB; have HB := n0_; have BK103 := n1_; have GW103 := n2_; have GE103 := n3_; clear n0_ n1_ n2_ n3_; clear hb hbox hg; have hcz38_0 : w37.cell? ⟨gb103, 0, none⟩ = some (.int .i64 a0_0) := (blk_cell BK103.out 0).trans rfl; have hcz38_1 : w37.cell? ⟨gb103, 1, none⟩ = some (.int .i64 a0_1) := (blk_cell BK103.out 1).trans rfl; have hcz38_2 : w37.cell? ⟨gb103, 2, none⟩ = some (.string a0_2) := (blk_cell BK103.out 2).trans rfl; have hcz38_3 : w37.cell? ⟨gb103, 3, none⟩ = some (.slice A0_3 l0_3.length c0_3) := (blk_cell BK103.out 3).trans rfl; have hfz38_0 := blk_frozen BK103.out 0; have hfz38_1 := blk_frozen BK103.out 1; have hfz38_2 := blk_frozen BK103.out 2; have hfz38_3 := blk_frozen BK103.out 3) | (go_at_call 219; (with_reducible refine (causal_within.calls a0_1 (-1000000000000000) 1000000000000000 t109 _ A36.out).mono ?_); rintro e w' ⟨rfl, ⟨nd, rfl⟩⟩))
            go_ret
            exact ⟨by first | rfl | (simp [errW_none, errW_some] <;> rfl) | (simp [*, errW_none, errW_some] <;> rfl), by repeat (first | (with_reducible first | exact HB.out | apply below_alloc | apply pw_below_drewN | apply below_drew1 | refine below_set ?_ GE103.out) | exact HB.out)⟩
          · rw [if_neg c35] at H
            have c35b0 : (a0_2.toList == ([] : List UInt8)) = false := beq_eq_false_iff_ne.mpr c35
            have c35b1 : (a0_2.toList != ([] : List UInt8)) = true := bne_iff_ne.mpr c35
            obtain rfl := Option.some.inj H
            go_enter Tryz.func187, Tryz.ntmps187
            go_wp2_with (first | ((with_reducible refine gate_dst (N := 1) rfl ?_); refine box_event ?hg (N := 1) ?hd (cs := #[.int .i64 a0_0, .int .i64 a0_1, .string a0_2, .slice A0_3 l0_3.length c0_3]) (t := 24) ?hr ?_; (case hd => rfl); (case hg => rfl); (case hr => first | (go_simp; done) | (go_simp; rfl)); intro gb103 hg w39 hbox hb; have n0_ := Aside0.mk (below_step (by repeat (first | (with_reducible first | exact HB.out | apply below_alloc | apply pw_below_drewN | apply below_drew1) | exact HB.out)) hb); have n1_ := Aside0.mk (hbox); have n2_ := Aside0.mk ((by rw [hg]; exact (below_size (by repeat (first | (with_reducible first | exact HB.out | apply below_alloc | apply pw_below_drewN | apply below_drew1) | exact HB.out))) : w.heap.size ≤ gb103)); have n3_ := Aside0.mk ((by rw [hg]; exact (below_size (by repeat (first | (with_reducible first | exact HB.out | apply below_alloc | apply pw_below_drewN | apply below_drew1) | exact HB.out))) : w.heap.size ≤ gb103)); clear HB; have HB := n0_; have BK103 := n1_; have GW103 := n2_; have GE103 := n3_; clear n0_ n1_ n2_ n3_; clear hb hbox hg; have hcz40_0 : w39.cell? ⟨gb103, 0, none⟩ = some (.int .i64 a0_0) := (blk_cell BK103.out 0).trans rfl; have hcz40_1 : w39.cell? ⟨gb103, 1, none⟩ = some (.int .i64 a0_1) := (blk_cell BK103.out 1).trans rfl; have hcz40_2 : w39.cell? ⟨gb103, 2, none⟩ = some (.string a0_2) := (blk_cell BK103.out 2).trans rfl; have hcz40_3 : w39.cell? ⟨gb103, 3, none⟩ = some (.slice A0_3 l0_3.length c0_3) := (blk_cell BK103.out 3).trans rfl; have hfz40_0 := blk_frozen BK103.out 0; have hfz40_1 := blk_frozen BK103.out 1; have hfz40_2 := blk_frozen BK103.out 2; have hfz40_3 := blk_frozen BK103.out 3))
            go_ret
            exact ⟨by first | rfl | (simp [errW_none, errW_some] <;> rfl) | (simp [*, errW_none, errW_some] <;> rfl), by repeat (first | (with_reducible first | exact HB.out | apply below_alloc | apply pw_below_drewN | apply below_drew1 | refine below_set ?_ GE103.out) | exact HB.out)⟩
        · rw [if_neg c34] at H
          have c34b0 : (a0_0 == 1) = false := beq_eq_false_iff_ne.mpr c34
          have c34b1 : (a0_0 != 1) = true := bne_iff_ne.mpr c34
          by_cases c41 : a0_0 = 2
          · rw [if_pos c41] at H
            have c41b0 : (a0_0 == 2) = true := beq_iff_eq.mpr c41
            have c41b1 : (a0_0 != 2) = false := bne_eq_false_iff_eq.mpr c41
            clear c41
            by_cases c42 : a0_2.toList = ([] : List UInt8)
            · rw [if_pos c42] at H
              have c42b0 : (a0_2.toList == ([] : List UInt8)) = true := beq_iff_eq.mpr c42
              have c42b1 : (a0_2.toList != ([] : List UInt8)) = false := bne_eq_false_iff_eq.mpr c42
              clear c42
              replace H := Option.bind_eq_some_iff.mp H
              obtain ⟨t110, A430, H⟩ := H
              replace H : (some t110) = some r := H
              have A43 := Aside0.mk A430
              clear A430
              obtain rfl := Option.some.inj H
              go_enter Tryz.func187, Tryz.ntmps187
              go_wp2_with (first | ((with_reducible refine gate_dst (N := 1) rfl ?_); refine box_event ?hg (N := 1) ?hd (cs := #[.int .i64 a0_0, .int .i64 a0_1, .string a0_2, .slice A0_3 l0_3.length c0_3]) (t := 24) ?hr ?_; (case hd => rfl); (case hg => rfl); (case hr => first | (go_simp; done) | (go_simp; rfl)); intro gb103 hg w44 hbox hb; have n0_ := Aside0.mk (below_step (by repeat (first | (with_reducible first | exact HB.out | apply below_alloc | apply pw_below_drewN | apply below_drew1) | exact HB.out)) hb); have n1_ := Aside0.mk (hbox); have n2_ := Aside0.mk ((by rw [hg]; exact (below_size (by repeat (first | (with_reducible first | exact HB.out | apply below_alloc | apply pw_below_drewN | apply below_drew1) | exact HB.out))) : w.heap.size ≤ gb103)); have n3_ := Aside0.mk ((by rw [hg]; exact (below_size (by repeat (first | (with_reducible first | exact HB.out | apply below_alloc | apply pw_below_drewN | apply below_drew1) | exact HB.out))) : w.heap.size ≤ gb103)); clear HB; have HB := n0_; have BK103 := n1_; have GW103 := n2_; have GE103 := n3_; clear n0_ n1_ n2_ n3_; clear hb hbox hg; have hcz45_0 : w44.cell? ⟨gb103, 0, none⟩ = some (.int .i64 a0_0) := (blk_cell BK103.out 0).trans rfl; have hcz45_1 : w44.cell? ⟨gb103, 1, none⟩ = some (.int .i64 a0_1) := (blk_cell BK103.out 1).trans rfl; have hcz45_2 : w44.cell? ⟨gb103, 2, none⟩ = some (.string a0_2) := (blk_cell BK103.out 2).trans rfl; have hcz45_3 : w44.cell? ⟨gb103, 3, none⟩ = some (.slice A0_3 l0_3.length c0_3) := (blk_cell BK103.out 3).trans rfl; have hfz45_0 := blk_frozen BK103.out 0; have hfz45_1 := blk_frozen BK103.out 1; have hfz45_2 := blk_frozen BK103.out 2; have hfz45_3 := blk_frozen BK103.out 3) | (go_at_call 219; (with_reducible refine (causal_within.calls a0_1 0 1 t110 _ A43.out).mono ?_); rintro e w' ⟨rfl, ⟨nd, rfl⟩⟩))
              go_ret
              exact ⟨by first | rfl | (simp [errW_none, errW_some] <;> rfl) | (simp [*, errW_none, errW_some] <;> rfl), by repeat (first | (with_reducible first | exact HB.out | apply below_alloc | apply pw_below_drewN | apply below_drew1 | refine below_set ?_ GE103.out) | exact HB.out)⟩
            · rw [if_neg c42] at H
              have c42b0 : (a0_2.toList == ([] : List UInt8)) = false := beq_eq_false_iff_ne.mpr c42
              have c42b1 : (a0_2.toList != ([] : List UInt8)) = true := bne_iff_ne.mpr c42
              obtain rfl := Option.some.inj H
              go_enter Tryz.func187, Tryz.ntmps187
              go_wp2_with (first | ((with_reducible refine gate_dst (N := 1) rfl ?_); refine box_event ?hg (N := 1) ?hd (cs := #[.int .i64 a0_0, .int .i64 a0_1, .string a0_2, .slice A0_3 l0_3.length c0_3]) (t := 24) ?hr ?_; (case hd => rfl); (case hg => rfl); (case hr => first | (go_simp; done) | (go_simp; rfl)); intro gb103 hg w46 hbox hb; have n0_ := Aside0.mk (below_step (by repeat (first | (with_reducible first | exact HB.out | apply below_alloc | apply pw_below_drewN | apply below_drew1) | exact HB.out)) hb); have n1_ := Aside0.mk (hbox); have n2_ := Aside0.mk ((by rw [hg]; exact (below_size (by repeat (first | (with_reducible first | exact HB.out | apply below_alloc | apply pw_below_drewN | apply below_drew1) | exact HB.out))) : w.heap.size ≤ gb103)); have n3_ := Aside0.mk ((by rw [hg]; exact (below_size (by repeat (first | (with_reducible first | exact HB.out | apply below_alloc | apply pw_below_drewN | apply below_drew1) | exact HB.out))) : w.heap.size ≤ gb103)); clear HB; have HB := n0_; have BK103 := n1_; have GW103 := n2_; have GE103 := n3_; clear n0_ n1_ n2_ n3_; clear hb hbox hg; have hcz47_0 : w46.cell? ⟨gb103, 0, none⟩ = some (.int .i64 a0_0) := (blk_cell BK103.out 0).trans rfl; have hcz47_1 : w46.cell? ⟨gb103, 1, none⟩ = some (.int .i64 a0_1) := (blk_cell BK103.out 1).trans rfl; have hcz47_2 : w46.cell? ⟨gb103, 2, none⟩ = some (.string a0_2) := (blk_cell BK103.out 2).trans rfl; have hcz47_3 : w46.cell? ⟨gb103, 3, none⟩ = some (.slice A0_3 l0_3.length c0_3) := (blk_cell BK103.out 3).trans rfl; have hfz47_0 := blk_frozen BK103.out 0; have hfz47_1 := blk_frozen BK103.out 1; have hfz47_2 := blk_frozen BK103.out 2; have hfz47_3 := blk_frozen BK103.out 3))
              go_ret
              exact ⟨by first | rfl | (simp [errW_none, errW_some] <;> rfl) | (simp [*, errW_none, errW_some] <;> rfl), by repeat (first | (with_reducible first | exact HB.out | apply below_alloc | apply pw_below_drewN | apply below_drew1 | refine below_set ?_ GE103.out) | exact HB.out)⟩
          · rw [if_neg c41] at H
            have c41b0 : (a0_0 == 2) = false := beq_eq_false_iff_ne.mpr c41
            have c41b1 : (a0_0 != 2) = true := bne_iff_ne.mpr c41
            have HC48 := Aside0.mk H
            clear H
            go_enter Tryz.func187, Tryz.ntmps187
            go_upto_if 55 with (first | ((with_reducible refine gate_dst (N := 1) rfl ?_); refine box_event ?hg (N := 1) ?hd (cs := #[.int .i64 a0_0, .int .i64 a0_1, .string a0_2, .slice A0_3 l0_3.length c0_3]) (t := 24) ?hr ?_; (case hd => rfl); (case hg => rfl); (case hr => first | (go_simp; done) | (go_simp; rfl)); intro gb103 hg w49 hbox hb; have n0_ := Aside0.mk (below_step (by repeat (first | (with_reducible first | exact HB.out | apply below_alloc | apply pw_below_drewN | apply below_drew1) | exact HB.out)) hb); have n1_ := Aside0.mk (hbox); have n2_ := Aside0.mk ((by rw [hg]; exact (below_size (by repeat (first | (with_reducible first | exact HB.out | apply below_alloc | apply pw_below_drewN | apply below_drew1) | exact HB.out))) : w.heap.size ≤ gb103)); have n3_ := Aside0.mk ((by rw [hg]; exact (below_size (by repeat (first | (with_reducible first | exact HB.out | apply below_alloc | apply pw_below_drewN | apply below_drew1) | exact HB.out))) : w.heap.size ≤ gb103)); clear HB; have HB := n0_; have BK103 := n1_; have GW103 := n2_; have GE103 := n3_; clear n0_ n1_ n2_ n3_; clear hb hbox hg; have hcz50_0 : w49.cell? ⟨gb103, 0, none⟩ = some (.int .i64 a0_0) := (blk_cell BK103.out 0).trans rfl; have hcz50_1 : w49.cell? ⟨gb103, 1, none⟩ = some (.int .i64 a0_1) := (blk_cell BK103.out 1).trans rfl; have hcz50_2 : w49.cell? ⟨gb103, 2, none⟩ = some (.string a0_2) := (blk_cell BK103.out 2).trans rfl; have hcz50_3 : w49.cell? ⟨gb103, 3, none⟩ = some (.slice A0_3 l0_3.length c0_3) := (blk_cell BK103.out 3).trans rfl; have hfz50_0 := blk_frozen BK103.out 0; have hfz50_1 := blk_frozen BK103.out 1; have hfz50_2 := blk_frozen BK103.out 2; have hfz50_3 := blk_frozen BK103.out 3))
            (try simp only [Act.put, List.setIfInBounds_toArray, List.set_cons_zero, List.set_cons_succ])
            go_cut [55] (fun v55 wc => ∃ (kq : Nat) (x55_47 : Bool), v55 = .bool x55_47 ∧ Aside0 (causal_fields.j0 kq a0_0 x55_47 a0_0 a0_1 a0_2 l0_3 = some r) ∧ Aside0 (kq ≤ k) ∧ Aside0 (wc.heap[gb103]? = some (.cells #[.int .i64 a0_0, .int .i64 a0_1, .string a0_2, (.slice A0_3 l0_3.length c0_3)] 24 (0, 0))) ∧ Aside0 (Below w.heap.size w wc))
            case first =>
              have H := HC48.out
              clear HC48
              by_cases c51 : a0_0 = 3
              · rw [if_pos c51] at H
                have c51b0 : (a0_0 == 3) = true := beq_iff_eq.mpr c51
                have c51b1 : (a0_0 != 3) = false := bne_eq_false_iff_eq.mpr c51
                clear c51
                (first | rw [c51b0] | (simp only [i64_w, i32_w]; rw [c51b0]) | skip)
                have H' := Aside0.mk H
                clear H
                go_wp2
                go_meet
                case rel => exact ⟨_, ((a0_0 == 3)), (by first | rfl | (simp; done) | (simp [*]; done)), H', ⟨by first | omega | exact Nat.le_refl _⟩, ⟨by (with_reducible repeat (first | refine blk_drewN ?_ _ | refine blk_drew ?_ | refine blk_alloc ?_ _)); exact BK103.out⟩, ⟨by repeat (first | (with_reducible first | exact HB.out | apply below_alloc | apply pw_below_drewN | apply below_drew1 | refine below_set ?_ GE103.out) | exact HB.out)⟩⟩
              · rw [if_neg c51] at H
                have c51b0 : (a0_0 == 3) = false := beq_eq_false_iff_ne.mpr c51
                have c51b1 : (a0_0 != 3) = true := bne_iff_ne.mpr c51
                (first | rw [c51b0] | (simp only [i64_w, i32_w]; rw [c51b0]) | skip)
                by_cases c52 : a0_0 = 29
                · rw [if_pos c52] at H
                  have c52b0 : (a0_0 == 29) = true := beq_iff_eq.mpr c52
                  have c52b1 : (a0_0 != 29) = false := bne_eq_false_iff_eq.mpr c52
                  clear c52
                  have H' := Aside0.mk H
                  clear H
                  go_wp2
                  go_meet
                  case rel => exact ⟨_, ((a0_0 == 29)), (by first | rfl | (simp; done) | (simp [*]; done)), H', ⟨by first | omega | exact Nat.le_refl _⟩, ⟨by (with_reducible repeat (first | refine blk_drewN ?_ _ | refine blk_drew ?_ | refine blk_alloc ?_ _)); exact BK103.out⟩, ⟨by repeat (first | (with_reducible first | exact HB.out | apply below_alloc | apply pw_below_drewN | apply below_drew1 | refine below_set ?_ GE103.out) | exact HB.out)⟩⟩
                · rw [if_neg c52] at H
                  have c52b0 : (a0_0 == 29) = false := beq_eq_false_iff_ne.mpr c52
                  have c52b1 : (a0_0 != 29) = true := bne_iff_ne.mpr c52
                  have H' := Aside0.mk H
                  clear H
                  go_wp2
                  go_meet
                  case rel => exact ⟨_, ((a0_0 == 30)), (by first | rfl | (simp; done) | (simp [*]; done)), H', ⟨by first | omega | exact Nat.le_refl _⟩, ⟨by (with_reducible repeat (first | refine blk_drewN ?_ _ | refine blk_drew ?_ | refine blk_alloc ?_ _)); exact BK103.out⟩, ⟨by repeat (first | (with_reducible first | exact HB.out | apply below_alloc | apply pw_below_drewN | apply below_drew1 | refine below_set ?_ GE103.out) | exact HB.out)⟩⟩
            case rest =>
              clear HC48
              try clear c1
              try clear c2
              try clear c2b0
              try clear c2b1
              try clear p2
              try clear c3
              try clear c4
              try clear c5
              try clear c13
              try clear c13b0
              try clear c13b1
              try clear c15
              try clear c18
              try clear c21
              try clear c22
              try clear c24
              try clear c24b0
              try clear c24b1
              try clear c26
              try clear c34
              try clear c34b0
              try clear c34b1
              try clear c35
              try clear c35b0
              try clear c35b1
              try clear c41
              try clear c41b0
              try clear c41b1
              try clear c42
              try clear c42b0
              try clear c42b1
              try clear c51
              try clear c51b0
              try clear c51b1
              try clear c52
              try clear c52b0
              try clear c52b1
              try clear hcz11_0
              try clear hcz11_1
              try clear hcz11_2
              try clear hcz11_3
              try clear hcz18_0
              try clear hcz18_1
              try clear hcz18_2
              try clear hcz18_3
              try clear hcz20_0
              try clear hcz20_1
              try clear hcz20_2
              try clear hcz20_3
              try clear hcz22_0
              try clear hcz22_1
              try clear hcz22_2
              try clear hcz22_3
              try clear hcz28_0
              try clear hcz28_1
              try clear hcz28_2
              try clear hcz28_3
              try clear hcz30_0
              try clear hcz30_1
              try clear hcz30_2
              try clear hcz30_3
              try clear hcz32_0
              try clear hcz32_1
              try clear hcz32_2
              try clear hcz32_3
              try clear hcz38_0
              try clear hcz38_1
              try clear hcz38_2
              try clear hcz38_3
              try clear hcz40_0
              try clear hcz40_1
              try clear hcz40_2
              try clear hcz40_3
              try clear hcz45_0
              try clear hcz45_1
              try clear hcz45_2
              try clear hcz45_3
              try clear hcz47_0
              try clear hcz47_1
              try clear hcz47_2
              try clear hcz47_3
              try clear hcz50_0
              try clear hcz50_1
              try clear hcz50_2
              try clear hcz50_3
              try clear hcz7_0
              try clear hcz7_1
              try clear hcz7_2
              try clear hcz7_3
              try clear hcz9_0
              try clear hcz9_1
              try clear hcz9_2
              try clear hcz9_3
              try clear hfz11_0
              try clear hfz11_1
              try clear hfz11_2
              try clear hfz11_3
              try clear hfz18_0
              try clear hfz18_1
              try clear hfz18_2
              try clear hfz18_3
              try clear hfz20_0
              try clear hfz20_1
              try clear hfz20_2
              try clear hfz20_3
              try clear hfz22_0
              try clear hfz22_1
              try clear hfz22_2
              try clear hfz22_3
              try clear hfz28_0
              try clear hfz28_1
              try clear hfz28_2
              try clear hfz28_3
              try clear hfz30_0
              try clear hfz30_1
              try clear hfz30_2
              try clear hfz30_3
              try clear hfz32_0
              try clear hfz32_1
              try clear hfz32_2
              try clear hfz32_3
              try clear hfz38_0
              try clear hfz38_1
              try clear hfz38_2
              try clear hfz38_3
              try clear hfz40_0
              try clear hfz40_1
              try clear hfz40_2
              try clear hfz40_3
              try clear hfz45_0
              try clear hfz45_1
              try clear hfz45_2
              try clear hfz45_3
              try clear hfz47_0
              try clear hfz47_1
              try clear hfz47_2
              try clear hfz47_3
              try clear hfz50_0
              try clear hfz50_1
              try clear hfz50_2
              try clear hfz50_3
              try clear hfz7_0
              try clear hfz7_1
              try clear hfz7_2
              try clear hfz7_3
              try clear hfz9_0
              try clear hfz9_1
              try clear hfz9_2
              try clear hfz9_3
              obtain ⟨kq, x55_47, rfl, HA, HJ47, BK103, HB⟩ := hcut
              cases kq with
              | zero => exact absurd HA.out (by simp [causal_fields.j0])
              | succ kj47 =>
                have H := HA.out
                clear HA
                simp only [causal_fields.j0] at H
                by_cases c53 : x55_47 = true
                · subst c53
                  have H1 : (if a0_2.toList = ([] : List UInt8) then ((causal_within.f a0_1 0 73048).bind fun t111 => (some t111)) else (some false)) = some r := by rw [if_pos rfl] at H; exact H
                  clear H
                  have H := H1
                  clear H1
                  by_cases c54 : a0_2.toList = ([] : List UInt8)
                  · rw [if_pos c54] at H
                    have c54b0 : (a0_2.toList == ([] : List UInt8)) = true := beq_iff_eq.mpr c54
                    have c54b1 : (a0_2.toList != ([] : List UInt8)) = false := bne_eq_false_iff_eq.mpr c54
                    clear c54
                    replace H := Option.bind_eq_some_iff.mp H
                    obtain ⟨t111, A550, H⟩ := H
                    replace H : (some t111) = some r := H
                    have A55 := Aside0.mk A550
                    clear A550
                    obtain rfl := Option.some.inj H
                    have hcz56_0 : wc.cell? ⟨gb103, 0, none⟩ = some (.int .i64 a0_0) := (blk_cell BK103.out 0).trans rfl
                    have hcz56_1 : wc.cell? ⟨gb103, 1, none⟩ = some (.int .i64 a0_1) := (blk_cell BK103.out 1).trans rfl
                    have hcz56_2 : wc.cell? ⟨gb103, 2, none⟩ = some (.string a0_2) := (blk_cell BK103.out 2).trans rfl
                    have hcz56_3 : wc.cell? ⟨gb103, 3, none⟩ = some (.slice A0_3 l0_3.length c0_3) := (blk_cell BK103.out 3).trans rfl
                    have hfz56_0 := blk_frozen BK103.out 0
                    have hfz56_1 := blk_frozen BK103.out 1
                    have hfz56_2 := blk_frozen BK103.out 2
                    have hfz56_3 := blk_frozen BK103.out 3
                    go_wp2_with (first | (go_at_call 219; (with_reducible refine (causal_within.calls a0_1 0 73048 t111 _ A55.out).mono ?_); rintro e w' ⟨rfl, ⟨nd, rfl⟩⟩))
                    go_ret
                    exact ⟨by first | rfl | (simp [errW_none, errW_some] <;> rfl) | (simp [*, errW_none, errW_some] <;> rfl), by repeat (first | (with_reducible first | exact HB.out | apply below_alloc | apply pw_below_drewN | apply below_drew1 | refine below_set ?_ GE103.out) | exact HB.out)⟩
                  · rw [if_neg c54] at H
                    have c54b0 : (a0_2.toList == ([] : List UInt8)) = false := beq_eq_false_iff_ne.mpr c54
                    have c54b1 : (a0_2.toList != ([] : List UInt8)) = true := bne_iff_ne.mpr c54
                    obtain rfl := Option.some.inj H
                    have hcz57_0 : wc.cell? ⟨gb103, 0, none⟩ = some (.int .i64 a0_0) := (blk_cell BK103.out 0).trans rfl
                    have hcz57_1 : wc.cell? ⟨gb103, 1, none⟩ = some (.int .i64 a0_1) := (blk_cell BK103.out 1).trans rfl
                    have hcz57_2 : wc.cell? ⟨gb103, 2, none⟩ = some (.string a0_2) := (blk_cell BK103.out 2).trans rfl
                    have hcz57_3 : wc.cell? ⟨gb103, 3, none⟩ = some (.slice A0_3 l0_3.length c0_3) := (blk_cell BK103.out 3).trans rfl
                    have hfz57_0 := blk_frozen BK103.out 0
                    have hfz57_1 := blk_frozen BK103.out 1
                    have hfz57_2 := blk_frozen BK103.out 2
                    have hfz57_3 := blk_frozen BK103.out 3
                    go_wp2
                    go_ret
                    exact ⟨by first | rfl | (simp [errW_none, errW_some] <;> rfl) | (simp [*, errW_none, errW_some] <;> rfl), by repeat (first | (with_reducible first | exact HB.out | apply below_alloc | apply pw_below_drewN | apply below_drew1 | refine below_set ?_ GE103.out) | exact HB.out)⟩
                · replace c53 := Bool.eq_false_iff.mpr c53
                  subst c53
                  have H1 : (if a0_0 = 5 then (if a0_2.toList = ([] : List UInt8) then ((causal_within.f a0_1 (-3660) 3660).bind fun t112 => (some t112)) else (some false)) else (if a0_2.toList = ([] : List UInt8) then (some (a0_1 == 0)) else (some false))) = some r := by rw [if_neg (show ¬ (false = true) by decide)] at H; exact H
                  clear H
                  have H := H1
                  clear H1
                  by_cases c58 : a0_0 = 5
                  · rw [if_pos c58] at H
                    have c58b0 : (a0_0 == 5) = true := beq_iff_eq.mpr c58
                    have c58b1 : (a0_0 != 5) = false := bne_eq_false_iff_eq.mpr c58
                    clear c58
                    by_cases c59 : a0_2.toList = ([] : List UInt8)
                    · rw [if_pos c59] at H
                      have c59b0 : (a0_2.toList == ([] : List UInt8)) = true := beq_iff_eq.mpr c59
                      have c59b1 : (a0_2.toList != ([] : List UInt8)) = false := bne_eq_false_iff_eq.mpr c59
                      clear c59
                      replace H := Option.bind_eq_some_iff.mp H
                      obtain ⟨t112, A600, H⟩ := H
                      replace H : (some t112) = some r := H
                      have A60 := Aside0.mk A600
                      clear A600
                      obtain rfl := Option.some.inj H
                      have hcz61_0 : wc.cell? ⟨gb103, 0, none⟩ = some (.int .i64 a0_0) := (blk_cell BK103.out 0).trans rfl
                      have hcz61_1 : wc.cell? ⟨gb103, 1, none⟩ = some (.int .i64 a0_1) := (blk_cell BK103.out 1).trans rfl
                      have hcz61_2 : wc.cell? ⟨gb103, 2, none⟩ = some (.string a0_2) := (blk_cell BK103.out 2).trans rfl
                      have hcz61_3 : wc.cell? ⟨gb103, 3, none⟩ = some (.slice A0_3 l0_3.length c0_3) := (blk_cell BK103.out 3).trans rfl
                      have hfz61_0 := blk_frozen BK103.out 0
                      have hfz61_1 := blk_frozen BK103.out 1
                      have hfz61_2 := blk_frozen BK103.out 2
                      have hfz61_3 := blk_frozen BK103.out 3
                      go_wp2_with (first | (go_at_call 219; (with_reducible refine (causal_within.calls a0_1 (-3660) 3660 t112 _ A60.out).mono ?_); rintro e w' ⟨rfl, ⟨nd, rfl⟩⟩))
                      go_ret
                      exact ⟨by first | rfl | (simp [errW_none, errW_some] <;> rfl) | (simp [*, errW_none, errW_some] <;> rfl), by repeat (first | (with_reducible first | exact HB.out | apply below_alloc | apply pw_below_drewN | apply below_drew1 | refine below_set ?_ GE103.out) | exact HB.out)⟩
                    · rw [if_neg c59] at H
                      have c59b0 : (a0_2.toList == ([] : List UInt8)) = false := beq_eq_false_iff_ne.mpr c59
                      have c59b1 : (a0_2.toList != ([] : List UInt8)) = true := bne_iff_ne.mpr c59
                      obtain rfl := Option.some.inj H
                      have hcz62_0 : wc.cell? ⟨gb103, 0, none⟩ = some (.int .i64 a0_0) := (blk_cell BK103.out 0).trans rfl
                      have hcz62_1 : wc.cell? ⟨gb103, 1, none⟩ = some (.int .i64 a0_1) := (blk_cell BK103.out 1).trans rfl
                      have hcz62_2 : wc.cell? ⟨gb103, 2, none⟩ = some (.string a0_2) := (blk_cell BK103.out 2).trans rfl
                      have hcz62_3 : wc.cell? ⟨gb103, 3, none⟩ = some (.slice A0_3 l0_3.length c0_3) := (blk_cell BK103.out 3).trans rfl
                      have hfz62_0 := blk_frozen BK103.out 0
                      have hfz62_1 := blk_frozen BK103.out 1
                      have hfz62_2 := blk_frozen BK103.out 2
                      have hfz62_3 := blk_frozen BK103.out 3
                      go_wp2
                      go_ret
                      exact ⟨by first | rfl | (simp [errW_none, errW_some] <;> rfl) | (simp [*, errW_none, errW_some] <;> rfl), by repeat (first | (with_reducible first | exact HB.out | apply below_alloc | apply pw_below_drewN | apply below_drew1 | refine below_set ?_ GE103.out) | exact HB.out)⟩
                  · rw [if_neg c58] at H
                    have c58b0 : (a0_0 == 5) = false := beq_eq_false_iff_ne.mpr c58
                    have c58b1 : (a0_0 != 5) = true := bne_iff_ne.mpr c58
                    by_cases c63 : a0_2.toList = ([] : List UInt8)
                    · rw [if_pos c63] at H
                      have c63b0 : (a0_2.toList == ([] : List UInt8)) = true := beq_iff_eq.mpr c63
                      have c63b1 : (a0_2.toList != ([] : List UInt8)) = false := bne_eq_false_iff_eq.mpr c63
                      clear c63
                      obtain rfl := Option.some.inj H
                      have hcz64_0 : wc.cell? ⟨gb103, 0, none⟩ = some (.int .i64 a0_0) := (blk_cell BK103.out 0).trans rfl
                      have hcz64_1 : wc.cell? ⟨gb103, 1, none⟩ = some (.int .i64 a0_1) := (blk_cell BK103.out 1).trans rfl
                      have hcz64_2 : wc.cell? ⟨gb103, 2, none⟩ = some (.string a0_2) := (blk_cell BK103.out 2).trans rfl
                      have hcz64_3 : wc.cell? ⟨gb103, 3, none⟩ = some (.slice A0_3 l0_3.length c0_3) := (blk_cell BK103.out 3).trans rfl
                      have hfz64_0 := blk_frozen BK103.out 0
                      have hfz64_1 := blk_frozen BK103.out 1
                      have hfz64_2 := blk_frozen BK103.out 2
                      have hfz64_3 := blk_frozen BK103.out 3
                      go_wp2
                      go_ret
                      exact ⟨by first | rfl | (simp [errW_none, errW_some] <;> rfl) | (simp [*, errW_none, errW_some] <;> rfl), by repeat (first | (with_reducible first | exact HB.out | apply below_alloc | apply pw_below_drewN | apply below_drew1 | refine below_set ?_ GE103.out) | exact HB.out)⟩
                    · rw [if_neg c63] at H
                      have c63b0 : (a0_2.toList == ([] : List UInt8)) = false := beq_eq_false_iff_ne.mpr c63
                      have c63b1 : (a0_2.toList != ([] : List UInt8)) = true := bne_iff_ne.mpr c63
                      obtain rfl := Option.some.inj H
                      have hcz65_0 : wc.cell? ⟨gb103, 0, none⟩ = some (.int .i64 a0_0) := (blk_cell BK103.out 0).trans rfl
                      have hcz65_1 : wc.cell? ⟨gb103, 1, none⟩ = some (.int .i64 a0_1) := (blk_cell BK103.out 1).trans rfl
                      have hcz65_2 : wc.cell? ⟨gb103, 2, none⟩ = some (.string a0_2) := (blk_cell BK103.out 2).trans rfl
                      have hcz65_3 : wc.cell? ⟨gb103, 3, none⟩ = some (.slice A0_3 l0_3.length c0_3) := (blk_cell BK103.out 3).trans rfl
                      have hfz65_0 := blk_frozen BK103.out 0
                      have hfz65_1 := blk_frozen BK103.out 1
                      have hfz65_2 := blk_frozen BK103.out 2
                      have hfz65_3 := blk_frozen BK103.out 3
                      go_wp2
                      go_ret
                      exact ⟨by first | rfl | (simp [errW_none, errW_some] <;> rfl) | (simp [*, errW_none, errW_some] <;> rfl), by repeat (first | (with_reducible first | exact HB.out | apply below_alloc | apply pw_below_drewN | apply below_drew1 | refine below_set ?_ GE103.out) | exact HB.out)⟩

end Go.Proofs.YtniajhmbdbgmgaaGreatDoor.Q

/- The causal layer's table of sorts tells its row. -/
namespace Go.Proofs.YtniajhmbdbgmgaaGreatDoor.Q
open Go Go.RowKit Go.Proofs Go.Proofs.YtniajhmbdbgmgaaGreatDoor

/-- What an operation's kids and its own type are, by letters. -/
def sorts : List (List UInt8) := [[], [62, 110], [62, 98], [62, 100], [62, 110], [62, 100], [110, 62, 110], [110, 110, 62, 110], [110, 110, 62, 110], [110, 110, 62, 110], [110, 110, 62, 110], [110, 110, 62, 98], [110, 110, 62, 98], [110, 110, 62, 98], [98, 62, 98], [98, 98, 62, 98], [98, 98, 62, 98], [100, 100, 62, 98], [100, 110, 62, 100], [100, 110, 62, 100], [100, 100, 62, 110], [100, 100, 62, 110], [98, 120, 120, 62, 120], [62, 99], [62, 99], [99, 62, 99], [110, 99, 62, 99], [99, 99, 62, 99], [98, 99, 99, 62, 99], [99, 62, 99], [98, 99, 62, 99], [99, 99, 62, 99]]
def sortAt (op : Int) : List UInt8 := if 0 ≤ op ∧ op < 32 then sorts.getD op.toNat [] else []
def causal_sort.f (a0 : Int) : Option ByteArray := some ⟨(sortAt a0).toArray⟩

theorem sort_cell (W : World) (T : TypeId) (i : Nat) (hi : i < 32) :
    (W.alloc (.cells #[.string ⟨#[]⟩, .string ⟨#[62, 110]⟩, .string ⟨#[62, 98]⟩, .string ⟨#[62, 100]⟩, .string ⟨#[62, 110]⟩, .string ⟨#[62, 100]⟩, .string ⟨#[110, 62, 110]⟩, .string ⟨#[110, 110, 62, 110]⟩, .string ⟨#[110, 110, 62, 110]⟩, .string ⟨#[110, 110, 62, 110]⟩, .string ⟨#[110, 110, 62, 110]⟩, .string ⟨#[110, 110, 62, 98]⟩, .string ⟨#[110, 110, 62, 98]⟩, .string ⟨#[110, 110, 62, 98]⟩, .string ⟨#[98, 62, 98]⟩, .string ⟨#[98, 98, 62, 98]⟩, .string ⟨#[98, 98, 62, 98]⟩, .string ⟨#[100, 100, 62, 98]⟩, .string ⟨#[100, 110, 62, 100]⟩, .string ⟨#[100, 110, 62, 100]⟩, .string ⟨#[100, 100, 62, 110]⟩, .string ⟨#[100, 100, 62, 110]⟩, .string ⟨#[98, 120, 120, 62, 120]⟩, .string ⟨#[62, 99]⟩, .string ⟨#[62, 99]⟩, .string ⟨#[99, 62, 99]⟩, .string ⟨#[110, 99, 62, 99]⟩, .string ⟨#[99, 99, 62, 99]⟩, .string ⟨#[98, 99, 99, 62, 99]⟩, .string ⟨#[99, 62, 99]⟩, .string ⟨#[98, 99, 62, 99]⟩, .string ⟨#[99, 99, 62, 99]⟩] T)).cell? ⟨W.heap.size, i, none⟩ = some (.string ⟨(sorts.getD i []).toArray⟩) := by
  rw [World.cell?_alloc_new]
  match i, hi with
  | 0, _ => rfl
  | 1, _ => rfl
  | 2, _ => rfl
  | 3, _ => rfl
  | 4, _ => rfl
  | 5, _ => rfl
  | 6, _ => rfl
  | 7, _ => rfl
  | 8, _ => rfl
  | 9, _ => rfl
  | 10, _ => rfl
  | 11, _ => rfl
  | 12, _ => rfl
  | 13, _ => rfl
  | 14, _ => rfl
  | 15, _ => rfl
  | 16, _ => rfl
  | 17, _ => rfl
  | 18, _ => rfl
  | 19, _ => rfl
  | 20, _ => rfl
  | 21, _ => rfl
  | 22, _ => rfl
  | 23, _ => rfl
  | 24, _ => rfl
  | 25, _ => rfl
  | 26, _ => rfl
  | 27, _ => rfl
  | 28, _ => rfl
  | 29, _ => rfl
  | 30, _ => rfl
  | 31, _ => rfl
  | n + 32, h => exact absurd h (by omega)

theorem sort_built (w : World) : (Instr.build 238 #[(0, .string ⟨#[]⟩), (1, .string ⟨#[62, 110]⟩), (2, .string ⟨#[62, 98]⟩), (3, .string ⟨#[62, 100]⟩), (4, .string ⟨#[62, 110]⟩), (5, .string ⟨#[62, 100]⟩), (6, .string ⟨#[110, 62, 110]⟩), (7, .string ⟨#[110, 110, 62, 110]⟩), (8, .string ⟨#[110, 110, 62, 110]⟩), (9, .string ⟨#[110, 110, 62, 110]⟩), (10, .string ⟨#[110, 110, 62, 110]⟩), (11, .string ⟨#[110, 110, 62, 98]⟩), (12, .string ⟨#[110, 110, 62, 98]⟩), (13, .string ⟨#[110, 110, 62, 98]⟩), (14, .string ⟨#[98, 62, 98]⟩), (15, .string ⟨#[98, 98, 62, 98]⟩), (16, .string ⟨#[98, 98, 62, 98]⟩), (17, .string ⟨#[100, 100, 62, 98]⟩), (18, .string ⟨#[100, 110, 62, 100]⟩), (19, .string ⟨#[100, 110, 62, 100]⟩), (20, .string ⟨#[100, 100, 62, 110]⟩), (21, .string ⟨#[100, 100, 62, 110]⟩), (22, .string ⟨#[98, 120, 120, 62, 120]⟩), (23, .string ⟨#[62, 99]⟩), (24, .string ⟨#[62, 99]⟩), (25, .string ⟨#[99, 62, 99]⟩), (26, .string ⟨#[110, 99, 62, 99]⟩), (27, .string ⟨#[99, 99, 62, 99]⟩), (28, .string ⟨#[98, 99, 99, 62, 99]⟩), (29, .string ⟨#[99, 62, 99]⟩), (30, .string ⟨#[98, 99, 62, 99]⟩), (31, .string ⟨#[99, 99, 62, 99]⟩)]).run Tryz.prog w = .ok (.agg #[.string ⟨#[]⟩, .string ⟨#[62, 110]⟩, .string ⟨#[62, 98]⟩, .string ⟨#[62, 100]⟩, .string ⟨#[62, 110]⟩, .string ⟨#[62, 100]⟩, .string ⟨#[110, 62, 110]⟩, .string ⟨#[110, 110, 62, 110]⟩, .string ⟨#[110, 110, 62, 110]⟩, .string ⟨#[110, 110, 62, 110]⟩, .string ⟨#[110, 110, 62, 110]⟩, .string ⟨#[110, 110, 62, 98]⟩, .string ⟨#[110, 110, 62, 98]⟩, .string ⟨#[110, 110, 62, 98]⟩, .string ⟨#[98, 62, 98]⟩, .string ⟨#[98, 98, 62, 98]⟩, .string ⟨#[98, 98, 62, 98]⟩, .string ⟨#[100, 100, 62, 98]⟩, .string ⟨#[100, 110, 62, 100]⟩, .string ⟨#[100, 110, 62, 100]⟩, .string ⟨#[100, 100, 62, 110]⟩, .string ⟨#[100, 100, 62, 110]⟩, .string ⟨#[98, 120, 120, 62, 120]⟩, .string ⟨#[62, 99]⟩, .string ⟨#[62, 99]⟩, .string ⟨#[99, 62, 99]⟩, .string ⟨#[110, 99, 62, 99]⟩, .string ⟨#[99, 99, 62, 99]⟩, .string ⟨#[98, 99, 99, 62, 99]⟩, .string ⟨#[99, 62, 99]⟩, .string ⟨#[98, 99, 62, 99]⟩, .string ⟨#[99, 99, 62, 99]⟩]) w := run_build w _ _ _ (by kernel_rfl)
theorem build_to {P : Program} {w : World} {ρ : Operand → Value} {o : Oper} {t : TypeId} {parts : Array (Nat × Operand)} {parts' : Array (Nat × Value)} {cs : Array Value} (hb : (Instr.build t parts').run P w = .ok (.agg cs) w) (ho : o.op = .build t parts) (hp : parts.map (fun (i, x) => (i, ρ x)) = parts') : (execOp ρ o).run P w = .ok (.value (.agg cs)) w := by
  obtain ⟨r, hr⟩ : ∃ r, Instr.build t parts' = r := ⟨_, rfl⟩
  rw [hr] at hb
  unfold execOp
  rw [ho]
  simp only [hp, hr]
  simp [go_sem, hb]
/-- What the walk wants of the array's cells. -/
theorem sort_cells : ∃ cs : Array Value, cs.size = 32 ∧ (∀ w, (Instr.build 238 #[(0, .string ⟨#[]⟩), (1, .string ⟨#[62, 110]⟩), (2, .string ⟨#[62, 98]⟩), (3, .string ⟨#[62, 100]⟩), (4, .string ⟨#[62, 110]⟩), (5, .string ⟨#[62, 100]⟩), (6, .string ⟨#[110, 62, 110]⟩), (7, .string ⟨#[110, 110, 62, 110]⟩), (8, .string ⟨#[110, 110, 62, 110]⟩), (9, .string ⟨#[110, 110, 62, 110]⟩), (10, .string ⟨#[110, 110, 62, 110]⟩), (11, .string ⟨#[110, 110, 62, 98]⟩), (12, .string ⟨#[110, 110, 62, 98]⟩), (13, .string ⟨#[110, 110, 62, 98]⟩), (14, .string ⟨#[98, 62, 98]⟩), (15, .string ⟨#[98, 98, 62, 98]⟩), (16, .string ⟨#[98, 98, 62, 98]⟩), (17, .string ⟨#[100, 100, 62, 98]⟩), (18, .string ⟨#[100, 110, 62, 100]⟩), (19, .string ⟨#[100, 110, 62, 100]⟩), (20, .string ⟨#[100, 100, 62, 110]⟩), (21, .string ⟨#[100, 100, 62, 110]⟩), (22, .string ⟨#[98, 120, 120, 62, 120]⟩), (23, .string ⟨#[62, 99]⟩), (24, .string ⟨#[62, 99]⟩), (25, .string ⟨#[99, 62, 99]⟩), (26, .string ⟨#[110, 99, 62, 99]⟩), (27, .string ⟨#[99, 99, 62, 99]⟩), (28, .string ⟨#[98, 99, 99, 62, 99]⟩), (29, .string ⟨#[99, 62, 99]⟩), (30, .string ⟨#[98, 99, 62, 99]⟩), (31, .string ⟨#[99, 99, 62, 99]⟩)]).run Tryz.prog w = .ok (.agg cs) w) ∧
    (∀ (w : World) (c : Array Value), c.size = 32 → (storeCells ⟨w.heap.size, 0, none⟩ cs.toList 0).run Tryz.prog (w.alloc (.cells c 238)) = .ok () (w.alloc (.cells cs 238))) ∧
    (∀ (w : World) (i : Nat), i < 32 → (w.alloc (.cells cs 238)).cell? ⟨w.heap.size, i, none⟩ = some (.string ⟨(sorts.getD i []).toArray⟩)) :=
  ⟨#[.string ⟨#[]⟩, .string ⟨#[62, 110]⟩, .string ⟨#[62, 98]⟩, .string ⟨#[62, 100]⟩, .string ⟨#[62, 110]⟩, .string ⟨#[62, 100]⟩, .string ⟨#[110, 62, 110]⟩, .string ⟨#[110, 110, 62, 110]⟩, .string ⟨#[110, 110, 62, 110]⟩, .string ⟨#[110, 110, 62, 110]⟩, .string ⟨#[110, 110, 62, 110]⟩, .string ⟨#[110, 110, 62, 98]⟩, .string ⟨#[110, 110, 62, 98]⟩, .string ⟨#[110, 110, 62, 98]⟩, .string ⟨#[98, 62, 98]⟩, .string ⟨#[98, 98, 62, 98]⟩, .string ⟨#[98, 98, 62, 98]⟩, .string ⟨#[100, 100, 62, 98]⟩, .string ⟨#[100, 110, 62, 100]⟩, .string ⟨#[100, 110, 62, 100]⟩, .string ⟨#[100, 100, 62, 110]⟩, .string ⟨#[100, 100, 62, 110]⟩, .string ⟨#[98, 120, 120, 62, 120]⟩, .string ⟨#[62, 99]⟩, .string ⟨#[62, 99]⟩, .string ⟨#[99, 62, 99]⟩, .string ⟨#[110, 99, 62, 99]⟩, .string ⟨#[99, 99, 62, 99]⟩, .string ⟨#[98, 99, 99, 62, 99]⟩, .string ⟨#[99, 62, 99]⟩, .string ⟨#[98, 99, 62, 99]⟩, .string ⟨#[99, 99, 62, 99]⟩], rfl, sort_built, fun w c h => run_storeCells_new w _ c _ (by kernel_rfl) h (by kernel_rfl), fun w i hi => sort_cell w _ i hi⟩
set_option maxHeartbeats 2000000 in
set_option maxRecDepth 100000 in
theorem causal_sort.calls (a0 : Int) (r : ByteArray) (w : World) (h : causal_sort.f a0 = some r) : Calls Tryz.prog 186 #[.int .i64 a0] w fun e w' => e = .returned (.string r) ∧ Below w.heap.size w w' := by
  obtain rfl : (⟨(sortAt a0).toArray⟩ : ByteArray) = r := by simpa [causal_sort.f] using h
  clear h
  obtain ⟨cs, hsz, hb, hst, hcell⟩ := sort_cells
  have hB := (Below.refl w.heap.size w).alloc (Nat.le_refl _) (.cells cs 238)
  by_cases c : 0 ≤ a0 ∧ a0 < 32
  · obtain ⟨k, rfl⟩ : ∃ k : Nat, a0 = (k : Int) := ⟨a0.toNat, by omega⟩
    have hk : (k : Int) < 32 := c.2
    have hc := hcell w k (by omega)
    have er : sorts.getD k [] = sortAt (k : Int) := by unfold sortAt; rw [if_pos c]; rfl
    obtain ⟨s, es⟩ : ∃ s, sortAt (k : Int) = s := ⟨_, rfl⟩
    rw [er, es] at hc
    rw [es]
    clear c es er hcell
    have t1 : decide ((k : Int) < 0) = false := decide_eq_false (by omega)
    have t2 : decide (32 ≤ (k : Int)) = false := decide_eq_false (by omega)
    go_enter Tryz.func186, Tryz.ntmps186
    go_upto_region 1 with fail
    refine wp_region_lit ?_
    refine Great.wpList_runTo rfl (some 4) rfl (.agg cs) w (build_to (hb w) rfl (by simp [Act.eval])) ?_
    go_wp2_with fail
    go_ret
    exact ⟨rfl, hB⟩
  · have es : sortAt a0 = [] := by unfold sortAt; rw [if_neg c]
    rw [es]
    have hor : a0 < 0 ∨ 32 ≤ a0 := by omega
    clear c es hcell
    rcases hor with hor | hor
    · have t1 : decide (a0 < 0) = true := decide_eq_true hor
      go_enter Tryz.func186, Tryz.ntmps186
      go_upto_region 1 with fail
      refine wp_region_lit ?_
      refine Great.wpList_runTo rfl (some 4) rfl (.agg cs) w (build_to (hb w) rfl (by simp [Act.eval])) ?_
      go_wp2_with fail
      go_ret
      exact ⟨rfl, hB⟩
    · have t1 : decide (a0 < 0) = false := decide_eq_false (by omega)
      have t2 : decide (32 ≤ a0) = true := decide_eq_true hor
      go_enter Tryz.func186, Tryz.ntmps186
      go_upto_region 1 with fail
      refine wp_region_lit ?_
      refine Great.wpList_runTo rfl (some 4) rfl (.agg cs) w (build_to (hb w) rfl (by simp [Act.eval])) ?_
      go_wp2_with fail
      go_ret
      exact ⟨rfl, hB⟩
end Go.Proofs.YtniajhmbdbgmgaaGreatDoor.Q
