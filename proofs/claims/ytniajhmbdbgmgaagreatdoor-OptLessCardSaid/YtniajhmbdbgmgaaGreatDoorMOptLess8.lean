import Derived.Test.YtniajhmbdbgmgaaGreatDoorMOptLess4
import Derived.Test.YtniajhmbdbgmgaaGreatDoorMOptLess7
import Derived.Test.YtniajhmbdbgmgaaGreatDoorMOptLess2
/- Layer 14 by the document's own answer, in plain Lean: sizes, horizons and what looks ahead; right terms. -/
namespace Go.Proofs.YtniajhmbdbgmgaaGreatDoor.Q
open Go Go.RowKit Go.Proofs Go.Proofs.YtniajhmbdbgmgaaGreatDoor Go.Proofs.YtniajhmbdbgmgaaGreatDoorW.PrintWords

theorem rd_kid (l : List Core) (j : Nat) (h : j < l.length) : rd_T24 l (j : Int) = l[j] := by
  unfold rd_T24
  rw [Int.toNat_natCast, List.getD_eq_getElem?_getD, List.getElem?_eq_getElem h]
  rfl
theorem sizeL_drop {l : List Core} {j : Nat} (h : j < l.length) : sizeL (l.drop j) = sizeT l[j] + sizeL (l.drop (j + 1)) := by
  rw [List.drop_eq_getElem_cons h]
  rfl
/-! ### sizes -/
theorem size_loop (x : Core) (hl : x.f3.length ≤ 3) (hx : ∀ z ∈ x.f3, ∃ K, ∀ k, K ≤ k → usanceref13_Size.f k z.f0 z.f1 z.f2 z.f3 = some (sizeT z : Int)) :
    ∀ (d j : Nat), j + d = x.f3.length → ∀ n : Int, 0 ≤ n → n + (sizeL (x.f3.drop j) : Int) ≤ 4000 → ∃ K, ∀ k, K ≤ k → usanceref13_Size.l0 k n (j : Int) x.f0 x.f1 x.f2 x.f3 = some (n + (sizeL (x.f3.drop j) : Int)) := by
  intro d
  induction d with
  | zero =>
    intro j hj n h0 h1
    refine ⟨1, fun k hk => ?_⟩
    obtain ⟨k, rfl⟩ : ∃ m, k = m + 1 := ⟨k - 1, by omega⟩
    rw [usanceref13_Size.l0, if_neg (by omega), List.drop_of_length_le (by omega)]
    simp [sizeL]
  | succ d ih =>
    intro j hj n h0 h1
    have hjl : j < x.f3.length := by omega
    obtain ⟨K1, h1'⟩ := hx x.f3[j] (List.getElem_mem hjl)
    rw [sizeL_drop hjl] at h1 ⊢
    obtain ⟨K2, h2⟩ := ih (j + 1) (by omega) (n + (sizeT x.f3[j] : Int)) (by omega) (by omega)
    refine ⟨K1 + K2 + 1, fun k hk => ?_⟩
    obtain ⟨k, rfl⟩ : ∃ m, k = m + 1 := ⟨k - 1, by omega⟩
    rw [usanceref13_Size.l0, if_pos (by omega), if_pos (by omega), rd_kid _ _ hjl, h1' k (by omega), Option.bind_some, wrap_in (d := n + (sizeT x.f3[j] : Int)) (by omega) (by omega), wrap_in (by omega) (by omega)]
    have := h2 k (by omega)
    rw [show (((j + 1 : Nat) : Int)) = (j : Int) + 1 by omega] at this
    rw [this]
    congr 1
    omega
theorem size_is (x : Core) : tyT flT x ≠ 0 → sizeT x ≤ 2000 → ∃ K, ∀ k, K ≤ k → usanceref13_Size.f k x.f0 x.f1 x.f2 x.f3 = some (sizeT x : Int) := by
  refine ind_core (P := fun x => tyT flT x ≠ 0 → sizeT x ≤ 2000 → ∃ K, ∀ k, K ≤ k → usanceref13_Size.f k x.f0 x.f1 x.f2 x.f3 = some (sizeT x : Int)) (fun x ih ht hs => ?_) x
  rw [sizeT_eq] at hs ⊢
  obtain ⟨K, hK⟩ := size_loop x (ty_len ht) (fun z hz => ih z hz (ty_kids ht z hz) (by have := sizeL_mem hz; omega)) x.f3.length 0 (by omega) 1 (by omega) (by rw [List.drop_zero]; omega)
  refine ⟨K + 1, fun k hk => ?_⟩
  obtain ⟨k, rfl⟩ : ∃ m, k = m + 1 := ⟨k - 1, by omega⟩
  rw [usanceref13_Size.f]
  have := hK k (by omega)
  rw [List.drop_zero] at this
  rw [show ((0 : Int)) = ((0 : Nat) : Int) from rfl, this]
  congr 1
/-! ### what looks ahead -/
theorem ahead_loop (x : Core) (hl : x.f3.length ≤ 3) (hx : ∀ z ∈ x.f3, ∃ b : Bool, (b = false ↔ allT NoAhead z) ∧ ∃ K, ∀ k, K ≤ k → usanceref14_ahead.f k z.f0 z.f1 z.f2 z.f3 = some b) :
    ∀ (d j : Nat), j + d = x.f3.length → ∃ b : Bool, (b = false ↔ allL NoAhead (x.f3.drop j)) ∧ ∃ K, ∀ k, K ≤ k → usanceref14_ahead.l0 k (j : Int) x.f0 x.f1 x.f2 x.f3 = some b := by
  intro d
  induction d with
  | zero =>
    intro j hj
    refine ⟨false, ⟨fun _ => by rw [List.drop_of_length_le (by omega)]; trivial, fun _ => rfl⟩, 1, fun k hk => ?_⟩
    obtain ⟨k, rfl⟩ : ∃ m, k = m + 1 := ⟨k - 1, by omega⟩
    rw [usanceref14_ahead.l0, if_neg (by omega)]
  | succ d ih =>
    intro j hj
    have hjl : j < x.f3.length := by omega
    obtain ⟨b1, g1, K1, h1⟩ := hx x.f3[j] (List.getElem_mem hjl)
    obtain ⟨b2, g2, K2, h2⟩ := ih (j + 1) (by omega)
    refine ⟨b1 || b2, ?_, K1 + K2 + 1, fun k hk => ?_⟩
    · rw [Bool.or_eq_false_iff, g1, g2, List.drop_eq_getElem_cons hjl]
      rfl
    · obtain ⟨k, rfl⟩ : ∃ m, k = m + 1 := ⟨k - 1, by omega⟩
      rw [usanceref14_ahead.l0, if_pos (by omega), if_pos (by omega), rd_kid _ _ hjl, h1 k (by omega), Option.bind_some]
      cases b1
      · rw [if_neg (by simp), wrap_in (by omega) (by omega)]
        exact h2 k (by omega)
      · rw [if_pos rfl]
        rfl
theorem ahead_is (x : Core) : tyT flT x ≠ 0 → ∃ b : Bool, (b = false ↔ allT NoAhead x) ∧ ∃ K, ∀ k, K ≤ k → usanceref14_ahead.f k x.f0 x.f1 x.f2 x.f3 = some b := by
  refine ind_core (P := fun x => tyT flT x ≠ 0 → ∃ b : Bool, (b = false ↔ allT NoAhead x) ∧ ∃ K, ∀ k, K ≤ k → usanceref14_ahead.f k x.f0 x.f1 x.f2 x.f3 = some b) (fun x ih ht => ?_) x
  obtain ⟨b, g, K, hK⟩ := ahead_loop x (ty_len ht) (fun z hz => ih z hz (ty_kids ht z hz)) x.f3.length 0 (by omega)
  rw [List.drop_zero] at g
  have hj : ∀ c : Bool, ∀ k, K + 1 ≤ k → usanceref14_ahead.j0 k c x.f0 x.f1 x.f2 x.f3 = some (c || b) := by
    intro c k hk
    obtain ⟨k, rfl⟩ : ∃ m, k = m + 1 := ⟨k - 1, by omega⟩
    rw [usanceref14_ahead.j0]
    cases c
    · rw [if_neg (by simp)]
      exact hK k (by omega)
    · rw [if_pos rfl]
      rfl
  refine ⟨decide ((x.f0 = 4 ∨ x.f0 = 5) ∧ x.f1 < 0) || b, ?_, K + 2, fun k hk => ?_⟩
  · rw [Bool.or_eq_false_iff, g, allT_eq, decide_eq_false_iff_not]
    exact Iff.rfl
  · obtain ⟨k, rfl⟩ : ∃ m, k = m + 1 := ⟨k - 1, by omega⟩
    rw [usanceref14_ahead.f]
    by_cases h4 : x.f0 = 4
    · rw [if_pos h4, hj _ k (by omega)]
      simp [h4]
    · rw [if_neg h4]
      by_cases h5 : x.f0 = 5
      · rw [if_pos h5, hj _ k (by omega)]
        simp [h5]
      · rw [if_neg h5, hj _ k (by omega)]
        simp [h4, h5]
/-! ### horizons -/
/-- No day of an operation lies past B. -/
def Hor (B : Int) (op n : Int) : Prop := op = 29 ∨ op = 30 ∨ op = 31 → n ≤ B
theorem hor_ok {B : Int} : POk (Hor B) := ⟨fun n _ _ h => by omega, fun n _ _ h => by omega, fun n _ _ h => by omega, fun h => by omega⟩
theorem mx_is2 (a b : Int) : Go.Proofs.YtniajhmbdbgmgaaGreatDoor.mx a b = max a b := by unfold Go.Proofs.YtniajhmbdbgmgaaGreatDoor.mx; omega
theorem mx_is (a b : Int) : Go.Proofs.YtniajhmbdbgmgaaGreatDoorW.PrintWords.mx a b = max a b := by unfold Go.Proofs.YtniajhmbdbgmgaaGreatDoorW.PrintWords.mx; omega
theorem horizon_loop (x : Core) (hl : x.f3.length ≤ 3) (hx : ∀ z ∈ x.f3, ∃ h : Int, 0 ≤ h ∧ (∀ B, 0 ≤ B → (h ≤ B ↔ allT (Hor B) z)) ∧ ∃ K, ∀ k, K ≤ k → usanceref14_horizon.f k z.f0 z.f1 z.f2 z.f3 = some h) :
    ∀ (d j : Nat), j + d = x.f3.length → ∀ n : Int, 0 ≤ n → ∃ h : Int, 0 ≤ h ∧ (∀ B, 0 ≤ B → (h ≤ B ↔ n ≤ B ∧ allL (Hor B) (x.f3.drop j))) ∧ ∃ K, ∀ k, K ≤ k → usanceref14_horizon.l0 k n (j : Int) x.f0 x.f1 x.f2 x.f3 = some h := by
  intro d
  induction d with
  | zero =>
    intro j hj n hn
    refine ⟨n, hn, fun B hB => ?_, 1, fun k hk => ?_⟩
    · rw [List.drop_of_length_le (by omega)]
      exact ⟨fun h => ⟨h, trivial⟩, fun h => h.1⟩
    · obtain ⟨k, rfl⟩ : ∃ m, k = m + 1 := ⟨k - 1, by omega⟩
      rw [usanceref14_horizon.l0, if_neg (by omega)]
  | succ d ih =>
    intro j hj n hn
    have hjl : j < x.f3.length := by omega
    obtain ⟨a, ha, g1, K1, h1⟩ := hx x.f3[j] (List.getElem_mem hjl)
    obtain ⟨b, hb, g2, K2, h2⟩ := ih (j + 1) (by omega) (max n a) (by omega)
    refine ⟨b, hb, fun B hB => ?_, K1 + K2 + 1, fun k hk => ?_⟩
    · have e : allL (Hor B) (x.f3.drop j) ↔ allT (Hor B) x.f3[j] ∧ allL (Hor B) (x.f3.drop (j + 1)) := by
        rw [List.drop_eq_getElem_cons hjl]
        exact Iff.rfl
      rw [g2 B hB, e, ← g1 B hB]
      constructor
      · rintro ⟨h, h'⟩
        exact ⟨by omega, by omega, h'⟩
      · rintro ⟨h, h', h''⟩
        exact ⟨by omega, h''⟩
    · obtain ⟨k, rfl⟩ : ∃ m, k = m + 1 := ⟨k - 1, by omega⟩
      rw [usanceref14_horizon.l0, if_pos (by omega), if_pos (by omega), rd_kid _ _ hjl, h1 k (by omega), Option.bind_some, wrap_in (by omega) (by omega)]
      first | rw [mx_is] | rw [mx_is2]   -- (where texts are merged the print's mx may be this one)
      exact h2 k (by omega)
theorem horizon_is (x : Core) : tyT flT x ≠ 0 → ∃ h : Int, 0 ≤ h ∧ (∀ B, 0 ≤ B → (h ≤ B ↔ allT (Hor B) x)) ∧ ∃ K, ∀ k, K ≤ k → usanceref14_horizon.f k x.f0 x.f1 x.f2 x.f3 = some h := by
  refine ind_core (P := fun x => tyT flT x ≠ 0 → ∃ h : Int, 0 ≤ h ∧ (∀ B, 0 ≤ B → (h ≤ B ↔ allT (Hor B) x)) ∧ ∃ K, ∀ k, K ≤ k → usanceref14_horizon.f k x.f0 x.f1 x.f2 x.f3 = some h) (fun x ih ht => ?_) x
  have hfl : flT x.f0 x.f1 x.f2 = true := by
    refine Classical.byContradiction fun hn => ht ?_
    rw [tyT_eq, if_neg hn]
  have hpos : x.f0 = 29 ∨ x.f0 = 30 ∨ x.f0 = 31 → 0 ≤ x.f1 := by
    intro h
    rcases h with h | h | h <;> (rw [h] at hfl; simp [flT, inT_iff] at hfl; omega)
  obtain ⟨h, h0, g, K, hK⟩ := horizon_loop x (ty_len ht) (fun z hz => ih z hz (ty_kids ht z hz)) x.f3.length 0 (by omega) (if x.f0 = 29 ∨ x.f0 = 30 ∨ x.f0 = 31 then x.f1 else 0) (by
    split
    · exact hpos ‹_›
    · omega)
  refine ⟨h, h0, fun B hB => ?_, K + 3, fun k hk => ?_⟩
  · rw [g B hB, allT_eq, List.drop_zero]
    refine and_congr ?_ Iff.rfl
    unfold Hor
    split
    · exact ⟨fun h _ => h, fun h => h ‹_›⟩
    · exact ⟨fun _ h => absurd h ‹_›, fun _ => hB⟩
  · obtain ⟨k, rfl⟩ : ∃ m, k = m + 3 := ⟨k - 3, by omega⟩
    have e := hK k (by omega)
    rw [usanceref14_horizon.f]
    by_cases h29 : x.f0 = 29
    · rw [if_pos h29, usanceref14_horizon.j0, if_pos rfl, usanceref14_horizon.j1]
      rw [if_pos (.inl h29)] at e
      exact e
    · rw [if_neg h29]
      by_cases h30 : x.f0 = 30
      · rw [if_pos h30, usanceref14_horizon.j0, if_pos rfl, usanceref14_horizon.j1]
        rw [if_pos (.inr (.inl h30))] at e
        exact e
      · rw [if_neg h30, usanceref14_horizon.j0]
        by_cases h31 : x.f0 = 31
        · rw [if_pos (beq_iff_eq.2 h31), usanceref14_horizon.j1]
          rw [if_pos (.inr (.inr h31))] at e
          exact e
        · rw [if_neg (by simp [h31]), usanceref14_horizon.j1]
          rw [if_neg (by omega)] at e
          exact e
/-! ### is a term small? -/
theorem left_loop (x : Core) (d0 : Int) (hd1 : 1 ≤ d0) (hd2 : d0 ≤ 200)
    (hx : ∀ z ∈ x.f3, ∀ m : Int, 0 ≤ m → m ≤ 2000 → ∃ r : Int, r < m ∧ -1 ≤ r ∧ (0 ≤ r ↔ (sizeT z : Int) ≤ m ∧ depthT z + (d0 + 1) ≤ 201) ∧ (0 ≤ r → r = m - sizeT z) ∧ ∃ K, ∀ k, K ≤ k → usanceref13_left.f k z.f0 z.f1 z.f2 z.f3 m (d0 + 1) = some r) :
    ∀ (M : Nat) (m : Int), m + 1 = M → -1 ≤ m → m ≤ 2000 → ∀ j : Nat, j + m ≤ 2000 → j ≤ x.f3.length → ∃ r : Int, r ≤ m ∧ -1 ≤ r ∧ (0 ≤ r ↔ (0 ≤ m ∧ (sizeL (x.f3.drop j) : Int) ≤ m ∧ ∀ z ∈ x.f3.drop j, depthT z + (d0 + 1) ≤ 201)) ∧ (0 ≤ r → r = m - sizeL (x.f3.drop j)) ∧ ∃ K, ∀ k, K ≤ k → usanceref13_left.l0 k m d0 (j : Int) x.f0 x.f1 x.f2 x.f3 = some r := by
  intro M
  induction M using Nat.strongRecOn with
  | ind M ih =>
  intro m hM h1 h2 j hjm hj
  by_cases hjl : j < x.f3.length
  · by_cases hm : 0 ≤ m
    · obtain ⟨a, a1, a2, a3, a4, K1, hK1⟩ := hx x.f3[j] (List.getElem_mem hjl) m hm h2
      obtain ⟨r, r1, r2, r3, r4, K2, hK2⟩ := ih (a + 1).toNat (by omega) a (by omega) a2 (by omega) (j + 1) (by omega) (by omega)
      refine ⟨r, by omega, r2, ?_, ?_, K1 + K2 + 1, fun k hk => ?_⟩
      · rw [r3, List.drop_eq_getElem_cons hjl]
        simp only [sizeL, List.forall_mem_cons]
        constructor
        · rintro ⟨p, q, s⟩
          have := a3.1 p
          have := a4 p
          exact ⟨hm, by push_cast; omega, (a3.1 p).2, s⟩
        · rintro ⟨p, q, s, s'⟩
          push_cast at q
          have p' := a3.2 ⟨by omega, s⟩
          have := a4 p'
          exact ⟨p', by omega, s'⟩
      · intro p
        have q := r4 p
        have p' := (r3.1 p).1
        have := a4 p'
        rw [List.drop_eq_getElem_cons hjl]
        simp only [sizeL]
        push_cast
        omega
      · obtain ⟨k, rfl⟩ : ∃ m, k = m + 1 := ⟨k - 1, by omega⟩
        rw [usanceref13_left.l0, if_pos (by omega), if_pos hm, if_pos (by omega), rd_kid _ _ hjl, wrap_in (d := d0 + 1) (by omega) (by omega), hK1 k (by omega), Option.bind_some, wrap_in (by omega) (by omega)]
        exact hK2 k (by omega)
    · have hm1 : m = -1 := by omega
      subst hm1
      refine ⟨-1, by omega, by omega, ⟨fun h => by omega, fun h => by omega⟩, fun h => by omega, 1, fun k hk => ?_⟩
      obtain ⟨k, rfl⟩ : ∃ m, k = m + 1 := ⟨k - 1, by omega⟩
      rw [usanceref13_left.l0, if_pos (by omega), if_neg (by omega)]
  · refine ⟨m, by omega, h1, ?_, fun h => ?_, 1, fun k hk => ?_⟩
    · rw [List.drop_of_length_le (by omega)]
      exact ⟨fun h => ⟨h, by simpa [sizeL] using h, fun z hz => by cases hz⟩, fun h => h.1⟩
    · rw [List.drop_of_length_le (by omega)]
      simp [sizeL]
    · obtain ⟨k, rfl⟩ : ∃ m, k = m + 1 := ⟨k - 1, by omega⟩
      rw [usanceref13_left.l0, if_neg (by omega)]
theorem left_is (x : Core) : ∀ m d : Int, 0 ≤ m → m ≤ 2000 → 1 ≤ d → d ≤ 201 → ∃ r : Int, r < m ∧ -1 ≤ r ∧ (0 ≤ r ↔ (sizeT x : Int) ≤ m ∧ depthT x + d ≤ 201) ∧ (0 ≤ r → r = m - sizeT x) ∧ ∃ K, ∀ k, K ≤ k → usanceref13_left.f k x.f0 x.f1 x.f2 x.f3 m d = some r := by
  refine ind_core (P := fun x => ∀ m d : Int, 0 ≤ m → m ≤ 2000 → 1 ≤ d → d ≤ 201 → ∃ r : Int, r < m ∧ -1 ≤ r ∧ (0 ≤ r ↔ (sizeT x : Int) ≤ m ∧ depthT x + d ≤ 201) ∧ (0 ≤ r → r = m - sizeT x) ∧ ∃ K, ∀ k, K ≤ k → usanceref13_left.f k x.f0 x.f1 x.f2 x.f3 m d = some r) (fun x ih m d h0 h1 h2 h3 => ?_) x
  by_cases hd : d > 200
  · refine ⟨-1, by omega, by omega, ⟨fun h => by omega, fun h => ?_⟩, fun h => by omega, 1, fun k hk => ?_⟩
    · have := depthT_eq x
      omega
    · obtain ⟨k, rfl⟩ : ∃ m, k = m + 1 := ⟨k - 1, by omega⟩
      rw [usanceref13_left.f, if_pos hd]
  · obtain ⟨r, r1, r2, r3, r4, K, hK⟩ := left_loop x d h2 (by omega) (fun z hz m h0 h1 => ih z hz m (d + 1) h0 h1 (by omega) (by omega)) m.toNat (m - 1) (by omega) (by omega) (by omega) 0 (by omega) (by omega)
    rw [List.drop_zero] at r3 r4
    refine ⟨r, by omega, r2, ?_, ?_, K + 1, fun k hk => ?_⟩
    · rw [r3, sizeT_eq, depthT_eq]
      have e : (∀ z ∈ x.f3, (depthT z : Int) + (d + 1) ≤ 201) ↔ (depthL x.f3 : Int) + (d + 1) ≤ 201 := by
        have := depthL_le x.f3 (200 - d).toNat
        constructor
        · intro h
          have := this.2 (fun z hz => by have := h z hz; omega)
          omega
        · intro h z hz
          have := depthL_mem hz
          omega
      rw [e]
      push_cast
      constructor
      · rintro ⟨a, b, c⟩
        exact ⟨by omega, by omega⟩
      · rintro ⟨a, b⟩
        exact ⟨by omega, by omega, by omega⟩
    · intro p
      have := r4 p
      rw [sizeT_eq]
      push_cast
      omega
    · obtain ⟨k, rfl⟩ : ∃ m, k = m + 1 := ⟨k - 1, by omega⟩
      rw [usanceref13_left.f, if_neg hd, wrap_in (by omega) (by omega)]
      exact hK k (by omega)
theorem small_is (x : Core) : ∃ b : Bool, (b = true ↔ sizeT x ≤ 2000 ∧ depthT x ≤ 200) ∧ ∃ K, ∀ k, K ≤ k → usanceref13_Small.f k x.f0 x.f1 x.f2 x.f3 = some b := by
  obtain ⟨r, _, _, h, _, K, hK⟩ := left_is x 2000 1 (by decide) (by decide) (by decide) (by decide)
  refine ⟨decide (r ≥ 0), ?_, K, fun k hk => ?_⟩
  · rw [decide_eq_true_eq]
    constructor
    · intro p
      have := h.1 p
      omega
    · intro p
      exact h.2 ⟨by omega, by omega⟩
  · unfold usanceref13_Small.f
    rw [hK k hk]
    rfl
end Go.Proofs.YtniajhmbdbgmgaaGreatDoor.Q

namespace Go.Proofs.YtniajhmbdbgmgaaGreatDoor.Q
open Go.RowKit Go.Proofs.YtniajhmbdbgmgaaGreatDoorW.PrintWords Go.Proofs.YtniajhmbdbgmgaaGreatDoorW.PrintLast Go.Proofs.YtniajhmbdbgmgaaGreatDoorW.PrintMore
attribute [local go_sem] max2_int min2_int max_two min_two max_three min_three max_four min_four   -- for this text's walks alone
set_option linter.unusedVariables false
set_option linter.unusedSimpArgs false

/-! ### usanceref07_small: function 215 -/
def usanceref07_small.f (a0 : Int) : Option (Bool) := if a0 ≥ 97 then (some (decide (a0 ≤ 122))) else (some false)
set_option maxHeartbeats 8000000 in
set_option maxRecDepth 100000 in
theorem usanceref07_small.calls (a0 : Int) (r : Bool) (w : World) (h : usanceref07_small.f a0 = some r) :
    Calls Tryz.prog 215 #[.int .u8 a0] w fun e w' => e = .returned (.bool r) ∧ Drawn0 w w' := by
  have H : (if a0 ≥ 97 then (some (decide (a0 ≤ 122))) else (some false)) = some r := h
  clear h
  by_cases c2 : a0 ≥ 97
  · rw [if_pos c2] at H
    have c2b0 : decide (97 ≤ a0) = true := decide_eq_true c2
    clear c2
    obtain rfl := Option.some.inj H
    go_enter Tryz.func215, Tryz.ntmps215
    go_wp2
    go_ret
    exact ⟨by first | rfl | (simp; done) | (simp [*]; done), by repeat (first | exact Drawn0.refl _ | apply Drawn0.step)⟩
  · rw [if_neg c2] at H
    have c2b0 : decide (97 ≤ a0) = false := decide_eq_false c2
    clear c2
    obtain rfl := Option.some.inj H
    go_enter Tryz.func215, Tryz.ntmps215
    go_wp2
    go_ret
    exact ⟨by first | rfl | (simp; done) | (simp [*]; done), by repeat (first | exact Drawn0.refl _ | apply Drawn0.step)⟩

/-! ### usanceref07_digit: function 238 -/
def usanceref07_digit.f (a0 : Int) : Option (Bool) := if a0 ≥ 48 then (some (decide (a0 ≤ 57))) else (some false)
set_option maxHeartbeats 8000000 in
set_option maxRecDepth 100000 in
theorem usanceref07_digit.calls (a0 : Int) (r : Bool) (w : World) (h : usanceref07_digit.f a0 = some r) :
    Calls Tryz.prog 238 #[.int .u8 a0] w fun e w' => e = .returned (.bool r) ∧ Drawn0 w w' := by
  have H : (if a0 ≥ 48 then (some (decide (a0 ≤ 57))) else (some false)) = some r := h
  clear h
  by_cases c2 : a0 ≥ 48
  · rw [if_pos c2] at H
    have c2b0 : decide (48 ≤ a0) = true := decide_eq_true c2
    clear c2
    obtain rfl := Option.some.inj H
    go_enter Tryz.func238, Tryz.ntmps238
    go_wp2
    go_ret
    exact ⟨by first | rfl | (simp; done) | (simp [*]; done), by repeat (first | exact Drawn0.refl _ | apply Drawn0.step)⟩
  · rw [if_neg c2] at H
    have c2b0 : decide (48 ≤ a0) = false := decide_eq_false c2
    clear c2
    obtain rfl := Option.some.inj H
    go_enter Tryz.func238, Tryz.ntmps238
    go_wp2
    go_ret
    exact ⟨by first | rfl | (simp; done) | (simp [*]; done), by repeat (first | exact Drawn0.refl _ | apply Drawn0.step)⟩

/-! ### usanceref07_inner: function 216 -/
def usanceref07_inner.f (a0 : Int) : Option (Bool) := (usanceref07_small.f a0).bind fun t131 => (if t131 = true then (some true) else ((usanceref07_digit.f a0).bind fun t132 => (if t132 = true then (some true) else (some (a0 == 95)))))
set_option maxHeartbeats 8000000 in
set_option maxRecDepth 100000 in
theorem usanceref07_inner.calls (a0 : Int) (r : Bool) (w : World) (h : usanceref07_inner.f a0 = some r) :
    Calls Tryz.prog 216 #[.int .u8 a0] w fun e w' => e = .returned (.bool r) ∧ Drawn0 w w' := by
  have H : ((usanceref07_small.f a0).bind fun t131 => (if t131 = true then (some true) else ((usanceref07_digit.f a0).bind fun t132 => (if t132 = true then (some true) else (some (a0 == 95)))))) = some r := h
  clear h
  replace H := Option.bind_eq_some_iff.mp H
  obtain ⟨t131, A20, H⟩ := H
  replace H : (if t131 = true then (some true) else ((usanceref07_digit.f a0).bind fun t132 => (if t132 = true then (some true) else (some (a0 == 95))))) = some r := H
  have A2 := Aside0.mk A20
  clear A20
  by_cases c3 : t131 = true
  · subst c3
    have H1 : (some true) = some r := by rw [if_pos rfl] at H; exact H
    clear H
    have H := H1
    clear H1
    obtain rfl := Option.some.inj H
    go_enter Tryz.func216, Tryz.ntmps216
    go_wp2_with (first | ((with_reducible refine gate_callee (f := 215) rfl ?_); refine goesL_ (some 4) rfl rfl Tryz.func215 (by kernel_rfl) rfl #[.int .u8 a0] rfl (by (try simp only [List.map_toArray, List.map_cons, List.map_nil]); first | done | rfl | (simp only [List.length_drop, List.length_take]; rfl)) ?_; (with_reducible refine (usanceref07_small.calls a0 true _ A2.out).mono ?_); rintro e w' ⟨rfl, ⟨nd, rfl⟩⟩; refine ⟨_, rfl, ?_⟩))
    go_ret
    exact ⟨by first | rfl | (simp; done) | (simp [*]; done), by repeat (first | exact Drawn0.refl _ | apply Drawn0.step)⟩
  · replace c3 := Bool.eq_false_iff.mpr c3
    subst c3
    have H1 : ((usanceref07_digit.f a0).bind fun t132 => (if t132 = true then (some true) else (some (a0 == 95)))) = some r := by rw [if_neg (show ¬ (false = true) by decide)] at H; exact H
    clear H
    have H := H1
    clear H1
    replace H := Option.bind_eq_some_iff.mp H
    obtain ⟨t132, A40, H⟩ := H
    replace H : (if t132 = true then (some true) else (some (a0 == 95))) = some r := H
    have A4 := Aside0.mk A40
    clear A40
    by_cases c5 : t132 = true
    · subst c5
      have H1 : (some true) = some r := by rw [if_pos rfl] at H; exact H
      clear H
      have H := H1
      clear H1
      obtain rfl := Option.some.inj H
      go_enter Tryz.func216, Tryz.ntmps216
      go_wp2_with (first | ((with_reducible refine gate_callee (f := 215) rfl ?_); refine goesL_ (some 4) rfl rfl Tryz.func215 (by kernel_rfl) rfl #[.int .u8 a0] rfl (by (try simp only [List.map_toArray, List.map_cons, List.map_nil]); first | done | rfl | (simp only [List.length_drop, List.length_take]; rfl)) ?_; (with_reducible refine (usanceref07_small.calls a0 false _ A2.out).mono ?_); rintro e w' ⟨rfl, ⟨nd, rfl⟩⟩; refine ⟨_, rfl, ?_⟩) | (go_at_call 238; (with_reducible refine (usanceref07_digit.calls a0 true _ A4.out).mono ?_); rintro e w' ⟨rfl, ⟨nd, rfl⟩⟩))
      go_ret
      exact ⟨by first | rfl | (simp; done) | (simp [*]; done), by repeat (first | exact Drawn0.refl _ | apply Drawn0.step)⟩
    · replace c5 := Bool.eq_false_iff.mpr c5
      subst c5
      have H1 : (some (a0 == 95)) = some r := by rw [if_neg (show ¬ (false = true) by decide)] at H; exact H
      clear H
      have H := H1
      clear H1
      obtain rfl := Option.some.inj H
      go_enter Tryz.func216, Tryz.ntmps216
      go_wp2_with (first | ((with_reducible refine gate_callee (f := 215) rfl ?_); refine goesL_ (some 4) rfl rfl Tryz.func215 (by kernel_rfl) rfl #[.int .u8 a0] rfl (by (try simp only [List.map_toArray, List.map_cons, List.map_nil]); first | done | rfl | (simp only [List.length_drop, List.length_take]; rfl)) ?_; (with_reducible refine (usanceref07_small.calls a0 false _ A2.out).mono ?_); rintro e w' ⟨rfl, ⟨nd, rfl⟩⟩; refine ⟨_, rfl, ?_⟩) | (go_at_call 238; (with_reducible refine (usanceref07_digit.calls a0 false _ A4.out).mono ?_); rintro e w' ⟨rfl, ⟨nd, rfl⟩⟩))
      go_ret
      exact ⟨by first | rfl | (simp; done) | (simp [*]; done), by repeat (first | exact Drawn0.refl _ | apply Drawn0.step)⟩

/-! ### usanceref07_span: function 177 -/
def usanceref07_span.l0 : Nat → ByteArray → Int → Int → Option (Int)
  | 0, _, _, _ => none
  | k + 1, x0, x1, x6 => if (wrap64 (x1 + x6)) < (x0.size : Int) then (if 0 ≤ (wrap64 (x1 + x6)) then ((usanceref07_inner.f (bt x0 (wrap64 (x1 + x6)))).bind fun t134 => (if t134 = true then (usanceref07_span.l0 k x0 x1 (wrap64 (x6 + 1))) else (some x6))) else (none)) else (some x6)
def usanceref07_span.f (k : Nat) (a0 : ByteArray) (a1 : Int) : Option (Int) := if a1 ≥ (a0.size : Int) then (some 0) else (if 0 ≤ a1 then (if a1 < (a0.size : Int) then ((usanceref07_small.f (bt a0 a1)).bind fun t133 => (if t133 = true then (usanceref07_span.l0 k a0 a1 1) else (some 0))) else (none)) else (none))
theorem usanceref07_span.mono_l : ∀ k, (∀ y0 y1 y2, LeO (usanceref07_span.l0 k y0 y1 y2) (usanceref07_span.l0 (k + 1) y0 y1 y2))
  | 0 => fun _ _ _ r h => by simp [usanceref07_span.l0] at h
  | k + 1 => by
    have ih0 := usanceref07_span.mono_l k
    · intro y0 y1 y2
      unfold usanceref07_span.l0
      repeat' first
      | (with_reducible exact ih0 _ _ _)
      | (with_reducible exact LeO.refl _)
      | (with_reducible exact LeO.none _)
      | (with_reducible refine LeO.ite ?_ ?_)
      | (with_reducible refine LeO.bind ?_ (fun _ => ?_))
      | exact ih0 _ _ _
      | exact LeO.none _
      | refine LeO.ite ?_ ?_
      | refine LeO.bind ?_ (fun _ => ?_)
theorem usanceref07_span.mono : ∀ a0 a1 k, LeO (usanceref07_span.f k a0 a1) (usanceref07_span.f (k + 1) a0 a1) := by
  intro a0 a1 k
  have ih0 := usanceref07_span.mono_l k
  unfold usanceref07_span.f
  repeat' first
      | (with_reducible exact ih0 _ _ _)
      | (with_reducible exact LeO.refl _)
      | (with_reducible exact LeO.none _)
      | (with_reducible refine LeO.ite ?_ ?_)
      | (with_reducible refine LeO.bind ?_ (fun _ => ?_))
      | exact ih0 _ _ _
      | exact LeO.none _
      | refine LeO.ite ?_ ?_
      | refine LeO.bind ?_ (fun _ => ?_)
set_option maxHeartbeats 8000000 in
set_option maxRecDepth 100000 in
theorem usanceref07_span.calls (k : Nat) (a0 : ByteArray) (a1 : Int) (r : Int) (w : World) (h : usanceref07_span.f k a0 a1 = some r) :
    Calls Tryz.prog 177 #[.string a0, .int .i64 a1] w fun e w' => e = .returned (.int .i64 r) ∧ Drawn0 w w' := by
  have H : (if a1 ≥ (a0.size : Int) then (some 0) else (if 0 ≤ a1 then (if a1 < (a0.size : Int) then ((usanceref07_small.f (bt a0 a1)).bind fun t133 => (if t133 = true then (usanceref07_span.l0 k a0 a1 1) else (some 0))) else (none)) else (none))) = some r := h
  clear h
  by_cases c3 : a1 ≥ (a0.size : Int)
  · rw [if_pos c3] at H
    have c3b0 : decide ((a0.size : Int) ≤ a1) = true := decide_eq_true c3
    clear c3
    obtain rfl := Option.some.inj H
    go_enter Tryz.func177, Tryz.ntmps177
    go_wp2
    go_ret
    exact ⟨by first | rfl | (simp; done) | (simp [*]; done), by repeat (first | exact Drawn0.refl _ | apply Drawn0.step)⟩
  · rw [if_neg c3] at H
    have c3b0 : decide ((a0.size : Int) ≤ a1) = false := decide_eq_false c3
    clear c3
    by_cases c4 : 0 ≤ a1
    · rw [if_pos c4] at H
      have c4b0 : decide (0 ≤ a1) = true := decide_eq_true c4
      clear c4
      by_cases c5 : a1 < (a0.size : Int)
      · rw [if_pos c5] at H
        have c5b0 : decide (a1 < (a0.size : Int)) = true := decide_eq_true c5
        clear c5
        replace H := Option.bind_eq_some_iff.mp H
        obtain ⟨t133, A70, H⟩ := H
        replace H : (if t133 = true then (usanceref07_span.l0 k a0 a1 1) else (some 0)) = some r := H
        have A7 := Aside0.mk A70
        clear A70
        by_cases c8 : t133 = true
        · subst c8
          have H1 : (usanceref07_span.l0 k a0 a1 1) = some r := by rw [if_pos rfl] at H; exact H
          clear H
          have H := H1
          clear H1
          have H' := Aside0.mk H
          clear H
          have p6 : 0 ≤ (a1 : Int) := of_decide_eq_true (by first | (with_reducible assumption) | assumption)
          have q6 : a1 < (a0.size : Int) := of_decide_eq_true (by first | (with_reducible assumption) | assumption)
          have hx6 := bt_at a0 a1
          replace p6 := eq_true p6
          replace q6 := eq_true q6
          go_enter Tryz.func177, Tryz.ntmps177
          go_wp2_with (first | ((with_reducible refine gate_callee (f := 215) rfl ?_); refine goesL_ (some 14) rfl rfl Tryz.func215 (by kernel_rfl) rfl #[.int .u8 (bt a0 a1)] rfl (by (try simp only [List.map_toArray, List.map_cons, List.map_nil]); first | done | rfl | (simp only [List.length_drop, List.length_take]; rfl)) ?_; (with_reducible refine (usanceref07_small.calls (bt a0 a1) true _ A7.out).mono ?_); rintro e w' ⟨rfl, ⟨nd, rfl⟩⟩; refine ⟨_, rfl, ?_⟩))
          go_loopg [6] k (fun kq v6 w' => ∃ (x6_1 : Int), v6 = .int .i64 x6_1 ∧ Aside0 (usanceref07_span.l0 kq a0 a1 x6_1 = some r) ∧ Aside0 (kq ≤ k) ∧ Drawn0 w w')
          case atStart => exact ⟨(1), (by first | rfl | (simp; done) | (simp [*]; done)), H', ⟨Nat.le_refl _⟩, by repeat (first | exact Drawn0.refl _ | apply Drawn0.step)⟩
          case round =>
            clear H'
            try clear c1
            try clear c2
            try clear p2
            try clear c3
            try clear c3b0
            try clear c4
            try clear c4b0
            try clear c5
            try clear c5b0
            try clear p6
            try clear q6
            try clear hx6
            try clear c8
            try clear p6
            try clear q6
            obtain ⟨x6_1, rfl, HA, HK1, ⟨m1, rfl⟩⟩ := hrel
            cases gk with
            | zero => exact absurd HA.out (by simp [usanceref07_span.l0])
            | succ k1 =>
              have H := HA.out
              clear HA
              simp only [usanceref07_span.l0] at H
              by_cases c9 : (wrap64 (a1 + x6_1)) < (a0.size : Int)
              · rw [if_pos c9] at H
                have c9b0 : decide ((wrap64 (a1 + x6_1)) < (a0.size : Int)) = true := decide_eq_true c9
                clear c9
                obtain ⟨ji10, hji10⟩ : ∃ j_ : Int, (wrap64 (a1 + x6_1)) = j_ := ⟨_, rfl⟩
                replace H : (if 0 ≤ (ji10) then ((usanceref07_inner.f (bt a0 (ji10))).bind fun t134 => (if t134 = true then (usanceref07_span.l0 k1 a0 a1 (wrap64 (x6_1 + 1))) else (some x6_1))) else (none)) = some r := by first | (rw [hji10] at H; exact H) | (simp only [hji10] at H ⊢; exact H)
                (try rw [hji10] at c9b0)
                have hji10w : (IntKind.i64.wrap (a1 + x6_1)) = ji10 := (i64_w _).trans hji10
                by_cases c11 : 0 ≤ (ji10)
                · rw [if_pos c11] at H
                  have c11b0 : decide (0 ≤ (ji10)) = true := decide_eq_true c11
                  clear c11
                  replace H := Option.bind_eq_some_iff.mp H
                  obtain ⟨t134, A130, H⟩ := H
                  replace H : (if t134 = true then (usanceref07_span.l0 k1 a0 a1 (wrap64 (x6_1 + 1))) else (some x6_1)) = some r := H
                  have A13 := Aside0.mk A130
                  clear A130
                  by_cases c14 : t134 = true
                  · subst c14
                    have H1 : (usanceref07_span.l0 k1 a0 a1 (wrap64 (x6_1 + 1))) = some r := by rw [if_pos rfl] at H; exact H
                    clear H
                    have H := H1
                    clear H1
                    have H' := Aside0.mk H
                    clear H
                    have p12 : 0 ≤ ((ji10) : Int) := of_decide_eq_true (by first | (with_reducible assumption) | assumption)
                    have q12 : (ji10) < (a0.size : Int) := of_decide_eq_true (by first | (with_reducible assumption) | assumption)
                    have hx12 := bt_at a0 (ji10)
                    replace p12 := eq_true p12
                    replace q12 := eq_true q12
                    go_wp2_with (first | (go_at_call 216; (with_reducible refine (usanceref07_inner.calls (bt a0 (ji10)) true _ A13.out).mono ?_); rintro e w' ⟨rfl, ⟨nd, rfl⟩⟩))
                    go_roundg k1
                    case measure => have := HK1.out; omega
                    case rel => exact ⟨(wrap64 (x6_1 + 1)), (by first | rfl | (simp; done) | (simp [*]; done)), H', ⟨by have := HK1.out; omega⟩, by repeat (first | exact Drawn0.refl _ | apply Drawn0.step)⟩
                  · replace c14 := Bool.eq_false_iff.mpr c14
                    subst c14
                    have H1 : (some x6_1) = some r := by rw [if_neg (show ¬ (false = true) by decide)] at H; exact H
                    clear H
                    have H := H1
                    clear H1
                    obtain rfl := Option.some.inj H
                    have p12 : 0 ≤ ((ji10) : Int) := of_decide_eq_true (by first | (with_reducible assumption) | assumption)
                    have q12 : (ji10) < (a0.size : Int) := of_decide_eq_true (by first | (with_reducible assumption) | assumption)
                    have hx12 := bt_at a0 (ji10)
                    replace p12 := eq_true p12
                    replace q12 := eq_true q12
                    go_wp2_with (first | (go_at_call 216; (with_reducible refine (usanceref07_inner.calls (bt a0 (ji10)) false _ A13.out).mono ?_); rintro e w' ⟨rfl, ⟨nd, rfl⟩⟩))
                    go_ret
                    exact ⟨by first | rfl | (simp; done) | (simp only [← hji10] <;> (first | rfl | simp)) | (simp [*]; done), by repeat (first | exact Drawn0.refl _ | apply Drawn0.step)⟩
                · rw [if_neg c11] at H
                  exact absurd H (by simp)
              · rw [if_neg c9] at H
                have c9b0 : decide ((wrap64 (a1 + x6_1)) < (a0.size : Int)) = false := decide_eq_false c9
                clear c9
                obtain rfl := Option.some.inj H
                go_wp2
                go_ret
                exact ⟨by first | rfl | (simp; done) | (simp [*]; done), by repeat (first | exact Drawn0.refl _ | apply Drawn0.step)⟩
        · replace c8 := Bool.eq_false_iff.mpr c8
          subst c8
          have H1 : (some 0) = some r := by rw [if_neg (show ¬ (false = true) by decide)] at H; exact H
          clear H
          have H := H1
          clear H1
          obtain rfl := Option.some.inj H
          have p6 : 0 ≤ (a1 : Int) := of_decide_eq_true (by first | (with_reducible assumption) | assumption)
          have q6 : a1 < (a0.size : Int) := of_decide_eq_true (by first | (with_reducible assumption) | assumption)
          have hx6 := bt_at a0 a1
          replace p6 := eq_true p6
          replace q6 := eq_true q6
          go_enter Tryz.func177, Tryz.ntmps177
          go_wp2_with (first | ((with_reducible refine gate_callee (f := 215) rfl ?_); refine goesL_ (some 14) rfl rfl Tryz.func215 (by kernel_rfl) rfl #[.int .u8 (bt a0 a1)] rfl (by (try simp only [List.map_toArray, List.map_cons, List.map_nil]); first | done | rfl | (simp only [List.length_drop, List.length_take]; rfl)) ?_; (with_reducible refine (usanceref07_small.calls (bt a0 a1) false _ A7.out).mono ?_); rintro e w' ⟨rfl, ⟨nd, rfl⟩⟩; refine ⟨_, rfl, ?_⟩))
          go_ret
          exact ⟨by first | rfl | (simp; done) | (simp [*]; done), by repeat (first | exact Drawn0.refl _ | apply Drawn0.step)⟩
      · rw [if_neg c5] at H
        exact absurd H (by simp)
    · rw [if_neg c4] at H
      exact absurd H (by simp)

end Go.Proofs.YtniajhmbdbgmgaaGreatDoor.Q

namespace Go.Proofs.YtniajhmbdbgmgaaGreatDoor.Q
open Go.RowKit Go.Proofs.YtniajhmbdbgmgaaGreatDoorW.PrintWords Go.Proofs.YtniajhmbdbgmgaaGreatDoorW.PrintLast Go.Proofs.YtniajhmbdbgmgaaGreatDoorW.PrintMore
attribute [local go_sem] max2_int min2_int max_two min_two max_three min_three max_four min_four   -- for this text's walks alone
set_option linter.unusedVariables false
set_option linter.unusedSimpArgs false

/-! ### usanceref07_IsName: function 112 -/
def usanceref07_IsName.f (k : Nat) (a0 : ByteArray) : Option (Bool) := if (a0.size : Int) > 0 then (if (a0.size : Int) ≤ 24 then ((usanceref07_span.f k a0 0).bind fun t135 => (some (t135 == (a0.size : Int)))) else (some false)) else (some false)
theorem usanceref07_IsName.mono : ∀ a0 k, LeO (usanceref07_IsName.f k a0) (usanceref07_IsName.f (k + 1) a0) := by
  intro a0 k
  unfold usanceref07_IsName.f
  repeat' first
      | (with_reducible exact usanceref07_span.mono _ _ _)
      | (with_reducible exact LeO.refl _)
      | (with_reducible exact LeO.none _)
      | (with_reducible refine LeO.ite ?_ ?_)
      | (with_reducible refine LeO.bind ?_ (fun _ => ?_))
      | exact usanceref07_span.mono _ _ _
      | exact LeO.none _
      | refine LeO.ite ?_ ?_
      | refine LeO.bind ?_ (fun _ => ?_)
set_option maxHeartbeats 8000000 in
set_option maxRecDepth 100000 in
theorem usanceref07_IsName.calls (k : Nat) (a0 : ByteArray) (r : Bool) (w : World) (h : usanceref07_IsName.f k a0 = some r) :
    Calls Tryz.prog 112 #[.string a0] w fun e w' => e = .returned (.bool r) ∧ Drawn0 w w' := by
  have H : (if (a0.size : Int) > 0 then (if (a0.size : Int) ≤ 24 then ((usanceref07_span.f k a0 0).bind fun t135 => (some (t135 == (a0.size : Int)))) else (some false)) else (some false)) = some r := h
  clear h
  by_cases c2 : (a0.size : Int) > 0
  · rw [if_pos c2] at H
    have c2b0 : decide (0 < (a0.size : Int)) = true := decide_eq_true c2
    have c2b1 : decide (0 < a0.size) = true := decide_eq_true (by omega)
    clear c2
    by_cases c3 : (a0.size : Int) ≤ 24
    · rw [if_pos c3] at H
      have c3b0 : decide ((a0.size : Int) ≤ 24) = true := decide_eq_true c3
      have c3b1 : decide (a0.size ≤ 24) = true := decide_eq_true (by omega)
      clear c3
      replace H := Option.bind_eq_some_iff.mp H
      obtain ⟨t135, A40, H⟩ := H
      replace H : (some (t135 == (a0.size : Int))) = some r := H
      have A4 := Aside0.mk A40
      clear A40
      obtain rfl := Option.some.inj H
      go_enter Tryz.func112, Tryz.ntmps112
      go_wp2_with (first | (go_at_call 177; (with_reducible refine (usanceref07_span.calls k a0 0 t135 _ A4.out).mono ?_); rintro e w' ⟨rfl, ⟨nd, rfl⟩⟩))
      go_ret
      exact ⟨by first | rfl | (simp; done) | (simp [*]; done), by repeat (first | exact Drawn0.refl _ | apply Drawn0.step)⟩
    · rw [if_neg c3] at H
      have c3b0 : decide ((a0.size : Int) ≤ 24) = false := decide_eq_false c3
      have c3b1 : decide (a0.size ≤ 24) = false := decide_eq_false (by omega)
      clear c3
      obtain rfl := Option.some.inj H
      go_enter Tryz.func112, Tryz.ntmps112
      go_wp2
      go_ret
      exact ⟨by first | rfl | (simp; done) | (simp [*]; done), by repeat (first | exact Drawn0.refl _ | apply Drawn0.step)⟩
  · rw [if_neg c2] at H
    have c2b0 : decide (0 < (a0.size : Int)) = false := decide_eq_false c2
    have c2b1 : decide (0 < a0.size) = false := decide_eq_false (by omega)
    clear c2
    obtain rfl := Option.some.inj H
    go_enter Tryz.func112, Tryz.ntmps112
    go_wp2
    go_ret
    exact ⟨by first | rfl | (simp; done) | (simp [*]; done), by repeat (first | exact Drawn0.refl _ | apply Drawn0.step)⟩

/-! ### usanceref09_IsCur: function 178 -/
def usanceref09_IsCur.l0 : Nat → ByteArray → Int → Option (Bool)
  | 0, _, _ => none
  | k + 1, x0, x3 => if x3 < 3 then (if 0 ≤ x3 then (if x3 < (x0.size : Int) then (if (bt x0 x3) < 65 then (some false) else (if (bt x0 x3) > 90 then (some false) else (usanceref09_IsCur.l0 k x0 (wrap64 (x3 + 1))))) else (none)) else (none)) else (some true)
def usanceref09_IsCur.f (k : Nat) (a0 : ByteArray) : Option (Bool) := if (a0.size : Int) = 3 then (usanceref09_IsCur.l0 k a0 0) else (some false)
theorem usanceref09_IsCur.mono_l : ∀ k, (∀ y0 y1, LeO (usanceref09_IsCur.l0 k y0 y1) (usanceref09_IsCur.l0 (k + 1) y0 y1))
  | 0 => fun _ _ r h => by simp [usanceref09_IsCur.l0] at h
  | k + 1 => by
    have ih0 := usanceref09_IsCur.mono_l k
    · intro y0 y1
      unfold usanceref09_IsCur.l0
      repeat' first
      | (with_reducible exact ih0 _ _)
      | (with_reducible exact LeO.refl _)
      | (with_reducible exact LeO.none _)
      | (with_reducible refine LeO.ite ?_ ?_)
      | (with_reducible refine LeO.bind ?_ (fun _ => ?_))
      | exact ih0 _ _
      | exact LeO.none _
      | refine LeO.ite ?_ ?_
      | refine LeO.bind ?_ (fun _ => ?_)
theorem usanceref09_IsCur.mono : ∀ a0 k, LeO (usanceref09_IsCur.f k a0) (usanceref09_IsCur.f (k + 1) a0) := by
  intro a0 k
  have ih0 := usanceref09_IsCur.mono_l k
  unfold usanceref09_IsCur.f
  repeat' first
      | (with_reducible exact ih0 _ _)
      | (with_reducible exact LeO.refl _)
      | (with_reducible exact LeO.none _)
      | (with_reducible refine LeO.ite ?_ ?_)
      | (with_reducible refine LeO.bind ?_ (fun _ => ?_))
      | exact ih0 _ _
      | exact LeO.none _
      | refine LeO.ite ?_ ?_
      | refine LeO.bind ?_ (fun _ => ?_)
set_option maxHeartbeats 8000000 in
set_option maxRecDepth 100000 in
theorem usanceref09_IsCur.calls (k : Nat) (a0 : ByteArray) (r : Bool) (w : World) (h : usanceref09_IsCur.f k a0 = some r) :
    Calls Tryz.prog 178 #[.string a0] w fun e w' => e = .returned (.bool r) ∧ Drawn0 w w' := by
  have H : (if (a0.size : Int) = 3 then (usanceref09_IsCur.l0 k a0 0) else (some false)) = some r := h
  clear h
  by_cases c2 : (a0.size : Int) = 3
  · rw [if_pos c2] at H
    have c2b0 : ((a0.size : Int) == 3) = true := beq_iff_eq.mpr c2
    have c2b1 : ((a0.size : Int) != 3) = false := bne_eq_false_iff_eq.mpr c2
    clear c2
    have H' := Aside0.mk H
    clear H
    go_enter Tryz.func178, Tryz.ntmps178
    go_wp2
    go_loopg [3] k (fun kq v3 w' => ∃ (x3_1 : Int), v3 = .int .i64 x3_1 ∧ Aside0 (usanceref09_IsCur.l0 kq a0 x3_1 = some r) ∧ Aside0 (kq ≤ k) ∧ Drawn0 w w')
    case atStart => exact ⟨(0), (by first | rfl | (simp; done) | (simp [*]; done)), H', ⟨Nat.le_refl _⟩, by repeat (first | exact Drawn0.refl _ | apply Drawn0.step)⟩
    case round =>
      clear H'
      try clear c1
      try clear c2
      try clear c2b0
      try clear c2b1
      try clear p2
      obtain ⟨x3_1, rfl, HA, HK1, ⟨m1, rfl⟩⟩ := hrel
      cases gk with
      | zero => exact absurd HA.out (by simp [usanceref09_IsCur.l0])
      | succ k1 =>
        have H := HA.out
        clear HA
        simp only [usanceref09_IsCur.l0] at H
        by_cases c3 : x3_1 < 3
        · rw [if_pos c3] at H
          have c3b0 : decide (x3_1 < 3) = true := decide_eq_true c3
          clear c3
          by_cases c4 : 0 ≤ x3_1
          · rw [if_pos c4] at H
            have c4b0 : decide (0 ≤ x3_1) = true := decide_eq_true c4
            clear c4
            by_cases c5 : x3_1 < (a0.size : Int)
            · rw [if_pos c5] at H
              have c5b0 : decide (x3_1 < (a0.size : Int)) = true := decide_eq_true c5
              clear c5
              by_cases c7 : (bt a0 x3_1) < 65
              · rw [if_pos c7] at H
                have c7b0 : decide ((bt a0 x3_1) < 65) = true := decide_eq_true c7
                clear c7
                obtain rfl := Option.some.inj H
                have p6 : 0 ≤ (x3_1 : Int) := of_decide_eq_true (by first | (with_reducible assumption) | assumption)
                have q6 : x3_1 < (a0.size : Int) := of_decide_eq_true (by first | (with_reducible assumption) | assumption)
                have hx6 := bt_at a0 x3_1
                replace p6 := eq_true p6
                replace q6 := eq_true q6
                go_wp2
                go_ret
                exact ⟨by first | rfl | (simp; done) | (simp [*]; done), by repeat (first | exact Drawn0.refl _ | apply Drawn0.step)⟩
              · rw [if_neg c7] at H
                have c7b0 : decide ((bt a0 x3_1) < 65) = false := decide_eq_false c7
                clear c7
                by_cases c9 : (bt a0 x3_1) > 90
                · rw [if_pos c9] at H
                  have c9b0 : decide (90 < (bt a0 x3_1)) = true := decide_eq_true c9
                  clear c9
                  obtain rfl := Option.some.inj H
                  have p6 : 0 ≤ (x3_1 : Int) := of_decide_eq_true (by first | (with_reducible assumption) | assumption)
                  have q6 : x3_1 < (a0.size : Int) := of_decide_eq_true (by first | (with_reducible assumption) | assumption)
                  have hx6 := bt_at a0 x3_1
                  replace p6 := eq_true p6
                  replace q6 := eq_true q6
                  have p8 : 0 ≤ (x3_1 : Int) := of_decide_eq_true (by first | (with_reducible assumption) | assumption)
                  have q8 : x3_1 < (a0.size : Int) := of_decide_eq_true (by first | (with_reducible assumption) | assumption)
                  have hx8 := bt_at a0 x3_1
                  replace p8 := eq_true p8
                  replace q8 := eq_true q8
                  go_wp2
                  go_ret
                  exact ⟨by first | rfl | (simp; done) | (simp [*]; done), by repeat (first | exact Drawn0.refl _ | apply Drawn0.step)⟩
                · rw [if_neg c9] at H
                  have c9b0 : decide (90 < (bt a0 x3_1)) = false := decide_eq_false c9
                  clear c9
                  have H' := Aside0.mk H
                  clear H
                  have p6 : 0 ≤ (x3_1 : Int) := of_decide_eq_true (by first | (with_reducible assumption) | assumption)
                  have q6 : x3_1 < (a0.size : Int) := of_decide_eq_true (by first | (with_reducible assumption) | assumption)
                  have hx6 := bt_at a0 x3_1
                  replace p6 := eq_true p6
                  replace q6 := eq_true q6
                  have p8 : 0 ≤ (x3_1 : Int) := of_decide_eq_true (by first | (with_reducible assumption) | assumption)
                  have q8 : x3_1 < (a0.size : Int) := of_decide_eq_true (by first | (with_reducible assumption) | assumption)
                  have hx8 := bt_at a0 x3_1
                  replace p8 := eq_true p8
                  replace q8 := eq_true q8
                  go_wp2
                  go_roundg k1
                  case measure => have := HK1.out; omega
                  case rel => exact ⟨(wrap64 (x3_1 + 1)), (by first | rfl | (simp; done) | (simp [*]; done)), H', ⟨by have := HK1.out; omega⟩, by repeat (first | exact Drawn0.refl _ | apply Drawn0.step)⟩
            · rw [if_neg c5] at H
              exact absurd H (by simp)
          · rw [if_neg c4] at H
            exact absurd H (by simp)
        · rw [if_neg c3] at H
          have c3b0 : decide (x3_1 < 3) = false := decide_eq_false c3
          clear c3
          obtain rfl := Option.some.inj H
          go_wp2
          go_ret
          exact ⟨by first | rfl | (simp; done) | (simp [*]; done), by repeat (first | exact Drawn0.refl _ | apply Drawn0.step)⟩
  · rw [if_neg c2] at H
    have c2b0 : ((a0.size : Int) == 3) = false := beq_eq_false_iff_ne.mpr c2
    have c2b1 : ((a0.size : Int) != 3) = true := bne_iff_ne.mpr c2
    obtain rfl := Option.some.inj H
    go_enter Tryz.func178, Tryz.ntmps178
    go_wp2
    go_ret
    exact ⟨by first | rfl | (simp; done) | (simp [*]; done), by repeat (first | exact Drawn0.refl _ | apply Drawn0.step)⟩

end Go.Proofs.YtniajhmbdbgmgaaGreatDoor.Q

namespace Go.Proofs.YtniajhmbdbgmgaaGreatDoor.Q
open Go.RowKit Go.Proofs.YtniajhmbdbgmgaaGreatDoorW.PrintWords Go.Proofs.YtniajhmbdbgmgaaGreatDoorW.PrintLast Go.Proofs.YtniajhmbdbgmgaaGreatDoorW.PrintMore
attribute [local go_sem] max2_int min2_int max_two min_two max_three min_three max_four min_four   -- for this text's walks alone
set_option linter.unusedVariables false
set_option linter.unusedSimpArgs false

/-! ### usanceref14_fields: function 148 -/
mutual
def usanceref14_fields.j0 : Nat → Bool → Bool → Bool → Int → Int → ByteArray → List (S24) → Option (Bool)
  | 0, _, _, _, _, _, _, _ => none
  | k + 1, x3, x4, x5, x137000, x137001, x137002, x137003 => if x137001 ≥ (-3660) then (usanceref14_fields.j1 k x3 x4 x5 (decide (x137001 ≤ 3660)) x137000 x137001 x137002 x137003) else (usanceref14_fields.j1 k x3 x4 x5 false x137000 x137001 x137002 x137003)
def usanceref14_fields.j1 : Nat → Bool → Bool → Bool → Bool → Int → Int → ByteArray → List (S24) → Option (Bool)
  | 0, _, _, _, _, _, _, _, _ => none
  | k + 1, x3, x4, x5, x6, x137000, x137001, x137002, x137003 => if x137000 = 4 then (if x3 = true then (some x6) else (some false)) else (if x137000 = 31 then (if x3 = true then (some x5) else (some false)) else (if x137000 = 24 then (if x4 = true then (some (x137001 == 0)) else (some false)) else (if x137002.toList = ([] : List UInt8) then (if x137000 = 1 then (if x137001 ≥ (-1000000000000000) then (some (decide (x137001 ≤ 1000000000000000))) else (some false)) else (if x137000 = 2 then (if x137001 = 0 then (some true) else (some (x137001 == 1))) else (if x137000 = 3 then (usanceref14_fields.j2 k x5 x6 x137000 (x137000 == 3) x137000 x137001 x137002 x137003) else (if x137000 = 29 then (usanceref14_fields.j2 k x5 x6 x137000 (x137000 == 29) x137000 x137001 x137002 x137003) else (usanceref14_fields.j2 k x5 x6 x137000 (x137000 == 30) x137000 x137001 x137002 x137003))))) else (some false))))
def usanceref14_fields.j2 : Nat → Bool → Bool → Int → Bool → Int → Int → ByteArray → List (S24) → Option (Bool)
  | 0, _, _, _, _, _, _, _, _ => none
  | k + 1, x5, x6, x55, x76, x137000, x137001, x137002, x137003 => if x76 = true then (some x5) else (if x55 = 5 then (some x6) else (some (x137001 == 0)))
end
def usanceref14_fields.f (k : Nat) (a0_0 : Int) (a0_1 : Int) (a0_2 : ByteArray) (l0_3 : List (S24)) : Option (Bool) := (usanceref07_IsName.f k a0_2).bind fun t137 => ((usanceref09_IsCur.f k a0_2).bind fun t138 => (if a0_1 ≥ 0 then (usanceref14_fields.j0 k t137 t138 (decide (a0_1 ≤ 73048)) a0_0 a0_1 a0_2 l0_3) else (usanceref14_fields.j0 k t137 t138 false a0_0 a0_1 a0_2 l0_3)))
theorem usanceref14_fields.mono_l : ∀ k, (∀ y0 y1 y2 y3 y4 y5 y6, LeO (usanceref14_fields.j0 k y0 y1 y2 y3 y4 y5 y6) (usanceref14_fields.j0 (k + 1) y0 y1 y2 y3 y4 y5 y6)) ∧ (∀ y0 y1 y2 y3 y4 y5 y6 y7, LeO (usanceref14_fields.j1 k y0 y1 y2 y3 y4 y5 y6 y7) (usanceref14_fields.j1 (k + 1) y0 y1 y2 y3 y4 y5 y6 y7)) ∧ (∀ y0 y1 y2 y3 y4 y5 y6 y7, LeO (usanceref14_fields.j2 k y0 y1 y2 y3 y4 y5 y6 y7) (usanceref14_fields.j2 (k + 1) y0 y1 y2 y3 y4 y5 y6 y7))
  | 0 => ⟨fun _ _ _ _ _ _ _ r h => by simp [usanceref14_fields.j0] at h, fun _ _ _ _ _ _ _ _ r h => by simp [usanceref14_fields.j1] at h, fun _ _ _ _ _ _ _ _ r h => by simp [usanceref14_fields.j2] at h⟩
  | k + 1 => by
    obtain ⟨ih0, ih1, ih2⟩ := usanceref14_fields.mono_l k
    refine ⟨?_, ?_, ?_⟩
    · intro y0 y1 y2 y3 y4 y5 y6
      unfold usanceref14_fields.j0
      repeat' first
      | (with_reducible exact ih0 _ _ _ _ _ _ _)
      | (with_reducible exact ih1 _ _ _ _ _ _ _ _)
      | (with_reducible exact ih2 _ _ _ _ _ _ _ _)
      | (with_reducible exact usanceref07_IsName.mono _ _)
      | (with_reducible exact usanceref09_IsCur.mono _ _)
      | (with_reducible exact LeO.refl _)
      | (with_reducible exact LeO.none _)
      | (with_reducible refine LeO.ite ?_ ?_)
      | (with_reducible refine LeO.bind ?_ (fun _ => ?_))
      | exact ih0 _ _ _ _ _ _ _
      | exact ih1 _ _ _ _ _ _ _ _
      | exact ih2 _ _ _ _ _ _ _ _
      | exact usanceref07_IsName.mono _ _
      | exact usanceref09_IsCur.mono _ _
      | exact LeO.none _
      | refine LeO.ite ?_ ?_
      | refine LeO.bind ?_ (fun _ => ?_)
    · intro y0 y1 y2 y3 y4 y5 y6 y7
      unfold usanceref14_fields.j1
      repeat' first
      | (with_reducible exact ih0 _ _ _ _ _ _ _)
      | (with_reducible exact ih1 _ _ _ _ _ _ _ _)
      | (with_reducible exact ih2 _ _ _ _ _ _ _ _)
      | (with_reducible exact usanceref07_IsName.mono _ _)
      | (with_reducible exact usanceref09_IsCur.mono _ _)
      | (with_reducible exact LeO.refl _)
      | (with_reducible exact LeO.none _)
      | (with_reducible refine LeO.ite ?_ ?_)
      | (with_reducible refine LeO.bind ?_ (fun _ => ?_))
      | exact ih0 _ _ _ _ _ _ _
      | exact ih1 _ _ _ _ _ _ _ _
      | exact ih2 _ _ _ _ _ _ _ _
      | exact usanceref07_IsName.mono _ _
      | exact usanceref09_IsCur.mono _ _
      | exact LeO.none _
      | refine LeO.ite ?_ ?_
      | refine LeO.bind ?_ (fun _ => ?_)
    · intro y0 y1 y2 y3 y4 y5 y6 y7
      unfold usanceref14_fields.j2
      repeat' first
      | (with_reducible exact ih0 _ _ _ _ _ _ _)
      | (with_reducible exact ih1 _ _ _ _ _ _ _ _)
      | (with_reducible exact ih2 _ _ _ _ _ _ _ _)
      | (with_reducible exact usanceref07_IsName.mono _ _)
      | (with_reducible exact usanceref09_IsCur.mono _ _)
      | (with_reducible exact LeO.refl _)
      | (with_reducible exact LeO.none _)
      | (with_reducible refine LeO.ite ?_ ?_)
      | (with_reducible refine LeO.bind ?_ (fun _ => ?_))
      | exact ih0 _ _ _ _ _ _ _
      | exact ih1 _ _ _ _ _ _ _ _
      | exact ih2 _ _ _ _ _ _ _ _
      | exact usanceref07_IsName.mono _ _
      | exact usanceref09_IsCur.mono _ _
      | exact LeO.none _
      | refine LeO.ite ?_ ?_
      | refine LeO.bind ?_ (fun _ => ?_)
theorem usanceref14_fields.mono : ∀ a0 a1 a2 a3 k, LeO (usanceref14_fields.f k a0 a1 a2 a3) (usanceref14_fields.f (k + 1) a0 a1 a2 a3) := by
  intro a0 a1 a2 a3 k
  obtain ⟨ih0, ih1, ih2⟩ := usanceref14_fields.mono_l k
  unfold usanceref14_fields.f
  repeat' first
      | (with_reducible exact ih0 _ _ _ _ _ _ _)
      | (with_reducible exact ih1 _ _ _ _ _ _ _ _)
      | (with_reducible exact ih2 _ _ _ _ _ _ _ _)
      | (with_reducible exact usanceref07_IsName.mono _ _)
      | (with_reducible exact usanceref09_IsCur.mono _ _)
      | (with_reducible exact LeO.refl _)
      | (with_reducible exact LeO.none _)
      | (with_reducible refine LeO.ite ?_ ?_)
      | (with_reducible refine LeO.bind ?_ (fun _ => ?_))
      | exact ih0 _ _ _ _ _ _ _
      | exact ih1 _ _ _ _ _ _ _ _
      | exact ih2 _ _ _ _ _ _ _ _
      | exact usanceref07_IsName.mono _ _
      | exact usanceref09_IsCur.mono _ _
      | exact LeO.none _
      | refine LeO.ite ?_ ?_
      | refine LeO.bind ?_ (fun _ => ?_)
set_option maxHeartbeats 8000000 in
set_option maxRecDepth 100000 in
theorem usanceref14_fields.calls (k : Nat) (a0_0 : Int) (a0_1 : Int) (a0_2 : ByteArray) (A0_3 : Option Addr) (c0_3 : Nat) (l0_3 : List (S24)) (r : Bool) (w : World) (hr0_3 : Kd.C k24 w A0_3 l0_3.length l0_3) (hc0_3 : l0_3.length ≤ c0_3) (h : usanceref14_fields.f k a0_0 a0_1 a0_2 l0_3 = some r) :
    Calls Tryz.prog 148 #[.agg #[.int .i64 a0_0, .int .i64 a0_1, .string a0_2, .slice A0_3 l0_3.length c0_3]] w fun e w' => e = .returned (.bool r) ∧ Below w.heap.size w w' := by
  have hu24 := Tryz.underlying24
  have HR0_3 := Aside0.mk hr0_3
  have HC0_3 := Aside0.mk hc0_3
  clear hr0_3 hc0_3
  have HB := Aside0.mk (Below.refl w.heap.size w)
  have H : ((usanceref07_IsName.f k a0_2).bind fun t137 => ((usanceref09_IsCur.f k a0_2).bind fun t138 => (if a0_1 ≥ 0 then (usanceref14_fields.j0 k t137 t138 (decide (a0_1 ≤ 73048)) a0_0 a0_1 a0_2 l0_3) else (usanceref14_fields.j0 k t137 t138 false a0_0 a0_1 a0_2 l0_3)))) = some r := h
  clear h
  replace H := Option.bind_eq_some_iff.mp H
  obtain ⟨t137, A20, H⟩ := H
  replace H : ((usanceref09_IsCur.f k a0_2).bind fun t138 => (if a0_1 ≥ 0 then (usanceref14_fields.j0 k t137 t138 (decide (a0_1 ≤ 73048)) a0_0 a0_1 a0_2 l0_3) else (usanceref14_fields.j0 k t137 t138 false a0_0 a0_1 a0_2 l0_3))) = some r := H
  have A2 := Aside0.mk A20
  clear A20
  replace H := Option.bind_eq_some_iff.mp H
  obtain ⟨t138, A30, H⟩ := H
  replace H : (if a0_1 ≥ 0 then (usanceref14_fields.j0 k t137 t138 (decide (a0_1 ≤ 73048)) a0_0 a0_1 a0_2 l0_3) else (usanceref14_fields.j0 k t137 t138 false a0_0 a0_1 a0_2 l0_3)) = some r := H
  have A3 := Aside0.mk A30
  clear A30
  have HC4 := Aside0.mk H
  clear H
  go_enter Tryz.func148, Tryz.ntmps148
  go_upto_region 3 with (first | ((with_reducible refine gate_dst (N := 1) rfl ?_); refine box_event ?hg (N := 1) ?hd (cs := #[.int .i64 a0_0, .int .i64 a0_1, .string a0_2, .slice A0_3 l0_3.length c0_3]) (t := 24) ?hr ?_; (case hd => rfl); (case hg => rfl); (case hr => first | (go_simp; done) | (go_simp; rfl)); intro gb136 hg w5 hbox hb; have n0_ := Aside0.mk (below_step (by repeat (first | (with_reducible first | exact HB.out | apply below_alloc | apply pw_below_drewN | apply below_drew1) | exact HB.out)) hb); have n1_ := Aside0.mk (hbox); have n2_ := Aside0.mk ((by rw [hg]; exact (below_size (by repeat (first | (with_reducible first | exact HB.out | apply below_alloc | apply pw_below_drewN | apply below_drew1) | exact HB.out))) : w.heap.size ≤ gb136)); have n3_ := Aside0.mk ((by rw [hg]; exact (below_size (by repeat (first | (with_reducible first | exact HB.out | apply below_alloc | apply pw_below_drewN | apply below_drew1) | exact HB.out))) : w.heap.size ≤ gb136)); clear HB; have HB := n0_; have BK136 := n1_; have GW136 := n2_; have GE136 := n3_; clear n0_ n1_ n2_ n3_; clear hb hbox hg; have hcz6_0 : w5.cell? ⟨gb136, 0, none⟩ = some (.int .i64 a0_0) := (blk_cell BK136.out 0).trans rfl; have hcz6_1 : w5.cell? ⟨gb136, 1, none⟩ = some (.int .i64 a0_1) := (blk_cell BK136.out 1).trans rfl; have hcz6_2 : w5.cell? ⟨gb136, 2, none⟩ = some (.string a0_2) := (blk_cell BK136.out 2).trans rfl; have hcz6_3 : w5.cell? ⟨gb136, 3, none⟩ = some (.slice A0_3 l0_3.length c0_3) := (blk_cell BK136.out 3).trans rfl; have hfz6_0 := blk_frozen BK136.out 0; have hfz6_1 := blk_frozen BK136.out 1; have hfz6_2 := blk_frozen BK136.out 2; have hfz6_3 := blk_frozen BK136.out 3) | ((with_reducible refine gate_callee (f := 112) rfl ?_); refine goesL_ (some 9) rfl rfl Tryz.func112 (by kernel_rfl) rfl #[.string a0_2] rfl (by (try simp only [List.map_toArray, List.map_cons, List.map_nil]); first | done | rfl | (simp only [List.length_drop, List.length_take]; rfl)) ?_; (with_reducible refine (usanceref07_IsName.calls k a0_2 t137 _ A2.out).mono ?_); rintro e w' ⟨rfl, ⟨nd, rfl⟩⟩; refine ⟨_, rfl, ?_⟩) | ((with_reducible refine gate_callee (f := 178) rfl ?_); refine goesL_ (some 12) rfl rfl Tryz.func178 (by kernel_rfl) rfl #[.string a0_2] rfl (by (try simp only [List.map_toArray, List.map_cons, List.map_nil]); first | done | rfl | (simp only [List.length_drop, List.length_take]; rfl)) ?_; (with_reducible refine (usanceref09_IsCur.calls k a0_2 t138 _ A3.out).mono ?_); rintro e w' ⟨rfl, ⟨nd, rfl⟩⟩; refine ⟨_, rfl, ?_⟩))
  (try simp only [Act.put, List.setIfInBounds_toArray, List.set_cons_zero, List.set_cons_succ])
  go_cut [5] (fun v5 wc => ∃ (kq : Nat) (x5_3 : Bool), v5 = .bool x5_3 ∧ Aside0 (usanceref14_fields.j0 kq t137 t138 x5_3 a0_0 a0_1 a0_2 l0_3 = some r) ∧ Aside0 (kq ≤ k) ∧ Aside0 (wc.heap[gb136]? = some (.cells #[.int .i64 a0_0, .int .i64 a0_1, .string a0_2, (.slice A0_3 l0_3.length c0_3)] 24 (0, 0))) ∧ Aside0 (Below w.heap.size w wc))
  case first =>
    have H := HC4.out
    clear HC4
    by_cases c7 : a0_1 ≥ 0
    · rw [if_pos c7] at H
      have c7b0 : decide (0 ≤ a0_1) = true := decide_eq_true c7
      clear c7
      (first | rw [c7b0] | (simp only [i64_w, i32_w]; rw [c7b0]) | skip)
      have H' := Aside0.mk H
      clear H
      have hcz8_0 : w5.cell? ⟨gb136, 0, none⟩ = some (.int .i64 a0_0) := (blk_cell BK136.out 0).trans rfl
      have hcz8_1 : w5.cell? ⟨gb136, 1, none⟩ = some (.int .i64 a0_1) := (blk_cell BK136.out 1).trans rfl
      have hcz8_2 : w5.cell? ⟨gb136, 2, none⟩ = some (.string a0_2) := (blk_cell BK136.out 2).trans rfl
      have hcz8_3 : w5.cell? ⟨gb136, 3, none⟩ = some (.slice A0_3 l0_3.length c0_3) := (blk_cell BK136.out 3).trans rfl
      have hfz8_0 := blk_frozen BK136.out 0
      have hfz8_1 := blk_frozen BK136.out 1
      have hfz8_2 := blk_frozen BK136.out 2
      have hfz8_3 := blk_frozen BK136.out 3
      go_wp2
      go_meet
      case rel => exact ⟨_, (decide (a0_1 ≤ 73048)), (by first | rfl | (simp; done) | (simp [*]; done)), H', ⟨by first | omega | exact Nat.le_refl _⟩, ⟨by (with_reducible repeat (first | refine blk_drewN ?_ _ | refine blk_drew ?_ | refine blk_alloc ?_ _)); exact BK136.out⟩, ⟨by repeat (first | (with_reducible first | exact HB.out | apply below_alloc | apply pw_below_drewN | apply below_drew1 | refine below_set ?_ GE136.out) | exact HB.out)⟩⟩
    · rw [if_neg c7] at H
      have c7b0 : decide (0 ≤ a0_1) = false := decide_eq_false c7
      clear c7
      (first | rw [c7b0] | (simp only [i64_w, i32_w]; rw [c7b0]) | skip)
      have H' := Aside0.mk H
      clear H
      have hcz9_0 : w5.cell? ⟨gb136, 0, none⟩ = some (.int .i64 a0_0) := (blk_cell BK136.out 0).trans rfl
      have hcz9_1 : w5.cell? ⟨gb136, 1, none⟩ = some (.int .i64 a0_1) := (blk_cell BK136.out 1).trans rfl
      have hcz9_2 : w5.cell? ⟨gb136, 2, none⟩ = some (.string a0_2) := (blk_cell BK136.out 2).trans rfl
      have hcz9_3 : w5.cell? ⟨gb136, 3, none⟩ = some (.slice A0_3 l0_3.length c0_3) := (blk_cell BK136.out 3).trans rfl
      have hfz9_0 := blk_frozen BK136.out 0
      have hfz9_1 := blk_frozen BK136.out 1
      have hfz9_2 := blk_frozen BK136.out 2
      have hfz9_3 := blk_frozen BK136.out 3
      go_wp2
      go_meet
      case rel => exact ⟨_, (false), (by first | rfl | (simp; done) | (simp [*]; done)), H', ⟨by first | omega | exact Nat.le_refl _⟩, ⟨by (with_reducible repeat (first | refine blk_drewN ?_ _ | refine blk_drew ?_ | refine blk_alloc ?_ _)); exact BK136.out⟩, ⟨by repeat (first | (with_reducible first | exact HB.out | apply below_alloc | apply pw_below_drewN | apply below_drew1 | refine below_set ?_ GE136.out) | exact HB.out)⟩⟩
  case rest =>
    clear HC4
    try clear c1
    try clear p2
    try clear c7
    try clear c7b0
    try clear hcz6_0
    try clear hcz6_1
    try clear hcz6_2
    try clear hcz6_3
    try clear hcz8_0
    try clear hcz8_1
    try clear hcz8_2
    try clear hcz8_3
    try clear hcz9_0
    try clear hcz9_1
    try clear hcz9_2
    try clear hcz9_3
    try clear hfz6_0
    try clear hfz6_1
    try clear hfz6_2
    try clear hfz6_3
    try clear hfz8_0
    try clear hfz8_1
    try clear hfz8_2
    try clear hfz8_3
    try clear hfz9_0
    try clear hfz9_1
    try clear hfz9_2
    try clear hfz9_3
    obtain ⟨kq, x5_3, rfl, HA, HJ3, BK136, HB⟩ := hcut
    cases kq with
    | zero => exact absurd HA.out (by simp [usanceref14_fields.j0])
    | succ kj3 =>
      have H := HA.out
      clear HA
      simp only [usanceref14_fields.j0] at H
      have HC10 := Aside0.mk H
      clear H
      go_upto_region 4 with (fail)
      go_cut [6] (fun v6 wc => ∃ (kq : Nat) (x6_9 : Bool), v6 = .bool x6_9 ∧ Aside0 (usanceref14_fields.j1 kq t137 t138 x5_3 x6_9 a0_0 a0_1 a0_2 l0_3 = some r) ∧ Aside0 (kq ≤ kj3) ∧ Aside0 (wc.heap[gb136]? = some (.cells #[.int .i64 a0_0, .int .i64 a0_1, .string a0_2, (.slice A0_3 l0_3.length c0_3)] 24 (0, 0))) ∧ Aside0 (Below w.heap.size w wc))
      case first =>
        have H := HC10.out
        clear HC10
        by_cases c11 : a0_1 ≥ (-3660)
        · rw [if_pos c11] at H
          have c11b0 : decide ((-3660) ≤ a0_1) = true := decide_eq_true c11
          clear c11
          (first | rw [c11b0] | (simp only [i64_w, i32_w]; rw [c11b0]) | skip)
          have H' := Aside0.mk H
          clear H
          have hcz12_0 : wc.cell? ⟨gb136, 0, none⟩ = some (.int .i64 a0_0) := (blk_cell BK136.out 0).trans rfl
          have hcz12_1 : wc.cell? ⟨gb136, 1, none⟩ = some (.int .i64 a0_1) := (blk_cell BK136.out 1).trans rfl
          have hcz12_2 : wc.cell? ⟨gb136, 2, none⟩ = some (.string a0_2) := (blk_cell BK136.out 2).trans rfl
          have hcz12_3 : wc.cell? ⟨gb136, 3, none⟩ = some (.slice A0_3 l0_3.length c0_3) := (blk_cell BK136.out 3).trans rfl
          have hfz12_0 := blk_frozen BK136.out 0
          have hfz12_1 := blk_frozen BK136.out 1
          have hfz12_2 := blk_frozen BK136.out 2
          have hfz12_3 := blk_frozen BK136.out 3
          go_wp2
          go_meet
          case rel => exact ⟨_, (decide (a0_1 ≤ 3660)), (by first | rfl | (simp; done) | (simp [*]; done)), H', ⟨by have := HJ3.out; first | omega | exact Nat.le_refl _⟩, ⟨by (with_reducible repeat (first | refine blk_drewN ?_ _ | refine blk_drew ?_ | refine blk_alloc ?_ _)); exact BK136.out⟩, ⟨by repeat (first | (with_reducible first | exact HB.out | apply below_alloc | apply pw_below_drewN | apply below_drew1 | refine below_set ?_ GE136.out) | exact HB.out)⟩⟩
        · rw [if_neg c11] at H
          have c11b0 : decide ((-3660) ≤ a0_1) = false := decide_eq_false c11
          clear c11
          (first | rw [c11b0] | (simp only [i64_w, i32_w]; rw [c11b0]) | skip)
          have H' := Aside0.mk H
          clear H
          have hcz13_0 : wc.cell? ⟨gb136, 0, none⟩ = some (.int .i64 a0_0) := (blk_cell BK136.out 0).trans rfl
          have hcz13_1 : wc.cell? ⟨gb136, 1, none⟩ = some (.int .i64 a0_1) := (blk_cell BK136.out 1).trans rfl
          have hcz13_2 : wc.cell? ⟨gb136, 2, none⟩ = some (.string a0_2) := (blk_cell BK136.out 2).trans rfl
          have hcz13_3 : wc.cell? ⟨gb136, 3, none⟩ = some (.slice A0_3 l0_3.length c0_3) := (blk_cell BK136.out 3).trans rfl
          have hfz13_0 := blk_frozen BK136.out 0
          have hfz13_1 := blk_frozen BK136.out 1
          have hfz13_2 := blk_frozen BK136.out 2
          have hfz13_3 := blk_frozen BK136.out 3
          go_wp2
          go_meet
          case rel => exact ⟨_, (false), (by first | rfl | (simp; done) | (simp [*]; done)), H', ⟨by have := HJ3.out; first | omega | exact Nat.le_refl _⟩, ⟨by (with_reducible repeat (first | refine blk_drewN ?_ _ | refine blk_drew ?_ | refine blk_alloc ?_ _)); exact BK136.out⟩, ⟨by repeat (first | (with_reducible first | exact HB.out | apply below_alloc | apply pw_below_drewN | apply below_drew1 | refine below_set ?_ GE136.out) | exact HB.out)⟩⟩
      case rest =>
        clear HC10
        try clear c1
        try clear p2
        try clear c7
        try clear c7b0
        try clear c11
        try clear c11b0
        try clear hcz12_0
        try clear hcz12_1
        try clear hcz12_2
        try clear hcz12_3
        try clear hcz13_0
        try clear hcz13_1
        try clear hcz13_2
        try clear hcz13_3
        try clear hcz6_0
        try clear hcz6_1
        try clear hcz6_2
        try clear hcz6_3
        try clear hcz8_0
        try clear hcz8_1
        try clear hcz8_2
        try clear hcz8_3
        try clear hcz9_0
        try clear hcz9_1
        try clear hcz9_2
        try clear hcz9_3
        try clear hfz12_0
        try clear hfz12_1
        try clear hfz12_2
        try clear hfz12_3
        try clear hfz13_0
        try clear hfz13_1
        try clear hfz13_2
        try clear hfz13_3
        try clear hfz6_0
        try clear hfz6_1
        try clear hfz6_2
        try clear hfz6_3
        try clear hfz8_0
        try clear hfz8_1
        try clear hfz8_2
        try clear hfz8_3
        try clear hfz9_0
        try clear hfz9_1
        try clear hfz9_2
        try clear hfz9_3
        try clear p2
        obtain ⟨kq, x6_9, rfl, HA, HJ9, BK136, HB⟩ := hcut
        cases kq with
        | zero => exact absurd HA.out (by simp [usanceref14_fields.j1])
        | succ kj9 =>
          have H := HA.out
          clear HA
          simp only [usanceref14_fields.j1] at H
          by_cases c14 : a0_0 = 4
          · rw [if_pos c14] at H
            have c14b0 : (a0_0 == 4) = true := beq_iff_eq.mpr c14
            have c14b1 : (a0_0 != 4) = false := bne_eq_false_iff_eq.mpr c14
            clear c14
            by_cases c15 : t137 = true
            · subst c15
              have H1 : (some x6_9) = some r := by rw [if_pos rfl] at H; exact H
              clear H
              have H := H1
              clear H1
              obtain rfl := Option.some.inj H
              have hcz16_0 : wc.cell? ⟨gb136, 0, none⟩ = some (.int .i64 a0_0) := (blk_cell BK136.out 0).trans rfl
              have hcz16_1 : wc.cell? ⟨gb136, 1, none⟩ = some (.int .i64 a0_1) := (blk_cell BK136.out 1).trans rfl
              have hcz16_2 : wc.cell? ⟨gb136, 2, none⟩ = some (.string a0_2) := (blk_cell BK136.out 2).trans rfl
              have hcz16_3 : wc.cell? ⟨gb136, 3, none⟩ = some (.slice A0_3 l0_3.length c0_3) := (blk_cell BK136.out 3).trans rfl
              have hfz16_0 := blk_frozen BK136.out 0
              have hfz16_1 := blk_frozen BK136.out 1
              have hfz16_2 := blk_frozen BK136.out 2
              have hfz16_3 := blk_frozen BK136.out 3
              go_wp2
              go_ret
              exact ⟨by first | rfl | (simp [errW_none, errW_some] <;> rfl) | (simp [*, errW_none, errW_some] <;> rfl), by repeat (first | (with_reducible first | exact HB.out | apply below_alloc | apply pw_below_drewN | apply below_drew1 | refine below_set ?_ GE136.out) | exact HB.out)⟩
            · replace c15 := Bool.eq_false_iff.mpr c15
              subst c15
              have H1 : (some false) = some r := by rw [if_neg (show ¬ (false = true) by decide)] at H; exact H
              clear H
              have H := H1
              clear H1
              obtain rfl := Option.some.inj H
              have hcz17_0 : wc.cell? ⟨gb136, 0, none⟩ = some (.int .i64 a0_0) := (blk_cell BK136.out 0).trans rfl
              have hcz17_1 : wc.cell? ⟨gb136, 1, none⟩ = some (.int .i64 a0_1) := (blk_cell BK136.out 1).trans rfl
              have hcz17_2 : wc.cell? ⟨gb136, 2, none⟩ = some (.string a0_2) := (blk_cell BK136.out 2).trans rfl
              have hcz17_3 : wc.cell? ⟨gb136, 3, none⟩ = some (.slice A0_3 l0_3.length c0_3) := (blk_cell BK136.out 3).trans rfl
              have hfz17_0 := blk_frozen BK136.out 0
              have hfz17_1 := blk_frozen BK136.out 1
              have hfz17_2 := blk_frozen BK136.out 2
              have hfz17_3 := blk_frozen BK136.out 3
              go_wp2
              go_ret
              exact ⟨by first | rfl | (simp [errW_none, errW_some] <;> rfl) | (simp [*, errW_none, errW_some] <;> rfl), by repeat (first | (with_reducible first | exact HB.out | apply below_alloc | apply pw_below_drewN | apply below_drew1 | refine below_set ?_ GE136.out) | exact HB.out)⟩
          · rw [if_neg c14] at H
            have c14b0 : (a0_0 == 4) = false := beq_eq_false_iff_ne.mpr c14
            have c14b1 : (a0_0 != 4) = true := bne_iff_ne.mpr c14
            by_cases c18 : a0_0 = 31
            · rw [if_pos c18] at H
              have c18b0 : (a0_0 == 31) = true := beq_iff_eq.mpr c18
              have c18b1 : (a0_0 != 31) = false := bne_eq_false_iff_eq.mpr c18
              clear c18
              by_cases c19 : t137 = true
              · subst c19
                have H1 : (some x5_3) = some r := by rw [if_pos rfl] at H; exact H
                clear H
                have H := H1
                clear H1
                obtain rfl := Option.some.inj H
                have hcz20_0 : wc.cell? ⟨gb136, 0, none⟩ = some (.int .i64 a0_0) := (blk_cell BK136.out 0).trans rfl
                have hcz20_1 : wc.cell? ⟨gb136, 1, none⟩ = some (.int .i64 a0_1) := (blk_cell BK136.out 1).trans rfl
                have hcz20_2 : wc.cell? ⟨gb136, 2, none⟩ = some (.string a0_2) := (blk_cell BK136.out 2).trans rfl
                have hcz20_3 : wc.cell? ⟨gb136, 3, none⟩ = some (.slice A0_3 l0_3.length c0_3) := (blk_cell BK136.out 3).trans rfl
                have hfz20_0 := blk_frozen BK136.out 0
                have hfz20_1 := blk_frozen BK136.out 1
                have hfz20_2 := blk_frozen BK136.out 2
                have hfz20_3 := blk_frozen BK136.out 3
                go_wp2
                go_ret
                exact ⟨by first | rfl | (simp [errW_none, errW_some] <;> rfl) | (simp [*, errW_none, errW_some] <;> rfl), by repeat (first | (with_reducible first | exact HB.out | apply below_alloc | apply pw_below_drewN | apply below_drew1 | refine below_set ?_ GE136.out) | exact HB.out)⟩
              · replace c19 := Bool.eq_false_iff.mpr c19
                subst c19
                have H1 : (some false) = some r := by rw [if_neg (show ¬ (false = true) by decide)] at H; exact H
                clear H
                have H := H1
                clear H1
                obtain rfl := Option.some.inj H
                have hcz21_0 : wc.cell? ⟨gb136, 0, none⟩ = some (.int .i64 a0_0) := (blk_cell BK136.out 0).trans rfl
                have hcz21_1 : wc.cell? ⟨gb136, 1, none⟩ = some (.int .i64 a0_1) := (blk_cell BK136.out 1).trans rfl
                have hcz21_2 : wc.cell? ⟨gb136, 2, none⟩ = some (.string a0_2) := (blk_cell BK136.out 2).trans rfl
                have hcz21_3 : wc.cell? ⟨gb136, 3, none⟩ = some (.slice A0_3 l0_3.length c0_3) := (blk_cell BK136.out 3).trans rfl
                have hfz21_0 := blk_frozen BK136.out 0
                have hfz21_1 := blk_frozen BK136.out 1
                have hfz21_2 := blk_frozen BK136.out 2
                have hfz21_3 := blk_frozen BK136.out 3
                go_wp2
                go_ret
                exact ⟨by first | rfl | (simp [errW_none, errW_some] <;> rfl) | (simp [*, errW_none, errW_some] <;> rfl), by repeat (first | (with_reducible first | exact HB.out | apply below_alloc | apply pw_below_drewN | apply below_drew1 | refine below_set ?_ GE136.out) | exact HB.out)⟩
            · rw [if_neg c18] at H
              have c18b0 : (a0_0 == 31) = false := beq_eq_false_iff_ne.mpr c18
              have c18b1 : (a0_0 != 31) = true := bne_iff_ne.mpr c18
              by_cases c22 : a0_0 = 24
              · rw [if_pos c22] at H
                have c22b0 : (a0_0 == 24) = true := beq_iff_eq.mpr c22
                have c22b1 : (a0_0 != 24) = false := bne_eq_false_iff_eq.mpr c22
                clear c22
                by_cases c23 : t138 = true
                · subst c23
                  have H1 : (some (a0_1 == 0)) = some r := by rw [if_pos rfl] at H; exact H
                  clear H
                  have H := H1
                  clear H1
                  obtain rfl := Option.some.inj H
                  have hcz24_0 : wc.cell? ⟨gb136, 0, none⟩ = some (.int .i64 a0_0) := (blk_cell BK136.out 0).trans rfl
                  have hcz24_1 : wc.cell? ⟨gb136, 1, none⟩ = some (.int .i64 a0_1) := (blk_cell BK136.out 1).trans rfl
                  have hcz24_2 : wc.cell? ⟨gb136, 2, none⟩ = some (.string a0_2) := (blk_cell BK136.out 2).trans rfl
                  have hcz24_3 : wc.cell? ⟨gb136, 3, none⟩ = some (.slice A0_3 l0_3.length c0_3) := (blk_cell BK136.out 3).trans rfl
                  have hfz24_0 := blk_frozen BK136.out 0
                  have hfz24_1 := blk_frozen BK136.out 1
                  have hfz24_2 := blk_frozen BK136.out 2
                  have hfz24_3 := blk_frozen BK136.out 3
                  go_wp2
                  go_ret
                  exact ⟨by first | rfl | (simp [errW_none, errW_some] <;> rfl) | (simp [*, errW_none, errW_some] <;> rfl), by repeat (first | (with_reducible first | exact HB.out | apply below_alloc | apply pw_below_drewN | apply below_drew1 | refine below_set ?_ GE136.out) | exact HB.out)⟩
                · replace c23 := Bool.eq_false_iff.mpr c23
                  subst c23
                  have H1 : (some false) = some r := by rw [if_neg (show ¬ (false = true) by decide)] at H; exact H
                  clear H
                  have H := H1
                  clear H1
                  obtain rfl := Option.some.inj H
                  have hcz25_0 : wc.cell? ⟨gb136, 0, none⟩ = some (.int .i64 a0_0) := (blk_cell BK136.out 0).trans rfl
                  have hcz25_1 : wc.cell? ⟨gb136, 1, none⟩ = some (.int .i64 a0_1) := (blk_cell BK136.out 1).trans rfl
                  have hcz25_2 : wc.cell? ⟨gb136, 2, none⟩ = some (.string a0_2) := (blk_cell BK136.out 2).trans rfl
                  have hcz25_3 : wc.cell? ⟨gb136, 3, none⟩ = some (.slice A0_3 l0_3.length c0_3) := (blk_cell BK136.out 3).trans rfl
                  have hfz25_0 := blk_frozen BK136.out 0
                  have hfz25_1 := blk_frozen BK136.out 1
                  have hfz25_2 := blk_frozen BK136.out 2
                  have hfz25_3 := blk_frozen BK136.out 3
                  go_wp2
                  go_ret
                  exact ⟨by first | rfl | (simp [errW_none, errW_some] <;> rfl) | (simp [*, errW_none, errW_some] <;> rfl), by repeat (first | (with_reducible first | exact HB.out | apply below_alloc | apply pw_below_drewN | apply below_drew1 | refine below_set ?_ GE136.out) | exact HB.out)⟩
              · rw [if_neg c22] at H
                have c22b0 : (a0_0 == 24) = false := beq_eq_false_iff_ne.mpr c22
                have c22b1 : (a0_0 != 24) = true := bne_iff_ne.mpr c22
                by_cases c26 : a0_2.toList = ([] : List UInt8)
                · rw [if_pos c26] at H
                  have c26b0 : (a0_2.toList == ([] : List UInt8)) = true := beq_iff_eq.mpr c26
                  have c26b1 : (a0_2.toList != ([] : List UInt8)) = false := bne_eq_false_iff_eq.mpr c26
                  clear c26
                  by_cases c27 : a0_0 = 1
                  · rw [if_pos c27] at H
                    have c27b0 : (a0_0 == 1) = true := beq_iff_eq.mpr c27
                    have c27b1 : (a0_0 != 1) = false := bne_eq_false_iff_eq.mpr c27
                    clear c27
                    by_cases c28 : a0_1 ≥ (-1000000000000000)
                    · rw [if_pos c28] at H
                      have c28b0 : decide ((-1000000000000000) ≤ a0_1) = true := decide_eq_true c28
                      clear c28
                      obtain rfl := Option.some.inj H
                      have hcz29_0 : wc.cell? ⟨gb136, 0, none⟩ = some (.int .i64 a0_0) := (blk_cell BK136.out 0).trans rfl
                      have hcz29_1 : wc.cell? ⟨gb136, 1, none⟩ = some (.int .i64 a0_1) := (blk_cell BK136.out 1).trans rfl
                      have hcz29_2 : wc.cell? ⟨gb136, 2, none⟩ = some (.string a0_2) := (blk_cell BK136.out 2).trans rfl
                      have hcz29_3 : wc.cell? ⟨gb136, 3, none⟩ = some (.slice A0_3 l0_3.length c0_3) := (blk_cell BK136.out 3).trans rfl
                      have hfz29_0 := blk_frozen BK136.out 0
                      have hfz29_1 := blk_frozen BK136.out 1
                      have hfz29_2 := blk_frozen BK136.out 2
                      have hfz29_3 := blk_frozen BK136.out 3
                      go_wp2
                      go_ret
                      exact ⟨by first | rfl | (simp [errW_none, errW_some] <;> rfl) | (simp [*, errW_none, errW_some] <;> rfl), by repeat (first | (with_reducible first | exact HB.out | apply below_alloc | apply pw_below_drewN | apply below_drew1 | refine below_set ?_ GE136.out) | exact HB.out)⟩
                    · rw [if_neg c28] at H
                      have c28b0 : decide ((-1000000000000000) ≤ a0_1) = false := decide_eq_false c28
                      clear c28
                      obtain rfl := Option.some.inj H
                      have hcz30_0 : wc.cell? ⟨gb136, 0, none⟩ = some (.int .i64 a0_0) := (blk_cell BK136.out 0).trans rfl
                      have hcz30_1 : wc.cell? ⟨gb136, 1, none⟩ = some (.int .i64 a0_1) := (blk_cell BK136.out 1).trans rfl
                      have hcz30_2 : wc.cell? ⟨gb136, 2, none⟩ = some (.string a0_2) := (blk_cell BK136.out 2).trans rfl
                      have hcz30_3 : wc.cell? ⟨gb136, 3, none⟩ = some (.slice A0_3 l0_3.length c0_3) := (blk_cell BK136.out 3).trans rfl
                      have hfz30_0 := blk_frozen BK136.out 0
                      have hfz30_1 := blk_frozen BK136.out 1
                      have hfz30_2 := blk_frozen BK136.out 2
                      have hfz30_3 := blk_frozen BK136.out 3
                      go_wp2
                      go_ret
                      exact ⟨by first | rfl | (simp [errW_none, errW_some] <;> rfl) | (simp [*, errW_none, errW_some] <;> rfl), by repeat (first | (with_reducible first | exact HB.out | apply below_alloc | apply pw_below_drewN | apply below_drew1 | refine below_set ?_ GE136.out) | exact HB.out)⟩
                  · rw [if_neg c27] at H
                    have c27b0 : (a0_0 == 1) = false := beq_eq_false_iff_ne.mpr c27
                    have c27b1 : (a0_0 != 1) = true := bne_iff_ne.mpr c27
                    by_cases c31 : a0_0 = 2
                    · rw [if_pos c31] at H
                      have c31b0 : (a0_0 == 2) = true := beq_iff_eq.mpr c31
                      have c31b1 : (a0_0 != 2) = false := bne_eq_false_iff_eq.mpr c31
                      clear c31
                      by_cases c32 : a0_1 = 0
                      · rw [if_pos c32] at H
                        have c32b0 : (a0_1 == 0) = true := beq_iff_eq.mpr c32
                        have c32b1 : (a0_1 != 0) = false := bne_eq_false_iff_eq.mpr c32
                        clear c32
                        obtain rfl := Option.some.inj H
                        have hcz33_0 : wc.cell? ⟨gb136, 0, none⟩ = some (.int .i64 a0_0) := (blk_cell BK136.out 0).trans rfl
                        have hcz33_1 : wc.cell? ⟨gb136, 1, none⟩ = some (.int .i64 a0_1) := (blk_cell BK136.out 1).trans rfl
                        have hcz33_2 : wc.cell? ⟨gb136, 2, none⟩ = some (.string a0_2) := (blk_cell BK136.out 2).trans rfl
                        have hcz33_3 : wc.cell? ⟨gb136, 3, none⟩ = some (.slice A0_3 l0_3.length c0_3) := (blk_cell BK136.out 3).trans rfl
                        have hfz33_0 := blk_frozen BK136.out 0
                        have hfz33_1 := blk_frozen BK136.out 1
                        have hfz33_2 := blk_frozen BK136.out 2
                        have hfz33_3 := blk_frozen BK136.out 3
                        go_wp2
                        go_ret
                        exact ⟨by first | rfl | (simp [errW_none, errW_some] <;> rfl) | (simp [*, errW_none, errW_some] <;> rfl), by repeat (first | (with_reducible first | exact HB.out | apply below_alloc | apply pw_below_drewN | apply below_drew1 | refine below_set ?_ GE136.out) | exact HB.out)⟩
                      · rw [if_neg c32] at H
                        have c32b0 : (a0_1 == 0) = false := beq_eq_false_iff_ne.mpr c32
                        have c32b1 : (a0_1 != 0) = true := bne_iff_ne.mpr c32
                        obtain rfl := Option.some.inj H
                        have hcz34_0 : wc.cell? ⟨gb136, 0, none⟩ = some (.int .i64 a0_0) := (blk_cell BK136.out 0).trans rfl
                        have hcz34_1 : wc.cell? ⟨gb136, 1, none⟩ = some (.int .i64 a0_1) := (blk_cell BK136.out 1).trans rfl
                        have hcz34_2 : wc.cell? ⟨gb136, 2, none⟩ = some (.string a0_2) := (blk_cell BK136.out 2).trans rfl
                        have hcz34_3 : wc.cell? ⟨gb136, 3, none⟩ = some (.slice A0_3 l0_3.length c0_3) := (blk_cell BK136.out 3).trans rfl
                        have hfz34_0 := blk_frozen BK136.out 0
                        have hfz34_1 := blk_frozen BK136.out 1
                        have hfz34_2 := blk_frozen BK136.out 2
                        have hfz34_3 := blk_frozen BK136.out 3
                        go_wp2
                        go_ret
                        exact ⟨by first | rfl | (simp [errW_none, errW_some] <;> rfl) | (simp [*, errW_none, errW_some] <;> rfl), by repeat (first | (with_reducible first | exact HB.out | apply below_alloc | apply pw_below_drewN | apply below_drew1 | refine below_set ?_ GE136.out) | exact HB.out)⟩
                    · rw [if_neg c31] at H
                      have c31b0 : (a0_0 == 2) = false := beq_eq_false_iff_ne.mpr c31
                      have c31b1 : (a0_0 != 2) = true := bne_iff_ne.mpr c31
                      have HC35 := Aside0.mk H
                      clear H
                      have hcz36_0 : wc.cell? ⟨gb136, 0, none⟩ = some (.int .i64 a0_0) := (blk_cell BK136.out 0).trans rfl
                      have hcz36_1 : wc.cell? ⟨gb136, 1, none⟩ = some (.int .i64 a0_1) := (blk_cell BK136.out 1).trans rfl
                      have hcz36_2 : wc.cell? ⟨gb136, 2, none⟩ = some (.string a0_2) := (blk_cell BK136.out 2).trans rfl
                      have hcz36_3 : wc.cell? ⟨gb136, 3, none⟩ = some (.slice A0_3 l0_3.length c0_3) := (blk_cell BK136.out 3).trans rfl
                      have hfz36_0 := blk_frozen BK136.out 0
                      have hfz36_1 := blk_frozen BK136.out 1
                      have hfz36_2 := blk_frozen BK136.out 2
                      have hfz36_3 := blk_frozen BK136.out 3
                      go_upto_if 76 with (fail)
                      go_cut [76] (fun v76 wc => ∃ (kq : Nat) (x76_34 : Bool), v76 = .bool x76_34 ∧ Aside0 (usanceref14_fields.j2 kq x5_3 x6_9 a0_0 x76_34 a0_0 a0_1 a0_2 l0_3 = some r) ∧ Aside0 (kq ≤ kj9) ∧ Aside0 (wc.heap[gb136]? = some (.cells #[.int .i64 a0_0, .int .i64 a0_1, .string a0_2, (.slice A0_3 l0_3.length c0_3)] 24 (0, 0))) ∧ Aside0 (Below w.heap.size w wc))
                      case first =>
                        have H := HC35.out
                        clear HC35
                        by_cases c37 : a0_0 = 3
                        · rw [if_pos c37] at H
                          have c37b0 : (a0_0 == 3) = true := beq_iff_eq.mpr c37
                          have c37b1 : (a0_0 != 3) = false := bne_eq_false_iff_eq.mpr c37
                          clear c37
                          (first | rw [c37b0] | (simp only [i64_w, i32_w]; rw [c37b0]) | skip)
                          have H' := Aside0.mk H
                          clear H
                          go_wp2
                          go_meet
                          case rel => exact ⟨_, ((a0_0 == 3)), (by first | rfl | (simp; done) | (simp [*]; done)), H', ⟨by have := HJ3.out; have := HJ9.out; first | omega | exact Nat.le_refl _⟩, ⟨by (with_reducible repeat (first | refine blk_drewN ?_ _ | refine blk_drew ?_ | refine blk_alloc ?_ _)); exact BK136.out⟩, ⟨by repeat (first | (with_reducible first | exact HB.out | apply below_alloc | apply pw_below_drewN | apply below_drew1 | refine below_set ?_ GE136.out) | exact HB.out)⟩⟩
                        · rw [if_neg c37] at H
                          have c37b0 : (a0_0 == 3) = false := beq_eq_false_iff_ne.mpr c37
                          have c37b1 : (a0_0 != 3) = true := bne_iff_ne.mpr c37
                          (first | rw [c37b0] | (simp only [i64_w, i32_w]; rw [c37b0]) | skip)
                          by_cases c38 : a0_0 = 29
                          · rw [if_pos c38] at H
                            have c38b0 : (a0_0 == 29) = true := beq_iff_eq.mpr c38
                            have c38b1 : (a0_0 != 29) = false := bne_eq_false_iff_eq.mpr c38
                            clear c38
                            have H' := Aside0.mk H
                            clear H
                            go_wp2
                            go_meet
                            case rel => exact ⟨_, ((a0_0 == 29)), (by first | rfl | (simp; done) | (simp [*]; done)), H', ⟨by have := HJ3.out; have := HJ9.out; first | omega | exact Nat.le_refl _⟩, ⟨by (with_reducible repeat (first | refine blk_drewN ?_ _ | refine blk_drew ?_ | refine blk_alloc ?_ _)); exact BK136.out⟩, ⟨by repeat (first | (with_reducible first | exact HB.out | apply below_alloc | apply pw_below_drewN | apply below_drew1 | refine below_set ?_ GE136.out) | exact HB.out)⟩⟩
                          · rw [if_neg c38] at H
                            have c38b0 : (a0_0 == 29) = false := beq_eq_false_iff_ne.mpr c38
                            have c38b1 : (a0_0 != 29) = true := bne_iff_ne.mpr c38
                            have H' := Aside0.mk H
                            clear H
                            go_wp2
                            go_meet
                            case rel => exact ⟨_, ((a0_0 == 30)), (by first | rfl | (simp; done) | (simp [*]; done)), H', ⟨by have := HJ3.out; have := HJ9.out; first | omega | exact Nat.le_refl _⟩, ⟨by (with_reducible repeat (first | refine blk_drewN ?_ _ | refine blk_drew ?_ | refine blk_alloc ?_ _)); exact BK136.out⟩, ⟨by repeat (first | (with_reducible first | exact HB.out | apply below_alloc | apply pw_below_drewN | apply below_drew1 | refine below_set ?_ GE136.out) | exact HB.out)⟩⟩
                      case rest =>
                        clear HC35
                        try clear c1
                        try clear c2
                        try clear p2
                        try clear c3
                        try clear c7
                        try clear c7b0
                        try clear c11
                        try clear c11b0
                        try clear c14
                        try clear c14b0
                        try clear c14b1
                        try clear c15
                        try clear c17
                        try clear c18
                        try clear c18b0
                        try clear c18b1
                        try clear c19
                        try clear c22
                        try clear c22b0
                        try clear c22b1
                        try clear c23
                        try clear c26
                        try clear c26b0
                        try clear c26b1
                        try clear c27
                        try clear c27b0
                        try clear c27b1
                        try clear c28
                        try clear c28b0
                        try clear c31
                        try clear c31b0
                        try clear c31b1
                        try clear c32
                        try clear c32b0
                        try clear c32b1
                        try clear c37
                        try clear c37b0
                        try clear c37b1
                        try clear c38
                        try clear c38b0
                        try clear c38b1
                        try clear hcz12_0
                        try clear hcz12_1
                        try clear hcz12_2
                        try clear hcz12_3
                        try clear hcz13_0
                        try clear hcz13_1
                        try clear hcz13_2
                        try clear hcz13_3
                        try clear hcz16_0
                        try clear hcz16_1
                        try clear hcz16_2
                        try clear hcz16_3
                        try clear hcz17_0
                        try clear hcz17_1
                        try clear hcz17_2
                        try clear hcz17_3
                        try clear hcz20_0
                        try clear hcz20_1
                        try clear hcz20_2
                        try clear hcz20_3
                        try clear hcz21_0
                        try clear hcz21_1
                        try clear hcz21_2
                        try clear hcz21_3
                        try clear hcz24_0
                        try clear hcz24_1
                        try clear hcz24_2
                        try clear hcz24_3
                        try clear hcz25_0
                        try clear hcz25_1
                        try clear hcz25_2
                        try clear hcz25_3
                        try clear hcz29_0
                        try clear hcz29_1
                        try clear hcz29_2
                        try clear hcz29_3
                        try clear hcz30_0
                        try clear hcz30_1
                        try clear hcz30_2
                        try clear hcz30_3
                        try clear hcz33_0
                        try clear hcz33_1
                        try clear hcz33_2
                        try clear hcz33_3
                        try clear hcz34_0
                        try clear hcz34_1
                        try clear hcz34_2
                        try clear hcz34_3
                        try clear hcz36_0
                        try clear hcz36_1
                        try clear hcz36_2
                        try clear hcz36_3
                        try clear hcz6_0
                        try clear hcz6_1
                        try clear hcz6_2
                        try clear hcz6_3
                        try clear hcz8_0
                        try clear hcz8_1
                        try clear hcz8_2
                        try clear hcz8_3
                        try clear hcz9_0
                        try clear hcz9_1
                        try clear hcz9_2
                        try clear hcz9_3
                        try clear hfz12_0
                        try clear hfz12_1
                        try clear hfz12_2
                        try clear hfz12_3
                        try clear hfz13_0
                        try clear hfz13_1
                        try clear hfz13_2
                        try clear hfz13_3
                        try clear hfz16_0
                        try clear hfz16_1
                        try clear hfz16_2
                        try clear hfz16_3
                        try clear hfz17_0
                        try clear hfz17_1
                        try clear hfz17_2
                        try clear hfz17_3
                        try clear hfz20_0
                        try clear hfz20_1
                        try clear hfz20_2
                        try clear hfz20_3
                        try clear hfz21_0
                        try clear hfz21_1
                        try clear hfz21_2
                        try clear hfz21_3
                        try clear hfz24_0
                        try clear hfz24_1
                        try clear hfz24_2
                        try clear hfz24_3
                        try clear hfz25_0
                        try clear hfz25_1
                        try clear hfz25_2
                        try clear hfz25_3
                        try clear hfz29_0
                        try clear hfz29_1
                        try clear hfz29_2
                        try clear hfz29_3
                        try clear hfz30_0
                        try clear hfz30_1
                        try clear hfz30_2
                        try clear hfz30_3
                        try clear hfz33_0
                        try clear hfz33_1
                        try clear hfz33_2
                        try clear hfz33_3
                        try clear hfz34_0
                        try clear hfz34_1
                        try clear hfz34_2
                        try clear hfz34_3
                        try clear hfz36_0
                        try clear hfz36_1
                        try clear hfz36_2
                        try clear hfz36_3
                        try clear hfz6_0
                        try clear hfz6_1
                        try clear hfz6_2
                        try clear hfz6_3
                        try clear hfz8_0
                        try clear hfz8_1
                        try clear hfz8_2
                        try clear hfz8_3
                        try clear hfz9_0
                        try clear hfz9_1
                        try clear hfz9_2
                        try clear hfz9_3
                        try clear p2
                        obtain ⟨kq, x76_34, rfl, HA, HJ34, BK136, HB⟩ := hcut
                        cases kq with
                        | zero => exact absurd HA.out (by simp [usanceref14_fields.j2])
                        | succ kj34 =>
                          have H := HA.out
                          clear HA
                          simp only [usanceref14_fields.j2] at H
                          by_cases c39 : x76_34 = true
                          · subst c39
                            have H1 : (some x5_3) = some r := by rw [if_pos rfl] at H; exact H
                            clear H
                            have H := H1
                            clear H1
                            obtain rfl := Option.some.inj H
                            go_wp2
                            go_ret
                            exact ⟨by first | rfl | (simp [errW_none, errW_some] <;> rfl) | (simp [*, errW_none, errW_some] <;> rfl), by repeat (first | (with_reducible first | exact HB.out | apply below_alloc | apply pw_below_drewN | apply below_drew1 | refine below_set ?_ GE136.out) | exact HB.out)⟩
                          · replace c39 := Bool.eq_false_iff.mpr c39
                            subst c39
                            have H1 : (if a0_0 = 5 then (some x6_9) else (some (a0_1 == 0))) = some r := by rw [if_neg (show ¬ (false = true) by decide)] at H; exact H
                            clear H
                            have H := H1
                            clear H1
                            by_cases c40 : a0_0 = 5
                            · rw [if_pos c40] at H
                              have c40b0 : (a0_0 == 5) = true := beq_iff_eq.mpr c40
                              have c40b1 : (a0_0 != 5) = false := bne_eq_false_iff_eq.mpr c40
                              clear c40
                              obtain rfl := Option.some.inj H
                              go_wp2
                              go_ret
                              exact ⟨by first | rfl | (simp [errW_none, errW_some] <;> rfl) | (simp [*, errW_none, errW_some] <;> rfl), by repeat (first | (with_reducible first | exact HB.out | apply below_alloc | apply pw_below_drewN | apply below_drew1 | refine below_set ?_ GE136.out) | exact HB.out)⟩
                            · rw [if_neg c40] at H
                              have c40b0 : (a0_0 == 5) = false := beq_eq_false_iff_ne.mpr c40
                              have c40b1 : (a0_0 != 5) = true := bne_iff_ne.mpr c40
                              obtain rfl := Option.some.inj H
                              have hcz41_0 : wc.cell? ⟨gb136, 0, none⟩ = some (.int .i64 a0_0) := (blk_cell BK136.out 0).trans rfl
                              have hcz41_1 : wc.cell? ⟨gb136, 1, none⟩ = some (.int .i64 a0_1) := (blk_cell BK136.out 1).trans rfl
                              have hcz41_2 : wc.cell? ⟨gb136, 2, none⟩ = some (.string a0_2) := (blk_cell BK136.out 2).trans rfl
                              have hcz41_3 : wc.cell? ⟨gb136, 3, none⟩ = some (.slice A0_3 l0_3.length c0_3) := (blk_cell BK136.out 3).trans rfl
                              have hfz41_0 := blk_frozen BK136.out 0
                              have hfz41_1 := blk_frozen BK136.out 1
                              have hfz41_2 := blk_frozen BK136.out 2
                              have hfz41_3 := blk_frozen BK136.out 3
                              go_wp2
                              go_ret
                              exact ⟨by first | rfl | (simp [errW_none, errW_some] <;> rfl) | (simp [*, errW_none, errW_some] <;> rfl), by repeat (first | (with_reducible first | exact HB.out | apply below_alloc | apply pw_below_drewN | apply below_drew1 | refine below_set ?_ GE136.out) | exact HB.out)⟩
                · rw [if_neg c26] at H
                  have c26b0 : (a0_2.toList == ([] : List UInt8)) = false := beq_eq_false_iff_ne.mpr c26
                  have c26b1 : (a0_2.toList != ([] : List UInt8)) = true := bne_iff_ne.mpr c26
                  obtain rfl := Option.some.inj H
                  have hcz42_0 : wc.cell? ⟨gb136, 0, none⟩ = some (.int .i64 a0_0) := (blk_cell BK136.out 0).trans rfl
                  have hcz42_1 : wc.cell? ⟨gb136, 1, none⟩ = some (.int .i64 a0_1) := (blk_cell BK136.out 1).trans rfl
                  have hcz42_2 : wc.cell? ⟨gb136, 2, none⟩ = some (.string a0_2) := (blk_cell BK136.out 2).trans rfl
                  have hcz42_3 : wc.cell? ⟨gb136, 3, none⟩ = some (.slice A0_3 l0_3.length c0_3) := (blk_cell BK136.out 3).trans rfl
                  have hfz42_0 := blk_frozen BK136.out 0
                  have hfz42_1 := blk_frozen BK136.out 1
                  have hfz42_2 := blk_frozen BK136.out 2
                  have hfz42_3 := blk_frozen BK136.out 3
                  go_wp2
                  go_ret
                  exact ⟨by first | rfl | (simp [errW_none, errW_some] <;> rfl) | (simp [*, errW_none, errW_some] <;> rfl), by repeat (first | (with_reducible first | exact HB.out | apply below_alloc | apply pw_below_drewN | apply below_drew1 | refine below_set ?_ GE136.out) | exact HB.out)⟩

end Go.Proofs.YtniajhmbdbgmgaaGreatDoor.Q

namespace Go.Proofs.YtniajhmbdbgmgaaGreatDoor.Q
open Go.RowKit Go.Proofs.YtniajhmbdbgmgaaGreatDoorW.PrintWords Go.Proofs.YtniajhmbdbgmgaaGreatDoorW.PrintLast Go.Proofs.YtniajhmbdbgmgaaGreatDoorW.PrintMore
attribute [local go_sem] max2_int min2_int max_two min_two max_three min_three max_four min_four   -- for this text's walks alone
set_option linter.unusedVariables false
set_option linter.unusedSimpArgs false

/-! ### usanceref14_last: function 149 -/
def usanceref14_last.f (l0 : List Int) : Option (Int) := if (l0.length : Int) = 0 then (some 0) else (if 0 ≤ (wrap64 ((l0.length : Int) - 1)) then (if (wrap64 ((l0.length : Int) - 1)) < (l0.length : Int) then (some (rd l0 (wrap64 ((l0.length : Int) - 1)))) else (none)) else (none))
set_option maxHeartbeats 8000000 in
set_option maxRecDepth 100000 in
theorem usanceref14_last.calls (A0 : Option Addr) (c0 : Nat) (l0 : List Int) (r : Int) (w : World) (hr0 : Kd.C (Kd.int .i64) w A0 l0.length l0) (hc0 : l0.length ≤ c0) (h : usanceref14_last.f l0 = some r) :
    Calls Tryz.prog 149 #[.slice A0 l0.length c0] w fun e w' => e = .returned (.int .i64 r) ∧ Drawn0 w w' := by
  have HR0 := Aside0.mk hr0
  have HC0 := Aside0.mk hc0
  clear hr0 hc0
  have H : (if (l0.length : Int) = 0 then (some 0) else (if 0 ≤ (wrap64 ((l0.length : Int) - 1)) then (if (wrap64 ((l0.length : Int) - 1)) < (l0.length : Int) then (some (rd l0 (wrap64 ((l0.length : Int) - 1)))) else (none)) else (none))) = some r := h
  clear h
  by_cases c2 : (l0.length : Int) = 0
  · rw [if_pos c2] at H
    have c2b0 : ((l0.length : Int) == 0) = true := beq_iff_eq.mpr c2
    have c2b1 : ((l0.length : Int) != 0) = false := bne_eq_false_iff_eq.mpr c2
    clear c2
    obtain rfl := Option.some.inj H
    go_enter Tryz.func149, Tryz.ntmps149
    go_wp2
    go_ret
    exact ⟨by first | rfl | (simp; done) | (simp [*]; done), by repeat (first | exact Drawn0.refl _ | apply Drawn0.step)⟩
  · rw [if_neg c2] at H
    have c2b0 : ((l0.length : Int) == 0) = false := beq_eq_false_iff_ne.mpr c2
    have c2b1 : ((l0.length : Int) != 0) = true := bne_iff_ne.mpr c2
    have c2b2 : ¬ (l0 = []) := fun h_ => c2 (by rw [h_]; rfl)
    obtain ⟨ji3, hji3⟩ : ∃ j_ : Int, (wrap64 ((l0.length : Int) - 1)) = j_ := ⟨_, rfl⟩
    replace H : (if 0 ≤ (ji3) then (if (ji3) < (l0.length : Int) then (some (rd l0 (ji3))) else (none)) else (none)) = some r := by first | (rw [hji3] at H; exact H) | (simp only [hji3] at H ⊢; exact H)
    have hji3w : (IntKind.i64.wrap ((l0.length : Int) - 1)) = ji3 := (i64_w _).trans hji3
    by_cases c4 : 0 ≤ (ji3)
    · rw [if_pos c4] at H
      have c4b0 : decide (0 ≤ (ji3)) = true := decide_eq_true c4
      clear c4
      by_cases c5 : (ji3) < (l0.length : Int)
      · rw [if_pos c5] at H
        have c5b0 : decide ((ji3) < (l0.length : Int)) = true := decide_eq_true c5
        clear c5
        obtain rfl := Option.some.inj H
        have p139 : 0 ≤ ((ji3) : Int) := of_decide_eq_true (by first | (with_reducible assumption) | assumption)
        have q139 : (ji3) < (l0.length : Int) := of_decide_eq_true (by first | (with_reducible assumption) | assumption)
        obtain ⟨ad139, e139, hx139_0⟩ := Kd.at_int HR0.out (ji3) p139 q139
        cases e139
        replace p139 := eq_true p139
        replace q139 := eq_true q139
        go_enter Tryz.func149, Tryz.ntmps149
        go_wp2
        go_ret
        exact ⟨by first | rfl | (simp; done) | (simp only [← hji3] <;> (first | rfl | simp)) | (simp [*]; done), by repeat (first | exact Drawn0.refl _ | apply Drawn0.step)⟩
      · rw [if_neg c5] at H
        exact absurd H (by simp)
    · rw [if_neg c4] at H
      exact absurd H (by simp)

end Go.Proofs.YtniajhmbdbgmgaaGreatDoor.Q
