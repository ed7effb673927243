/- The law OptFolds in plain Lean: of a contract that hangs on nothing no observable is left to reckon. -/
import Derived.Test.YtniajhmbdbgmgaaDoorMOptFolds6
/- The law OptFolds in plain Lean: of a contract that hangs on nothing no observable is left to reckon. -/
namespace Go.Proofs.YtniajhmbdbgmgaaDoor.Q
open Go Go.RowKit Go.Proofs Go.Proofs.YtniajhmbdbgmgaaDoor Go.Proofs.YtniajhmbdbgmgaaDoorW.PrintWords

theorem const_loop (x : Core) (hl : x.f3.length ≤ 3) (hx : ∀ z ∈ x.f3, ∃ b : Bool, (b = true → allT Const z) ∧ ∃ K, ∀ k, K ≤ k → usanceref13_Constant.f k z.f0 z.f1 z.f2 z.f3 = some b) :
    ∀ (d j : Nat), j + d = x.f3.length → ∃ b : Bool, (b = true → allL Const (x.f3.drop j)) ∧ ∃ K, ∀ k, K ≤ k → usanceref13_Constant.l0 k (j : Int) x.f0 x.f1 x.f2 x.f3 = some b := by
  intro d
  induction d with
  | zero =>
    intro j hj
    refine ⟨true, fun _ => by rw [List.drop_of_length_le (by omega)]; trivial, 1, fun k hk => ?_⟩
    obtain ⟨k, rfl⟩ : ∃ m, k = m + 1 := ⟨k - 1, by omega⟩
    rw [usanceref13_Constant.l0, if_neg (by omega)]
  | succ d ih =>
    intro j hj
    have hjl : j < x.f3.length := by omega
    obtain ⟨b1, g1, K1, h1⟩ := hx x.f3[j] (List.getElem_mem hjl)
    obtain ⟨b2, g2, K2, h2⟩ := ih (j + 1) (by omega)
    refine ⟨b1 && b2, fun hb => ?_, K1 + K2 + 1, fun k hk => ?_⟩
    · rw [Bool.and_eq_true] at hb
      rw [List.drop_eq_getElem_cons hjl]
      exact ⟨g1 hb.1, g2 hb.2⟩
    · obtain ⟨k, rfl⟩ : ∃ m, k = m + 1 := ⟨k - 1, by omega⟩
      rw [usanceref13_Constant.l0, if_pos (by omega), if_pos (by omega), rd_at _ _ hjl, h1 k (by omega), Option.bind_some]
      cases b1
      · rw [if_neg (by simp)]
        rfl
      · rw [if_pos rfl, wrap_in (by omega) (by omega)]
        exact h2 k (by omega)
theorem const_of (x : Core) : tyT flT x ≠ 0 → ∃ b : Bool, (b = true → allT Const x) ∧ ∃ K, ∀ k, K ≤ k → usanceref13_Constant.f k x.f0 x.f1 x.f2 x.f3 = some b := by
  refine ind_core (P := fun x => tyT flT x ≠ 0 → ∃ b : Bool, (b = true → allT Const x) ∧ ∃ K, ∀ k, K ≤ k → usanceref13_Constant.f k x.f0 x.f1 x.f2 x.f3 = some b) (fun x ih ht => ?_) x
  obtain ⟨b, g, K, hK⟩ := const_loop x (ty_len ht) (fun z hz => ih z hz (ty_kids ht z hz)) x.f3.length 0 (by omega)
  by_cases h4 : x.f0 = 4
  · refine ⟨false, (fun h => by cases h), 2, fun k hk => ?_⟩
    obtain ⟨k, rfl⟩ : ∃ m, k = m + 2 := ⟨k - 2, by omega⟩
    rw [usanceref13_Constant.f, if_pos h4, usanceref13_Constant.j0, if_pos rfl]
  · by_cases h5 : x.f0 = 5
    · refine ⟨false, (fun h => by cases h), 2, fun k hk => ?_⟩
      obtain ⟨k, rfl⟩ : ∃ m, k = m + 2 := ⟨k - 2, by omega⟩
      rw [usanceref13_Constant.f, if_neg h4, usanceref13_Constant.j0, if_pos (beq_iff_eq.2 h5)]
    · refine ⟨b, fun hb => (allT_eq Const x).2 ⟨⟨h4, h5⟩, g hb⟩, K + 2, fun k hk => ?_⟩
      obtain ⟨k, rfl⟩ : ∃ m, k = m + 2 := ⟨k - 2, by omega⟩
      rw [usanceref13_Constant.f, if_neg h4, usanceref13_Constant.j0, if_neg (by simp [h5])]
      exact hK k (by omega)
theorem settled_loop (x : Core) (hl : x.f3.length ≤ 3) (hx : ∀ z ∈ x.f3, ∃ K, ∀ k, K ≤ k → usancelaw16_settled.f k z.f0 z.f1 z.f2 z.f3 = some true) :
    ∀ (d j : Nat), j + d = x.f3.length → ∃ K, ∀ k, K ≤ k → usancelaw16_settled.l0 k (j : Int) x.f0 x.f1 x.f2 x.f3 = some true := by
  intro d
  induction d with
  | zero =>
    intro j hj
    refine ⟨1, fun k hk => ?_⟩
    obtain ⟨k, rfl⟩ : ∃ m, k = m + 1 := ⟨k - 1, by omega⟩
    rw [usancelaw16_settled.l0, if_neg (by omega)]
  | succ d ih =>
    intro j hj
    have hjl : j < x.f3.length := by omega
    obtain ⟨K1, h1⟩ := hx x.f3[j] (List.getElem_mem hjl)
    obtain ⟨K2, h2⟩ := ih (j + 1) (by omega)
    refine ⟨K1 + K2 + 1, fun k hk => ?_⟩
    obtain ⟨k, rfl⟩ : ∃ m, k = m + 1 := ⟨k - 1, by omega⟩
    rw [usancelaw16_settled.l0, if_pos (by omega), if_pos (by omega), rd_at _ _ hjl, h1 k (by omega), Option.bind_some, if_pos rfl, wrap_in (by omega) (by omega)]
    exact h2 k (by omega)
theorem settled_of (x : Core) : tyT flT x ≠ 0 → allT Settled x → ∃ K, ∀ k, K ≤ k → usancelaw16_settled.f k x.f0 x.f1 x.f2 x.f3 = some true := by
  refine ind_core (P := fun x => tyT flT x ≠ 0 → allT Settled x → ∃ K, ∀ k, K ≤ k → usancelaw16_settled.f k x.f0 x.f1 x.f2 x.f3 = some true) (fun x ih ht hs => ?_) x
  obtain ⟨hs0, hsl⟩ := (allT_eq Settled x).1 hs
  obtain ⟨K, hK⟩ := settled_loop x (ty_len ht) (fun z hz => ih z hz (ty_kids ht z hz) ((allL_iff _ _).1 hsl z hz)) x.f3.length 0 (by omega)
  refine ⟨K + 2, fun k hk => ?_⟩
  obtain ⟨k, rfl⟩ : ∃ m, k = m + 2 := ⟨k - 2, by omega⟩
  unfold Settled at hs0
  rw [usancelaw16_settled.f]
  by_cases h6 : x.f0 ≥ 6
  · rw [if_pos h6, usancelaw16_settled.j0, if_neg (by simp; omega)]
    exact hK k (by omega)
  · rw [if_neg h6, usancelaw16_settled.j0, if_neg (by simp)]
    exact hK k (by omega)

theorem optFolds_run (x : Core) (A : Option Addr) (c : Nat) (w : World) (hC : Kd.C k24 w A x.f3.length x.f3) (hl : x.f3.length ≤ c) :
    Calls Tryd.prog 4 #[.agg #[.int .i64 x.f0, .int .i64 x.f1, .string x.f2, .slice A x.f3.length c]] w fun q w' => q = .returned (.bool true) ∧ Below w.heap.size w w' := by
  by_cases hx : Right x
  · obtain ⟨y, hy, K1, h1⟩ := do_yes x 7 hx (by decide) (by decide)
    have hyr := came_right hy hx
    obtain ⟨b, hb, K2, h2⟩ := const_of x (right_ty hx)
    refine folds_walk x y 0 b A c w hC hl shown_run (fun W h => do_calls K1 x y 0 7 (h1 _ (Nat.le_refl _)) A c W h hl)
      (fun _ W h => usanceref13_Constant.calls K2 x.f0 x.f1 x.f2 A c x.f3 b W h hl (h2 _ (Nat.le_refl _))) (fun _ hbt W B d h hd => ?_)
    have hc := hy.all Const ⟨fun _ _ _ => by unfold Const; omega, fun _ _ _ => by unfold Const; omega, fun _ _ _ => by unfold Const; omega, by unfold Const; omega⟩ (hb hbt)
    have hs := settled_all flOk (band := band) (passes := 7) (ym := ymd) (by decide) (by decide) (by decide) y (right_ty hyr) hy.norm hc
    obtain ⟨K3, h3⟩ := settled_of y (right_ty hyr) hs
    exact usancelaw16_settled.calls K3 y.f0 y.f1 y.f2 B d y.f3 true W h hd (h3 _ (Nat.le_refl _))
  · obtain ⟨K1, h1⟩ := do_no x 7 (fun h => hx h.1)
    exact folds_walk x ⟨0, 0, ⟨#[]⟩, []⟩ 160 false A c w hC hl shown_run (fun W h => do_calls K1 x ⟨0, 0, ⟨#[]⟩, []⟩ 160 7 (h1 _ (Nat.le_refl _)) A c W h hl) (fun h => absurd h (by decide)) (fun h => absurd h (by decide))
end Go.Proofs.YtniajhmbdbgmgaaDoor.Q
