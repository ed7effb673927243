import Derived.Test.YtniajhmbdbgmgaaGreatDoorMOptLess5
import Derived.Deep.QuietTactic
import Derived.BigQuiet
/- Five rules of layer 16, each as what it owes. -/
namespace Go.Proofs.YtniajhmbdbgmgaaGreatDoor.Q
open Go Go.RowKit Go.Proofs Go.Proofs.YtniajhmbdbgmgaaGreatDoor Go.Shelf Go.Proofs.YtniajhmbdbgmgaaGreatDoorW.PrintWords Go.Proofs.YtniajhmbdbgmgaaGreatDoorW.PrintLast Go.Proofs.YtniajhmbdbgmgaaGreatDoorW.PrintMore
set_option linter.unusedSimpArgs false
attribute [local go_sem] World.cell?_alloc_lt

/-- The first kid's cells; they are old. -/
theorem first_kid {w : World} {P : Nat → Prop} {A : Option Addr} {a : Core} {l xs : List Core} (h : Kd.F k24 w P A xs.length xs) (e : xs = a :: l) :
    ∃ ad Aa ca, A = some ad ∧ ad.block < w.heap.size ∧ (w.cell? ad = some (.int .i64 a.f0) ∧ w.cell? ⟨ad.block, ad.off + 1, none⟩ = some (.int .i64 a.f1) ∧ w.cell? ⟨ad.block, ad.off + 2, none⟩ = some (.string a.f2) ∧ w.cell? ⟨ad.block, ad.off + 3, none⟩ = some (.slice Aa a.f3.length ca)) ∧
      a.f3.length ≤ ca ∧ Kd.F k24 w P Aa a.f3.length a.f3 := by
  subst e
  obtain ⟨ad, Aa, ca, hA, a0, a1, a2, a3, hla, hFa⟩ := kid_at h 0 (by simp)
  rw [Nat.zero_mul, Addr.add_zero'] at a0 a1 a2 a3
  exact ⟨ad, Aa, ca, hA, World.block_lt_of_cell? w _ a0, ⟨a0, a1, a2, a3⟩, hla, hFa⟩
/-- What a rule hands back lay there: it is stored into the result's box. -/
theorem DInv.fin {w W : World} {A : Option Addr} {c : Nat} {x y : Core} {P : Nat → Prop} {Ay : Option Addr} {cy : Nat} (h : DInv w A c x W) (hl : y.f3.length ≤ cy) (hF : Kd.F k24 w P Ay y.f3.length y.f3) (ok : Bool) (p q r s : Value) :
    ∃ v : Value, Ending.returned (.tuple #[.agg #[.int .i64 y.f0, .int .i64 y.f1, .string y.f2, .slice Ay y.f3.length cy], .bool ok]) = .returned (.tuple #[.agg #[.int .i64 y.f0, .int .i64 y.f1, .string y.f2, v], .bool ok]) ∧
      Kd.V k24 24 ((((W.setCell ⟨w.heap.size + 1, 0, none⟩ p).setCell ⟨w.heap.size + 1, 1, none⟩ q).setCell ⟨w.heap.size + 1, 2, none⟩ r).setCell ⟨w.heap.size + 1, 3, none⟩ s) w.heap.size (fun k => P k ∨ w.heap.size ≤ k) v y.f3 ∧
      Below w.heap.size w ((((W.setCell ⟨w.heap.size + 1, 0, none⟩ p).setCell ⟨w.heap.size + 1, 1, none⟩ q).setCell ⟨w.heap.size + 1, 2, none⟩ r).setCell ⟨w.heap.size + 1, 3, none⟩ s) :=
  ⟨_, rfl, Kd.V_mono (V_put4 (Kd.V_step (Kd.V_bound (Kd.V_mk (e := 24) (base := w.heap.size) hl hF)) (fun k hk _ => h.bel.block k hk.2)) (fun k hk => by have := hk.2; omega) _ _ _ _) (fun k hk => .inl hk.1), below_put4 h.bel (by omega) _ _ _ _⟩

theorem DInv.drewN {w W : World} {A : Option Addr} {c : Nat} {x : Core} (h : DInv w A c x W) (n : Nat) : DInv w A c x (W.drewN n) := h.below (pw_below_drewN (Below.refl _ _) n)
theorem fin_below {w W : World} {y : Core} {P : Nat → Prop} {Ay : Option Addr} {cy : Nat} (h : Below w.heap.size w W) (hl : y.f3.length ≤ cy) (hF : Kd.F k24 w P Ay y.f3.length y.f3) (ok : Bool) :
    ∃ v : Value, Ending.returned (.tuple #[.agg #[.int .i64 y.f0, .int .i64 y.f1, .string y.f2, .slice Ay y.f3.length cy], .bool ok]) = .returned (.tuple #[.agg #[.int .i64 y.f0, .int .i64 y.f1, .string y.f2, v], .bool ok]) ∧
      Kd.V k24 24 W w.heap.size (fun k => P k ∨ w.heap.size ≤ k) v y.f3 ∧ Below w.heap.size w W :=
  ⟨_, rfl, Kd.V_mk hl (Kd.F_mono (Kd.F_below hF h) (fun _ h => .inl h)), h⟩
theorem below3 (w : World) (a b c : Obj) : Below w.heap.size w (((w.alloc a).alloc b).alloc c) := below_alloc (below_alloc (below_alloc (Below.refl _ _) _) _) _
/-- A row of two terms that was made just now. -/
theorem built2 {W : World} {B : Nat} {a b : Core} {Aa Ab : Option Addr} {ca cb : Nat} {P : Nat → Prop} (hb : W.heap[B]? = some (.cells #[.int .i64 a.f0, .int .i64 a.f1, .string a.f2, .slice Aa a.f3.length ca, .int .i64 b.f0, .int .i64 b.f1, .string b.f2, .slice Ab b.f3.length cb] 24 (0, 0)))
    (hla : a.f3.length ≤ ca) (hF : Kd.F k24 W P Aa a.f3.length a.f3) (hlb : b.f3.length ≤ cb) (hG : Kd.F k24 W P Ab b.f3.length b.f3) : Kd.F k24 W (fun k => P k ∨ k = B) (some ⟨B, 0, none⟩) 2 [a, b] := by
  intro W' hW
  have hb' := (hW B (.inr rfl) (blk_lt hb)).trans hb
  have hF' := hF W' (fun k hk hlt => hW k (.inl hk) hlt)
  have hG' := hG W' (fun k hk hlt => hW k (.inl hk) hlt)
  refine ⟨rfl, by omega, fun _ => ⟨⟨B, 0, none⟩, rfl, fun j p hj => ?_⟩⟩
  match j, hj with
  | 0, hj =>
    simp only [List.getElem?_cons_zero, Option.some.injEq] at hj
    subst hj
    refine ⟨[.int .i64 a.f0, .int .i64 a.f1, .string a.f2, .slice Aa a.f3.length ca], rfl, k24_mk W' a hla hF', fun i u hu => ?_⟩
    rw [add_at, blk_cell hb']
    match i, hu with
    | 0, hu => cases hu; rfl
    | 1, hu => cases hu; rfl
    | 2, hu => cases hu; rfl
    | 3, hu => cases hu; rfl
    | i + 4, hu => simp at hu
  | 1, hj =>
    simp only [List.getElem?_cons_succ, List.getElem?_cons_zero, Option.some.injEq] at hj
    subst hj
    refine ⟨[.int .i64 b.f0, .int .i64 b.f1, .string b.f2, .slice Ab b.f3.length cb], rfl, k24_mk W' b hlb hG', fun i u hu => ?_⟩
    rw [add_at, blk_cell hb']
    match i, hu with
    | 0, hu => cases hu; rfl
    | 1, hu => cases hu; rfl
    | 2, hu => cases hu; rfl
    | 3, hu => cases hu; rfl
    | i + 4, hu => simp at hu
  | j + 2, hj => simp at hj
theorem built_two {W : World} {B : Nat} {a : Core} {Aa : Option Addr} {ca : Nat} {P : Nat → Prop} (hb : W.heap[B]? = some (.cells #[.int .i64 a.f0, .int .i64 a.f1, .string a.f2, .slice Aa a.f3.length ca, .int .i64 23, .int .i64 0, .string ⟨#[]⟩, .slice none 0 0] 24 (0, 0)))
    (hla : a.f3.length ≤ ca) (hF : Kd.F k24 W P Aa a.f3.length a.f3) : Kd.F k24 W (fun k => P k ∨ k = B) (some ⟨B, 0, none⟩) 2 [a, ⟨23, 0, ⟨#[]⟩, []⟩] :=
  built2 (b := ⟨23, 0, ⟨#[]⟩, []⟩) hb hla hF (Nat.le_refl 0) (Kd.F_nil _ _ _)
/-- What holds along 'settled': the first kid lies in a box of its own. -/
structure SInv (w : World) (A : Option Addr) (c : Nat) (x a : Core) (Aa : Option Addr) (ca : Nat) (W : World) : Prop where
  d : DInv w A c x W
  k : W.heap[w.heap.size + 1 + 1]? = some (.cells #[.int .i64 a.f0, .int .i64 a.f1, .string a.f2, .slice Aa a.f3.length ca] 24 (0, 0))
theorem SInv.below {w W W' : World} {A : Option Addr} {c : Nat} {x a : Core} {Aa : Option Addr} {ca : Nat} (h : SInv w A c x a Aa ca W) (hb : Below W.heap.size W W') : SInv w A c x a Aa ca W' := ⟨h.d.below hb, blk_below h.k hb⟩
theorem SInv.drew {w W : World} {A : Option Addr} {c : Nat} {x a : Core} {Aa : Option Addr} {ca : Nat} (h : SInv w A c x a Aa ca W) : SInv w A c x a Aa ca W.drew := h.below (below_drew (Below.refl _ _))
theorem SInv.new (w : World) (A : Option Addr) (c : Nat) (x a : Core) (Aa : Option Addr) (ca : Nat) : SInv w A c x a Aa ca (((w.alloc (.cells #[.int .i64 x.f0, .int .i64 x.f1, .string x.f2, .slice A x.f3.length c] 24)).alloc (.cells #[.int .i64 0, .int .i64 0, .string ⟨#[]⟩, .slice none 0 0] 24)).alloc (.cells #[.int .i64 a.f0, .int .i64 a.f1, .string a.f2, .slice Aa a.f3.length ca] 24)) := by
  refine ⟨(DInv.new w A c x).below (below_alloc (Below.refl _ _) _), ?_⟩
  have := World.alloc_heap_new ((w.alloc (.cells #[.int .i64 x.f0, .int .i64 x.f1, .string x.f2, .slice A x.f3.length c] 24)).alloc (.cells #[.int .i64 0, .int .i64 0, .string ⟨#[]⟩, .slice none 0 0] 24)) (.cells #[.int .i64 a.f0, .int .i64 a.f1, .string a.f2, .slice Aa a.f3.length ca] 24)
  simpa using this
theorem SInv.held {w W : World} {A : Option Addr} {c : Nat} {x a : Core} {Aa : Option Addr} {ca : Nat} (h : SInv w A c x a Aa ca W) : W.cell? ⟨w.heap.size, 0, none⟩ = some (.int .i64 x.f0) ∧ W.cell? ⟨w.heap.size + 1 + 1, 0, none⟩ = some (.int .i64 a.f0) ∧ W.cell? ⟨w.heap.size + 1 + 1, 1, none⟩ = some (.int .i64 a.f1) ∧ W.cell? ⟨w.heap.size + 1 + 1, 2, none⟩ = some (.string a.f2) ∧ W.cell? ⟨w.heap.size + 1 + 1, 3, none⟩ = some (.slice Aa a.f3.length ca) :=
  ⟨(core_cells h.d.b0).1, core_cells h.k⟩
theorem SInv.held4 {w W : World} {A : Option Addr} {c : Nat} {x a : Core} {Aa : Option Addr} {ca : Nat} (h : SInv w A c x a Aa ca W) (p q r s : Value) :
    ((((W.setCell ⟨w.heap.size + 1, 0, none⟩ p).setCell ⟨w.heap.size + 1, 1, none⟩ q).setCell ⟨w.heap.size + 1, 2, none⟩ r).setCell ⟨w.heap.size + 1, 3, none⟩ s).cell? ⟨w.heap.size, 0, none⟩ = some (.int .i64 x.f0) ∧
      ((((W.setCell ⟨w.heap.size + 1, 0, none⟩ p).setCell ⟨w.heap.size + 1, 1, none⟩ q).setCell ⟨w.heap.size + 1, 2, none⟩ r).setCell ⟨w.heap.size + 1, 3, none⟩ s).cell? ⟨w.heap.size + 1 + 1, 0, none⟩ = some (.int .i64 a.f0) ∧
      ((((W.setCell ⟨w.heap.size + 1, 0, none⟩ p).setCell ⟨w.heap.size + 1, 1, none⟩ q).setCell ⟨w.heap.size + 1, 2, none⟩ r).setCell ⟨w.heap.size + 1, 3, none⟩ s).cell? ⟨w.heap.size + 1 + 1, 1, none⟩ = some (.int .i64 a.f1) ∧
      ((((W.setCell ⟨w.heap.size + 1, 0, none⟩ p).setCell ⟨w.heap.size + 1, 1, none⟩ q).setCell ⟨w.heap.size + 1, 2, none⟩ r).setCell ⟨w.heap.size + 1, 3, none⟩ s).cell? ⟨w.heap.size + 1 + 1, 2, none⟩ = some (.string a.f2) ∧
      ((((W.setCell ⟨w.heap.size + 1, 0, none⟩ p).setCell ⟨w.heap.size + 1, 1, none⟩ q).setCell ⟨w.heap.size + 1, 2, none⟩ r).setCell ⟨w.heap.size + 1, 3, none⟩ s).cell? ⟨w.heap.size + 1 + 1, 3, none⟩ = some (.slice Aa a.f3.length ca) :=
  ⟨(core_cells (blk_away4 h.d.b0 (by omega) _ _ _ _)).1, core_cells (blk_away4 h.k (by omega) _ _ _ _)⟩
set_option maxRecDepth 100000 in
theorem twice_no (x : Core) (h6 : x.f0 ≠ 6) (h14 : x.f0 ≠ 14) (h25 : x.f0 ≠ 25) (P : Nat → Prop) (A : Option Addr) (c : Nat) (w : World) (hF : Kd.F k24 w P A x.f3.length x.f3) (hc : x.f3.length ≤ c) :
    Calls Tryz.prog 82 #[.agg #[.int .i64 x.f0, .int .i64 x.f1, .string x.f2, .slice A x.f3.length c]] w fun q w' =>
      ∃ v : Value, q = .returned (.tuple #[.agg #[.int .i64 x.f0, .int .i64 x.f1, .string x.f2, v], .bool false]) ∧ Kd.V k24 24 w' w.heap.size (fun k => P k ∨ w.heap.size ≤ k) v x.f3 ∧ Below w.heap.size w w' := by
  have t6 : (x.f0 == 6) = false := beq_eq_false_iff_ne.2 h6
  have t14 : (x.f0 == 14) = false := beq_eq_false_iff_ne.2 h14
  have t25 : (x.f0 == 25) = false := beq_eq_false_iff_ne.2 h25
  have HF := Lib.hid hF
  clear hF h6 h14 h25
  go_enter Tryz.func82, Tryz.ntmps82
  go_wp2
  go_quiet (fail)
  go_wp2
  refine bodyPost_ret (v := .tuple #[.agg #[.int .i64 x.f0, .int .i64 x.f1, .string x.f2, .slice A x.f3.length c], .bool false]) (by simp [results, Tryz.f82, go_sem]) rfl ?_
  exact ((DInv.new w A c x).drewN _).fin hc HF.out false _ _ _ _
set_option maxRecDepth 100000 in
theorem twice_not (x a : Core) (l : List Core) (ho : x.f0 = 6 ∨ x.f0 = 14 ∨ x.f0 = 25) (hl : x.f3 = a :: l) (ha : a.f0 ≠ x.f0) (P : Nat → Prop) (A : Option Addr) (c : Nat) (w : World) (hF : Kd.F k24 w P A x.f3.length x.f3) (hc : x.f3.length ≤ c) :
    Calls Tryz.prog 82 #[.agg #[.int .i64 x.f0, .int .i64 x.f1, .string x.f2, .slice A x.f3.length c]] w fun q w' =>
      ∃ v : Value, q = .returned (.tuple #[.agg #[.int .i64 x.f0, .int .i64 x.f1, .string x.f2, v], .bool false]) ∧ Kd.V k24 24 w' w.heap.size (fun k => P k ∨ w.heap.size ≤ k) v x.f3 ∧ Below w.heap.size w w' := by
  obtain ⟨ad, Aa, ca, hA, hb0, ⟨a0, a1, a2, a3⟩, hla, hFa⟩ := first_kid hF hl
  have hb1 : ad.block < w.heap.size + 1 := by omega
  have hb2 : ad.block < w.heap.size + 1 + 1 := by omega
  have hb3 : ad.block < w.heap.size + 1 + 1 + 1 := by omega
  have hlen : 0 < x.f3.length := by rw [hl]; simp
  have hlen1 : 1 ≤ x.f3.length := hlen
  have hleni : (0 : Int) < (x.f3.length : Int) := by omega
  subst hA
  have ta : (a.f0 == x.f0) = false := beq_eq_false_iff_ne.2 ha
  have HF := Lib.hid hF
  clear hF hFa hl ha
  rcases ho with ho | ho | ho
  · have t6 : (x.f0 == 6) = true := beq_iff_eq.2 ho
    clear ho
    go_enter Tryz.func82, Tryz.ntmps82
    go_wp2
    go_quiet (fail)
    go_wp2
    refine bodyPost_ret (v := .tuple #[.agg #[.int .i64 x.f0, .int .i64 x.f1, .string x.f2, .slice (some ad) x.f3.length c], .bool false]) (by simp [results, Tryz.f82, go_sem]) rfl ?_
    exact ((DInv.new w (some ad) c x).drewN _).fin hc HF.out false _ _ _ _
  · have t6 : (x.f0 == 6) = false := beq_eq_false_iff_ne.2 (by omega)
    have t14 : (x.f0 == 14) = true := beq_iff_eq.2 ho
    clear ho
    go_enter Tryz.func82, Tryz.ntmps82
    go_wp2
    go_quiet (fail)
    go_wp2
    refine bodyPost_ret (v := .tuple #[.agg #[.int .i64 x.f0, .int .i64 x.f1, .string x.f2, .slice (some ad) x.f3.length c], .bool false]) (by simp [results, Tryz.f82, go_sem]) rfl ?_
    exact ((DInv.new w (some ad) c x).drewN _).fin hc HF.out false _ _ _ _
  · have t6 : (x.f0 == 6) = false := beq_eq_false_iff_ne.2 (by omega)
    have t14 : (x.f0 == 14) = false := beq_eq_false_iff_ne.2 (by omega)
    have t25 : (x.f0 == 25) = true := beq_iff_eq.2 ho
    clear ho
    go_enter Tryz.func82, Tryz.ntmps82
    go_wp2
    go_quiet (fail)
    go_wp2
    refine bodyPost_ret (v := .tuple #[.agg #[.int .i64 x.f0, .int .i64 x.f1, .string x.f2, .slice (some ad) x.f3.length c], .bool false]) (by simp [results, Tryz.f82, go_sem]) rfl ?_
    exact ((DInv.new w (some ad) c x).drewN _).fin hc HF.out false _ _ _ _
set_option maxRecDepth 100000 in
theorem twice_yes (x a b : Core) (l m : List Core) (ho : x.f0 = 6 ∨ x.f0 = 14 ∨ x.f0 = 25) (hl : x.f3 = a :: l) (hm : a.f3 = b :: m) (ha : a.f0 = x.f0) (P : Nat → Prop) (A : Option Addr) (c : Nat) (w : World) (hF : Kd.F k24 w P A x.f3.length x.f3) (_hc : x.f3.length ≤ c) :
    Calls Tryz.prog 82 #[.agg #[.int .i64 x.f0, .int .i64 x.f1, .string x.f2, .slice A x.f3.length c]] w fun q w' =>
      ∃ v : Value, q = .returned (.tuple #[.agg #[.int .i64 b.f0, .int .i64 b.f1, .string b.f2, v], .bool true]) ∧ Kd.V k24 24 w' w.heap.size (fun k => P k ∨ w.heap.size ≤ k) v b.f3 ∧ Below w.heap.size w w' := by
  obtain ⟨ad, Aa, ca, hA, hb0, ⟨a0, a1, a2, a3⟩, hla, hFa⟩ := first_kid hF hl
  have hb1 : ad.block < w.heap.size + 1 := by omega
  have hb2 : ad.block < w.heap.size + 1 + 1 := by omega
  have hb3 : ad.block < w.heap.size + 1 + 1 + 1 := by omega
  have hlen : 0 < x.f3.length := by rw [hl]; simp
  have hlen1 : 1 ≤ x.f3.length := hlen
  have hleni : (0 : Int) < (x.f3.length : Int) := by omega
  subst hA
  obtain ⟨bd, Ab, cb, hB, hd0, ⟨b0, b1, b2, b3⟩, hlb, hFb⟩ := first_kid hFa hm
  have hd1 : bd.block < w.heap.size + 1 := by omega
  have hd2 : bd.block < w.heap.size + 1 + 1 := by omega
  have hmen : 0 < a.f3.length := by rw [hm]; simp
  have hmen1 : 1 ≤ a.f3.length := hmen
  have hmeni : (0 : Int) < (a.f3.length : Int) := by omega
  subst hB
  have HB := Lib.hid hFb
  clear hFb hm
  have ta : (a.f0 == x.f0) = true := beq_iff_eq.2 ha
  have HF := Lib.hid hF
  clear hF hFa hl ha
  rcases ho with ho | ho | ho
  · have t6 : (x.f0 == 6) = true := beq_iff_eq.2 ho
    clear ho
    go_enter Tryz.func82, Tryz.ntmps82
    go_wp2
    go_quiet (fail)
    go_wp2
    refine bodyPost_ret (v := .tuple #[.agg #[.int .i64 b.f0, .int .i64 b.f1, .string b.f2, .slice Ab b.f3.length cb], .bool true]) (by simp [results, Tryz.f82, go_sem]) rfl ?_
    exact ((DInv.new w (some ad) c x).drewN _).fin hlb HB.out true _ _ _ _
  · have t6 : (x.f0 == 6) = false := beq_eq_false_iff_ne.2 (by omega)
    have t14 : (x.f0 == 14) = true := beq_iff_eq.2 ho
    clear ho
    go_enter Tryz.func82, Tryz.ntmps82
    go_wp2
    go_quiet (fail)
    go_wp2
    refine bodyPost_ret (v := .tuple #[.agg #[.int .i64 b.f0, .int .i64 b.f1, .string b.f2, .slice Ab b.f3.length cb], .bool true]) (by simp [results, Tryz.f82, go_sem]) rfl ?_
    exact ((DInv.new w (some ad) c x).drewN _).fin hlb HB.out true _ _ _ _
  · have t6 : (x.f0 == 6) = false := beq_eq_false_iff_ne.2 (by omega)
    have t14 : (x.f0 == 14) = false := beq_eq_false_iff_ne.2 (by omega)
    have t25 : (x.f0 == 25) = true := beq_iff_eq.2 ho
    clear ho
    go_enter Tryz.func82, Tryz.ntmps82
    go_wp2
    go_quiet (fail)
    go_wp2
    refine bodyPost_ret (v := .tuple #[.agg #[.int .i64 b.f0, .int .i64 b.f1, .string b.f2, .slice Ab b.f3.length cb], .bool true]) (by simp [results, Tryz.f82, go_sem]) rfl ?_
    exact ((DInv.new w (some ad) c x).drewN _).fin hlb HB.out true _ _ _ _
theorem twice_ru : Ru 82 twiceC := by
  intro x y ok P A c w hV h
  obtain ⟨_, hc, hF⟩ := Kd.V_at hV
  unfold twiceC at h
  by_cases hu : x.f0 = 6 ∨ x.f0 = 14 ∨ x.f0 = 25
  · rw [if_pos hu] at h
    match hl : x.f3, h with
    | a :: l, h =>
      rw [← hl]
      by_cases ha : a.f0 = x.f0
      · simp only at h
        rw [if_pos ha] at h
        match hm : a.f3, h with
        | b :: m, h =>
          simp only [Option.some.injEq, Prod.mk.injEq] at h
          obtain ⟨rfl, rfl⟩ := h
          exact twice_yes x a b l m hu hl hm ha P A c w hF hc
      · simp only at h
        rw [if_neg ha] at h
        simp only [Option.some.injEq, Prod.mk.injEq] at h
        obtain ⟨rfl, rfl⟩ := h
        exact twice_not x a l hu hl ha P A c w hF hc
  · rw [if_neg hu] at h
    simp only [Option.some.injEq, Prod.mk.injEq] at h
    obtain ⟨rfl, rfl⟩ := h
    exact twice_no x (by omega) (by omega) (by omega) P A c w hF hc
set_option maxRecDepth 100000 in
theorem chosen_not (x a : Core) (l : List Core) (hl : x.f3 = a :: l) (hno : ¬ ((x.f0 = 22 ∨ x.f0 = 28) ∧ a.f0 = 2)) (P : Nat → Prop) (A : Option Addr) (c : Nat) (w : World) (hF : Kd.F k24 w P A x.f3.length x.f3) (hc : x.f3.length ≤ c) :
    Calls Tryz.prog 86 #[.agg #[.int .i64 x.f0, .int .i64 x.f1, .string x.f2, .slice A x.f3.length c]] w fun q w' =>
      ∃ v : Value, q = .returned (.tuple #[.agg #[.int .i64 x.f0, .int .i64 x.f1, .string x.f2, v], .bool false]) ∧ Kd.V k24 24 w' w.heap.size (fun k => P k ∨ w.heap.size ≤ k) v x.f3 ∧ Below w.heap.size w w' := by
  obtain ⟨ad, Aa, ca, hA, hb0, ⟨a0, a1, a2, a3⟩, hla, hFa⟩ := first_kid hF hl
  have hb1 : ad.block < w.heap.size + 1 := by omega
  have hb2 : ad.block < w.heap.size + 1 + 1 := by omega
  have hb3 : ad.block < w.heap.size + 1 + 1 + 1 := by omega
  have hlen : 0 < x.f3.length := by rw [hl]; simp
  have hlen1 : 1 ≤ x.f3.length := hlen
  have hleni : (0 : Int) < (x.f3.length : Int) := by omega
  subst hA
  have HF := Lib.hid hF
  clear hF hFa hl
  by_cases h22 : x.f0 = 22
  · have u1 : (x.f0 != 22) = false := bne_eq_false_iff_eq.2 h22
    have u3 : (a.f0 != 2) = true := bne_iff_ne.2 (fun h => hno ⟨.inl h22, h⟩)
    clear hno h22
    go_enter Tryz.func86, Tryz.ntmps86
    go_wp2
    refine bodyPost_ret (v := .tuple #[.agg #[.int .i64 x.f0, .int .i64 x.f1, .string x.f2, .slice (some ad) x.f3.length c], .bool false]) (by simp [results, Tryz.f86, go_sem]) rfl ?_
    exact fin_below (below3 _ _ _ _) hc HF.out false
  · have u1 : (x.f0 != 22) = true := bne_iff_ne.2 h22
    by_cases h28 : x.f0 = 28
    · have u2 : (x.f0 != 28) = false := bne_eq_false_iff_eq.2 h28
      have u3 : (a.f0 != 2) = true := bne_iff_ne.2 (fun h => hno ⟨.inr h28, h⟩)
      clear hno h22 h28
      go_enter Tryz.func86, Tryz.ntmps86
      go_wp2
      refine bodyPost_ret (v := .tuple #[.agg #[.int .i64 x.f0, .int .i64 x.f1, .string x.f2, .slice (some ad) x.f3.length c], .bool false]) (by simp [results, Tryz.f86, go_sem]) rfl ?_
      exact fin_below (below3 _ _ _ _) hc HF.out false
    · have u2 : (x.f0 != 28) = true := bne_iff_ne.2 h28
      clear hno h22 h28
      go_enter Tryz.func86, Tryz.ntmps86
      go_wp2
      refine bodyPost_ret (v := .tuple #[.agg #[.int .i64 x.f0, .int .i64 x.f1, .string x.f2, .slice (some ad) x.f3.length c], .bool false]) (by simp [results, Tryz.f86, go_sem]) rfl ?_
      exact fin_below (below3 _ _ _ _) hc HF.out false
set_option maxRecDepth 100000 in
theorem chosen_yes0 (x a y : Core) (l : List Core) (hl : x.f3 = a :: l) (hu : x.f0 = 22 ∨ x.f0 = 28) (ha : a.f0 = 2) (hn : a.f1 = 0) (hj : 2 < x.f3.length) (hy : x.f3[2] = y) (P : Nat → Prop) (A : Option Addr) (c : Nat) (w : World) (hF : Kd.F k24 w P A x.f3.length x.f3) (_hc : x.f3.length ≤ c) :
    Calls Tryz.prog 86 #[.agg #[.int .i64 x.f0, .int .i64 x.f1, .string x.f2, .slice A x.f3.length c]] w fun q w' =>
      ∃ v : Value, q = .returned (.tuple #[.agg #[.int .i64 y.f0, .int .i64 y.f1, .string y.f2, v], .bool true]) ∧ Kd.V k24 24 w' w.heap.size (fun k => P k ∨ w.heap.size ≤ k) v y.f3 ∧ Below w.heap.size w w' := by
  obtain ⟨ad, Aa, ca, hA, hb0, ⟨a0, a1, a2, a3⟩, hla, hFa⟩ := first_kid hF hl
  obtain ⟨ad', Ay, cy, hA', b0, b1, b2, b3, hly, hFy⟩ := kid_at hF 2 hj
  rw [hy] at b0 b1 b2 b3 hly hFy
  subst hA
  obtain rfl : ad = ad' := Option.some.inj hA'
  have h4 : ad.add (2 * 4) = ⟨ad.block, ad.off + 8, none⟩ := by
    have := add_field ad 0 8 (by omega)
    rw [Addr.add_zero'] at this
    exact this
  simp only [h4] at b0 b1 b2 b3
  have hb1 : ad.block < w.heap.size + 1 := by omega
  have hb2 : ad.block < w.heap.size + 1 + 1 := by omega
  have hb3 : ad.block < w.heap.size + 1 + 1 + 1 := by omega
  have hlen : 0 < x.f3.length := by omega
  have hlen2 : 2 < x.f3.length := hj
  have hlen3 : 3 ≤ x.f3.length := hj
  have u3 : (a.f0 != 2) = false := bne_eq_false_iff_eq.2 ha
  have HY := Lib.hid hFy
  rw [hn] at a1
  clear hF hFy hFa hl ha hy hA' h4 hj
  by_cases h22 : x.f0 = 22
  · have u1 : (x.f0 != 22) = false := bne_eq_false_iff_eq.2 h22
    clear hu h22 hn
    go_enter Tryz.func86, Tryz.ntmps86
    go_wp2
    refine bodyPost_ret (v := .tuple #[.agg #[.int .i64 y.f0, .int .i64 y.f1, .string y.f2, .slice Ay y.f3.length cy], .bool true]) (by simp [results, Tryz.f86, go_sem]) rfl ?_
    exact fin_below (below3 _ _ _ _) hly HY.out true
  · have u1 : (x.f0 != 22) = true := bne_iff_ne.2 h22
    have u2 : (x.f0 != 28) = false := bne_eq_false_iff_eq.2 (by omega)
    clear hu h22 hn
    go_enter Tryz.func86, Tryz.ntmps86
    go_wp2
    refine bodyPost_ret (v := .tuple #[.agg #[.int .i64 y.f0, .int .i64 y.f1, .string y.f2, .slice Ay y.f3.length cy], .bool true]) (by simp [results, Tryz.f86, go_sem]) rfl ?_
    exact fin_below (below3 _ _ _ _) hly HY.out true
set_option maxRecDepth 100000 in
theorem chosen_yes1 (x a y : Core) (l : List Core) (hl : x.f3 = a :: l) (hu : x.f0 = 22 ∨ x.f0 = 28) (ha : a.f0 = 2) (hn : a.f1 = 1) (hj : 1 < x.f3.length) (hy : x.f3[1] = y) (P : Nat → Prop) (A : Option Addr) (c : Nat) (w : World) (hF : Kd.F k24 w P A x.f3.length x.f3) (_hc : x.f3.length ≤ c) :
    Calls Tryz.prog 86 #[.agg #[.int .i64 x.f0, .int .i64 x.f1, .string x.f2, .slice A x.f3.length c]] w fun q w' =>
      ∃ v : Value, q = .returned (.tuple #[.agg #[.int .i64 y.f0, .int .i64 y.f1, .string y.f2, v], .bool true]) ∧ Kd.V k24 24 w' w.heap.size (fun k => P k ∨ w.heap.size ≤ k) v y.f3 ∧ Below w.heap.size w w' := by
  obtain ⟨ad, Aa, ca, hA, hb0, ⟨a0, a1, a2, a3⟩, hla, hFa⟩ := first_kid hF hl
  obtain ⟨ad', Ay, cy, hA', b0, b1, b2, b3, hly, hFy⟩ := kid_at hF 1 hj
  rw [hy] at b0 b1 b2 b3 hly hFy
  subst hA
  obtain rfl : ad = ad' := Option.some.inj hA'
  have h4 : ad.add (1 * 4) = ⟨ad.block, ad.off + 4, none⟩ := by
    have := add_field ad 0 4 (by omega)
    rw [Addr.add_zero'] at this
    exact this
  simp only [h4] at b0 b1 b2 b3
  have hb1 : ad.block < w.heap.size + 1 := by omega
  have hb2 : ad.block < w.heap.size + 1 + 1 := by omega
  have hb3 : ad.block < w.heap.size + 1 + 1 + 1 := by omega
  have hlen : 0 < x.f3.length := by omega
  have hlen2 : 1 < x.f3.length := hj
  have hlen3 : 2 ≤ x.f3.length := hj
  have u3 : (a.f0 != 2) = false := bne_eq_false_iff_eq.2 ha
  have HY := Lib.hid hFy
  rw [hn] at a1
  clear hF hFy hFa hl ha hy hA' h4 hj
  by_cases h22 : x.f0 = 22
  · have u1 : (x.f0 != 22) = false := bne_eq_false_iff_eq.2 h22
    clear hu h22 hn
    go_enter Tryz.func86, Tryz.ntmps86
    go_wp2
    refine bodyPost_ret (v := .tuple #[.agg #[.int .i64 y.f0, .int .i64 y.f1, .string y.f2, .slice Ay y.f3.length cy], .bool true]) (by simp [results, Tryz.f86, go_sem]) rfl ?_
    exact fin_below (below3 _ _ _ _) hly HY.out true
  · have u1 : (x.f0 != 22) = true := bne_iff_ne.2 h22
    have u2 : (x.f0 != 28) = false := bne_eq_false_iff_eq.2 (by omega)
    clear hu h22 hn
    go_enter Tryz.func86, Tryz.ntmps86
    go_wp2
    refine bodyPost_ret (v := .tuple #[.agg #[.int .i64 y.f0, .int .i64 y.f1, .string y.f2, .slice Ay y.f3.length cy], .bool true]) (by simp [results, Tryz.f86, go_sem]) rfl ?_
    exact fin_below (below3 _ _ _ _) hly HY.out true
theorem chosen_ru : Ru 86 chosenC := by
  intro x y ok P A c w hV h
  obtain ⟨_, hc, hF⟩ := Kd.V_at hV
  unfold chosenC at h
  match hl : x.f3, h with
  | a :: l, h =>
    rw [← hl]
    simp only at h
    by_cases hu : (x.f0 = 22 ∨ x.f0 = 28) ∧ a.f0 = 2
    · rw [if_pos hu] at h
      by_cases hn : a.f1 = 0 ∨ a.f1 = 1
      · rw [if_pos hn] at h
        obtain ⟨z, hz, h⟩ := Option.map_eq_some_iff.1 h
        simp only [Prod.mk.injEq] at h
        obtain ⟨rfl, rfl⟩ := h
        rw [← hl] at hz
        obtain ⟨hj, hz⟩ := List.getElem?_eq_some_iff.1 hz
        rcases hn with hn | hn
        · have e : (2 - a.f1).toNat = 2 := by omega
          simp only [e] at hj hz
          exact chosen_yes0 x a z l hl hu.1 hu.2 hn hj hz P A c w hF hc
        · have e : (2 - a.f1).toNat = 1 := by omega
          simp only [e] at hj hz
          exact chosen_yes1 x a z l hl hu.1 hu.2 hn hj hz P A c w hF hc
      · rw [if_neg hn] at h
        cases h
    · rw [if_neg hu] at h
      simp only [Option.some.injEq, Prod.mk.injEq] at h
      obtain ⟨rfl, rfl⟩ := h
      exact chosen_not x a l hl hu P A c w hF hc
set_option maxRecDepth 100000 in
theorem later_no (x : Core) (h29 : x.f0 ≠ 29) (P : Nat → Prop) (A : Option Addr) (c : Nat) (w : World) (hF : Kd.F k24 w P A x.f3.length x.f3) (hc : x.f3.length ≤ c) :
    Calls Tryz.prog 85 #[.agg #[.int .i64 x.f0, .int .i64 x.f1, .string x.f2, .slice A x.f3.length c]] w fun q w' =>
      ∃ v : Value, q = .returned (.tuple #[.agg #[.int .i64 x.f0, .int .i64 x.f1, .string x.f2, v], .bool false]) ∧ Kd.V k24 24 w' w.heap.size (fun k => P k ∨ w.heap.size ≤ k) v x.f3 ∧ Below w.heap.size w w' := by
  have u1 : (x.f0 != 29) = true := bne_iff_ne.2 h29
  have HF := Lib.hid hF
  clear hF h29
  go_enter Tryz.func85, Tryz.ntmps85
  go_wp2
  refine bodyPost_ret (v := .tuple #[.agg #[.int .i64 x.f0, .int .i64 x.f1, .string x.f2, .slice A x.f3.length c], .bool false]) (by simp [results, Tryz.f85, go_sem]) rfl ?_
  exact fin_below (below_alloc (below_alloc (Below.refl _ _) _) _) hc HF.out false
set_option maxRecDepth 100000 in
theorem later_not (x a : Core) (l : List Core) (hl : x.f3 = a :: l) (h29 : x.f0 = 29) (ha : a.f0 ≠ 29) (P : Nat → Prop) (A : Option Addr) (c : Nat) (w : World) (hF : Kd.F k24 w P A x.f3.length x.f3) (hc : x.f3.length ≤ c) :
    Calls Tryz.prog 85 #[.agg #[.int .i64 x.f0, .int .i64 x.f1, .string x.f2, .slice A x.f3.length c]] w fun q w' =>
      ∃ v : Value, q = .returned (.tuple #[.agg #[.int .i64 x.f0, .int .i64 x.f1, .string x.f2, v], .bool false]) ∧ Kd.V k24 24 w' w.heap.size (fun k => P k ∨ w.heap.size ≤ k) v x.f3 ∧ Below w.heap.size w w' := by
  obtain ⟨ad, Aa, ca, hA, hb0, ⟨a0, a1, a2, a3⟩, hla, hFa⟩ := first_kid hF hl
  have hb1 : ad.block < w.heap.size + 1 := by omega
  have hb2 : ad.block < w.heap.size + 1 + 1 := by omega
  have hb3 : ad.block < w.heap.size + 1 + 1 + 1 := by omega
  have hlen : 0 < x.f3.length := by rw [hl]; simp
  have hlen1 : 1 ≤ x.f3.length := hlen
  have hleni : (0 : Int) < (x.f3.length : Int) := by omega
  subst hA
  have u1 : (x.f0 != 29) = false := bne_eq_false_iff_eq.2 h29
  have u2 : (a.f0 != 29) = true := bne_iff_ne.2 ha
  have HF := Lib.hid hF
  clear hF hFa hl h29 ha
  go_enter Tryz.func85, Tryz.ntmps85
  go_wp2
  refine bodyPost_ret (v := .tuple #[.agg #[.int .i64 x.f0, .int .i64 x.f1, .string x.f2, .slice (some ad) x.f3.length c], .bool false]) (by simp [results, Tryz.f85, go_sem]) rfl ?_
  exact fin_below (below_alloc (below_alloc (Below.refl _ _) _) _) hc HF.out false
attribute [local go_sem] max2_int min2_int max_two min_two in
set_option maxRecDepth 100000 in
theorem later_yes0 (x a : Core) (l : List Core) (hl : x.f3 = a :: l) (h29 : x.f0 = 29) (ha : a.f0 = 29) (hlt : ¬ x.f1 < a.f1) (P : Nat → Prop) (A : Option Addr) (c : Nat) (w : World) (hF : Kd.F k24 w P A x.f3.length x.f3) (_hc : x.f3.length ≤ c) :
    Calls Tryz.prog 85 #[.agg #[.int .i64 x.f0, .int .i64 x.f1, .string x.f2, .slice A x.f3.length c]] w fun q w' =>
      ∃ v : Value, q = .returned (.tuple #[.agg #[.int .i64 (⟨29, x.f1, ⟨#[]⟩, a.f3⟩ : Core).f0, .int .i64 (⟨29, x.f1, ⟨#[]⟩, a.f3⟩ : Core).f1, .string (⟨29, x.f1, ⟨#[]⟩, a.f3⟩ : Core).f2, v], .bool true]) ∧ Kd.V k24 24 w' w.heap.size (fun k => P k ∨ w.heap.size ≤ k) v (⟨29, x.f1, ⟨#[]⟩, a.f3⟩ : Core).f3 ∧ Below w.heap.size w w' := by
  obtain ⟨ad, Aa, ca, hA, hb0, ⟨a0, a1, a2, a3⟩, hla, hFa⟩ := first_kid hF hl
  have hb1 : ad.block < w.heap.size + 1 := by omega
  have hb2 : ad.block < w.heap.size + 1 + 1 := by omega
  have hb3 : ad.block < w.heap.size + 1 + 1 + 1 := by omega
  have hlen : 0 < x.f3.length := by rw [hl]; simp
  have hlen1 : 1 ≤ x.f3.length := hlen
  have hleni : (0 : Int) < (x.f3.length : Int) := by omega
  subst hA
  have u1 : (x.f0 != 29) = false := bne_eq_false_iff_eq.2 h29
  have u2 : (a.f0 != 29) = false := bne_eq_false_iff_eq.2 ha
  have HFa := Lib.hid hFa; have HF := Lib.hid hF
  clear hF hFa hl h29 ha
  go_enter Tryz.func85, Tryz.ntmps85
  go_wp2
  clear u1 u2 hb1 hb2 hb3 a0 a2
  obtain ⟨w2, ew2⟩ : ∃ w2, ((w.alloc (.cells #[.int .i64 x.f0, .int .i64 x.f1, .string x.f2, .slice (some ad) x.f3.length c] 24)).alloc (.cells #[.int .i64 0, .int .i64 0, .string ⟨#[]⟩, .slice none 0 0] 24)) = w2 := ⟨_, rfl⟩
  have HD := Lib.hid (show DInv w (some ad) c x w2 by rw [← ew2]; exact DInv.new w (some ad) c x)
  rw [ew2]
  have mv : ∀ W, DInv w (some ad) c x W → W.cell? ⟨w.heap.size, 1, none⟩ = some (.int .i64 x.f1) ∧ W.cell? ⟨w.heap.size, 3, none⟩ = some (.slice (some ad) x.f3.length c) ∧ W.cell? ⟨ad.block, ad.off + 1, none⟩ = some (.int .i64 a.f1) ∧ W.cell? ⟨ad.block, ad.off + 3, none⟩ = some (.slice Aa a.f3.length ca) := fun W h =>
    ⟨(core_cells h.b0).2.1, (core_cells h.b0).2.2.2, (h.bel.cell (World.block_lt_of_cell? w _ a1)).trans a1, (h.bel.cell (World.block_lt_of_cell? w _ a3)).trans a3⟩
  have MV := Lib.hid mv
  clear mv a1 a3 ew2
  have HD2 := Lib.hid HD.out.drew
  clear HD
  refine start_ (n := 16) (S := fun w' => w'.cell? ⟨w.heap.size, 1, none⟩ = some (.int .i64 x.f1) ∧ w'.cell? ⟨w.heap.size, 3, none⟩ = some (.slice (some ad) x.f3.length c) ∧ w'.cell? ⟨ad.block, ad.off + 1, none⟩ = some (.int .i64 a.f1) ∧ w'.cell? ⟨ad.block, ad.off + 3, none⟩ = some (.slice Aa a.f3.length ca)) (ds := [14]) (bm 16 0) (by kernel_rfl) rfl (by kernel_rfl) (MV.out _ HD2.out) (fun hHeld => ?_)
  generalize w2.drew = w3 at HD2 hHeld ⊢
  refine pure_ (i := 0) (N := some 16) (v := ?_) (a' := ?_) (bm 16 1) rfl rfl (by kernel_rfl) (fun _ _ _ h => h) (Or.inl ⟨by rfl, ?_⟩) ?_ ?_
  rotate_left
  · intro w'
    go_simp
    with_reducible rfl
  rotate_left
  · simp only [Act.put, List.setIfInBounds_toArray, List.set_cons_zero, List.set_cons_succ, i64_w, i32_w]
    rfl
  refine take_ (i := 1) (N := some 17) (v := ?_) (a' := ?_) (bm 16 3) rfl rfl (by kernel_rfl) (fun _ _ _ h => h) (Or.inl ⟨by rfl, ?_⟩) hHeld ?_ ?_
  rotate_left
  · rintro w' ⟨s0, s1, s2, s3⟩
    go_simp
    with_reducible rfl
  rotate_left
  · simp only [Act.put, List.setIfInBounds_toArray, List.set_cons_zero, List.set_cons_succ, i64_w, i32_w]
    rfl
  refine pure_ (i := 2) (N := some 18) (v := ?_) (a' := ?_) (bm 16 7) rfl rfl (by kernel_rfl) (fun _ _ _ h => h) (Or.inl ⟨by rfl, ?_⟩) ?_ ?_
  rotate_left
  · intro w'
    go_simp
    with_reducible rfl
  rotate_left
  · simp only [Act.put, List.setIfInBounds_toArray, List.set_cons_zero, List.set_cons_succ, i64_w, i32_w]
    rfl
  refine take_ (i := 3) (N := some 19) (v := ?_) (a' := ?_) (bm 16 15) rfl rfl (by kernel_rfl) (fun _ _ _ h => h) (Or.inl ⟨by rfl, ?_⟩) hHeld ?_ ?_
  rotate_left
  · rintro w' ⟨s0, s1, s2, s3⟩
    go_simp
    with_reducible rfl
  rotate_left
  · simp only [Act.put, List.setIfInBounds_toArray, List.set_cons_zero, List.set_cons_succ, i64_w, i32_w]
    rfl
  refine pure_ (i := 4) (N := some 20) (v := ?_) (a' := ?_) (bm 16 31) rfl rfl (by kernel_rfl) (fun _ _ _ h => h) (Or.inl ⟨by rfl, ?_⟩) ?_ ?_
  rotate_left
  · intro w'
    go_simp
    with_reducible rfl
  rotate_left
  · simp only [Act.put, List.setIfInBounds_toArray, List.set_cons_zero, List.set_cons_succ, i64_w, i32_w]
    rfl
  refine pure_ (i := 5) (N := some 21) (v := ?_) (a' := ?_) (bm 16 63) rfl rfl (by kernel_rfl) (fun _ _ _ h => h) (Or.inl ⟨by rfl, ?_⟩) ?_ ?_
  rotate_left
  · intro w'
    go_simp
    with_reducible rfl
  rotate_left
  · simp only [Act.put, List.setIfInBounds_toArray, List.set_cons_zero, List.set_cons_succ, i64_w, i32_w]
    rfl
  refine take_ (i := 6) (N := some 22) (v := ?_) (a' := ?_) (bm 16 127) rfl rfl (by kernel_rfl) (fun _ _ _ h => h) (Or.inl ⟨by rfl, ?_⟩) hHeld ?_ ?_
  rotate_left
  · rintro w' ⟨s0, s1, s2, s3⟩
    go_simp
    with_reducible rfl
  rotate_left
  · simp only [Act.put, List.setIfInBounds_toArray, List.set_cons_zero, List.set_cons_succ, i64_w, i32_w]
    rfl
  refine pure_ (i := 7) (N := some 23) (v := ?_) (a' := ?_) (bm 16 255) rfl rfl (by kernel_rfl) (fun _ _ _ h => h) (Or.inl ⟨by rfl, ?_⟩) ?_ ?_
  rotate_left
  · intro w'
    go_simp
    with_reducible rfl
  rotate_left
  · simp only [Act.put, List.setIfInBounds_toArray, List.set_cons_zero, List.set_cons_succ, i64_w, i32_w]
    rfl
  refine pure_ (i := 8) (N := some 24) (v := ?_) (a' := ?_) (bm 16 511) rfl rfl (by kernel_rfl) (fun _ _ _ h => h) (Or.inl ⟨by rfl, ?_⟩) ?_ ?_
  rotate_left
  · intro w'
    go_simp
    with_reducible rfl
  rotate_left
  · simp only [Act.put, List.setIfInBounds_toArray, List.set_cons_zero, List.set_cons_succ, i64_w, i32_w]
    rfl
  refine take_ (i := 9) (N := some 25) (v := ?_) (a' := ?_) (bm 16 1023) rfl rfl (by kernel_rfl) (fun _ _ _ h => h) (Or.inl ⟨by rfl, ?_⟩) hHeld ?_ ?_
  rotate_left
  · rintro w' ⟨s0, s1, s2, s3⟩
    go_simp
    with_reducible rfl
  rotate_left
  · simp only [Act.put, List.setIfInBounds_toArray, List.set_cons_zero, List.set_cons_succ, i64_w, i32_w]
    rfl
  refine pure_ (i := 10) (N := some 26) (v := ?_) (a' := ?_) (bm 16 2047) rfl rfl (by kernel_rfl) (fun _ _ _ h => h) (Or.inl ⟨by rfl, ?_⟩) ?_ ?_
  rotate_left
  · intro w'
    go_simp
    with_reducible rfl
  rotate_left
  · simp only [Act.put, List.setIfInBounds_toArray, List.set_cons_zero, List.set_cons_succ, i64_w, i32_w]
    rfl
  refine pure_ (i := 11) (N := some 27) (v := ?_) (a' := ?_) (bm 16 4095) rfl rfl (by kernel_rfl) (fun _ _ _ h => h) (Or.inl ⟨by rfl, ?_⟩) ?_ ?_
  rotate_left
  · intro w'
    go_simp
    with_reducible rfl
  rotate_left
  · simp only [Act.put, List.setIfInBounds_toArray, List.set_cons_zero, List.set_cons_succ, i64_w, i32_w]
    rfl
  refine take_ (i := 12) (N := some 28) (v := ?_) (a' := ?_) (bm 16 8191) rfl rfl (by kernel_rfl) (fun _ _ _ h => h) (Or.inl ⟨by rfl, ?_⟩) hHeld ?_ ?_
  rotate_left
  · rintro w' ⟨s0, s1, s2, s3⟩
    go_simp
    with_reducible rfl
  rotate_left
  · simp only [Act.put, List.setIfInBounds_toArray, List.set_cons_zero, List.set_cons_succ, i64_w, i32_w]
    rfl
  refine pure_ (i := 13) (N := some 29) (v := ?_) (a' := ?_) (bm 16 16383) rfl rfl (by kernel_rfl) (fun _ _ _ h => h) (Or.inl ⟨by rfl, ?_⟩) ?_ ?_
  rotate_left
  · intro w'
    go_simp
    with_reducible rfl
  rotate_left
  · simp only [Act.put, List.setIfInBounds_toArray, List.set_cons_zero, List.set_cons_succ, i64_w, i32_w]
    rfl
  obtain ⟨q0, q1, q2, q3⟩ := core_cells HD2.out.b1
  have i0 := blk_frozen HD2.out.b1 0; have i1 := blk_frozen HD2.out.b1 1; have i2 := blk_frozen HD2.out.b1 2; have i3 := blk_frozen HD2.out.b1 3
  have hs3 : w.heap.size + 1 < w3.heap.size := blk_lt HD2.out.b1
  refine last_ (i := 14) (N := none) (bm 16 32767) rfl rfl (by kernel_rfl) (by decide) (fun K hK => ?_)
  refine skip_ (w1 := ?_) (by rfl) rfl ?_ ?_
  rotate_left
  · go_simp
    rfl
  refine hK.out _ _ ?_
  clear hK K
  refine pure_ (i := 15) (N := some 3) (v := ?_) (a' := ?_) (bm 16 65535) rfl rfl (by kernel_rfl) (fun _ _ _ h => h) (Or.inl ⟨by rfl, ?_⟩) ?_ ?_
  rotate_left
  · intro w'
    go_simp
    with_reducible rfl
  rotate_left
  · simp only [Act.put, List.setIfInBounds_toArray, List.set_cons_zero, List.set_cons_succ, i64_w, i32_w]
    rfl
  refine done_ (by kernel_rfl) ?_
  go_wp2
  refine bodyPost_ret (v := .tuple #[.agg #[.int .i64 29, .int .i64 x.f1, .string ⟨#[]⟩, .slice Aa a.f3.length ca], .bool true]) (by simp [results, Tryz.f85, go_sem, q0, q1, q2, q3, hs3]) rfl ?_
  exact fin_below (y := ⟨29, x.f1, ⟨#[]⟩, a.f3⟩) (below_put4 HD2.out.bel (by omega) _ _ _ _) hla HFa.out true

attribute [local go_sem] max2_int min2_int max_two min_two in
set_option maxRecDepth 100000 in
theorem later_yes1 (x a : Core) (l : List Core) (hl : x.f3 = a :: l) (h29 : x.f0 = 29) (ha : a.f0 = 29) (hlt : x.f1 < a.f1) (P : Nat → Prop) (A : Option Addr) (c : Nat) (w : World) (hF : Kd.F k24 w P A x.f3.length x.f3) (_hc : x.f3.length ≤ c) :
    Calls Tryz.prog 85 #[.agg #[.int .i64 x.f0, .int .i64 x.f1, .string x.f2, .slice A x.f3.length c]] w fun q w' =>
      ∃ v : Value, q = .returned (.tuple #[.agg #[.int .i64 (⟨29, a.f1, ⟨#[]⟩, a.f3⟩ : Core).f0, .int .i64 (⟨29, a.f1, ⟨#[]⟩, a.f3⟩ : Core).f1, .string (⟨29, a.f1, ⟨#[]⟩, a.f3⟩ : Core).f2, v], .bool true]) ∧ Kd.V k24 24 w' w.heap.size (fun k => P k ∨ w.heap.size ≤ k) v (⟨29, a.f1, ⟨#[]⟩, a.f3⟩ : Core).f3 ∧ Below w.heap.size w w' := by
  obtain ⟨ad, Aa, ca, hA, hb0, ⟨a0, a1, a2, a3⟩, hla, hFa⟩ := first_kid hF hl
  have hb1 : ad.block < w.heap.size + 1 := by omega
  have hb2 : ad.block < w.heap.size + 1 + 1 := by omega
  have hb3 : ad.block < w.heap.size + 1 + 1 + 1 := by omega
  have hlen : 0 < x.f3.length := by rw [hl]; simp
  have hlen1 : 1 ≤ x.f3.length := hlen
  have hleni : (0 : Int) < (x.f3.length : Int) := by omega
  subst hA
  have u1 : (x.f0 != 29) = false := bne_eq_false_iff_eq.2 h29
  have u2 : (a.f0 != 29) = false := bne_eq_false_iff_eq.2 ha
  have HFa := Lib.hid hFa; have HF := Lib.hid hF
  clear hF hFa hl h29 ha
  go_enter Tryz.func85, Tryz.ntmps85
  go_wp2
  clear u1 u2 hb1 hb2 hb3 a0 a2
  obtain ⟨w2, ew2⟩ : ∃ w2, ((w.alloc (.cells #[.int .i64 x.f0, .int .i64 x.f1, .string x.f2, .slice (some ad) x.f3.length c] 24)).alloc (.cells #[.int .i64 0, .int .i64 0, .string ⟨#[]⟩, .slice none 0 0] 24)) = w2 := ⟨_, rfl⟩
  have HD := Lib.hid (show DInv w (some ad) c x w2 by rw [← ew2]; exact DInv.new w (some ad) c x)
  rw [ew2]
  have mv : ∀ W, DInv w (some ad) c x W → W.cell? ⟨w.heap.size, 1, none⟩ = some (.int .i64 x.f1) ∧ W.cell? ⟨w.heap.size, 3, none⟩ = some (.slice (some ad) x.f3.length c) ∧ W.cell? ⟨ad.block, ad.off + 1, none⟩ = some (.int .i64 a.f1) ∧ W.cell? ⟨ad.block, ad.off + 3, none⟩ = some (.slice Aa a.f3.length ca) := fun W h =>
    ⟨(core_cells h.b0).2.1, (core_cells h.b0).2.2.2, (h.bel.cell (World.block_lt_of_cell? w _ a1)).trans a1, (h.bel.cell (World.block_lt_of_cell? w _ a3)).trans a3⟩
  have MV := Lib.hid mv
  clear mv a1 a3 ew2
  have HD2 := Lib.hid HD.out.drew
  clear HD
  refine start_ (n := 16) (S := fun w' => w'.cell? ⟨w.heap.size, 1, none⟩ = some (.int .i64 x.f1) ∧ w'.cell? ⟨w.heap.size, 3, none⟩ = some (.slice (some ad) x.f3.length c) ∧ w'.cell? ⟨ad.block, ad.off + 1, none⟩ = some (.int .i64 a.f1) ∧ w'.cell? ⟨ad.block, ad.off + 3, none⟩ = some (.slice Aa a.f3.length ca)) (ds := [14]) (bm 16 0) (by kernel_rfl) rfl (by kernel_rfl) (MV.out _ HD2.out) (fun hHeld => ?_)
  generalize w2.drew = w3 at HD2 hHeld ⊢
  refine pure_ (i := 0) (N := some 16) (v := ?_) (a' := ?_) (bm 16 1) rfl rfl (by kernel_rfl) (fun _ _ _ h => h) (Or.inl ⟨by rfl, ?_⟩) ?_ ?_
  rotate_left
  · intro w'
    go_simp
    with_reducible rfl
  rotate_left
  · simp only [Act.put, List.setIfInBounds_toArray, List.set_cons_zero, List.set_cons_succ, i64_w, i32_w]
    rfl
  refine take_ (i := 1) (N := some 17) (v := ?_) (a' := ?_) (bm 16 3) rfl rfl (by kernel_rfl) (fun _ _ _ h => h) (Or.inl ⟨by rfl, ?_⟩) hHeld ?_ ?_
  rotate_left
  · rintro w' ⟨s0, s1, s2, s3⟩
    go_simp
    with_reducible rfl
  rotate_left
  · simp only [Act.put, List.setIfInBounds_toArray, List.set_cons_zero, List.set_cons_succ, i64_w, i32_w]
    rfl
  refine pure_ (i := 2) (N := some 18) (v := ?_) (a' := ?_) (bm 16 7) rfl rfl (by kernel_rfl) (fun _ _ _ h => h) (Or.inl ⟨by rfl, ?_⟩) ?_ ?_
  rotate_left
  · intro w'
    go_simp
    with_reducible rfl
  rotate_left
  · simp only [Act.put, List.setIfInBounds_toArray, List.set_cons_zero, List.set_cons_succ, i64_w, i32_w]
    rfl
  refine take_ (i := 3) (N := some 19) (v := ?_) (a' := ?_) (bm 16 15) rfl rfl (by kernel_rfl) (fun _ _ _ h => h) (Or.inl ⟨by rfl, ?_⟩) hHeld ?_ ?_
  rotate_left
  · rintro w' ⟨s0, s1, s2, s3⟩
    go_simp
    with_reducible rfl
  rotate_left
  · simp only [Act.put, List.setIfInBounds_toArray, List.set_cons_zero, List.set_cons_succ, i64_w, i32_w]
    rfl
  refine pure_ (i := 4) (N := some 20) (v := ?_) (a' := ?_) (bm 16 31) rfl rfl (by kernel_rfl) (fun _ _ _ h => h) (Or.inl ⟨by rfl, ?_⟩) ?_ ?_
  rotate_left
  · intro w'
    go_simp
    with_reducible rfl
  rotate_left
  · simp only [Act.put, List.setIfInBounds_toArray, List.set_cons_zero, List.set_cons_succ, i64_w, i32_w]
    rfl
  refine pure_ (i := 5) (N := some 21) (v := ?_) (a' := ?_) (bm 16 63) rfl rfl (by kernel_rfl) (fun _ _ _ h => h) (Or.inl ⟨by rfl, ?_⟩) ?_ ?_
  rotate_left
  · intro w'
    go_simp
    with_reducible rfl
  rotate_left
  · simp only [Act.put, List.setIfInBounds_toArray, List.set_cons_zero, List.set_cons_succ, i64_w, i32_w]
    rfl
  refine take_ (i := 6) (N := some 22) (v := ?_) (a' := ?_) (bm 16 127) rfl rfl (by kernel_rfl) (fun _ _ _ h => h) (Or.inl ⟨by rfl, ?_⟩) hHeld ?_ ?_
  rotate_left
  · rintro w' ⟨s0, s1, s2, s3⟩
    go_simp
    with_reducible rfl
  rotate_left
  · simp only [Act.put, List.setIfInBounds_toArray, List.set_cons_zero, List.set_cons_succ, i64_w, i32_w]
    rfl
  refine pure_ (i := 7) (N := some 23) (v := ?_) (a' := ?_) (bm 16 255) rfl rfl (by kernel_rfl) (fun _ _ _ h => h) (Or.inl ⟨by rfl, ?_⟩) ?_ ?_
  rotate_left
  · intro w'
    go_simp
    with_reducible rfl
  rotate_left
  · simp only [Act.put, List.setIfInBounds_toArray, List.set_cons_zero, List.set_cons_succ, i64_w, i32_w]
    rfl
  refine pure_ (i := 8) (N := some 24) (v := ?_) (a' := ?_) (bm 16 511) rfl rfl (by kernel_rfl) (fun _ _ _ h => h) (Or.inl ⟨by rfl, ?_⟩) ?_ ?_
  rotate_left
  · intro w'
    go_simp
    with_reducible rfl
  rotate_left
  · simp only [Act.put, List.setIfInBounds_toArray, List.set_cons_zero, List.set_cons_succ, i64_w, i32_w]
    rfl
  refine take_ (i := 9) (N := some 25) (v := ?_) (a' := ?_) (bm 16 1023) rfl rfl (by kernel_rfl) (fun _ _ _ h => h) (Or.inl ⟨by rfl, ?_⟩) hHeld ?_ ?_
  rotate_left
  · rintro w' ⟨s0, s1, s2, s3⟩
    go_simp
    with_reducible rfl
  rotate_left
  · simp only [Act.put, List.setIfInBounds_toArray, List.set_cons_zero, List.set_cons_succ, i64_w, i32_w]
    rfl
  refine pure_ (i := 10) (N := some 26) (v := ?_) (a' := ?_) (bm 16 2047) rfl rfl (by kernel_rfl) (fun _ _ _ h => h) (Or.inl ⟨by rfl, ?_⟩) ?_ ?_
  rotate_left
  · intro w'
    go_simp
    with_reducible rfl
  rotate_left
  · simp only [Act.put, List.setIfInBounds_toArray, List.set_cons_zero, List.set_cons_succ, i64_w, i32_w]
    rfl
  refine pure_ (i := 11) (N := some 27) (v := ?_) (a' := ?_) (bm 16 4095) rfl rfl (by kernel_rfl) (fun _ _ _ h => h) (Or.inl ⟨by rfl, ?_⟩) ?_ ?_
  rotate_left
  · intro w'
    go_simp
    with_reducible rfl
  rotate_left
  · simp only [Act.put, List.setIfInBounds_toArray, List.set_cons_zero, List.set_cons_succ, i64_w, i32_w]
    rfl
  refine take_ (i := 12) (N := some 28) (v := ?_) (a' := ?_) (bm 16 8191) rfl rfl (by kernel_rfl) (fun _ _ _ h => h) (Or.inl ⟨by rfl, ?_⟩) hHeld ?_ ?_
  rotate_left
  · rintro w' ⟨s0, s1, s2, s3⟩
    go_simp
    with_reducible rfl
  rotate_left
  · simp only [Act.put, List.setIfInBounds_toArray, List.set_cons_zero, List.set_cons_succ, i64_w, i32_w]
    rfl
  refine pure_ (i := 13) (N := some 29) (v := ?_) (a' := ?_) (bm 16 16383) rfl rfl (by kernel_rfl) (fun _ _ _ h => h) (Or.inl ⟨by rfl, ?_⟩) ?_ ?_
  rotate_left
  · intro w'
    go_simp
    with_reducible rfl
  rotate_left
  · simp only [Act.put, List.setIfInBounds_toArray, List.set_cons_zero, List.set_cons_succ, i64_w, i32_w]
    rfl
  obtain ⟨q0, q1, q2, q3⟩ := core_cells HD2.out.b1
  have i0 := blk_frozen HD2.out.b1 0; have i1 := blk_frozen HD2.out.b1 1; have i2 := blk_frozen HD2.out.b1 2; have i3 := blk_frozen HD2.out.b1 3
  have hs3 : w.heap.size + 1 < w3.heap.size := blk_lt HD2.out.b1
  refine last_ (i := 14) (N := none) (bm 16 32767) rfl rfl (by kernel_rfl) (by decide) (fun K hK => ?_)
  refine skip_ (w1 := ?_) (by rfl) rfl ?_ ?_
  rotate_left
  · go_simp
    rfl
  refine hK.out _ _ ?_
  clear hK K
  refine pure_ (i := 15) (N := some 3) (v := ?_) (a' := ?_) (bm 16 65535) rfl rfl (by kernel_rfl) (fun _ _ _ h => h) (Or.inl ⟨by rfl, ?_⟩) ?_ ?_
  rotate_left
  · intro w'
    go_simp
    with_reducible rfl
  rotate_left
  · simp only [Act.put, List.setIfInBounds_toArray, List.set_cons_zero, List.set_cons_succ, i64_w, i32_w]
    rfl
  refine done_ (by kernel_rfl) ?_
  go_wp2
  refine bodyPost_ret (v := .tuple #[.agg #[.int .i64 29, .int .i64 a.f1, .string ⟨#[]⟩, .slice Aa a.f3.length ca], .bool true]) (by simp [results, Tryz.f85, go_sem, q0, q1, q2, q3, hs3]) rfl ?_
  exact fin_below (y := ⟨29, a.f1, ⟨#[]⟩, a.f3⟩) (below_put4 HD2.out.bel (by omega) _ _ _ _) hla HFa.out true

theorem later_ru : Ru 85 laterC := by
  intro x y ok P A c w hV h
  obtain ⟨_, hc, hF⟩ := Kd.V_at hV
  unfold laterC at h
  by_cases h29 : x.f0 = 29
  · rw [if_pos h29] at h
    match hl : x.f3, h with
    | a :: l, h =>
      rw [← hl]
      simp only at h
      by_cases ha : a.f0 = 29
      · rw [if_pos ha] at h
        simp only [Option.some.injEq, Prod.mk.injEq] at h
        obtain ⟨rfl, rfl⟩ := h
        by_cases hlt : x.f1 < a.f1
        · rw [if_pos hlt]
          exact later_yes1 x a l hl h29 ha hlt P A c w hF hc
        · rw [if_neg hlt]
          exact later_yes0 x a l hl h29 ha hlt P A c w hF hc
      · rw [if_neg ha] at h
        simp only [Option.some.injEq, Prod.mk.injEq] at h
        obtain ⟨rfl, rfl⟩ := h
        exact later_not x a l hl h29 ha P A c w hF hc
  · rw [if_neg h29] at h
    simp only [Option.some.injEq, Prod.mk.injEq] at h
    obtain ⟨rfl, rfl⟩ := h
    exact later_no x h29 P A c w hF hc
set_option maxRecDepth 100000 in
theorem never_no (x : Core) (h30 : x.f0 ≠ 30) (P : Nat → Prop) (A : Option Addr) (c : Nat) (w : World) (hF : Kd.F k24 w P A x.f3.length x.f3) (hc : x.f3.length ≤ c) :
    Calls Tryz.prog 87 #[.agg #[.int .i64 x.f0, .int .i64 x.f1, .string x.f2, .slice A x.f3.length c]] w fun q w' =>
      ∃ v : Value, q = .returned (.tuple #[.agg #[.int .i64 x.f0, .int .i64 x.f1, .string x.f2, v], .bool false]) ∧ Kd.V k24 24 w' w.heap.size (fun k => P k ∨ w.heap.size ≤ k) v x.f3 ∧ Below w.heap.size w w' := by
  have u1 : (x.f0 != 30) = true := bne_iff_ne.2 h30
  have HF := Lib.hid hF
  clear hF h30
  go_enter Tryz.func87, Tryz.ntmps87
  go_wp2
  refine bodyPost_ret (v := .tuple #[.agg #[.int .i64 x.f0, .int .i64 x.f1, .string x.f2, .slice A x.f3.length c], .bool false]) (by simp [results, Tryz.f87, go_sem]) rfl ?_
  exact fin_below (below_alloc (below_alloc (Below.refl _ _) _) _) hc HF.out false
set_option maxRecDepth 100000 in
theorem never_not1 (x a b : Core) (l : List Core) (hl : x.f3 = a :: b :: l) (h30 : x.f0 = 30) (ha : (a.f0 == 2 && a.f1 == 0) = false) (P : Nat → Prop) (A : Option Addr) (c : Nat) (w : World) (hF : Kd.F k24 w P A x.f3.length x.f3) (hc : x.f3.length ≤ c) :
    Calls Tryz.prog 87 #[.agg #[.int .i64 x.f0, .int .i64 x.f1, .string x.f2, .slice A x.f3.length c]] w fun q w' =>
      ∃ v : Value, q = .returned (.tuple #[.agg #[.int .i64 x.f0, .int .i64 x.f1, .string x.f2, v], .bool false]) ∧ Kd.V k24 24 w' w.heap.size (fun k => P k ∨ w.heap.size ≤ k) v x.f3 ∧ Below w.heap.size w w' := by
  obtain ⟨ad, Aa, ca, hA, hb0, ⟨a0, a1, a2, a3⟩, hla, hFa⟩ := first_kid hF hl
  have hb1 : ad.block < w.heap.size + 1 := by omega
  have hb2 : ad.block < w.heap.size + 1 + 1 := by omega
  have hb3 : ad.block < w.heap.size + 1 + 1 + 1 := by omega
  have hlen : 0 < x.f3.length := by rw [hl]; simp
  have hlen1 : 1 ≤ x.f3.length := hlen
  have hleni : (0 : Int) < (x.f3.length : Int) := by omega
  subst hA
  obtain ⟨ad', Ab, cb, hA', b0, b1, b2, b3, hlb, hFb⟩ := kid_at hF 1 (by rw [hl]; simp)
  have eb : x.f3[1]'(by rw [hl]; simp) = b := by simp [hl]
  rw [eb] at b0
  obtain rfl : ad = ad' := Option.some.inj hA'
  have h4 : ad.add (1 * 4) = ⟨ad.block, ad.off + 4, none⟩ := by
    have := add_field ad 0 4 (by omega)
    rw [Addr.add_zero'] at this
    exact this
  rw [h4] at b0
  have hlen2 : 1 < x.f3.length := by rw [hl]; simp
  have hlen3 : 2 ≤ x.f3.length := hlen2
  clear b1 b2 b3 hlb hFb h4 eb hA'
  have u1 : (x.f0 != 30) = false := bne_eq_false_iff_eq.2 h30
  have hk : ∀ W, Calls Tryz.prog 146 #[.agg #[.int .i64 a.f0, .int .i64 a.f1, .string a.f2, .slice Aa a.f3.length ca], .int .i64 0] W fun e w' => e = .returned (.bool false) ∧ w' = W.alloc (.cells #[.int .i64 a.f0, .int .i64 a.f1, .string a.f2, .slice Aa a.f3.length ca] 24) := fun W => by rw [← ha]; exact isBool_is _ _ _ _ _ _ _ W
  have HK := Lib.hid hk; have HF := Lib.hid hF; have HFa := Lib.hid hFa
  clear hk hF hFa hl h30 ha
  go_enter Tryz.func87, Tryz.ntmps87
  go_wp2_with fail
  refine (HK.out _).mono ?_
  rintro e w4 ⟨rfl, ew4⟩
  subst ew4
  go_wp2
  refine bodyPost_ret (v := .tuple #[.agg #[.int .i64 x.f0, .int .i64 x.f1, .string x.f2, .slice (some ad) x.f3.length c], .bool false]) (by simp [results, Tryz.f87, go_sem]) rfl ?_
  exact fin_below (below3 _ _ _ _) hc HF.out false
set_option maxRecDepth 100000 in
theorem never_not2 (x a b : Core) (l : List Core) (hl : x.f3 = a :: b :: l) (h30 : x.f0 = 30) (ha : (a.f0 == 2 && a.f1 == 0) = true) (hb : b.f0 = 23) (P : Nat → Prop) (A : Option Addr) (c : Nat) (w : World) (hF : Kd.F k24 w P A x.f3.length x.f3) (hc : x.f3.length ≤ c) :
    Calls Tryz.prog 87 #[.agg #[.int .i64 x.f0, .int .i64 x.f1, .string x.f2, .slice A x.f3.length c]] w fun q w' =>
      ∃ v : Value, q = .returned (.tuple #[.agg #[.int .i64 x.f0, .int .i64 x.f1, .string x.f2, v], .bool false]) ∧ Kd.V k24 24 w' w.heap.size (fun k => P k ∨ w.heap.size ≤ k) v x.f3 ∧ Below w.heap.size w w' := by
  obtain ⟨ad, Aa, ca, hA, hb0, ⟨a0, a1, a2, a3⟩, hla, hFa⟩ := first_kid hF hl
  have hb1 : ad.block < w.heap.size + 1 := by omega
  have hb2 : ad.block < w.heap.size + 1 + 1 := by omega
  have hb3 : ad.block < w.heap.size + 1 + 1 + 1 := by omega
  have hlen : 0 < x.f3.length := by rw [hl]; simp
  have hlen1 : 1 ≤ x.f3.length := hlen
  have hleni : (0 : Int) < (x.f3.length : Int) := by omega
  subst hA
  obtain ⟨ad', Ab, cb, hA', b0, b1, b2, b3, hlb, hFb⟩ := kid_at hF 1 (by rw [hl]; simp)
  have eb : x.f3[1]'(by rw [hl]; simp) = b := by simp [hl]
  rw [eb] at b0
  obtain rfl : ad = ad' := Option.some.inj hA'
  have h4 : ad.add (1 * 4) = ⟨ad.block, ad.off + 4, none⟩ := by
    have := add_field ad 0 4 (by omega)
    rw [Addr.add_zero'] at this
    exact this
  rw [h4] at b0
  have hlen2 : 1 < x.f3.length := by rw [hl]; simp
  have hlen3 : 2 ≤ x.f3.length := hlen2
  clear b1 b2 b3 hlb hFb h4 eb hA'
  have u1 : (x.f0 != 30) = false := bne_eq_false_iff_eq.2 h30
  have hk : ∀ W, Calls Tryz.prog 146 #[.agg #[.int .i64 a.f0, .int .i64 a.f1, .string a.f2, .slice Aa a.f3.length ca], .int .i64 0] W fun e w' => e = .returned (.bool true) ∧ w' = W.alloc (.cells #[.int .i64 a.f0, .int .i64 a.f1, .string a.f2, .slice Aa a.f3.length ca] 24) := fun W => by rw [← ha]; exact isBool_is _ _ _ _ _ _ _ W
  have u2 : (b.f0 == 23) = true := beq_iff_eq.2 hb
  have HK := Lib.hid hk; have HF := Lib.hid hF; have HFa := Lib.hid hFa
  clear hk hF hFa hl h30 ha hb
  go_enter Tryz.func87, Tryz.ntmps87
  go_wp2_with fail
  refine (HK.out _).mono ?_
  rintro e w4 ⟨rfl, ew4⟩
  subst ew4
  go_wp2
  refine bodyPost_ret (v := .tuple #[.agg #[.int .i64 x.f0, .int .i64 x.f1, .string x.f2, .slice (some ad) x.f3.length c], .bool false]) (by simp [results, Tryz.f87, go_sem]) rfl ?_
  exact fin_below (below3 _ _ _ _) hc HF.out false
set_option maxRecDepth 100000 in
theorem never_yes (x a b : Core) (l : List Core) (hl : x.f3 = a :: b :: l) (h30 : x.f0 = 30) (ha : (a.f0 == 2 && a.f1 == 0) = true) (hb : b.f0 ≠ 23) (P : Nat → Prop) (A : Option Addr) (c : Nat) (w : World) (hF : Kd.F k24 w P A x.f3.length x.f3) (_hc : x.f3.length ≤ c) :
    Calls Tryz.prog 87 #[.agg #[.int .i64 x.f0, .int .i64 x.f1, .string x.f2, .slice A x.f3.length c]] w fun q w' =>
      ∃ v : Value, q = .returned (.tuple #[.agg #[.int .i64 (⟨30, x.f1, ⟨#[]⟩, [a, ⟨23, 0, ⟨#[]⟩, []⟩]⟩ : Core).f0, .int .i64 (⟨30, x.f1, ⟨#[]⟩, [a, ⟨23, 0, ⟨#[]⟩, []⟩]⟩ : Core).f1, .string (⟨30, x.f1, ⟨#[]⟩, [a, ⟨23, 0, ⟨#[]⟩, []⟩]⟩ : Core).f2, v], .bool true]) ∧ Kd.V k24 24 w' w.heap.size (fun k => P k ∨ w.heap.size ≤ k) v (⟨30, x.f1, ⟨#[]⟩, [a, ⟨23, 0, ⟨#[]⟩, []⟩]⟩ : Core).f3 ∧ Below w.heap.size w w' := by
  obtain ⟨ad, Aa, ca, hA, hb0, ⟨a0, a1, a2, a3⟩, hla, hFa⟩ := first_kid hF hl
  have hb1 : ad.block < w.heap.size + 1 := by omega
  have hb2 : ad.block < w.heap.size + 1 + 1 := by omega
  have hb3 : ad.block < w.heap.size + 1 + 1 + 1 := by omega
  have hlen : 0 < x.f3.length := by rw [hl]; simp
  have hlen1 : 1 ≤ x.f3.length := hlen
  have hleni : (0 : Int) < (x.f3.length : Int) := by omega
  subst hA
  obtain ⟨ad', Ab, cb, hA', b0, b1, b2, b3, hlb, hFb⟩ := kid_at hF 1 (by rw [hl]; simp)
  have eb : x.f3[1]'(by rw [hl]; simp) = b := by simp [hl]
  rw [eb] at b0
  obtain rfl : ad = ad' := Option.some.inj hA'
  have h4 : ad.add (1 * 4) = ⟨ad.block, ad.off + 4, none⟩ := by
    have := add_field ad 0 4 (by omega)
    rw [Addr.add_zero'] at this
    exact this
  rw [h4] at b0
  have hlen2 : 1 < x.f3.length := by rw [hl]; simp
  have hlen3 : 2 ≤ x.f3.length := hlen2
  clear b1 b2 b3 hlb hFb h4 eb hA'
  have u1 : (x.f0 != 30) = false := bne_eq_false_iff_eq.2 h30
  have hk : ∀ W, Calls Tryz.prog 146 #[.agg #[.int .i64 a.f0, .int .i64 a.f1, .string a.f2, .slice Aa a.f3.length ca], .int .i64 0] W fun e w' => e = .returned (.bool true) ∧ w' = W.alloc (.cells #[.int .i64 a.f0, .int .i64 a.f1, .string a.f2, .slice Aa a.f3.length ca] 24) := fun W => by rw [← ha]; exact isBool_is _ _ _ _ _ _ _ W
  have u2 : (b.f0 == 23) = false := beq_eq_false_iff_ne.2 hb
  have HK := Lib.hid hk; have HF := Lib.hid hF; have HFa := Lib.hid hFa
  clear hk hF hFa hl h30 ha hb
  go_enter Tryz.func87, Tryz.ntmps87
  go_wp2_with fail
  refine (HK.out _).mono ?_
  rintro e w4 ⟨rfl, ew4⟩
  have hD : DInv w (some ad) c x w4 := by rw [ew4]; exact (DInv.new w (some ad) c x).below (below_alloc (Below.refl _ _) _)
  have mv : ∀ W, DInv w (some ad) c x W → W.cell? ⟨w.heap.size, 1, none⟩ = some (.int .i64 x.f1) ∧ W.cell? ⟨w.heap.size, 3, none⟩ = some (.slice (some ad) x.f3.length c) ∧ (W.cell? ad = some (.int .i64 a.f0) ∧ W.cell? ⟨ad.block, ad.off + 1, none⟩ = some (.int .i64 a.f1) ∧ W.cell? ⟨ad.block, ad.off + 2, none⟩ = some (.string a.f2) ∧ W.cell? ⟨ad.block, ad.off + 3, none⟩ = some (.slice Aa a.f3.length ca)) := fun W h =>
    ⟨(core_cells h.b0).2.1, (core_cells h.b0).2.2.2, (h.bel.cell (World.block_lt_of_cell? w _ a0)).trans a0, (h.bel.cell (World.block_lt_of_cell? w _ a1)).trans a1, (h.bel.cell (World.block_lt_of_cell? w _ a2)).trans a2, (h.bel.cell (World.block_lt_of_cell? w _ a3)).trans a3⟩
  have MV := Lib.hid mv; have HD := Lib.hid hD
  have b0' : w4.cell? ⟨ad.block, ad.off + 4, none⟩ = some (.int .i64 b.f0) := (hD.bel.cell (World.block_lt_of_cell? w _ b0)).trans b0
  obtain ⟨p0, p1, p2, p3⟩ := core_cells hD.b0
  clear mv hD ew4 a0 a1 a2 a3 b0
  go_wp2
  clear p0 p1 p2 p3 b0' hb0 hb1 hb2 hb3
  have HD2 := Lib.hid HD.out.drew
  clear HD
  refine start_ (n := 11) (S := fun w' => w'.cell? ⟨w.heap.size, 1, none⟩ = some (.int .i64 x.f1) ∧ w'.cell? ⟨w.heap.size, 3, none⟩ = some (.slice (some ad) x.f3.length c) ∧ (w'.cell? ad = some (.int .i64 a.f0) ∧ w'.cell? ⟨ad.block, ad.off + 1, none⟩ = some (.int .i64 a.f1) ∧ w'.cell? ⟨ad.block, ad.off + 2, none⟩ = some (.string a.f2) ∧ w'.cell? ⟨ad.block, ad.off + 3, none⟩ = some (.slice Aa a.f3.length ca))) (ds := [9]) (bm 11 0) (by kernel_rfl) rfl (by kernel_rfl) (MV.out _ HD2.out) (fun hHeld => ?_)
  generalize w4.drew = w5 at HD2 hHeld ⊢
  refine pure_ (i := 0) (N := some 24) (v := ?_) (a' := ?_) (bm 11 1) rfl rfl (by kernel_rfl) (fun _ _ _ h => h) (Or.inl ⟨by rfl, ?_⟩) ?_ ?_
  rotate_left
  · intro w'
    go_simp
    with_reducible rfl
  rotate_left
  · simp only [Act.put, List.setIfInBounds_toArray, List.set_cons_zero, List.set_cons_succ, i64_w, i32_w]
    rfl
  refine take_ (i := 1) (N := some 25) (v := ?_) (a' := ?_) (bm 11 3) rfl rfl (by kernel_rfl) (fun _ _ _ h => h) (Or.inl ⟨by rfl, ?_⟩) hHeld ?_ ?_
  rotate_left
  · rintro w' ⟨s0, s1, s2, s3, s4, s5⟩
    go_simp
    with_reducible rfl
  rotate_left
  · simp only [Act.put, List.setIfInBounds_toArray, List.set_cons_zero, List.set_cons_succ, i64_w, i32_w]
    rfl
  refine pure_ (i := 2) (N := some 26) (v := ?_) (a' := ?_) (bm 11 7) rfl rfl (by kernel_rfl) (fun _ _ _ h => h) (Or.inl ⟨by rfl, ?_⟩) ?_ ?_
  rotate_left
  · intro w'
    go_simp
    with_reducible rfl
  rotate_left
  · simp only [Act.put, List.setIfInBounds_toArray, List.set_cons_zero, List.set_cons_succ, i64_w, i32_w]
    rfl
  refine take_ (i := 3) (N := some 27) (v := ?_) (a' := ?_) (bm 11 15) rfl rfl (by kernel_rfl) (fun _ _ _ h => h) (Or.inl ⟨by rfl, ?_⟩) hHeld ?_ ?_
  rotate_left
  · rintro w' ⟨s0, s1, s2, s3, s4, s5⟩
    go_simp
    with_reducible rfl
  rotate_left
  · simp only [Act.put, List.setIfInBounds_toArray, List.set_cons_zero, List.set_cons_succ, i64_w, i32_w]
    rfl
  refine pure_ (i := 4) (N := some 28) (v := ?_) (a' := ?_) (bm 11 31) rfl rfl (by kernel_rfl) (fun _ _ _ h => h) (Or.inl ⟨by rfl, ?_⟩) ?_ ?_
  rotate_left
  · intro w'
    go_simp
    with_reducible rfl
  rotate_left
  · simp only [Act.put, List.setIfInBounds_toArray, List.set_cons_zero, List.set_cons_succ, i64_w, i32_w]
    rfl
  refine take_ (i := 5) (N := some 29) (v := ?_) (a' := ?_) (bm 11 63) rfl rfl (by kernel_rfl) (fun _ _ _ h => h) (Or.inl ⟨by rfl, ?_⟩) hHeld ?_ ?_
  rotate_left
  · rintro w' ⟨s0, s1, s2, s3, s4, s5⟩
    go_simp
    with_reducible rfl
  rotate_left
  · simp only [Act.put, List.setIfInBounds_toArray, List.set_cons_zero, List.set_cons_succ, i64_w, i32_w]
    rfl
  refine pure_ (i := 6) (N := some 30) (v := ?_) (a' := ?_) (bm 11 127) rfl rfl (by kernel_rfl) (fun _ _ _ h => h) (Or.inl ⟨by rfl, ?_⟩) ?_ ?_
  rotate_left
  · intro w'
    go_simp
    with_reducible rfl
  rotate_left
  · simp only [Act.put, List.setIfInBounds_toArray, List.set_cons_zero, List.set_cons_succ, i64_w, i32_w]
    rfl
  refine one_ (i := 7) (N := some 31) (bm 11 255) rfl rfl (by kernel_rfl) (by decide) (fun K hK => ?_)
  refine value_ (w1 := ?_) (v := ?_) (by rfl) rfl ?_ ?_
  rotate_left 2
  · go_simp
    constructor
    · rfl
    · rfl
  obtain ⟨w6, ew6⟩ : ∃ w6, w5.alloc (.cells #[.int .i64 a.f0, .int .i64 a.f1, .string a.f2, .slice Aa a.f3.length ca, .int .i64 23, .int .i64 0, .string ⟨#[]⟩, .slice none 0 0] 24) = w6 := ⟨_, rfl⟩
  obtain ⟨Bn, eBn⟩ : ∃ Bn, w5.heap.size = Bn := ⟨_, rfl⟩
  have hbel6 : Below w5.heap.size w5 w6 := by rw [← ew6]; exact below_alloc (Below.refl _ _) _
  have hbn : w6.heap[Bn]? = some (.cells #[.int .i64 a.f0, .int .i64 a.f1, .string a.f2, .slice Aa a.f3.length ca, .int .i64 23, .int .i64 0, .string ⟨#[]⟩, .slice none 0 0] 24 (0, 0)) := by rw [← ew6, ← eBn]; exact World.alloc_heap_new _ _
  have hgt : w.heap.size + 1 < Bn := by rw [← eBn]; exact blk_lt HD2.out.b1
  have HD6 := Lib.hid (HD2.out.below hbel6)
  have HBn := Lib.hid hbn
  rw [ew6, eBn]
  clear ew6 eBn hbel6 hbn
  refine hK.out _ _ (MV.out _ HD6.out) (fun hHeld => ?_)
  clear hK K
  refine norm_ (a' := ?_) ?_ ?_
  rotate_left
  · show Act.put _ (some 31) _ = _
    simp only [Act.put, List.setIfInBounds_toArray, List.set_cons_zero, List.set_cons_succ, i64_w, i32_w]
    rfl
  refine pure_ (i := 8) (N := some 32) (v := ?_) (a' := ?_) (bm 11 511) rfl rfl (by kernel_rfl) (fun _ _ _ h => h) (Or.inl ⟨by rfl, ?_⟩) ?_ ?_
  rotate_left
  · intro w'
    go_simp
    with_reducible rfl
  rotate_left
  · simp only [Act.put, List.setIfInBounds_toArray, List.set_cons_zero, List.set_cons_succ, i64_w, i32_w]
    rfl
  obtain ⟨q0, q1, q2, q3⟩ := core_cells HD6.out.b1
  have i0 := blk_frozen HD6.out.b1 0; have i1 := blk_frozen HD6.out.b1 1; have i2 := blk_frozen HD6.out.b1 2; have i3 := blk_frozen HD6.out.b1 3
  have hs6 : w.heap.size + 1 < w6.heap.size := blk_lt HD6.out.b1
  refine last_ (i := 9) (N := none) (bm 11 1023) rfl rfl (by kernel_rfl) (by decide) (fun K hK => ?_)
  refine skip_ (w1 := ?_) (by rfl) rfl ?_ ?_
  rotate_left
  · go_simp
    rfl
  refine hK.out _ _ ?_
  clear hK K
  refine pure_ (i := 10) (N := some 3) (v := ?_) (a' := ?_) (bm 11 2047) rfl rfl (by kernel_rfl) (fun _ _ _ h => h) (Or.inl ⟨by rfl, ?_⟩) ?_ ?_
  rotate_left
  · intro w'
    go_simp
    with_reducible rfl
  rotate_left
  · simp only [Act.put, List.setIfInBounds_toArray, List.set_cons_zero, List.set_cons_succ, i64_w, i32_w]
    rfl
  refine done_ (by kernel_rfl) ?_
  go_wp2
  refine bodyPost_ret (v := .tuple #[.agg #[.int .i64 30, .int .i64 x.f1, .string ⟨#[]⟩, .slice (some ⟨Bn, 0, none⟩) 2 2], .bool true]) (by simp [results, Tryz.f87, go_sem, q0, q1, q2, q3, hs6]) rfl ?_
  have hT := built_two HBn.out hla (Kd.F_step (Kd.F_bound HFa.out) (fun k hk _ => HD6.out.bel.block k hk.2))
  refine ⟨_, rfl, Kd.V_mono (V_put4 (Kd.V_mk (e := 24) (base := w.heap.size) (c := 2) (Nat.le_refl _) hT) (fun k hk => ?_) _ _ _ _) (fun k hk => ?_), below_put4 HD6.out.bel (by omega) _ _ _ _⟩
  · rcases hk with hk | hk
    · have := hk.2; omega
    · omega
  · rcases hk with hk | hk
    · exact .inl hk.1
    · exact .inr (by omega)
theorem never_ru : Ru 87 neverC := by
  intro x y ok P A c w hV h
  obtain ⟨_, hc, hF⟩ := Kd.V_at hV
  unfold neverC at h
  by_cases h30 : x.f0 = 30
  · rw [if_pos h30] at h
    match hl : x.f3, h with
    | a :: b :: l, h =>
      rw [← hl]
      simp only at h
      by_cases ha : isBoolT a 0 = true
      · by_cases hb : b.f0 = 23
        · rw [if_neg (fun hn => hn.2 hb)] at h
          simp only [Option.some.injEq, Prod.mk.injEq] at h
          obtain ⟨rfl, rfl⟩ := h
          exact never_not2 x a b l hl h30 ha hb P A c w hF hc
        · rw [if_pos ⟨ha, hb⟩] at h
          simp only [Option.some.injEq, Prod.mk.injEq] at h
          obtain ⟨rfl, rfl⟩ := h
          exact never_yes x a b l hl h30 ha hb P A c w hF hc
      · rw [if_neg (fun hn => ha hn.1)] at h
        simp only [Option.some.injEq, Prod.mk.injEq] at h
        obtain ⟨rfl, rfl⟩ := h
        exact never_not1 x a b l hl h30 (by simpa [isBoolT] using ha) P A c w hF hc
  · rw [if_neg h30] at h
    simp only [Option.some.injEq, Prod.mk.injEq] at h
    obtain ⟨rfl, rfl⟩ := h
    exact never_no x h30 P A c w hF hc
set_option maxRecDepth 100000 in
set_option maxHeartbeats 2000000 in
theorem settled15t (x a : Core) (l : List Core) (hl : x.f3 = a :: l) (ho : x.f0 = 15) (ha : (a.f0 == 2 && a.f1 == 0) = true) (P : Nat → Prop) (A : Option Addr) (c : Nat) (w : World) (hF : Kd.F k24 w P A x.f3.length x.f3) (_hc : x.f3.length ≤ c) :
    Calls Tryz.prog 84 #[.agg #[.int .i64 x.f0, .int .i64 x.f1, .string x.f2, .slice A x.f3.length c]] w fun q w' =>
      ∃ v : Value, q = .returned (.tuple #[.agg #[.int .i64 a.f0, .int .i64 a.f1, .string a.f2, v], .bool true]) ∧ Kd.V k24 24 w' w.heap.size (fun k => P k ∨ w.heap.size ≤ k) v a.f3 ∧ Below w.heap.size w w' := by
  obtain ⟨ad, Aa, ca, hA, hb0, ⟨a0, a1, a2, a3⟩, hla, hFa⟩ := first_kid hF hl
  have hb1 : ad.block < w.heap.size + 1 := by omega
  have hb2 : ad.block < w.heap.size + 1 + 1 := by omega
  have hb3 : ad.block < w.heap.size + 1 + 1 + 1 := by omega
  have hlen : 0 < x.f3.length := by rw [hl]; simp
  have hlen1 : 1 ≤ x.f3.length := hlen
  have hleni : (0 : Int) < (x.f3.length : Int) := by omega
  subst hA
  have t15 : (x.f0 == 15) = true := beq_iff_eq.2 ho
  have hk : ∀ W, Calls Tryz.prog 146 #[.agg #[.int .i64 a.f0, .int .i64 a.f1, .string a.f2, .slice Aa a.f3.length ca], .int .i64 0] W fun e w' => e = .returned (.bool true) ∧ w' = W.alloc (.cells #[.int .i64 a.f0, .int .i64 a.f1, .string a.f2, .slice Aa a.f3.length ca] 24) := fun W => by rw [← ha]; exact isBool_is _ _ _ _ _ _ _ W
  have HK := Lib.hid hk
  clear hk ha
  have HF := Lib.hid hF; have HFa := Lib.hid hFa
  clear hF hFa hl ho
  go_enter Tryz.func84, Tryz.ntmps84
  go_wp2
  obtain ⟨w3, ew3⟩ : ∃ w3, (((w.alloc (.cells #[.int .i64 x.f0, .int .i64 x.f1, .string x.f2, .slice (some ad) x.f3.length c] 24)).alloc (.cells #[.int .i64 0, .int .i64 0, .string ⟨#[]⟩, .slice none 0 0] 24)).alloc (.cells #[.int .i64 a.f0, .int .i64 a.f1, .string a.f2, .slice Aa a.f3.length ca] 24)) = w3 := ⟨_, rfl⟩
  have hS : SInv w (some ad) c x a Aa ca w3 := by rw [← ew3]; exact SInv.new w (some ad) c x a Aa ca
  rw [ew3]
  have HS := Lib.hid hS.drew
  clear ew3 hS a0 a1 a2 a3 hb0 hb1 hb2 hb3
  refine start_ (n := 29) (S := fun w' => w'.cell? ⟨w.heap.size, 0, none⟩ = some (.int .i64 x.f0) ∧ w'.cell? ⟨w.heap.size + 1 + 1, 0, none⟩ = some (.int .i64 a.f0) ∧ w'.cell? ⟨w.heap.size + 1 + 1, 1, none⟩ = some (.int .i64 a.f1) ∧ w'.cell? ⟨w.heap.size + 1 + 1, 2, none⟩ = some (.string a.f2) ∧ w'.cell? ⟨w.heap.size + 1 + 1, 3, none⟩ = some (.slice Aa a.f3.length ca)) (ds := []) (bm 29 0) (by kernel_rfl) rfl (by kernel_rfl) HS.out.held (fun hHeld => ?_)
  generalize w3.drew = w4 at HS hHeld ⊢
  refine take_ (i := 0) (N := some 9) (v := ?_) (a' := ?_) (bm 29 1) rfl rfl (by kernel_rfl) (fun _ _ _ h => h) (Or.inl ⟨by rfl, ?_⟩) hHeld ?_ ?_
  rotate_left
  · rintro w' ⟨s0, s1, s2, s3, s4⟩
    go_simp
    with_reducible rfl
  rotate_left
  · simp only [Act.put, List.setIfInBounds_toArray, List.set_cons_zero, List.set_cons_succ, i64_w, i32_w]
    rfl
  refine pure_ (i := 1) (N := some 10) (v := ?_) (a' := ?_) (bm 29 3) rfl rfl (by kernel_rfl) (fun _ _ _ h => h) (Or.inl ⟨by rfl, ?_⟩) ?_ ?_
  rotate_left
  · intro w'
    go_simp
    with_reducible rfl
  rotate_left
  · simp only [Act.put, List.setIfInBounds_toArray, List.set_cons_zero, List.set_cons_succ, i64_w, i32_w]
    rfl
  refine take_ (i := 2) (N := some 11) (v := ?_) (a' := ?_) (bm 29 7) rfl rfl (by kernel_rfl) (fun _ _ _ h => h) (Or.inl ⟨by rfl, ?_⟩) hHeld ?_ ?_
  rotate_left
  · rintro w' ⟨s0, s1, s2, s3, s4⟩
    go_simp
    with_reducible rfl
  rotate_left
  · simp only [Act.put, List.setIfInBounds_toArray, List.set_cons_zero, List.set_cons_succ, i64_w, i32_w]
    rfl
  refine pure_ (i := 3) (N := some 12) (v := ?_) (a' := ?_) (bm 29 15) rfl rfl (by kernel_rfl) (fun _ _ _ h => h) (Or.inl ⟨by rfl, ?_⟩) ?_ ?_
  rotate_left
  · intro w'
    go_simp
    with_reducible rfl
  rotate_left
  · simp only [Act.put, List.setIfInBounds_toArray, List.set_cons_zero, List.set_cons_succ, i64_w, i32_w]
    rfl
  refine pure_ (i := 4) (N := some 13) (v := ?_) (a' := ?_) (bm 29 31) rfl rfl (by kernel_rfl) (fun _ _ _ h => h) (Or.inl ⟨by rfl, ?_⟩) ?_ ?_
  rotate_left
  · intro w'
    go_simp
    with_reducible rfl
  rotate_left
  · simp only [Act.put, List.setIfInBounds_toArray, List.set_cons_zero, List.set_cons_succ, i64_w, i32_w]
    rfl
  refine take_ (i := 5) (N := some 14) (v := ?_) (a' := ?_) (bm 29 63) rfl rfl (by kernel_rfl) (fun _ _ _ h => h) (Or.inl ⟨by rfl, ?_⟩) hHeld ?_ ?_
  rotate_left
  · rintro w' ⟨s0, s1, s2, s3, s4⟩
    go_simp
    with_reducible rfl
  rotate_left
  · simp only [Act.put, List.setIfInBounds_toArray, List.set_cons_zero, List.set_cons_succ, i64_w, i32_w]
    rfl
  refine one_ (i := 6) (N := some 15) (bm 29 127) rfl rfl (by kernel_rfl) (by decide) (fun K hK => ?_)
  refine goes_ Tryz.func146 (by kernel_rfl) rfl #[.agg #[.int .i64 a.f0, .int .i64 a.f1, .string a.f2, .slice Aa a.f3.length ca], .int .i64 0] (by rfl) rfl rfl (by (try simp only [List.map_toArray, List.map_cons, List.map_nil]); first | done | rfl) ?_
  refine (HK.out _).mono ?_
  rintro e w9 ⟨rfl, ew9⟩
  refine ⟨_, rfl, ?_⟩
  have HS9 := Lib.hid (HS.out.below (W' := w9) (by rw [ew9]; exact below_alloc (Below.refl _ _) _))
  clear ew9 HS
  refine hK.out _ _ HS9.out.held (fun hHeld => ?_)
  clear hK K
  refine norm_ (a' := ?_) ?_ ?_
  rotate_left
  · show Act.put _ (some 15) _ = _
    simp only [Act.put, List.setIfInBounds_toArray, List.set_cons_zero, List.set_cons_succ, i64_w, i32_w]
    rfl
  refine pure_ (i := 7) (N := some 16) (v := ?_) (a' := ?_) (bm 29 255) rfl rfl (by kernel_rfl) (fun _ _ _ h => h) (Or.inl ⟨by rfl, ?_⟩) ?_ ?_
  rotate_left
  · intro w'
    go_simp
    with_reducible rfl
  rotate_left
  · simp only [Act.put, List.setIfInBounds_toArray, List.set_cons_zero, List.set_cons_succ, i64_w, i32_w]
    rfl
  refine pure_ (i := 8) (N := some 17) (v := ?_) (a' := ?_) (bm 29 511) rfl rfl (by kernel_rfl) (fun _ _ _ h => h) (Or.inl ⟨by rfl, ?_⟩) ?_ ?_
  rotate_left
  · intro w'
    go_simp
    with_reducible rfl
  rotate_left
  · simp only [Act.put, List.setIfInBounds_toArray, List.set_cons_zero, List.set_cons_succ, i64_w, i32_w]
    rfl
  refine pure_ (i := 9) (N := some 18) (v := undef) (bm 29 1023) rfl rfl (by kernel_rfl) (fun _ _ _ h => h) (Or.inr ⟨by rfl, rfl⟩) rfl ?_
  refine pure_ (i := 10) (N := some 19) (v := undef) (bm 29 2047) rfl rfl (by kernel_rfl) (fun _ _ _ h => h) (Or.inr ⟨by rfl, rfl⟩) rfl ?_
  refine pure_ (i := 11) (N := some 20) (v := undef) (bm 29 4095) rfl rfl (by kernel_rfl) (fun _ _ _ h => h) (Or.inr ⟨by rfl, rfl⟩) rfl ?_
  refine pure_ (i := 12) (N := some 21) (v := undef) (bm 29 8191) rfl rfl (by kernel_rfl) (fun _ _ _ h => h) (Or.inr ⟨by rfl, rfl⟩) rfl ?_
  refine pure_ (i := 13) (N := some 22) (v := undef) (bm 29 16383) rfl rfl (by kernel_rfl) (fun _ _ _ h => h) (Or.inr ⟨by rfl, rfl⟩) rfl ?_
  refine pure_ (i := 14) (N := some 23) (v := undef) (bm 29 32767) rfl rfl (by kernel_rfl) (fun _ _ _ h => h) (Or.inr ⟨by rfl, rfl⟩) rfl ?_
  refine pure_ (i := 15) (N := some 24) (v := undef) (bm 29 65535) rfl rfl (by kernel_rfl) (fun _ _ _ h => h) (Or.inr ⟨by rfl, rfl⟩) rfl ?_
  refine norm_ (a' := ?_) ?_ ?_
  rotate_left
  · simp only [Act.put, List.setIfInBounds_toArray, List.set_cons_zero, List.set_cons_succ]
    rfl
  refine pure_ (i := 16) (N := some 25) (v := ?_) (a' := ?_) (bm 29 131071) rfl rfl (by kernel_rfl) (fun _ _ _ h => h) (Or.inl ⟨by rfl, ?_⟩) ?_ ?_
  rotate_left
  · intro w'
    go_simp
    with_reducible rfl
  rotate_left
  · simp only [Act.put, List.setIfInBounds_toArray, List.set_cons_zero, List.set_cons_succ, i64_w, i32_w]
    rfl
  refine pure_ (i := 17) (N := some 26) (v := ?_) (a' := ?_) (bm 29 262143) rfl rfl (by kernel_rfl) (fun _ _ _ h => h) (Or.inl ⟨by rfl, ?_⟩) ?_ ?_
  rotate_left
  · intro w'
    go_simp
    with_reducible rfl
  rotate_left
  · simp only [Act.put, List.setIfInBounds_toArray, List.set_cons_zero, List.set_cons_succ, i64_w, i32_w]
    rfl
  refine pure_ (i := 18) (N := some 27) (v := undef) (bm 29 524287) rfl rfl (by kernel_rfl) (fun _ _ _ h => h) (Or.inr ⟨by rfl, rfl⟩) rfl ?_
  refine pure_ (i := 19) (N := some 28) (v := undef) (bm 29 1048575) rfl rfl (by kernel_rfl) (fun _ _ _ h => h) (Or.inr ⟨by rfl, rfl⟩) rfl ?_
  refine pure_ (i := 20) (N := some 29) (v := undef) (bm 29 2097151) rfl rfl (by kernel_rfl) (fun _ _ _ h => h) (Or.inr ⟨by rfl, rfl⟩) rfl ?_
  refine pure_ (i := 21) (N := some 30) (v := undef) (bm 29 4194303) rfl rfl (by kernel_rfl) (fun _ _ _ h => h) (Or.inr ⟨by rfl, rfl⟩) rfl ?_
  refine pure_ (i := 22) (N := some 31) (v := undef) (bm 29 8388607) rfl rfl (by kernel_rfl) (fun _ _ _ h => h) (Or.inr ⟨by rfl, rfl⟩) rfl ?_
  refine pure_ (i := 23) (N := some 32) (v := undef) (bm 29 16777215) rfl rfl (by kernel_rfl) (fun _ _ _ h => h) (Or.inr ⟨by rfl, rfl⟩) rfl ?_
  refine pure_ (i := 24) (N := some 33) (v := undef) (bm 29 33554431) rfl rfl (by kernel_rfl) (fun _ _ _ h => h) (Or.inr ⟨by rfl, rfl⟩) rfl ?_
  refine pure_ (i := 25) (N := some 34) (v := undef) (bm 29 67108863) rfl rfl (by kernel_rfl) (fun _ _ _ h => h) (Or.inr ⟨by rfl, rfl⟩) rfl ?_
  refine norm_ (a' := ?_) ?_ ?_
  rotate_left
  · simp only [Act.put, List.setIfInBounds_toArray, List.set_cons_zero, List.set_cons_succ]
    rfl
  refine pure_ (i := 26) (N := some 35) (v := ?_) (a' := ?_) (bm 29 134217727) rfl rfl (by kernel_rfl) (fun _ _ _ h => h) (Or.inl ⟨by rfl, ?_⟩) ?_ ?_
  rotate_left
  · intro w'
    go_simp
    with_reducible rfl
  rotate_left
  · simp only [Act.put, List.setIfInBounds_toArray, List.set_cons_zero, List.set_cons_succ, i64_w, i32_w]
    rfl
  obtain ⟨q0, q1, q2, q3⟩ := core_cells HS9.out.d.b1
  have i0 := blk_frozen HS9.out.d.b1 0; have i1 := blk_frozen HS9.out.d.b1 1; have i2 := blk_frozen HS9.out.d.b1 2; have i3 := blk_frozen HS9.out.d.b1 3
  have hs6 : w.heap.size + 1 < w9.heap.size := blk_lt HS9.out.d.b1
  refine one_ (i := 27) (N := none) (bm 29 268435455) rfl rfl (by kernel_rfl) (by decide) (fun K hK => ?_)
  refine skip_ (w1 := ?_) (by rfl) rfl ?_ ?_
  rotate_left
  · go_simp
    rfl
  refine hK.out _ _ (HS9.out.held4 _ _ _ _) (fun hHeld => ?_)
  clear hK K
  refine pure_ (i := 28) (N := some 3) (v := ?_) (a' := ?_) (bm 29 536870911) rfl rfl (by kernel_rfl) (fun _ _ _ h => h) (Or.inl ⟨by rfl, ?_⟩) ?_ ?_
  rotate_left
  · intro w'
    go_simp
    with_reducible rfl
  rotate_left
  · simp only [Act.put, List.setIfInBounds_toArray, List.set_cons_zero, List.set_cons_succ, i64_w, i32_w]
    rfl
  refine done_ (by kernel_rfl) ?_
  go_wp2
  refine bodyPost_ret (v := .tuple #[.agg #[.int .i64 a.f0, .int .i64 a.f1, .string a.f2, .slice Aa a.f3.length ca], .bool true]) (by simp [results, Tryz.f84, go_sem, q0, q1, q2, q3, hs6]) rfl ?_
  exact HS9.out.d.fin hla HFa.out true _ _ _ _
set_option maxRecDepth 100000 in
set_option maxHeartbeats 2000000 in
theorem settled15f (x a : Core) (l : List Core) (hl : x.f3 = a :: l) (ho : x.f0 = 15) (ha : (a.f0 == 2 && a.f1 == 0) = false) (P : Nat → Prop) (A : Option Addr) (c : Nat) (w : World) (hF : Kd.F k24 w P A x.f3.length x.f3) (_hc : x.f3.length ≤ c) :
    Calls Tryz.prog 84 #[.agg #[.int .i64 x.f0, .int .i64 x.f1, .string x.f2, .slice A x.f3.length c]] w fun q w' =>
      ∃ v : Value, q = .returned (.tuple #[.agg #[.int .i64 a.f0, .int .i64 a.f1, .string a.f2, v], .bool false]) ∧ Kd.V k24 24 w' w.heap.size (fun k => P k ∨ w.heap.size ≤ k) v a.f3 ∧ Below w.heap.size w w' := by
  obtain ⟨ad, Aa, ca, hA, hb0, ⟨a0, a1, a2, a3⟩, hla, hFa⟩ := first_kid hF hl
  have hb1 : ad.block < w.heap.size + 1 := by omega
  have hb2 : ad.block < w.heap.size + 1 + 1 := by omega
  have hb3 : ad.block < w.heap.size + 1 + 1 + 1 := by omega
  have hlen : 0 < x.f3.length := by rw [hl]; simp
  have hlen1 : 1 ≤ x.f3.length := hlen
  have hleni : (0 : Int) < (x.f3.length : Int) := by omega
  subst hA
  have t15 : (x.f0 == 15) = true := beq_iff_eq.2 ho
  have t16 : (x.f0 == 16) = false := beq_eq_false_iff_ne.2 (by omega)
  have t25 : (x.f0 == 25) = false := beq_eq_false_iff_ne.2 (by omega)
  have hk : ∀ W, Calls Tryz.prog 146 #[.agg #[.int .i64 a.f0, .int .i64 a.f1, .string a.f2, .slice Aa a.f3.length ca], .int .i64 0] W fun e w' => e = .returned (.bool false) ∧ w' = W.alloc (.cells #[.int .i64 a.f0, .int .i64 a.f1, .string a.f2, .slice Aa a.f3.length ca] 24) := fun W => by rw [← ha]; exact isBool_is _ _ _ _ _ _ _ W
  have HK := Lib.hid hk
  clear hk ha
  have HF := Lib.hid hF; have HFa := Lib.hid hFa
  clear hF hFa hl ho
  go_enter Tryz.func84, Tryz.ntmps84
  go_wp2
  obtain ⟨w3, ew3⟩ : ∃ w3, (((w.alloc (.cells #[.int .i64 x.f0, .int .i64 x.f1, .string x.f2, .slice (some ad) x.f3.length c] 24)).alloc (.cells #[.int .i64 0, .int .i64 0, .string ⟨#[]⟩, .slice none 0 0] 24)).alloc (.cells #[.int .i64 a.f0, .int .i64 a.f1, .string a.f2, .slice Aa a.f3.length ca] 24)) = w3 := ⟨_, rfl⟩
  have hS : SInv w (some ad) c x a Aa ca w3 := by rw [← ew3]; exact SInv.new w (some ad) c x a Aa ca
  rw [ew3]
  have HS := Lib.hid hS.drew
  clear ew3 hS a0 a1 a2 a3 hb0 hb1 hb2 hb3
  refine start_ (n := 29) (S := fun w' => w'.cell? ⟨w.heap.size, 0, none⟩ = some (.int .i64 x.f0) ∧ w'.cell? ⟨w.heap.size + 1 + 1, 0, none⟩ = some (.int .i64 a.f0) ∧ w'.cell? ⟨w.heap.size + 1 + 1, 1, none⟩ = some (.int .i64 a.f1) ∧ w'.cell? ⟨w.heap.size + 1 + 1, 2, none⟩ = some (.string a.f2) ∧ w'.cell? ⟨w.heap.size + 1 + 1, 3, none⟩ = some (.slice Aa a.f3.length ca)) (ds := []) (bm 29 0) (by kernel_rfl) rfl (by kernel_rfl) HS.out.held (fun hHeld => ?_)
  generalize w3.drew = w4 at HS hHeld ⊢
  refine take_ (i := 0) (N := some 9) (v := ?_) (a' := ?_) (bm 29 1) rfl rfl (by kernel_rfl) (fun _ _ _ h => h) (Or.inl ⟨by rfl, ?_⟩) hHeld ?_ ?_
  rotate_left
  · rintro w' ⟨s0, s1, s2, s3, s4⟩
    go_simp
    with_reducible rfl
  rotate_left
  · simp only [Act.put, List.setIfInBounds_toArray, List.set_cons_zero, List.set_cons_succ, i64_w, i32_w]
    rfl
  refine pure_ (i := 1) (N := some 10) (v := ?_) (a' := ?_) (bm 29 3) rfl rfl (by kernel_rfl) (fun _ _ _ h => h) (Or.inl ⟨by rfl, ?_⟩) ?_ ?_
  rotate_left
  · intro w'
    go_simp
    with_reducible rfl
  rotate_left
  · simp only [Act.put, List.setIfInBounds_toArray, List.set_cons_zero, List.set_cons_succ, i64_w, i32_w]
    rfl
  refine take_ (i := 2) (N := some 11) (v := ?_) (a' := ?_) (bm 29 7) rfl rfl (by kernel_rfl) (fun _ _ _ h => h) (Or.inl ⟨by rfl, ?_⟩) hHeld ?_ ?_
  rotate_left
  · rintro w' ⟨s0, s1, s2, s3, s4⟩
    go_simp
    with_reducible rfl
  rotate_left
  · simp only [Act.put, List.setIfInBounds_toArray, List.set_cons_zero, List.set_cons_succ, i64_w, i32_w]
    rfl
  refine pure_ (i := 3) (N := some 12) (v := ?_) (a' := ?_) (bm 29 15) rfl rfl (by kernel_rfl) (fun _ _ _ h => h) (Or.inl ⟨by rfl, ?_⟩) ?_ ?_
  rotate_left
  · intro w'
    go_simp
    with_reducible rfl
  rotate_left
  · simp only [Act.put, List.setIfInBounds_toArray, List.set_cons_zero, List.set_cons_succ, i64_w, i32_w]
    rfl
  refine pure_ (i := 4) (N := some 13) (v := ?_) (a' := ?_) (bm 29 31) rfl rfl (by kernel_rfl) (fun _ _ _ h => h) (Or.inl ⟨by rfl, ?_⟩) ?_ ?_
  rotate_left
  · intro w'
    go_simp
    with_reducible rfl
  rotate_left
  · simp only [Act.put, List.setIfInBounds_toArray, List.set_cons_zero, List.set_cons_succ, i64_w, i32_w]
    rfl
  refine take_ (i := 5) (N := some 14) (v := ?_) (a' := ?_) (bm 29 63) rfl rfl (by kernel_rfl) (fun _ _ _ h => h) (Or.inl ⟨by rfl, ?_⟩) hHeld ?_ ?_
  rotate_left
  · rintro w' ⟨s0, s1, s2, s3, s4⟩
    go_simp
    with_reducible rfl
  rotate_left
  · simp only [Act.put, List.setIfInBounds_toArray, List.set_cons_zero, List.set_cons_succ, i64_w, i32_w]
    rfl
  refine one_ (i := 6) (N := some 15) (bm 29 127) rfl rfl (by kernel_rfl) (by decide) (fun K hK => ?_)
  refine goes_ Tryz.func146 (by kernel_rfl) rfl #[.agg #[.int .i64 a.f0, .int .i64 a.f1, .string a.f2, .slice Aa a.f3.length ca], .int .i64 0] (by rfl) rfl rfl (by (try simp only [List.map_toArray, List.map_cons, List.map_nil]); first | done | rfl) ?_
  refine (HK.out _).mono ?_
  rintro e w9 ⟨rfl, ew9⟩
  refine ⟨_, rfl, ?_⟩
  have HS9 := Lib.hid (HS.out.below (W' := w9) (by rw [ew9]; exact below_alloc (Below.refl _ _) _))
  clear ew9 HS
  refine hK.out _ _ HS9.out.held (fun hHeld => ?_)
  clear hK K
  refine norm_ (a' := ?_) ?_ ?_
  rotate_left
  · show Act.put _ (some 15) _ = _
    simp only [Act.put, List.setIfInBounds_toArray, List.set_cons_zero, List.set_cons_succ, i64_w, i32_w]
    rfl
  refine pure_ (i := 7) (N := some 16) (v := ?_) (a' := ?_) (bm 29 255) rfl rfl (by kernel_rfl) (fun _ _ _ h => h) (Or.inl ⟨by rfl, ?_⟩) ?_ ?_
  rotate_left
  · intro w'
    go_simp
    with_reducible rfl
  rotate_left
  · simp only [Act.put, List.setIfInBounds_toArray, List.set_cons_zero, List.set_cons_succ, i64_w, i32_w]
    rfl
  refine pure_ (i := 8) (N := some 17) (v := ?_) (a' := ?_) (bm 29 511) rfl rfl (by kernel_rfl) (fun _ _ _ h => h) (Or.inl ⟨by rfl, ?_⟩) ?_ ?_
  rotate_left
  · intro w'
    go_simp
    with_reducible rfl
  rotate_left
  · simp only [Act.put, List.setIfInBounds_toArray, List.set_cons_zero, List.set_cons_succ, i64_w, i32_w]
    rfl
  refine pure_ (i := 9) (N := some 18) (v := ?_) (a' := ?_) (bm 29 1023) rfl rfl (by kernel_rfl) (fun _ _ _ h => h) (Or.inl ⟨by rfl, ?_⟩) ?_ ?_
  rotate_left
  · intro w'
    go_simp
    with_reducible rfl
  rotate_left
  · simp only [Act.put, List.setIfInBounds_toArray, List.set_cons_zero, List.set_cons_succ, i64_w, i32_w]
    rfl
  refine take_ (i := 10) (N := some 19) (v := ?_) (a' := ?_) (bm 29 2047) rfl rfl (by kernel_rfl) (fun _ _ _ h => h) (Or.inl ⟨by rfl, ?_⟩) hHeld ?_ ?_
  rotate_left
  · rintro w' ⟨s0, s1, s2, s3, s4⟩
    go_simp
    with_reducible rfl
  rotate_left
  · simp only [Act.put, List.setIfInBounds_toArray, List.set_cons_zero, List.set_cons_succ, i64_w, i32_w]
    rfl
  refine pure_ (i := 11) (N := some 20) (v := ?_) (a' := ?_) (bm 29 4095) rfl rfl (by kernel_rfl) (fun _ _ _ h => h) (Or.inl ⟨by rfl, ?_⟩) ?_ ?_
  rotate_left
  · intro w'
    go_simp
    with_reducible rfl
  rotate_left
  · simp only [Act.put, List.setIfInBounds_toArray, List.set_cons_zero, List.set_cons_succ, i64_w, i32_w]
    rfl
  refine pure_ (i := 12) (N := some 21) (v := ?_) (a' := ?_) (bm 29 8191) rfl rfl (by kernel_rfl) (fun _ _ _ h => h) (Or.inl ⟨by rfl, ?_⟩) ?_ ?_
  rotate_left
  · intro w'
    go_simp
    with_reducible rfl
  rotate_left
  · simp only [Act.put, List.setIfInBounds_toArray, List.set_cons_zero, List.set_cons_succ, i64_w, i32_w]
    rfl
  refine pure_ (i := 13) (N := some 22) (v := undef) (bm 29 16383) rfl rfl (by kernel_rfl) (fun _ _ _ h => h) (Or.inr ⟨by rfl, rfl⟩) rfl ?_
  refine pure_ (i := 14) (N := some 23) (v := undef) (bm 29 32767) rfl rfl (by kernel_rfl) (fun _ _ _ h => h) (Or.inr ⟨by rfl, rfl⟩) rfl ?_
  refine norm_ (a' := ?_) ?_ ?_
  rotate_left
  · simp only [Act.put, List.setIfInBounds_toArray, List.set_cons_zero, List.set_cons_succ]
    rfl
  refine pure_ (i := 15) (N := some 24) (v := ?_) (a' := ?_) (bm 29 65535) rfl rfl (by kernel_rfl) (fun _ _ _ h => h) (Or.inl ⟨by rfl, ?_⟩) ?_ ?_
  rotate_left
  · intro w'
    go_simp
    with_reducible rfl
  rotate_left
  · simp only [Act.put, List.setIfInBounds_toArray, List.set_cons_zero, List.set_cons_succ, i64_w, i32_w]
    rfl
  refine pure_ (i := 16) (N := some 25) (v := ?_) (a' := ?_) (bm 29 131071) rfl rfl (by kernel_rfl) (fun _ _ _ h => h) (Or.inl ⟨by rfl, ?_⟩) ?_ ?_
  rotate_left
  · intro w'
    go_simp
    with_reducible rfl
  rotate_left
  · simp only [Act.put, List.setIfInBounds_toArray, List.set_cons_zero, List.set_cons_succ, i64_w, i32_w]
    rfl
  refine pure_ (i := 17) (N := some 26) (v := ?_) (a' := ?_) (bm 29 262143) rfl rfl (by kernel_rfl) (fun _ _ _ h => h) (Or.inl ⟨by rfl, ?_⟩) ?_ ?_
  rotate_left
  · intro w'
    go_simp
    with_reducible rfl
  rotate_left
  · simp only [Act.put, List.setIfInBounds_toArray, List.set_cons_zero, List.set_cons_succ, i64_w, i32_w]
    rfl
  refine pure_ (i := 18) (N := some 27) (v := ?_) (a' := ?_) (bm 29 524287) rfl rfl (by kernel_rfl) (fun _ _ _ h => h) (Or.inl ⟨by rfl, ?_⟩) ?_ ?_
  rotate_left
  · intro w'
    go_simp
    with_reducible rfl
  rotate_left
  · simp only [Act.put, List.setIfInBounds_toArray, List.set_cons_zero, List.set_cons_succ, i64_w, i32_w]
    rfl
  refine take_ (i := 19) (N := some 28) (v := ?_) (a' := ?_) (bm 29 1048575) rfl rfl (by kernel_rfl) (fun _ _ _ h => h) (Or.inl ⟨by rfl, ?_⟩) hHeld ?_ ?_
  rotate_left
  · rintro w' ⟨s0, s1, s2, s3, s4⟩
    go_simp
    with_reducible rfl
  rotate_left
  · simp only [Act.put, List.setIfInBounds_toArray, List.set_cons_zero, List.set_cons_succ, i64_w, i32_w]
    rfl
  refine pure_ (i := 20) (N := some 29) (v := ?_) (a' := ?_) (bm 29 2097151) rfl rfl (by kernel_rfl) (fun _ _ _ h => h) (Or.inl ⟨by rfl, ?_⟩) ?_ ?_
  rotate_left
  · intro w'
    go_simp
    with_reducible rfl
  rotate_left
  · simp only [Act.put, List.setIfInBounds_toArray, List.set_cons_zero, List.set_cons_succ, i64_w, i32_w]
    rfl
  refine pure_ (i := 21) (N := some 30) (v := ?_) (a' := ?_) (bm 29 4194303) rfl rfl (by kernel_rfl) (fun _ _ _ h => h) (Or.inl ⟨by rfl, ?_⟩) ?_ ?_
  rotate_left
  · intro w'
    go_simp
    with_reducible rfl
  rotate_left
  · simp only [Act.put, List.setIfInBounds_toArray, List.set_cons_zero, List.set_cons_succ, i64_w, i32_w]
    rfl
  refine pure_ (i := 22) (N := some 31) (v := undef) (bm 29 8388607) rfl rfl (by kernel_rfl) (fun _ _ _ h => h) (Or.inr ⟨by rfl, rfl⟩) rfl ?_
  refine pure_ (i := 23) (N := some 32) (v := undef) (bm 29 16777215) rfl rfl (by kernel_rfl) (fun _ _ _ h => h) (Or.inr ⟨by rfl, rfl⟩) rfl ?_
  refine pure_ (i := 24) (N := some 33) (v := undef) (bm 29 33554431) rfl rfl (by kernel_rfl) (fun _ _ _ h => h) (Or.inr ⟨by rfl, rfl⟩) rfl ?_
  refine norm_ (a' := ?_) ?_ ?_
  rotate_left
  · simp only [Act.put, List.setIfInBounds_toArray, List.set_cons_zero, List.set_cons_succ]
    rfl
  refine pure_ (i := 25) (N := some 34) (v := ?_) (a' := ?_) (bm 29 67108863) rfl rfl (by kernel_rfl) (fun _ _ _ h => h) (Or.inl ⟨by rfl, ?_⟩) ?_ ?_
  rotate_left
  · intro w'
    go_simp
    with_reducible rfl
  rotate_left
  · simp only [Act.put, List.setIfInBounds_toArray, List.set_cons_zero, List.set_cons_succ, i64_w, i32_w]
    rfl
  refine pure_ (i := 26) (N := some 35) (v := ?_) (a' := ?_) (bm 29 134217727) rfl rfl (by kernel_rfl) (fun _ _ _ h => h) (Or.inl ⟨by rfl, ?_⟩) ?_ ?_
  rotate_left
  · intro w'
    go_simp
    with_reducible rfl
  rotate_left
  · simp only [Act.put, List.setIfInBounds_toArray, List.set_cons_zero, List.set_cons_succ, i64_w, i32_w]
    rfl
  obtain ⟨q0, q1, q2, q3⟩ := core_cells HS9.out.d.b1
  have i0 := blk_frozen HS9.out.d.b1 0; have i1 := blk_frozen HS9.out.d.b1 1; have i2 := blk_frozen HS9.out.d.b1 2; have i3 := blk_frozen HS9.out.d.b1 3
  have hs6 : w.heap.size + 1 < w9.heap.size := blk_lt HS9.out.d.b1
  refine one_ (i := 27) (N := none) (bm 29 268435455) rfl rfl (by kernel_rfl) (by decide) (fun K hK => ?_)
  refine skip_ (w1 := ?_) (by rfl) rfl ?_ ?_
  rotate_left
  · go_simp
    rfl
  refine hK.out _ _ (HS9.out.held4 _ _ _ _) (fun hHeld => ?_)
  clear hK K
  refine pure_ (i := 28) (N := some 3) (v := ?_) (a' := ?_) (bm 29 536870911) rfl rfl (by kernel_rfl) (fun _ _ _ h => h) (Or.inl ⟨by rfl, ?_⟩) ?_ ?_
  rotate_left
  · intro w'
    go_simp
    with_reducible rfl
  rotate_left
  · simp only [Act.put, List.setIfInBounds_toArray, List.set_cons_zero, List.set_cons_succ, i64_w, i32_w]
    rfl
  refine done_ (by kernel_rfl) ?_
  go_wp2
  refine bodyPost_ret (v := .tuple #[.agg #[.int .i64 a.f0, .int .i64 a.f1, .string a.f2, .slice Aa a.f3.length ca], .bool false]) (by simp [results, Tryz.f84, go_sem, q0, q1, q2, q3, hs6]) rfl ?_
  exact HS9.out.d.fin hla HFa.out false _ _ _ _
set_option maxRecDepth 100000 in
set_option maxHeartbeats 2000000 in
theorem settled16t (x a : Core) (l : List Core) (hl : x.f3 = a :: l) (ho : x.f0 = 16) (ha : (a.f0 == 2 && a.f1 == 1) = true) (P : Nat → Prop) (A : Option Addr) (c : Nat) (w : World) (hF : Kd.F k24 w P A x.f3.length x.f3) (_hc : x.f3.length ≤ c) :
    Calls Tryz.prog 84 #[.agg #[.int .i64 x.f0, .int .i64 x.f1, .string x.f2, .slice A x.f3.length c]] w fun q w' =>
      ∃ v : Value, q = .returned (.tuple #[.agg #[.int .i64 a.f0, .int .i64 a.f1, .string a.f2, v], .bool true]) ∧ Kd.V k24 24 w' w.heap.size (fun k => P k ∨ w.heap.size ≤ k) v a.f3 ∧ Below w.heap.size w w' := by
  obtain ⟨ad, Aa, ca, hA, hb0, ⟨a0, a1, a2, a3⟩, hla, hFa⟩ := first_kid hF hl
  have hb1 : ad.block < w.heap.size + 1 := by omega
  have hb2 : ad.block < w.heap.size + 1 + 1 := by omega
  have hb3 : ad.block < w.heap.size + 1 + 1 + 1 := by omega
  have hlen : 0 < x.f3.length := by rw [hl]; simp
  have hlen1 : 1 ≤ x.f3.length := hlen
  have hleni : (0 : Int) < (x.f3.length : Int) := by omega
  subst hA
  have t15 : (x.f0 == 15) = false := beq_eq_false_iff_ne.2 (by omega)
  have t16 : (x.f0 == 16) = true := beq_iff_eq.2 ho
  have hk : ∀ W, Calls Tryz.prog 146 #[.agg #[.int .i64 a.f0, .int .i64 a.f1, .string a.f2, .slice Aa a.f3.length ca], .int .i64 1] W fun e w' => e = .returned (.bool true) ∧ w' = W.alloc (.cells #[.int .i64 a.f0, .int .i64 a.f1, .string a.f2, .slice Aa a.f3.length ca] 24) := fun W => by rw [← ha]; exact isBool_is _ _ _ _ _ _ _ W
  have HK := Lib.hid hk
  clear hk ha
  have HF := Lib.hid hF; have HFa := Lib.hid hFa
  clear hF hFa hl ho
  go_enter Tryz.func84, Tryz.ntmps84
  go_wp2
  obtain ⟨w3, ew3⟩ : ∃ w3, (((w.alloc (.cells #[.int .i64 x.f0, .int .i64 x.f1, .string x.f2, .slice (some ad) x.f3.length c] 24)).alloc (.cells #[.int .i64 0, .int .i64 0, .string ⟨#[]⟩, .slice none 0 0] 24)).alloc (.cells #[.int .i64 a.f0, .int .i64 a.f1, .string a.f2, .slice Aa a.f3.length ca] 24)) = w3 := ⟨_, rfl⟩
  have hS : SInv w (some ad) c x a Aa ca w3 := by rw [← ew3]; exact SInv.new w (some ad) c x a Aa ca
  rw [ew3]
  have HS := Lib.hid hS.drew
  clear ew3 hS a0 a1 a2 a3 hb0 hb1 hb2 hb3
  refine start_ (n := 29) (S := fun w' => w'.cell? ⟨w.heap.size, 0, none⟩ = some (.int .i64 x.f0) ∧ w'.cell? ⟨w.heap.size + 1 + 1, 0, none⟩ = some (.int .i64 a.f0) ∧ w'.cell? ⟨w.heap.size + 1 + 1, 1, none⟩ = some (.int .i64 a.f1) ∧ w'.cell? ⟨w.heap.size + 1 + 1, 2, none⟩ = some (.string a.f2) ∧ w'.cell? ⟨w.heap.size + 1 + 1, 3, none⟩ = some (.slice Aa a.f3.length ca)) (ds := []) (bm 29 0) (by kernel_rfl) rfl (by kernel_rfl) HS.out.held (fun hHeld => ?_)
  generalize w3.drew = w4 at HS hHeld ⊢
  refine take_ (i := 0) (N := some 9) (v := ?_) (a' := ?_) (bm 29 1) rfl rfl (by kernel_rfl) (fun _ _ _ h => h) (Or.inl ⟨by rfl, ?_⟩) hHeld ?_ ?_
  rotate_left
  · rintro w' ⟨s0, s1, s2, s3, s4⟩
    go_simp
    with_reducible rfl
  rotate_left
  · simp only [Act.put, List.setIfInBounds_toArray, List.set_cons_zero, List.set_cons_succ, i64_w, i32_w]
    rfl
  refine pure_ (i := 1) (N := some 10) (v := ?_) (a' := ?_) (bm 29 3) rfl rfl (by kernel_rfl) (fun _ _ _ h => h) (Or.inl ⟨by rfl, ?_⟩) ?_ ?_
  rotate_left
  · intro w'
    go_simp
    with_reducible rfl
  rotate_left
  · simp only [Act.put, List.setIfInBounds_toArray, List.set_cons_zero, List.set_cons_succ, i64_w, i32_w]
    rfl
  refine take_ (i := 2) (N := some 11) (v := ?_) (a' := ?_) (bm 29 7) rfl rfl (by kernel_rfl) (fun _ _ _ h => h) (Or.inl ⟨by rfl, ?_⟩) hHeld ?_ ?_
  rotate_left
  · rintro w' ⟨s0, s1, s2, s3, s4⟩
    go_simp
    with_reducible rfl
  rotate_left
  · simp only [Act.put, List.setIfInBounds_toArray, List.set_cons_zero, List.set_cons_succ, i64_w, i32_w]
    rfl
  refine pure_ (i := 3) (N := some 12) (v := ?_) (a' := ?_) (bm 29 15) rfl rfl (by kernel_rfl) (fun _ _ _ h => h) (Or.inl ⟨by rfl, ?_⟩) ?_ ?_
  rotate_left
  · intro w'
    go_simp
    with_reducible rfl
  rotate_left
  · simp only [Act.put, List.setIfInBounds_toArray, List.set_cons_zero, List.set_cons_succ, i64_w, i32_w]
    rfl
  refine pure_ (i := 4) (N := some 13) (v := ?_) (a' := ?_) (bm 29 31) rfl rfl (by kernel_rfl) (fun _ _ _ h => h) (Or.inl ⟨by rfl, ?_⟩) ?_ ?_
  rotate_left
  · intro w'
    go_simp
    with_reducible rfl
  rotate_left
  · simp only [Act.put, List.setIfInBounds_toArray, List.set_cons_zero, List.set_cons_succ, i64_w, i32_w]
    rfl
  refine pure_ (i := 5) (N := some 14) (v := undef) (bm 29 63) rfl rfl (by kernel_rfl) (fun _ _ _ h => h) (Or.inr ⟨by rfl, rfl⟩) rfl ?_
  refine pure_ (i := 6) (N := some 15) (v := undef) (bm 29 127) rfl rfl (by kernel_rfl) (fun _ _ _ h => h) (Or.inr ⟨by rfl, rfl⟩) rfl ?_
  refine norm_ (a' := ?_) ?_ ?_
  rotate_left
  · simp only [Act.put, List.setIfInBounds_toArray, List.set_cons_zero, List.set_cons_succ]
    rfl
  refine pure_ (i := 7) (N := some 16) (v := ?_) (a' := ?_) (bm 29 255) rfl rfl (by kernel_rfl) (fun _ _ _ h => h) (Or.inl ⟨by rfl, ?_⟩) ?_ ?_
  rotate_left
  · intro w'
    go_simp
    with_reducible rfl
  rotate_left
  · simp only [Act.put, List.setIfInBounds_toArray, List.set_cons_zero, List.set_cons_succ, i64_w, i32_w]
    rfl
  refine pure_ (i := 8) (N := some 17) (v := ?_) (a' := ?_) (bm 29 511) rfl rfl (by kernel_rfl) (fun _ _ _ h => h) (Or.inl ⟨by rfl, ?_⟩) ?_ ?_
  rotate_left
  · intro w'
    go_simp
    with_reducible rfl
  rotate_left
  · simp only [Act.put, List.setIfInBounds_toArray, List.set_cons_zero, List.set_cons_succ, i64_w, i32_w]
    rfl
  refine pure_ (i := 9) (N := some 18) (v := ?_) (a' := ?_) (bm 29 1023) rfl rfl (by kernel_rfl) (fun _ _ _ h => h) (Or.inl ⟨by rfl, ?_⟩) ?_ ?_
  rotate_left
  · intro w'
    go_simp
    with_reducible rfl
  rotate_left
  · simp only [Act.put, List.setIfInBounds_toArray, List.set_cons_zero, List.set_cons_succ, i64_w, i32_w]
    rfl
  refine take_ (i := 10) (N := some 19) (v := ?_) (a' := ?_) (bm 29 2047) rfl rfl (by kernel_rfl) (fun _ _ _ h => h) (Or.inl ⟨by rfl, ?_⟩) hHeld ?_ ?_
  rotate_left
  · rintro w' ⟨s0, s1, s2, s3, s4⟩
    go_simp
    with_reducible rfl
  rotate_left
  · simp only [Act.put, List.setIfInBounds_toArray, List.set_cons_zero, List.set_cons_succ, i64_w, i32_w]
    rfl
  refine pure_ (i := 11) (N := some 20) (v := ?_) (a' := ?_) (bm 29 4095) rfl rfl (by kernel_rfl) (fun _ _ _ h => h) (Or.inl ⟨by rfl, ?_⟩) ?_ ?_
  rotate_left
  · intro w'
    go_simp
    with_reducible rfl
  rotate_left
  · simp only [Act.put, List.setIfInBounds_toArray, List.set_cons_zero, List.set_cons_succ, i64_w, i32_w]
    rfl
  refine pure_ (i := 12) (N := some 21) (v := ?_) (a' := ?_) (bm 29 8191) rfl rfl (by kernel_rfl) (fun _ _ _ h => h) (Or.inl ⟨by rfl, ?_⟩) ?_ ?_
  rotate_left
  · intro w'
    go_simp
    with_reducible rfl
  rotate_left
  · simp only [Act.put, List.setIfInBounds_toArray, List.set_cons_zero, List.set_cons_succ, i64_w, i32_w]
    rfl
  refine take_ (i := 13) (N := some 22) (v := ?_) (a' := ?_) (bm 29 16383) rfl rfl (by kernel_rfl) (fun _ _ _ h => h) (Or.inl ⟨by rfl, ?_⟩) hHeld ?_ ?_
  rotate_left
  · rintro w' ⟨s0, s1, s2, s3, s4⟩
    go_simp
    with_reducible rfl
  rotate_left
  · simp only [Act.put, List.setIfInBounds_toArray, List.set_cons_zero, List.set_cons_succ, i64_w, i32_w]
    rfl
  refine one_ (i := 14) (N := some 23) (bm 29 32767) rfl rfl (by kernel_rfl) (by decide) (fun K hK => ?_)
  refine goes_ Tryz.func146 (by kernel_rfl) rfl #[.agg #[.int .i64 a.f0, .int .i64 a.f1, .string a.f2, .slice Aa a.f3.length ca], .int .i64 1] (by rfl) rfl rfl (by (try simp only [List.map_toArray, List.map_cons, List.map_nil]); first | done | rfl) ?_
  refine (HK.out _).mono ?_
  rintro e w9 ⟨rfl, ew9⟩
  refine ⟨_, rfl, ?_⟩
  have HS9 := Lib.hid (HS.out.below (W' := w9) (by rw [ew9]; exact below_alloc (Below.refl _ _) _))
  clear ew9 HS
  refine hK.out _ _ HS9.out.held (fun hHeld => ?_)
  clear hK K
  refine norm_ (a' := ?_) ?_ ?_
  rotate_left
  · show Act.put _ (some 23) _ = _
    simp only [Act.put, List.setIfInBounds_toArray, List.set_cons_zero, List.set_cons_succ, i64_w, i32_w]
    rfl
  refine pure_ (i := 15) (N := some 24) (v := ?_) (a' := ?_) (bm 29 65535) rfl rfl (by kernel_rfl) (fun _ _ _ h => h) (Or.inl ⟨by rfl, ?_⟩) ?_ ?_
  rotate_left
  · intro w'
    go_simp
    with_reducible rfl
  rotate_left
  · simp only [Act.put, List.setIfInBounds_toArray, List.set_cons_zero, List.set_cons_succ, i64_w, i32_w]
    rfl
  refine pure_ (i := 16) (N := some 25) (v := ?_) (a' := ?_) (bm 29 131071) rfl rfl (by kernel_rfl) (fun _ _ _ h => h) (Or.inl ⟨by rfl, ?_⟩) ?_ ?_
  rotate_left
  · intro w'
    go_simp
    with_reducible rfl
  rotate_left
  · simp only [Act.put, List.setIfInBounds_toArray, List.set_cons_zero, List.set_cons_succ, i64_w, i32_w]
    rfl
  refine pure_ (i := 17) (N := some 26) (v := ?_) (a' := ?_) (bm 29 262143) rfl rfl (by kernel_rfl) (fun _ _ _ h => h) (Or.inl ⟨by rfl, ?_⟩) ?_ ?_
  rotate_left
  · intro w'
    go_simp
    with_reducible rfl
  rotate_left
  · simp only [Act.put, List.setIfInBounds_toArray, List.set_cons_zero, List.set_cons_succ, i64_w, i32_w]
    rfl
  refine pure_ (i := 18) (N := some 27) (v := undef) (bm 29 524287) rfl rfl (by kernel_rfl) (fun _ _ _ h => h) (Or.inr ⟨by rfl, rfl⟩) rfl ?_
  refine pure_ (i := 19) (N := some 28) (v := undef) (bm 29 1048575) rfl rfl (by kernel_rfl) (fun _ _ _ h => h) (Or.inr ⟨by rfl, rfl⟩) rfl ?_
  refine pure_ (i := 20) (N := some 29) (v := undef) (bm 29 2097151) rfl rfl (by kernel_rfl) (fun _ _ _ h => h) (Or.inr ⟨by rfl, rfl⟩) rfl ?_
  refine pure_ (i := 21) (N := some 30) (v := undef) (bm 29 4194303) rfl rfl (by kernel_rfl) (fun _ _ _ h => h) (Or.inr ⟨by rfl, rfl⟩) rfl ?_
  refine pure_ (i := 22) (N := some 31) (v := undef) (bm 29 8388607) rfl rfl (by kernel_rfl) (fun _ _ _ h => h) (Or.inr ⟨by rfl, rfl⟩) rfl ?_
  refine pure_ (i := 23) (N := some 32) (v := undef) (bm 29 16777215) rfl rfl (by kernel_rfl) (fun _ _ _ h => h) (Or.inr ⟨by rfl, rfl⟩) rfl ?_
  refine pure_ (i := 24) (N := some 33) (v := undef) (bm 29 33554431) rfl rfl (by kernel_rfl) (fun _ _ _ h => h) (Or.inr ⟨by rfl, rfl⟩) rfl ?_
  refine pure_ (i := 25) (N := some 34) (v := undef) (bm 29 67108863) rfl rfl (by kernel_rfl) (fun _ _ _ h => h) (Or.inr ⟨by rfl, rfl⟩) rfl ?_
  refine norm_ (a' := ?_) ?_ ?_
  rotate_left
  · simp only [Act.put, List.setIfInBounds_toArray, List.set_cons_zero, List.set_cons_succ]
    rfl
  refine pure_ (i := 26) (N := some 35) (v := ?_) (a' := ?_) (bm 29 134217727) rfl rfl (by kernel_rfl) (fun _ _ _ h => h) (Or.inl ⟨by rfl, ?_⟩) ?_ ?_
  rotate_left
  · intro w'
    go_simp
    with_reducible rfl
  rotate_left
  · simp only [Act.put, List.setIfInBounds_toArray, List.set_cons_zero, List.set_cons_succ, i64_w, i32_w]
    rfl
  obtain ⟨q0, q1, q2, q3⟩ := core_cells HS9.out.d.b1
  have i0 := blk_frozen HS9.out.d.b1 0; have i1 := blk_frozen HS9.out.d.b1 1; have i2 := blk_frozen HS9.out.d.b1 2; have i3 := blk_frozen HS9.out.d.b1 3
  have hs6 : w.heap.size + 1 < w9.heap.size := blk_lt HS9.out.d.b1
  refine one_ (i := 27) (N := none) (bm 29 268435455) rfl rfl (by kernel_rfl) (by decide) (fun K hK => ?_)
  refine skip_ (w1 := ?_) (by rfl) rfl ?_ ?_
  rotate_left
  · go_simp
    rfl
  refine hK.out _ _ (HS9.out.held4 _ _ _ _) (fun hHeld => ?_)
  clear hK K
  refine pure_ (i := 28) (N := some 3) (v := ?_) (a' := ?_) (bm 29 536870911) rfl rfl (by kernel_rfl) (fun _ _ _ h => h) (Or.inl ⟨by rfl, ?_⟩) ?_ ?_
  rotate_left
  · intro w'
    go_simp
    with_reducible rfl
  rotate_left
  · simp only [Act.put, List.setIfInBounds_toArray, List.set_cons_zero, List.set_cons_succ, i64_w, i32_w]
    rfl
  refine done_ (by kernel_rfl) ?_
  go_wp2
  refine bodyPost_ret (v := .tuple #[.agg #[.int .i64 a.f0, .int .i64 a.f1, .string a.f2, .slice Aa a.f3.length ca], .bool true]) (by simp [results, Tryz.f84, go_sem, q0, q1, q2, q3, hs6]) rfl ?_
  exact HS9.out.d.fin hla HFa.out true _ _ _ _
set_option maxRecDepth 100000 in
set_option maxHeartbeats 2000000 in
theorem settled16f (x a : Core) (l : List Core) (hl : x.f3 = a :: l) (ho : x.f0 = 16) (ha : (a.f0 == 2 && a.f1 == 1) = false) (P : Nat → Prop) (A : Option Addr) (c : Nat) (w : World) (hF : Kd.F k24 w P A x.f3.length x.f3) (_hc : x.f3.length ≤ c) :
    Calls Tryz.prog 84 #[.agg #[.int .i64 x.f0, .int .i64 x.f1, .string x.f2, .slice A x.f3.length c]] w fun q w' =>
      ∃ v : Value, q = .returned (.tuple #[.agg #[.int .i64 a.f0, .int .i64 a.f1, .string a.f2, v], .bool false]) ∧ Kd.V k24 24 w' w.heap.size (fun k => P k ∨ w.heap.size ≤ k) v a.f3 ∧ Below w.heap.size w w' := by
  obtain ⟨ad, Aa, ca, hA, hb0, ⟨a0, a1, a2, a3⟩, hla, hFa⟩ := first_kid hF hl
  have hb1 : ad.block < w.heap.size + 1 := by omega
  have hb2 : ad.block < w.heap.size + 1 + 1 := by omega
  have hb3 : ad.block < w.heap.size + 1 + 1 + 1 := by omega
  have hlen : 0 < x.f3.length := by rw [hl]; simp
  have hlen1 : 1 ≤ x.f3.length := hlen
  have hleni : (0 : Int) < (x.f3.length : Int) := by omega
  subst hA
  have t15 : (x.f0 == 15) = false := beq_eq_false_iff_ne.2 (by omega)
  have t16 : (x.f0 == 16) = true := beq_iff_eq.2 ho
  have t25 : (x.f0 == 25) = false := beq_eq_false_iff_ne.2 (by omega)
  have hk : ∀ W, Calls Tryz.prog 146 #[.agg #[.int .i64 a.f0, .int .i64 a.f1, .string a.f2, .slice Aa a.f3.length ca], .int .i64 1] W fun e w' => e = .returned (.bool false) ∧ w' = W.alloc (.cells #[.int .i64 a.f0, .int .i64 a.f1, .string a.f2, .slice Aa a.f3.length ca] 24) := fun W => by rw [← ha]; exact isBool_is _ _ _ _ _ _ _ W
  have HK := Lib.hid hk
  clear hk ha
  have HF := Lib.hid hF; have HFa := Lib.hid hFa
  clear hF hFa hl ho
  go_enter Tryz.func84, Tryz.ntmps84
  go_wp2
  obtain ⟨w3, ew3⟩ : ∃ w3, (((w.alloc (.cells #[.int .i64 x.f0, .int .i64 x.f1, .string x.f2, .slice (some ad) x.f3.length c] 24)).alloc (.cells #[.int .i64 0, .int .i64 0, .string ⟨#[]⟩, .slice none 0 0] 24)).alloc (.cells #[.int .i64 a.f0, .int .i64 a.f1, .string a.f2, .slice Aa a.f3.length ca] 24)) = w3 := ⟨_, rfl⟩
  have hS : SInv w (some ad) c x a Aa ca w3 := by rw [← ew3]; exact SInv.new w (some ad) c x a Aa ca
  rw [ew3]
  have HS := Lib.hid hS.drew
  clear ew3 hS a0 a1 a2 a3 hb0 hb1 hb2 hb3
  refine start_ (n := 29) (S := fun w' => w'.cell? ⟨w.heap.size, 0, none⟩ = some (.int .i64 x.f0) ∧ w'.cell? ⟨w.heap.size + 1 + 1, 0, none⟩ = some (.int .i64 a.f0) ∧ w'.cell? ⟨w.heap.size + 1 + 1, 1, none⟩ = some (.int .i64 a.f1) ∧ w'.cell? ⟨w.heap.size + 1 + 1, 2, none⟩ = some (.string a.f2) ∧ w'.cell? ⟨w.heap.size + 1 + 1, 3, none⟩ = some (.slice Aa a.f3.length ca)) (ds := []) (bm 29 0) (by kernel_rfl) rfl (by kernel_rfl) HS.out.held (fun hHeld => ?_)
  generalize w3.drew = w4 at HS hHeld ⊢
  refine take_ (i := 0) (N := some 9) (v := ?_) (a' := ?_) (bm 29 1) rfl rfl (by kernel_rfl) (fun _ _ _ h => h) (Or.inl ⟨by rfl, ?_⟩) hHeld ?_ ?_
  rotate_left
  · rintro w' ⟨s0, s1, s2, s3, s4⟩
    go_simp
    with_reducible rfl
  rotate_left
  · simp only [Act.put, List.setIfInBounds_toArray, List.set_cons_zero, List.set_cons_succ, i64_w, i32_w]
    rfl
  refine pure_ (i := 1) (N := some 10) (v := ?_) (a' := ?_) (bm 29 3) rfl rfl (by kernel_rfl) (fun _ _ _ h => h) (Or.inl ⟨by rfl, ?_⟩) ?_ ?_
  rotate_left
  · intro w'
    go_simp
    with_reducible rfl
  rotate_left
  · simp only [Act.put, List.setIfInBounds_toArray, List.set_cons_zero, List.set_cons_succ, i64_w, i32_w]
    rfl
  refine take_ (i := 2) (N := some 11) (v := ?_) (a' := ?_) (bm 29 7) rfl rfl (by kernel_rfl) (fun _ _ _ h => h) (Or.inl ⟨by rfl, ?_⟩) hHeld ?_ ?_
  rotate_left
  · rintro w' ⟨s0, s1, s2, s3, s4⟩
    go_simp
    with_reducible rfl
  rotate_left
  · simp only [Act.put, List.setIfInBounds_toArray, List.set_cons_zero, List.set_cons_succ, i64_w, i32_w]
    rfl
  refine pure_ (i := 3) (N := some 12) (v := ?_) (a' := ?_) (bm 29 15) rfl rfl (by kernel_rfl) (fun _ _ _ h => h) (Or.inl ⟨by rfl, ?_⟩) ?_ ?_
  rotate_left
  · intro w'
    go_simp
    with_reducible rfl
  rotate_left
  · simp only [Act.put, List.setIfInBounds_toArray, List.set_cons_zero, List.set_cons_succ, i64_w, i32_w]
    rfl
  refine pure_ (i := 4) (N := some 13) (v := ?_) (a' := ?_) (bm 29 31) rfl rfl (by kernel_rfl) (fun _ _ _ h => h) (Or.inl ⟨by rfl, ?_⟩) ?_ ?_
  rotate_left
  · intro w'
    go_simp
    with_reducible rfl
  rotate_left
  · simp only [Act.put, List.setIfInBounds_toArray, List.set_cons_zero, List.set_cons_succ, i64_w, i32_w]
    rfl
  refine pure_ (i := 5) (N := some 14) (v := undef) (bm 29 63) rfl rfl (by kernel_rfl) (fun _ _ _ h => h) (Or.inr ⟨by rfl, rfl⟩) rfl ?_
  refine pure_ (i := 6) (N := some 15) (v := undef) (bm 29 127) rfl rfl (by kernel_rfl) (fun _ _ _ h => h) (Or.inr ⟨by rfl, rfl⟩) rfl ?_
  refine norm_ (a' := ?_) ?_ ?_
  rotate_left
  · simp only [Act.put, List.setIfInBounds_toArray, List.set_cons_zero, List.set_cons_succ]
    rfl
  refine pure_ (i := 7) (N := some 16) (v := ?_) (a' := ?_) (bm 29 255) rfl rfl (by kernel_rfl) (fun _ _ _ h => h) (Or.inl ⟨by rfl, ?_⟩) ?_ ?_
  rotate_left
  · intro w'
    go_simp
    with_reducible rfl
  rotate_left
  · simp only [Act.put, List.setIfInBounds_toArray, List.set_cons_zero, List.set_cons_succ, i64_w, i32_w]
    rfl
  refine pure_ (i := 8) (N := some 17) (v := ?_) (a' := ?_) (bm 29 511) rfl rfl (by kernel_rfl) (fun _ _ _ h => h) (Or.inl ⟨by rfl, ?_⟩) ?_ ?_
  rotate_left
  · intro w'
    go_simp
    with_reducible rfl
  rotate_left
  · simp only [Act.put, List.setIfInBounds_toArray, List.set_cons_zero, List.set_cons_succ, i64_w, i32_w]
    rfl
  refine pure_ (i := 9) (N := some 18) (v := ?_) (a' := ?_) (bm 29 1023) rfl rfl (by kernel_rfl) (fun _ _ _ h => h) (Or.inl ⟨by rfl, ?_⟩) ?_ ?_
  rotate_left
  · intro w'
    go_simp
    with_reducible rfl
  rotate_left
  · simp only [Act.put, List.setIfInBounds_toArray, List.set_cons_zero, List.set_cons_succ, i64_w, i32_w]
    rfl
  refine take_ (i := 10) (N := some 19) (v := ?_) (a' := ?_) (bm 29 2047) rfl rfl (by kernel_rfl) (fun _ _ _ h => h) (Or.inl ⟨by rfl, ?_⟩) hHeld ?_ ?_
  rotate_left
  · rintro w' ⟨s0, s1, s2, s3, s4⟩
    go_simp
    with_reducible rfl
  rotate_left
  · simp only [Act.put, List.setIfInBounds_toArray, List.set_cons_zero, List.set_cons_succ, i64_w, i32_w]
    rfl
  refine pure_ (i := 11) (N := some 20) (v := ?_) (a' := ?_) (bm 29 4095) rfl rfl (by kernel_rfl) (fun _ _ _ h => h) (Or.inl ⟨by rfl, ?_⟩) ?_ ?_
  rotate_left
  · intro w'
    go_simp
    with_reducible rfl
  rotate_left
  · simp only [Act.put, List.setIfInBounds_toArray, List.set_cons_zero, List.set_cons_succ, i64_w, i32_w]
    rfl
  refine pure_ (i := 12) (N := some 21) (v := ?_) (a' := ?_) (bm 29 8191) rfl rfl (by kernel_rfl) (fun _ _ _ h => h) (Or.inl ⟨by rfl, ?_⟩) ?_ ?_
  rotate_left
  · intro w'
    go_simp
    with_reducible rfl
  rotate_left
  · simp only [Act.put, List.setIfInBounds_toArray, List.set_cons_zero, List.set_cons_succ, i64_w, i32_w]
    rfl
  refine take_ (i := 13) (N := some 22) (v := ?_) (a' := ?_) (bm 29 16383) rfl rfl (by kernel_rfl) (fun _ _ _ h => h) (Or.inl ⟨by rfl, ?_⟩) hHeld ?_ ?_
  rotate_left
  · rintro w' ⟨s0, s1, s2, s3, s4⟩
    go_simp
    with_reducible rfl
  rotate_left
  · simp only [Act.put, List.setIfInBounds_toArray, List.set_cons_zero, List.set_cons_succ, i64_w, i32_w]
    rfl
  refine one_ (i := 14) (N := some 23) (bm 29 32767) rfl rfl (by kernel_rfl) (by decide) (fun K hK => ?_)
  refine goes_ Tryz.func146 (by kernel_rfl) rfl #[.agg #[.int .i64 a.f0, .int .i64 a.f1, .string a.f2, .slice Aa a.f3.length ca], .int .i64 1] (by rfl) rfl rfl (by (try simp only [List.map_toArray, List.map_cons, List.map_nil]); first | done | rfl) ?_
  refine (HK.out _).mono ?_
  rintro e w9 ⟨rfl, ew9⟩
  refine ⟨_, rfl, ?_⟩
  have HS9 := Lib.hid (HS.out.below (W' := w9) (by rw [ew9]; exact below_alloc (Below.refl _ _) _))
  clear ew9 HS
  refine hK.out _ _ HS9.out.held (fun hHeld => ?_)
  clear hK K
  refine norm_ (a' := ?_) ?_ ?_
  rotate_left
  · show Act.put _ (some 23) _ = _
    simp only [Act.put, List.setIfInBounds_toArray, List.set_cons_zero, List.set_cons_succ, i64_w, i32_w]
    rfl
  refine pure_ (i := 15) (N := some 24) (v := ?_) (a' := ?_) (bm 29 65535) rfl rfl (by kernel_rfl) (fun _ _ _ h => h) (Or.inl ⟨by rfl, ?_⟩) ?_ ?_
  rotate_left
  · intro w'
    go_simp
    with_reducible rfl
  rotate_left
  · simp only [Act.put, List.setIfInBounds_toArray, List.set_cons_zero, List.set_cons_succ, i64_w, i32_w]
    rfl
  refine pure_ (i := 16) (N := some 25) (v := ?_) (a' := ?_) (bm 29 131071) rfl rfl (by kernel_rfl) (fun _ _ _ h => h) (Or.inl ⟨by rfl, ?_⟩) ?_ ?_
  rotate_left
  · intro w'
    go_simp
    with_reducible rfl
  rotate_left
  · simp only [Act.put, List.setIfInBounds_toArray, List.set_cons_zero, List.set_cons_succ, i64_w, i32_w]
    rfl
  refine pure_ (i := 17) (N := some 26) (v := ?_) (a' := ?_) (bm 29 262143) rfl rfl (by kernel_rfl) (fun _ _ _ h => h) (Or.inl ⟨by rfl, ?_⟩) ?_ ?_
  rotate_left
  · intro w'
    go_simp
    with_reducible rfl
  rotate_left
  · simp only [Act.put, List.setIfInBounds_toArray, List.set_cons_zero, List.set_cons_succ, i64_w, i32_w]
    rfl
  refine pure_ (i := 18) (N := some 27) (v := ?_) (a' := ?_) (bm 29 524287) rfl rfl (by kernel_rfl) (fun _ _ _ h => h) (Or.inl ⟨by rfl, ?_⟩) ?_ ?_
  rotate_left
  · intro w'
    go_simp
    with_reducible rfl
  rotate_left
  · simp only [Act.put, List.setIfInBounds_toArray, List.set_cons_zero, List.set_cons_succ, i64_w, i32_w]
    rfl
  refine take_ (i := 19) (N := some 28) (v := ?_) (a' := ?_) (bm 29 1048575) rfl rfl (by kernel_rfl) (fun _ _ _ h => h) (Or.inl ⟨by rfl, ?_⟩) hHeld ?_ ?_
  rotate_left
  · rintro w' ⟨s0, s1, s2, s3, s4⟩
    go_simp
    with_reducible rfl
  rotate_left
  · simp only [Act.put, List.setIfInBounds_toArray, List.set_cons_zero, List.set_cons_succ, i64_w, i32_w]
    rfl
  refine pure_ (i := 20) (N := some 29) (v := ?_) (a' := ?_) (bm 29 2097151) rfl rfl (by kernel_rfl) (fun _ _ _ h => h) (Or.inl ⟨by rfl, ?_⟩) ?_ ?_
  rotate_left
  · intro w'
    go_simp
    with_reducible rfl
  rotate_left
  · simp only [Act.put, List.setIfInBounds_toArray, List.set_cons_zero, List.set_cons_succ, i64_w, i32_w]
    rfl
  refine pure_ (i := 21) (N := some 30) (v := ?_) (a' := ?_) (bm 29 4194303) rfl rfl (by kernel_rfl) (fun _ _ _ h => h) (Or.inl ⟨by rfl, ?_⟩) ?_ ?_
  rotate_left
  · intro w'
    go_simp
    with_reducible rfl
  rotate_left
  · simp only [Act.put, List.setIfInBounds_toArray, List.set_cons_zero, List.set_cons_succ, i64_w, i32_w]
    rfl
  refine pure_ (i := 22) (N := some 31) (v := undef) (bm 29 8388607) rfl rfl (by kernel_rfl) (fun _ _ _ h => h) (Or.inr ⟨by rfl, rfl⟩) rfl ?_
  refine pure_ (i := 23) (N := some 32) (v := undef) (bm 29 16777215) rfl rfl (by kernel_rfl) (fun _ _ _ h => h) (Or.inr ⟨by rfl, rfl⟩) rfl ?_
  refine pure_ (i := 24) (N := some 33) (v := undef) (bm 29 33554431) rfl rfl (by kernel_rfl) (fun _ _ _ h => h) (Or.inr ⟨by rfl, rfl⟩) rfl ?_
  refine norm_ (a' := ?_) ?_ ?_
  rotate_left
  · simp only [Act.put, List.setIfInBounds_toArray, List.set_cons_zero, List.set_cons_succ]
    rfl
  refine pure_ (i := 25) (N := some 34) (v := ?_) (a' := ?_) (bm 29 67108863) rfl rfl (by kernel_rfl) (fun _ _ _ h => h) (Or.inl ⟨by rfl, ?_⟩) ?_ ?_
  rotate_left
  · intro w'
    go_simp
    with_reducible rfl
  rotate_left
  · simp only [Act.put, List.setIfInBounds_toArray, List.set_cons_zero, List.set_cons_succ, i64_w, i32_w]
    rfl
  refine pure_ (i := 26) (N := some 35) (v := ?_) (a' := ?_) (bm 29 134217727) rfl rfl (by kernel_rfl) (fun _ _ _ h => h) (Or.inl ⟨by rfl, ?_⟩) ?_ ?_
  rotate_left
  · intro w'
    go_simp
    with_reducible rfl
  rotate_left
  · simp only [Act.put, List.setIfInBounds_toArray, List.set_cons_zero, List.set_cons_succ, i64_w, i32_w]
    rfl
  obtain ⟨q0, q1, q2, q3⟩ := core_cells HS9.out.d.b1
  have i0 := blk_frozen HS9.out.d.b1 0; have i1 := blk_frozen HS9.out.d.b1 1; have i2 := blk_frozen HS9.out.d.b1 2; have i3 := blk_frozen HS9.out.d.b1 3
  have hs6 : w.heap.size + 1 < w9.heap.size := blk_lt HS9.out.d.b1
  refine one_ (i := 27) (N := none) (bm 29 268435455) rfl rfl (by kernel_rfl) (by decide) (fun K hK => ?_)
  refine skip_ (w1 := ?_) (by rfl) rfl ?_ ?_
  rotate_left
  · go_simp
    rfl
  refine hK.out _ _ (HS9.out.held4 _ _ _ _) (fun hHeld => ?_)
  clear hK K
  refine pure_ (i := 28) (N := some 3) (v := ?_) (a' := ?_) (bm 29 536870911) rfl rfl (by kernel_rfl) (fun _ _ _ h => h) (Or.inl ⟨by rfl, ?_⟩) ?_ ?_
  rotate_left
  · intro w'
    go_simp
    with_reducible rfl
  rotate_left
  · simp only [Act.put, List.setIfInBounds_toArray, List.set_cons_zero, List.set_cons_succ, i64_w, i32_w]
    rfl
  refine done_ (by kernel_rfl) ?_
  go_wp2
  refine bodyPost_ret (v := .tuple #[.agg #[.int .i64 a.f0, .int .i64 a.f1, .string a.f2, .slice Aa a.f3.length ca], .bool false]) (by simp [results, Tryz.f84, go_sem, q0, q1, q2, q3, hs6]) rfl ?_
  exact HS9.out.d.fin hla HFa.out false _ _ _ _
set_option maxRecDepth 100000 in
set_option maxHeartbeats 2000000 in
theorem settled25 (x a : Core) (l : List Core) (hl : x.f3 = a :: l) (ho : x.f0 = 25) (P : Nat → Prop) (A : Option Addr) (c : Nat) (w : World) (hF : Kd.F k24 w P A x.f3.length x.f3) (_hc : x.f3.length ≤ c) :
    Calls Tryz.prog 84 #[.agg #[.int .i64 x.f0, .int .i64 x.f1, .string x.f2, .slice A x.f3.length c]] w fun q w' =>
      ∃ v : Value, q = .returned (.tuple #[.agg #[.int .i64 a.f0, .int .i64 a.f1, .string a.f2, v], .bool (a.f0 == 23)]) ∧ Kd.V k24 24 w' w.heap.size (fun k => P k ∨ w.heap.size ≤ k) v a.f3 ∧ Below w.heap.size w w' := by
  obtain ⟨ad, Aa, ca, hA, hb0, ⟨a0, a1, a2, a3⟩, hla, hFa⟩ := first_kid hF hl
  have hb1 : ad.block < w.heap.size + 1 := by omega
  have hb2 : ad.block < w.heap.size + 1 + 1 := by omega
  have hb3 : ad.block < w.heap.size + 1 + 1 + 1 := by omega
  have hlen : 0 < x.f3.length := by rw [hl]; simp
  have hlen1 : 1 ≤ x.f3.length := hlen
  have hleni : (0 : Int) < (x.f3.length : Int) := by omega
  subst hA
  have t15 : (x.f0 == 15) = false := beq_eq_false_iff_ne.2 (by omega)
  have t16 : (x.f0 == 16) = false := beq_eq_false_iff_ne.2 (by omega)
  have t25 : (x.f0 == 25) = true := beq_iff_eq.2 ho
  obtain ⟨r, er⟩ : ∃ r, (a.f0 == 23) = r := ⟨_, rfl⟩
  rw [er]
  have HF := Lib.hid hF; have HFa := Lib.hid hFa
  clear hF hFa hl ho
  go_enter Tryz.func84, Tryz.ntmps84
  go_wp2
  obtain ⟨w3, ew3⟩ : ∃ w3, (((w.alloc (.cells #[.int .i64 x.f0, .int .i64 x.f1, .string x.f2, .slice (some ad) x.f3.length c] 24)).alloc (.cells #[.int .i64 0, .int .i64 0, .string ⟨#[]⟩, .slice none 0 0] 24)).alloc (.cells #[.int .i64 a.f0, .int .i64 a.f1, .string a.f2, .slice Aa a.f3.length ca] 24)) = w3 := ⟨_, rfl⟩
  have hS : SInv w (some ad) c x a Aa ca w3 := by rw [← ew3]; exact SInv.new w (some ad) c x a Aa ca
  rw [ew3]
  have HS := Lib.hid hS.drew
  clear ew3 hS a0 a1 a2 a3 hb0 hb1 hb2 hb3
  refine start_ (n := 29) (S := fun w' => w'.cell? ⟨w.heap.size, 0, none⟩ = some (.int .i64 x.f0) ∧ w'.cell? ⟨w.heap.size + 1 + 1, 0, none⟩ = some (.int .i64 a.f0) ∧ w'.cell? ⟨w.heap.size + 1 + 1, 1, none⟩ = some (.int .i64 a.f1) ∧ w'.cell? ⟨w.heap.size + 1 + 1, 2, none⟩ = some (.string a.f2) ∧ w'.cell? ⟨w.heap.size + 1 + 1, 3, none⟩ = some (.slice Aa a.f3.length ca)) (ds := []) (bm 29 0) (by kernel_rfl) rfl (by kernel_rfl) HS.out.held (fun hHeld => ?_)
  generalize w3.drew = w4 at HS hHeld ⊢
  refine take_ (i := 0) (N := some 9) (v := ?_) (a' := ?_) (bm 29 1) rfl rfl (by kernel_rfl) (fun _ _ _ h => h) (Or.inl ⟨by rfl, ?_⟩) hHeld ?_ ?_
  rotate_left
  · rintro w' ⟨s0, s1, s2, s3, s4⟩
    go_simp
    with_reducible rfl
  rotate_left
  · simp only [Act.put, List.setIfInBounds_toArray, List.set_cons_zero, List.set_cons_succ, i64_w, i32_w]
    rfl
  refine pure_ (i := 1) (N := some 10) (v := ?_) (a' := ?_) (bm 29 3) rfl rfl (by kernel_rfl) (fun _ _ _ h => h) (Or.inl ⟨by rfl, ?_⟩) ?_ ?_
  rotate_left
  · intro w'
    go_simp
    with_reducible rfl
  rotate_left
  · simp only [Act.put, List.setIfInBounds_toArray, List.set_cons_zero, List.set_cons_succ, i64_w, i32_w]
    rfl
  refine take_ (i := 2) (N := some 11) (v := ?_) (a' := ?_) (bm 29 7) rfl rfl (by kernel_rfl) (fun _ _ _ h => h) (Or.inl ⟨by rfl, ?_⟩) hHeld ?_ ?_
  rotate_left
  · rintro w' ⟨s0, s1, s2, s3, s4⟩
    go_simp
    with_reducible rfl
  rotate_left
  · simp only [Act.put, List.setIfInBounds_toArray, List.set_cons_zero, List.set_cons_succ, i64_w, i32_w]
    rfl
  refine pure_ (i := 3) (N := some 12) (v := ?_) (a' := ?_) (bm 29 15) rfl rfl (by kernel_rfl) (fun _ _ _ h => h) (Or.inl ⟨by rfl, ?_⟩) ?_ ?_
  rotate_left
  · intro w'
    go_simp
    with_reducible rfl
  rotate_left
  · simp only [Act.put, List.setIfInBounds_toArray, List.set_cons_zero, List.set_cons_succ, i64_w, i32_w]
    rfl
  refine pure_ (i := 4) (N := some 13) (v := ?_) (a' := ?_) (bm 29 31) rfl rfl (by kernel_rfl) (fun _ _ _ h => h) (Or.inl ⟨by rfl, ?_⟩) ?_ ?_
  rotate_left
  · intro w'
    go_simp
    with_reducible rfl
  rotate_left
  · simp only [Act.put, List.setIfInBounds_toArray, List.set_cons_zero, List.set_cons_succ, i64_w, i32_w]
    rfl
  refine pure_ (i := 5) (N := some 14) (v := undef) (bm 29 63) rfl rfl (by kernel_rfl) (fun _ _ _ h => h) (Or.inr ⟨by rfl, rfl⟩) rfl ?_
  refine pure_ (i := 6) (N := some 15) (v := undef) (bm 29 127) rfl rfl (by kernel_rfl) (fun _ _ _ h => h) (Or.inr ⟨by rfl, rfl⟩) rfl ?_
  refine norm_ (a' := ?_) ?_ ?_
  rotate_left
  · simp only [Act.put, List.setIfInBounds_toArray, List.set_cons_zero, List.set_cons_succ]
    rfl
  refine pure_ (i := 7) (N := some 16) (v := ?_) (a' := ?_) (bm 29 255) rfl rfl (by kernel_rfl) (fun _ _ _ h => h) (Or.inl ⟨by rfl, ?_⟩) ?_ ?_
  rotate_left
  · intro w'
    go_simp
    with_reducible rfl
  rotate_left
  · simp only [Act.put, List.setIfInBounds_toArray, List.set_cons_zero, List.set_cons_succ, i64_w, i32_w]
    rfl
  refine pure_ (i := 8) (N := some 17) (v := ?_) (a' := ?_) (bm 29 511) rfl rfl (by kernel_rfl) (fun _ _ _ h => h) (Or.inl ⟨by rfl, ?_⟩) ?_ ?_
  rotate_left
  · intro w'
    go_simp
    with_reducible rfl
  rotate_left
  · simp only [Act.put, List.setIfInBounds_toArray, List.set_cons_zero, List.set_cons_succ, i64_w, i32_w]
    rfl
  refine pure_ (i := 9) (N := some 18) (v := ?_) (a' := ?_) (bm 29 1023) rfl rfl (by kernel_rfl) (fun _ _ _ h => h) (Or.inl ⟨by rfl, ?_⟩) ?_ ?_
  rotate_left
  · intro w'
    go_simp
    with_reducible rfl
  rotate_left
  · simp only [Act.put, List.setIfInBounds_toArray, List.set_cons_zero, List.set_cons_succ, i64_w, i32_w]
    rfl
  refine take_ (i := 10) (N := some 19) (v := ?_) (a' := ?_) (bm 29 2047) rfl rfl (by kernel_rfl) (fun _ _ _ h => h) (Or.inl ⟨by rfl, ?_⟩) hHeld ?_ ?_
  rotate_left
  · rintro w' ⟨s0, s1, s2, s3, s4⟩
    go_simp
    with_reducible rfl
  rotate_left
  · simp only [Act.put, List.setIfInBounds_toArray, List.set_cons_zero, List.set_cons_succ, i64_w, i32_w]
    rfl
  refine pure_ (i := 11) (N := some 20) (v := ?_) (a' := ?_) (bm 29 4095) rfl rfl (by kernel_rfl) (fun _ _ _ h => h) (Or.inl ⟨by rfl, ?_⟩) ?_ ?_
  rotate_left
  · intro w'
    go_simp
    with_reducible rfl
  rotate_left
  · simp only [Act.put, List.setIfInBounds_toArray, List.set_cons_zero, List.set_cons_succ, i64_w, i32_w]
    rfl
  refine pure_ (i := 12) (N := some 21) (v := ?_) (a' := ?_) (bm 29 8191) rfl rfl (by kernel_rfl) (fun _ _ _ h => h) (Or.inl ⟨by rfl, ?_⟩) ?_ ?_
  rotate_left
  · intro w'
    go_simp
    with_reducible rfl
  rotate_left
  · simp only [Act.put, List.setIfInBounds_toArray, List.set_cons_zero, List.set_cons_succ, i64_w, i32_w]
    rfl
  refine pure_ (i := 13) (N := some 22) (v := undef) (bm 29 16383) rfl rfl (by kernel_rfl) (fun _ _ _ h => h) (Or.inr ⟨by rfl, rfl⟩) rfl ?_
  refine pure_ (i := 14) (N := some 23) (v := undef) (bm 29 32767) rfl rfl (by kernel_rfl) (fun _ _ _ h => h) (Or.inr ⟨by rfl, rfl⟩) rfl ?_
  refine norm_ (a' := ?_) ?_ ?_
  rotate_left
  · simp only [Act.put, List.setIfInBounds_toArray, List.set_cons_zero, List.set_cons_succ]
    rfl
  refine pure_ (i := 15) (N := some 24) (v := ?_) (a' := ?_) (bm 29 65535) rfl rfl (by kernel_rfl) (fun _ _ _ h => h) (Or.inl ⟨by rfl, ?_⟩) ?_ ?_
  rotate_left
  · intro w'
    go_simp
    with_reducible rfl
  rotate_left
  · simp only [Act.put, List.setIfInBounds_toArray, List.set_cons_zero, List.set_cons_succ, i64_w, i32_w]
    rfl
  refine pure_ (i := 16) (N := some 25) (v := ?_) (a' := ?_) (bm 29 131071) rfl rfl (by kernel_rfl) (fun _ _ _ h => h) (Or.inl ⟨by rfl, ?_⟩) ?_ ?_
  rotate_left
  · intro w'
    go_simp
    with_reducible rfl
  rotate_left
  · simp only [Act.put, List.setIfInBounds_toArray, List.set_cons_zero, List.set_cons_succ, i64_w, i32_w]
    rfl
  refine pure_ (i := 17) (N := some 26) (v := ?_) (a' := ?_) (bm 29 262143) rfl rfl (by kernel_rfl) (fun _ _ _ h => h) (Or.inl ⟨by rfl, ?_⟩) ?_ ?_
  rotate_left
  · intro w'
    go_simp
    with_reducible rfl
  rotate_left
  · simp only [Act.put, List.setIfInBounds_toArray, List.set_cons_zero, List.set_cons_succ, i64_w, i32_w]
    rfl
  refine pure_ (i := 18) (N := some 27) (v := ?_) (a' := ?_) (bm 29 524287) rfl rfl (by kernel_rfl) (fun _ _ _ h => h) (Or.inl ⟨by rfl, ?_⟩) ?_ ?_
  rotate_left
  · intro w'
    go_simp
    with_reducible rfl
  rotate_left
  · simp only [Act.put, List.setIfInBounds_toArray, List.set_cons_zero, List.set_cons_succ, i64_w, i32_w]
    rfl
  refine take_ (i := 19) (N := some 28) (v := ?_) (a' := ?_) (bm 29 1048575) rfl rfl (by kernel_rfl) (fun _ _ _ h => h) (Or.inl ⟨by rfl, ?_⟩) hHeld ?_ ?_
  rotate_left
  · rintro w' ⟨s0, s1, s2, s3, s4⟩
    go_simp
    with_reducible rfl
  rotate_left
  · simp only [Act.put, List.setIfInBounds_toArray, List.set_cons_zero, List.set_cons_succ, i64_w, i32_w]
    rfl
  refine pure_ (i := 20) (N := some 29) (v := ?_) (a' := ?_) (bm 29 2097151) rfl rfl (by kernel_rfl) (fun _ _ _ h => h) (Or.inl ⟨by rfl, ?_⟩) ?_ ?_
  rotate_left
  · intro w'
    go_simp
    with_reducible rfl
  rotate_left
  · simp only [Act.put, List.setIfInBounds_toArray, List.set_cons_zero, List.set_cons_succ, i64_w, i32_w]
    rfl
  refine pure_ (i := 21) (N := some 30) (v := ?_) (a' := ?_) (bm 29 4194303) rfl rfl (by kernel_rfl) (fun _ _ _ h => h) (Or.inl ⟨by rfl, ?_⟩) ?_ ?_
  rotate_left
  · intro w'
    go_simp
    with_reducible rfl
  rotate_left
  · simp only [Act.put, List.setIfInBounds_toArray, List.set_cons_zero, List.set_cons_succ, i64_w, i32_w]
    rfl
  refine pure_ (i := 22) (N := some 31) (v := ?_) (a' := ?_) (bm 29 8388607) rfl rfl (by kernel_rfl) (fun _ _ _ h => h) (Or.inl ⟨by rfl, ?_⟩) ?_ ?_
  rotate_left
  · intro w'
    go_simp
    with_reducible rfl
  rotate_left
  · simp only [Act.put, List.setIfInBounds_toArray, List.set_cons_zero, List.set_cons_succ, i64_w, i32_w]
    rfl
  refine take_ (i := 23) (N := some 32) (v := ?_) (a' := ?_) (bm 29 16777215) rfl rfl (by kernel_rfl) (fun _ _ _ h => h) (Or.inl ⟨by rfl, ?_⟩) hHeld ?_ ?_
  rotate_left
  · rintro w' ⟨s0, s1, s2, s3, s4⟩
    go_simp
    with_reducible rfl
  rotate_left
  · simp only [Act.put, List.setIfInBounds_toArray, List.set_cons_zero, List.set_cons_succ, i64_w, i32_w]
    rfl
  refine pure_ (i := 24) (N := some 33) (v := ?_) (a' := ?_) (bm 29 33554431) rfl rfl (by kernel_rfl) (fun _ _ _ h => h) (Or.inl ⟨by rfl, ?_⟩) ?_ ?_
  rotate_left
  · intro w'
    go_simp
    with_reducible rfl
  rotate_left
  · simp only [Act.put, List.setIfInBounds_toArray, List.set_cons_zero, List.set_cons_succ, i64_w, i32_w]
    rfl
  refine pure_ (i := 25) (N := some 34) (v := ?_) (a' := ?_) (bm 29 67108863) rfl rfl (by kernel_rfl) (fun _ _ _ h => h) (Or.inl ⟨by rfl, ?_⟩) ?_ ?_
  rotate_left
  · intro w'
    go_simp
    with_reducible rfl
  rotate_left
  · simp only [Act.put, List.setIfInBounds_toArray, List.set_cons_zero, List.set_cons_succ, i64_w, i32_w]
    rfl
  refine pure_ (i := 26) (N := some 35) (v := ?_) (a' := ?_) (bm 29 134217727) rfl rfl (by kernel_rfl) (fun _ _ _ h => h) (Or.inl ⟨by rfl, ?_⟩) ?_ ?_
  rotate_left
  · intro w'
    go_simp
    with_reducible rfl
  rotate_left
  · simp only [Act.put, List.setIfInBounds_toArray, List.set_cons_zero, List.set_cons_succ, i64_w, i32_w]
    rfl
  obtain ⟨q0, q1, q2, q3⟩ := core_cells HS.out.d.b1
  have i0 := blk_frozen HS.out.d.b1 0; have i1 := blk_frozen HS.out.d.b1 1; have i2 := blk_frozen HS.out.d.b1 2; have i3 := blk_frozen HS.out.d.b1 3
  have hs6 : w.heap.size + 1 < w4.heap.size := blk_lt HS.out.d.b1
  refine one_ (i := 27) (N := none) (bm 29 268435455) rfl rfl (by kernel_rfl) (by decide) (fun K hK => ?_)
  refine skip_ (w1 := ?_) (by rfl) rfl ?_ ?_
  rotate_left
  · go_simp
    rfl
  refine hK.out _ _ (HS.out.held4 _ _ _ _) (fun hHeld => ?_)
  clear hK K
  refine pure_ (i := 28) (N := some 3) (v := ?_) (a' := ?_) (bm 29 536870911) rfl rfl (by kernel_rfl) (fun _ _ _ h => h) (Or.inl ⟨by rfl, ?_⟩) ?_ ?_
  rotate_left
  · intro w'
    go_simp
    with_reducible rfl
  rotate_left
  · simp only [Act.put, List.setIfInBounds_toArray, List.set_cons_zero, List.set_cons_succ, i64_w, i32_w]
    rfl
  refine done_ (by kernel_rfl) ?_
  go_wp2
  refine bodyPost_ret (v := .tuple #[.agg #[.int .i64 a.f0, .int .i64 a.f1, .string a.f2, .slice Aa a.f3.length ca], .bool r]) (by simp [results, Tryz.f84, go_sem, q0, q1, q2, q3, hs6]) rfl ?_
  exact HS.out.d.fin hla HFa.out r _ _ _ _
set_option maxRecDepth 100000 in
set_option maxHeartbeats 2000000 in
theorem settled0 (x a : Core) (l : List Core) (hl : x.f3 = a :: l) (h15 : x.f0 ≠ 15) (h16 : x.f0 ≠ 16) (h25 : x.f0 ≠ 25) (P : Nat → Prop) (A : Option Addr) (c : Nat) (w : World) (hF : Kd.F k24 w P A x.f3.length x.f3) (_hc : x.f3.length ≤ c) :
    Calls Tryz.prog 84 #[.agg #[.int .i64 x.f0, .int .i64 x.f1, .string x.f2, .slice A x.f3.length c]] w fun q w' =>
      ∃ v : Value, q = .returned (.tuple #[.agg #[.int .i64 a.f0, .int .i64 a.f1, .string a.f2, v], .bool false]) ∧ Kd.V k24 24 w' w.heap.size (fun k => P k ∨ w.heap.size ≤ k) v a.f3 ∧ Below w.heap.size w w' := by
  obtain ⟨ad, Aa, ca, hA, hb0, ⟨a0, a1, a2, a3⟩, hla, hFa⟩ := first_kid hF hl
  have hb1 : ad.block < w.heap.size + 1 := by omega
  have hb2 : ad.block < w.heap.size + 1 + 1 := by omega
  have hb3 : ad.block < w.heap.size + 1 + 1 + 1 := by omega
  have hlen : 0 < x.f3.length := by rw [hl]; simp
  have hlen1 : 1 ≤ x.f3.length := hlen
  have hleni : (0 : Int) < (x.f3.length : Int) := by omega
  subst hA
  have t15 : (x.f0 == 15) = false := beq_eq_false_iff_ne.2 (by omega)
  have t16 : (x.f0 == 16) = false := beq_eq_false_iff_ne.2 (by omega)
  have t25 : (x.f0 == 25) = false := beq_eq_false_iff_ne.2 (by omega)
  have HF := Lib.hid hF; have HFa := Lib.hid hFa
  clear hF hFa hl h15 h16 h25
  go_enter Tryz.func84, Tryz.ntmps84
  go_wp2
  obtain ⟨w3, ew3⟩ : ∃ w3, (((w.alloc (.cells #[.int .i64 x.f0, .int .i64 x.f1, .string x.f2, .slice (some ad) x.f3.length c] 24)).alloc (.cells #[.int .i64 0, .int .i64 0, .string ⟨#[]⟩, .slice none 0 0] 24)).alloc (.cells #[.int .i64 a.f0, .int .i64 a.f1, .string a.f2, .slice Aa a.f3.length ca] 24)) = w3 := ⟨_, rfl⟩
  have hS : SInv w (some ad) c x a Aa ca w3 := by rw [← ew3]; exact SInv.new w (some ad) c x a Aa ca
  rw [ew3]
  have HS := Lib.hid hS.drew
  clear ew3 hS a0 a1 a2 a3 hb0 hb1 hb2 hb3
  refine start_ (n := 29) (S := fun w' => w'.cell? ⟨w.heap.size, 0, none⟩ = some (.int .i64 x.f0) ∧ w'.cell? ⟨w.heap.size + 1 + 1, 0, none⟩ = some (.int .i64 a.f0) ∧ w'.cell? ⟨w.heap.size + 1 + 1, 1, none⟩ = some (.int .i64 a.f1) ∧ w'.cell? ⟨w.heap.size + 1 + 1, 2, none⟩ = some (.string a.f2) ∧ w'.cell? ⟨w.heap.size + 1 + 1, 3, none⟩ = some (.slice Aa a.f3.length ca)) (ds := []) (bm 29 0) (by kernel_rfl) rfl (by kernel_rfl) HS.out.held (fun hHeld => ?_)
  generalize w3.drew = w4 at HS hHeld ⊢
  refine take_ (i := 0) (N := some 9) (v := ?_) (a' := ?_) (bm 29 1) rfl rfl (by kernel_rfl) (fun _ _ _ h => h) (Or.inl ⟨by rfl, ?_⟩) hHeld ?_ ?_
  rotate_left
  · rintro w' ⟨s0, s1, s2, s3, s4⟩
    go_simp
    with_reducible rfl
  rotate_left
  · simp only [Act.put, List.setIfInBounds_toArray, List.set_cons_zero, List.set_cons_succ, i64_w, i32_w]
    rfl
  refine pure_ (i := 1) (N := some 10) (v := ?_) (a' := ?_) (bm 29 3) rfl rfl (by kernel_rfl) (fun _ _ _ h => h) (Or.inl ⟨by rfl, ?_⟩) ?_ ?_
  rotate_left
  · intro w'
    go_simp
    with_reducible rfl
  rotate_left
  · simp only [Act.put, List.setIfInBounds_toArray, List.set_cons_zero, List.set_cons_succ, i64_w, i32_w]
    rfl
  refine take_ (i := 2) (N := some 11) (v := ?_) (a' := ?_) (bm 29 7) rfl rfl (by kernel_rfl) (fun _ _ _ h => h) (Or.inl ⟨by rfl, ?_⟩) hHeld ?_ ?_
  rotate_left
  · rintro w' ⟨s0, s1, s2, s3, s4⟩
    go_simp
    with_reducible rfl
  rotate_left
  · simp only [Act.put, List.setIfInBounds_toArray, List.set_cons_zero, List.set_cons_succ, i64_w, i32_w]
    rfl
  refine pure_ (i := 3) (N := some 12) (v := ?_) (a' := ?_) (bm 29 15) rfl rfl (by kernel_rfl) (fun _ _ _ h => h) (Or.inl ⟨by rfl, ?_⟩) ?_ ?_
  rotate_left
  · intro w'
    go_simp
    with_reducible rfl
  rotate_left
  · simp only [Act.put, List.setIfInBounds_toArray, List.set_cons_zero, List.set_cons_succ, i64_w, i32_w]
    rfl
  refine pure_ (i := 4) (N := some 13) (v := ?_) (a' := ?_) (bm 29 31) rfl rfl (by kernel_rfl) (fun _ _ _ h => h) (Or.inl ⟨by rfl, ?_⟩) ?_ ?_
  rotate_left
  · intro w'
    go_simp
    with_reducible rfl
  rotate_left
  · simp only [Act.put, List.setIfInBounds_toArray, List.set_cons_zero, List.set_cons_succ, i64_w, i32_w]
    rfl
  refine pure_ (i := 5) (N := some 14) (v := undef) (bm 29 63) rfl rfl (by kernel_rfl) (fun _ _ _ h => h) (Or.inr ⟨by rfl, rfl⟩) rfl ?_
  refine pure_ (i := 6) (N := some 15) (v := undef) (bm 29 127) rfl rfl (by kernel_rfl) (fun _ _ _ h => h) (Or.inr ⟨by rfl, rfl⟩) rfl ?_
  refine norm_ (a' := ?_) ?_ ?_
  rotate_left
  · simp only [Act.put, List.setIfInBounds_toArray, List.set_cons_zero, List.set_cons_succ]
    rfl
  refine pure_ (i := 7) (N := some 16) (v := ?_) (a' := ?_) (bm 29 255) rfl rfl (by kernel_rfl) (fun _ _ _ h => h) (Or.inl ⟨by rfl, ?_⟩) ?_ ?_
  rotate_left
  · intro w'
    go_simp
    with_reducible rfl
  rotate_left
  · simp only [Act.put, List.setIfInBounds_toArray, List.set_cons_zero, List.set_cons_succ, i64_w, i32_w]
    rfl
  refine pure_ (i := 8) (N := some 17) (v := ?_) (a' := ?_) (bm 29 511) rfl rfl (by kernel_rfl) (fun _ _ _ h => h) (Or.inl ⟨by rfl, ?_⟩) ?_ ?_
  rotate_left
  · intro w'
    go_simp
    with_reducible rfl
  rotate_left
  · simp only [Act.put, List.setIfInBounds_toArray, List.set_cons_zero, List.set_cons_succ, i64_w, i32_w]
    rfl
  refine pure_ (i := 9) (N := some 18) (v := ?_) (a' := ?_) (bm 29 1023) rfl rfl (by kernel_rfl) (fun _ _ _ h => h) (Or.inl ⟨by rfl, ?_⟩) ?_ ?_
  rotate_left
  · intro w'
    go_simp
    with_reducible rfl
  rotate_left
  · simp only [Act.put, List.setIfInBounds_toArray, List.set_cons_zero, List.set_cons_succ, i64_w, i32_w]
    rfl
  refine take_ (i := 10) (N := some 19) (v := ?_) (a' := ?_) (bm 29 2047) rfl rfl (by kernel_rfl) (fun _ _ _ h => h) (Or.inl ⟨by rfl, ?_⟩) hHeld ?_ ?_
  rotate_left
  · rintro w' ⟨s0, s1, s2, s3, s4⟩
    go_simp
    with_reducible rfl
  rotate_left
  · simp only [Act.put, List.setIfInBounds_toArray, List.set_cons_zero, List.set_cons_succ, i64_w, i32_w]
    rfl
  refine pure_ (i := 11) (N := some 20) (v := ?_) (a' := ?_) (bm 29 4095) rfl rfl (by kernel_rfl) (fun _ _ _ h => h) (Or.inl ⟨by rfl, ?_⟩) ?_ ?_
  rotate_left
  · intro w'
    go_simp
    with_reducible rfl
  rotate_left
  · simp only [Act.put, List.setIfInBounds_toArray, List.set_cons_zero, List.set_cons_succ, i64_w, i32_w]
    rfl
  refine pure_ (i := 12) (N := some 21) (v := ?_) (a' := ?_) (bm 29 8191) rfl rfl (by kernel_rfl) (fun _ _ _ h => h) (Or.inl ⟨by rfl, ?_⟩) ?_ ?_
  rotate_left
  · intro w'
    go_simp
    with_reducible rfl
  rotate_left
  · simp only [Act.put, List.setIfInBounds_toArray, List.set_cons_zero, List.set_cons_succ, i64_w, i32_w]
    rfl
  refine pure_ (i := 13) (N := some 22) (v := undef) (bm 29 16383) rfl rfl (by kernel_rfl) (fun _ _ _ h => h) (Or.inr ⟨by rfl, rfl⟩) rfl ?_
  refine pure_ (i := 14) (N := some 23) (v := undef) (bm 29 32767) rfl rfl (by kernel_rfl) (fun _ _ _ h => h) (Or.inr ⟨by rfl, rfl⟩) rfl ?_
  refine norm_ (a' := ?_) ?_ ?_
  rotate_left
  · simp only [Act.put, List.setIfInBounds_toArray, List.set_cons_zero, List.set_cons_succ]
    rfl
  refine pure_ (i := 15) (N := some 24) (v := ?_) (a' := ?_) (bm 29 65535) rfl rfl (by kernel_rfl) (fun _ _ _ h => h) (Or.inl ⟨by rfl, ?_⟩) ?_ ?_
  rotate_left
  · intro w'
    go_simp
    with_reducible rfl
  rotate_left
  · simp only [Act.put, List.setIfInBounds_toArray, List.set_cons_zero, List.set_cons_succ, i64_w, i32_w]
    rfl
  refine pure_ (i := 16) (N := some 25) (v := ?_) (a' := ?_) (bm 29 131071) rfl rfl (by kernel_rfl) (fun _ _ _ h => h) (Or.inl ⟨by rfl, ?_⟩) ?_ ?_
  rotate_left
  · intro w'
    go_simp
    with_reducible rfl
  rotate_left
  · simp only [Act.put, List.setIfInBounds_toArray, List.set_cons_zero, List.set_cons_succ, i64_w, i32_w]
    rfl
  refine pure_ (i := 17) (N := some 26) (v := ?_) (a' := ?_) (bm 29 262143) rfl rfl (by kernel_rfl) (fun _ _ _ h => h) (Or.inl ⟨by rfl, ?_⟩) ?_ ?_
  rotate_left
  · intro w'
    go_simp
    with_reducible rfl
  rotate_left
  · simp only [Act.put, List.setIfInBounds_toArray, List.set_cons_zero, List.set_cons_succ, i64_w, i32_w]
    rfl
  refine pure_ (i := 18) (N := some 27) (v := ?_) (a' := ?_) (bm 29 524287) rfl rfl (by kernel_rfl) (fun _ _ _ h => h) (Or.inl ⟨by rfl, ?_⟩) ?_ ?_
  rotate_left
  · intro w'
    go_simp
    with_reducible rfl
  rotate_left
  · simp only [Act.put, List.setIfInBounds_toArray, List.set_cons_zero, List.set_cons_succ, i64_w, i32_w]
    rfl
  refine take_ (i := 19) (N := some 28) (v := ?_) (a' := ?_) (bm 29 1048575) rfl rfl (by kernel_rfl) (fun _ _ _ h => h) (Or.inl ⟨by rfl, ?_⟩) hHeld ?_ ?_
  rotate_left
  · rintro w' ⟨s0, s1, s2, s3, s4⟩
    go_simp
    with_reducible rfl
  rotate_left
  · simp only [Act.put, List.setIfInBounds_toArray, List.set_cons_zero, List.set_cons_succ, i64_w, i32_w]
    rfl
  refine pure_ (i := 20) (N := some 29) (v := ?_) (a' := ?_) (bm 29 2097151) rfl rfl (by kernel_rfl) (fun _ _ _ h => h) (Or.inl ⟨by rfl, ?_⟩) ?_ ?_
  rotate_left
  · intro w'
    go_simp
    with_reducible rfl
  rotate_left
  · simp only [Act.put, List.setIfInBounds_toArray, List.set_cons_zero, List.set_cons_succ, i64_w, i32_w]
    rfl
  refine pure_ (i := 21) (N := some 30) (v := ?_) (a' := ?_) (bm 29 4194303) rfl rfl (by kernel_rfl) (fun _ _ _ h => h) (Or.inl ⟨by rfl, ?_⟩) ?_ ?_
  rotate_left
  · intro w'
    go_simp
    with_reducible rfl
  rotate_left
  · simp only [Act.put, List.setIfInBounds_toArray, List.set_cons_zero, List.set_cons_succ, i64_w, i32_w]
    rfl
  refine pure_ (i := 22) (N := some 31) (v := undef) (bm 29 8388607) rfl rfl (by kernel_rfl) (fun _ _ _ h => h) (Or.inr ⟨by rfl, rfl⟩) rfl ?_
  refine pure_ (i := 23) (N := some 32) (v := undef) (bm 29 16777215) rfl rfl (by kernel_rfl) (fun _ _ _ h => h) (Or.inr ⟨by rfl, rfl⟩) rfl ?_
  refine pure_ (i := 24) (N := some 33) (v := undef) (bm 29 33554431) rfl rfl (by kernel_rfl) (fun _ _ _ h => h) (Or.inr ⟨by rfl, rfl⟩) rfl ?_
  refine norm_ (a' := ?_) ?_ ?_
  rotate_left
  · simp only [Act.put, List.setIfInBounds_toArray, List.set_cons_zero, List.set_cons_succ]
    rfl
  refine pure_ (i := 25) (N := some 34) (v := ?_) (a' := ?_) (bm 29 67108863) rfl rfl (by kernel_rfl) (fun _ _ _ h => h) (Or.inl ⟨by rfl, ?_⟩) ?_ ?_
  rotate_left
  · intro w'
    go_simp
    with_reducible rfl
  rotate_left
  · simp only [Act.put, List.setIfInBounds_toArray, List.set_cons_zero, List.set_cons_succ, i64_w, i32_w]
    rfl
  refine pure_ (i := 26) (N := some 35) (v := ?_) (a' := ?_) (bm 29 134217727) rfl rfl (by kernel_rfl) (fun _ _ _ h => h) (Or.inl ⟨by rfl, ?_⟩) ?_ ?_
  rotate_left
  · intro w'
    go_simp
    with_reducible rfl
  rotate_left
  · simp only [Act.put, List.setIfInBounds_toArray, List.set_cons_zero, List.set_cons_succ, i64_w, i32_w]
    rfl
  obtain ⟨q0, q1, q2, q3⟩ := core_cells HS.out.d.b1
  have i0 := blk_frozen HS.out.d.b1 0; have i1 := blk_frozen HS.out.d.b1 1; have i2 := blk_frozen HS.out.d.b1 2; have i3 := blk_frozen HS.out.d.b1 3
  have hs6 : w.heap.size + 1 < w4.heap.size := blk_lt HS.out.d.b1
  refine one_ (i := 27) (N := none) (bm 29 268435455) rfl rfl (by kernel_rfl) (by decide) (fun K hK => ?_)
  refine skip_ (w1 := ?_) (by rfl) rfl ?_ ?_
  rotate_left
  · go_simp
    rfl
  refine hK.out _ _ (HS.out.held4 _ _ _ _) (fun hHeld => ?_)
  clear hK K
  refine pure_ (i := 28) (N := some 3) (v := ?_) (a' := ?_) (bm 29 536870911) rfl rfl (by kernel_rfl) (fun _ _ _ h => h) (Or.inl ⟨by rfl, ?_⟩) ?_ ?_
  rotate_left
  · intro w'
    go_simp
    with_reducible rfl
  rotate_left
  · simp only [Act.put, List.setIfInBounds_toArray, List.set_cons_zero, List.set_cons_succ, i64_w, i32_w]
    rfl
  refine done_ (by kernel_rfl) ?_
  go_wp2
  refine bodyPost_ret (v := .tuple #[.agg #[.int .i64 a.f0, .int .i64 a.f1, .string a.f2, .slice Aa a.f3.length ca], .bool false]) (by simp [results, Tryz.f84, go_sem, q0, q1, q2, q3, hs6]) rfl ?_
  exact HS.out.d.fin hla HFa.out false _ _ _ _
theorem settled_ru : Ru 84 settledC := by
  intro x y ok P A c w hV h
  obtain ⟨_, hc, hF⟩ := Kd.V_at hV
  unfold settledC at h
  match hl : x.f3, h with
  | a :: l, h =>
    rw [← hl]
    simp only [Option.some.injEq, Prod.mk.injEq] at h
    obtain ⟨rfl, rfl⟩ := h
    by_cases h15 : x.f0 = 15
    · simp only [h15, isBoolT]
      cases ha : (a.f0 == 2 && a.f1 == 0)
      · have := settled15f x a l hl h15 ha P A c w hF hc
        rw [h15] at this
        simpa using this
      · have := settled15t x a l hl h15 ha P A c w hF hc
        rw [h15] at this
        simpa using this
    · by_cases h16 : x.f0 = 16
      · simp only [h16, isBoolT]
        cases ha : (a.f0 == 2 && a.f1 == 1)
        · have := settled16f x a l hl h16 ha P A c w hF hc
          rw [h16] at this
          simpa using this
        · have := settled16t x a l hl h16 ha P A c w hF hc
          rw [h16] at this
          simpa using this
      · by_cases h25 : x.f0 = 25
        · have := settled25 x a l hl h25 P A c w hF hc
          simp only [h25] at this ⊢
          simpa using this
        · have := settled0 x a l hl h15 h16 h25 P A c w hF hc
          have e : ((x.f0 == 15 && isBoolT a 0) || (x.f0 == 16 && isBoolT a 1) || (x.f0 == 25 && a.f0 == 23)) = false := by simp [h15, h16, h25]
          rw [e]
          exact this
end Go.Proofs.YtniajhmbdbgmgaaGreatDoor.Q
