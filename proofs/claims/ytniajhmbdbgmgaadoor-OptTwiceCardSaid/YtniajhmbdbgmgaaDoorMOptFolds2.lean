/- The causal layer's table of sorts tells its row. -/
import Derived.Test.YtniajhmbdbgmgaaDoorMOptFolds0
import Derived.Test.YtniajhmbdbgmgaaDoorMOptFolds1
import Derived.Laws.Tables
import Derived.Great.Walk
import Derived.Deep.WholeRow
namespace Go.Proofs.YtniajhmbdbgmgaaDoor.Q
open Go.RowKit Go.Proofs.YtniajhmbdbgmgaaDoorW.PrintWords Go.Proofs.YtniajhmbdbgmgaaDoorW.PrintLast Go.Proofs.YtniajhmbdbgmgaaDoorW.PrintMore
attribute [local go_sem] max2_int min2_int max_two min_two max_three min_three max_four min_four   -- for this text's walks alone
set_option linter.unusedVariables false
set_option linter.unusedSimpArgs false

/-! ### causal_fields: function 110 -/
def causal_fields.j0 : Nat → Int → Bool → Int → Int → ByteArray → List (S24) → Option (Bool)
  | 0, _, _, _, _, _, _ => none
  | k + 1, x4, x55, x244000, x244001, x244002, x244003 => if x55 = true then (if x244002.toList = ([] : List UInt8) then ((causal_within.f x244001 0 73048).bind fun t251 => (some t251)) else (some false)) else (if x4 = 5 then (if x244002.toList = ([] : List UInt8) then ((causal_within.f x244001 (-3660) 3660).bind fun t252 => (some t252)) else (some false)) else (if x244002.toList = ([] : List UInt8) then (some (x244001 == 0)) else (some false)))
def causal_fields.f (k : Nat) (a0_0 : Int) (a0_1 : Int) (a0_2 : ByteArray) (l0_3 : List (S24)) : Option (Bool) := if a0_0 = 4 then ((causal_isName.f a0_2).bind fun t244 => (if t244 = true then ((causal_within.f a0_1 (-3660) 3660).bind fun t245 => (some t245)) else (some false))) else (if a0_0 = 31 then ((causal_isName.f a0_2).bind fun t246 => (if t246 = true then ((causal_within.f a0_1 0 73048).bind fun t247 => (some t247)) else (some false))) else (if a0_0 = 24 then ((causal_isCur.f a0_2).bind fun t248 => (if t248 = true then (some (a0_1 == 0)) else (some false))) else (if a0_0 = 1 then (if a0_2.toList = ([] : List UInt8) then ((causal_within.f a0_1 (-1000000000000000) 1000000000000000).bind fun t249 => (some t249)) else (some false)) else (if a0_0 = 2 then (if a0_2.toList = ([] : List UInt8) then ((causal_within.f a0_1 0 1).bind fun t250 => (some t250)) else (some false)) else (if a0_0 = 3 then (causal_fields.j0 k a0_0 (a0_0 == 3) a0_0 a0_1 a0_2 l0_3) else (if a0_0 = 29 then (causal_fields.j0 k a0_0 (a0_0 == 29) a0_0 a0_1 a0_2 l0_3) else (causal_fields.j0 k a0_0 (a0_0 == 30) a0_0 a0_1 a0_2 l0_3)))))))
theorem causal_fields.mono_l : ∀ k, (∀ y0 y1 y2 y3 y4 y5, LeO (causal_fields.j0 k y0 y1 y2 y3 y4 y5) (causal_fields.j0 (k + 1) y0 y1 y2 y3 y4 y5))
  | 0 => fun _ _ _ _ _ _ r h => by simp [causal_fields.j0] at h
  | k + 1 => by
    have ih0 := causal_fields.mono_l k
    · intro y0 y1 y2 y3 y4 y5
      unfold causal_fields.j0
      repeat' first
      | (with_reducible exact ih0 _ _ _ _ _ _)
      | (with_reducible exact LeO.refl _)
      | (with_reducible exact LeO.none _)
      | (with_reducible refine LeO.ite ?_ ?_)
      | (with_reducible refine LeO.bind ?_ (fun _ => ?_))
      | exact ih0 _ _ _ _ _ _
      | exact LeO.none _
      | refine LeO.ite ?_ ?_
      | refine LeO.bind ?_ (fun _ => ?_)
theorem causal_fields.mono : ∀ a0 a1 a2 a3 k, LeO (causal_fields.f k a0 a1 a2 a3) (causal_fields.f (k + 1) a0 a1 a2 a3) := by
  intro a0 a1 a2 a3 k
  have ih0 := causal_fields.mono_l k
  unfold causal_fields.f
  repeat' first
      | (with_reducible exact ih0 _ _ _ _ _ _)
      | (with_reducible exact LeO.refl _)
      | (with_reducible exact LeO.none _)
      | (with_reducible refine LeO.ite ?_ ?_)
      | (with_reducible refine LeO.bind ?_ (fun _ => ?_))
      | exact ih0 _ _ _ _ _ _
      | exact LeO.none _
      | refine LeO.ite ?_ ?_
      | refine LeO.bind ?_ (fun _ => ?_)
set_option maxHeartbeats 8000000 in
set_option maxRecDepth 100000 in
theorem causal_fields.calls (k : Nat) (a0_0 : Int) (a0_1 : Int) (a0_2 : ByteArray) (A0_3 : Option Addr) (c0_3 : Nat) (l0_3 : List (S24)) (r : Bool) (w : World) (hr0_3 : Kd.C k24 w A0_3 l0_3.length l0_3) (hc0_3 : l0_3.length ≤ c0_3) (h : causal_fields.f k a0_0 a0_1 a0_2 l0_3 = some r) :
    Calls Tryd.prog 110 #[.agg #[.int .i64 a0_0, .int .i64 a0_1, .string a0_2, .slice A0_3 l0_3.length c0_3]] w fun e w' => e = .returned (.bool r) ∧ Below w.heap.size w w' := by
  have hu24 := Tryd.underlying24
  have HR0_3 := Aside0.mk hr0_3
  have HC0_3 := Aside0.mk hc0_3
  clear hr0_3 hc0_3
  have HB := Aside0.mk (Below.refl w.heap.size w)
  have H : (if a0_0 = 4 then ((causal_isName.f a0_2).bind fun t244 => (if t244 = true then ((causal_within.f a0_1 (-3660) 3660).bind fun t245 => (some t245)) else (some false))) else (if a0_0 = 31 then ((causal_isName.f a0_2).bind fun t246 => (if t246 = true then ((causal_within.f a0_1 0 73048).bind fun t247 => (some t247)) else (some false))) else (if a0_0 = 24 then ((causal_isCur.f a0_2).bind fun t248 => (if t248 = true then (some (a0_1 == 0)) else (some false))) else (if a0_0 = 1 then (if a0_2.toList = ([] : List UInt8) then ((causal_within.f a0_1 (-1000000000000000) 1000000000000000).bind fun t249 => (some t249)) else (some false)) else (if a0_0 = 2 then (if a0_2.toList = ([] : List UInt8) then ((causal_within.f a0_1 0 1).bind fun t250 => (some t250)) else (some false)) else (if a0_0 = 3 then (causal_fields.j0 k a0_0 (a0_0 == 3) a0_0 a0_1 a0_2 l0_3) else (if a0_0 = 29 then (causal_fields.j0 k a0_0 (a0_0 == 29) a0_0 a0_1 a0_2 l0_3) else (causal_fields.j0 k a0_0 (a0_0 == 30) a0_0 a0_1 a0_2 l0_3)))))))) = some r := h
  clear h
  by_cases c2 : a0_0 = 4
  · rw [if_pos c2] at H
    have c2b0 : (a0_0 == 4) = true := beq_iff_eq.mpr c2
    have c2b1 : (a0_0 != 4) = false := bne_eq_false_iff_eq.mpr c2
    clear c2
    replace H := Option.bind_eq_some_iff.mp H
    obtain ⟨t244, A30, H⟩ := H
    replace H : (if t244 = true then ((causal_within.f a0_1 (-3660) 3660).bind fun t245 => (some t245)) else (some false)) = some r := H
    have A3 := Aside0.mk A30
    clear A30
    by_cases c4 : t244 = true
    · subst c4
      have H1 : ((causal_within.f a0_1 (-3660) 3660).bind fun t245 => (some t245)) = some r := by rw [if_pos rfl] at H; exact H
      clear H
      have H := H1
      clear H1
      replace H := Option.bind_eq_some_iff.mp H
      obtain ⟨t245, A50, H⟩ := H
      replace H : (some t245) = some r := H
      have A5 := Aside0.mk A50
      clear A50
      obtain rfl := Option.some.inj H
      go_enter Tryd.func110, Tryd.ntmps110
      go_wp2_with (first | ((with_reducible refine gate_dst (N := 1) rfl ?_); refine box_event ?hg (N := 1) ?hd (cs := #[.int .i64 a0_0, .int .i64 a0_1, .string a0_2, .slice A0_3 l0_3.length c0_3]) (t := 24) ?hr ?_; (case hd => rfl); (case hg => rfl); (case hr => first | (go_simp; done) | (go_simp; rfl)); intro gb243 hg w6 hbox hb; have n0_ := Aside0.mk (below_step (by repeat (first | (with_reducible first | exact HB.out | apply below_alloc | apply pw_below_drewN | apply below_drew1) | exact HB.out)) hb); have n1_ := Aside0.mk (hbox); have n2_ := Aside0.mk ((by rw [hg]; exact (below_size (by repeat (first | (with_reducible first | exact HB.out | apply below_alloc | apply pw_below_drewN | apply below_drew1) | exact HB.out))) : w.heap.size ≤ gb243)); have n3_ := Aside0.mk ((by rw [hg]; exact (below_size (by repeat (first | (with_reducible first | exact HB.out | apply below_alloc | apply pw_below_drewN | apply below_drew1) | exact HB.out))) : w.heap.size ≤ gb243)); clear HB; have HB := n0_; have BK243 := n1_; have GW243 := n2_; have GE243 := n3_; clear n0_ n1_ n2_ n3_; clear hb hbox hg; have hcz7_0 : w6.cell? ⟨gb243, 0, none⟩ = some (.int .i64 a0_0) := (blk_cell BK243.out 0).trans rfl; have hcz7_1 : w6.cell? ⟨gb243, 1, none⟩ = some (.int .i64 a0_1) := (blk_cell BK243.out 1).trans rfl; have hcz7_2 : w6.cell? ⟨gb243, 2, none⟩ = some (.string a0_2) := (blk_cell BK243.out 2).trans rfl; have hcz7_3 : w6.cell? ⟨gb243, 3, none⟩ = some (.slice A0_3 l0_3.length c0_3) := (blk_cell BK243.out 3).trans rfl; have hfz7_0 := blk_frozen BK243.out 0; have hfz7_1 := blk_frozen BK243.out 1; have hfz7_2 := blk_frozen BK243.out 2; have hfz7_3 := blk_frozen BK243.out 3) | ((with_reducible refine gate_callee (f := 128) rfl ?_); refine goesL_ (some 9) rfl rfl Tryd.func128 (by kernel_rfl) rfl #[.string a0_2] rfl (by (try simp only [List.map_toArray, List.map_cons, List.map_nil]); first | done | rfl | (simp only [List.length_drop, List.length_take]; rfl)) ?_; (with_reducible refine (causal_isName.calls a0_2 true _ A3.out).mono ?_); rintro e w8 ⟨rfl, hb⟩; refine ⟨_, rfl, ?_⟩; have n0_ := Aside0.mk (blk_below (g := gb243) (o := .cells #[.int .i64 a0_0, .int .i64 a0_1, .string a0_2, .slice A0_3 l0_3.length c0_3] 24 (0, 0)) (by (with_reducible repeat (first | refine blk_drewN ?_ _ | refine blk_drew ?_ | refine blk_alloc ?_ _)); exact BK243.out) hb); have n1_ := Aside0.mk (below_step (by repeat (first | (with_reducible first | exact HB.out | apply below_alloc | apply pw_below_drewN | apply below_drew1 | refine below_set ?_ GE243.out) | exact HB.out)) hb); clear BK243; clear HB; have BK243 := n0_; have HB := n1_; clear n0_ n1_; (try clear hb); (try clear hb2); (try clear hk); (try clear hi); have hcz9_0 : w8.cell? ⟨gb243, 0, none⟩ = some (.int .i64 a0_0) := (blk_cell BK243.out 0).trans rfl; have hcz9_1 : w8.cell? ⟨gb243, 1, none⟩ = some (.int .i64 a0_1) := (blk_cell BK243.out 1).trans rfl; have hcz9_2 : w8.cell? ⟨gb243, 2, none⟩ = some (.string a0_2) := (blk_cell BK243.out 2).trans rfl; have hcz9_3 : w8.cell? ⟨gb243, 3, none⟩ = some (.slice A0_3 l0_3.length c0_3) := (blk_cell BK243.out 3).trans rfl; have hfz9_0 := blk_frozen BK243.out 0; have hfz9_1 := blk_frozen BK243.out 1; have hfz9_2 := blk_frozen BK243.out 2; have hfz9_3 := blk_frozen BK243.out 3) | (go_at_call 129; (with_reducible refine (causal_within.calls a0_1 (-3660) 3660 t245 _ A5.out).mono ?_); rintro e w' ⟨rfl, ⟨nd, rfl⟩⟩))
      go_ret
      exact ⟨by first | rfl | (simp [errW_none, errW_some] <;> rfl) | (simp [*, errW_none, errW_some] <;> rfl), by repeat (first | (with_reducible first | exact HB.out | apply below_alloc | apply pw_below_drewN | apply below_drew1 | refine below_set ?_ GE243.out) | exact HB.out)⟩
    · replace c4 := Bool.eq_false_iff.mpr c4
      subst c4
      have H1 : (some false) = some r := by rw [if_neg (show ¬ (false = true) by decide)] at H; exact H
      clear H
      have H := H1
      clear H1
      obtain rfl := Option.some.inj H
      go_enter Tryd.func110, Tryd.ntmps110
      go_wp2_with (first | ((with_reducible refine gate_dst (N := 1) rfl ?_); refine box_event ?hg (N := 1) ?hd (cs := #[.int .i64 a0_0, .int .i64 a0_1, .string a0_2, .slice A0_3 l0_3.length c0_3]) (t := 24) ?hr ?_; (case hd => rfl); (case hg => rfl); (case hr => first | (go_simp; done) | (go_simp; rfl)); intro gb243 hg w10 hbox hb; have n0_ := Aside0.mk (below_step (by repeat (first | (with_reducible first | exact HB.out | apply below_alloc | apply pw_below_drewN | apply below_drew1) | exact HB.out)) hb); have n1_ := Aside0.mk (hbox); have n2_ := Aside0.mk ((by rw [hg]; exact (below_size (by repeat (first | (with_reducible first | exact HB.out | apply below_alloc | apply pw_below_drewN | apply below_drew1) | exact HB.out))) : w.heap.size ≤ gb243)); have n3_ := Aside0.mk ((by rw [hg]; exact (below_size (by repeat (first | (with_reducible first | exact HB.out | apply below_alloc | apply pw_below_drewN | apply below_drew1) | exact HB.out))) : w.heap.size ≤ gb243)); clear HB; have HB := n0_; have BK243 := n1_; have GW243 := n2_; have GE243 := n3_; clear n0_ n1_ n2_ n3_; clear hb hbox hg; have hcz11_0 : w10.cell? ⟨gb243, 0, none⟩ = some (.int .i64 a0_0) := (blk_cell BK243.out 0).trans rfl; have hcz11_1 : w10.cell? ⟨gb243, 1, none⟩ = some (.int .i64 a0_1) := (blk_cell BK243.out 1).trans rfl; have hcz11_2 : w10.cell? ⟨gb243, 2, none⟩ = some (.string a0_2) := (blk_cell BK243.out 2).trans rfl; have hcz11_3 : w10.cell? ⟨gb243, 3, none⟩ = some (.slice A0_3 l0_3.length c0_3) := (blk_cell BK243.out 3).trans rfl; have hfz11_0 := blk_frozen BK243.out 0; have hfz11_1 := blk_frozen BK243.out 1; have hfz11_2 := blk_frozen BK243.out 2; have hfz11_3 := blk_frozen BK243.out 3) | ((with_reducible refine gate_callee (f := 128) rfl ?_); refine goesL_ (some 9) rfl rfl Tryd.func128 (by kernel_rfl) rfl #[.string a0_2] rfl (by (try simp only [List.map_toArray, List.map_cons, List.map_nil]); first | done | rfl | (simp only [List.length_drop, List.length_take]; rfl)) ?_; (with_reducible refine (causal_isName.calls a0_2 false _ A3.out).mono ?_); rintro e w12 ⟨rfl, hb⟩; refine ⟨_, rfl, ?_⟩; have n0_ := Aside0.mk (blk_below (g := gb243) (o := .cells #[.int .i64 a0_0, .int .i64 a0_1, .string a0_2, .slice A0_3 l0_3.length c0_3] 24 (0, 0)) (by (with_reducible repeat (first | refine blk_drewN ?_ _ | refine blk_drew ?_ | refine blk_alloc ?_ _)); exact BK243.out) hb); have n1_ := Aside0.mk (below_step (by repeat (first | (with_reducible first | exact HB.out | apply below_alloc | apply pw_below_drewN | apply below_drew1 | refine below_set ?_ GE243.out) | exact HB.out)) hb); clear BK243; clear HB; have BK243 := n0_; have HB := n1_; clear n0_ n1_; (try clear hb); (try clear hb2); (try clear hk); (try clear hi)))
      go_ret
      exact ⟨by first | rfl | (simp [errW_none, errW_some] <;> rfl) | (simp [*, errW_none, errW_some] <;> rfl), by repeat (first | (with_reducible first | exact HB.out | apply below_alloc | apply pw_below_drewN | apply below_drew1 | refine below_set ?_ GE243.out) | exact HB.out)⟩
  · rw [if_neg c2] at H
    have c2b0 : (a0_0 == 4) = false := beq_eq_false_iff_ne.mpr c2
    have c2b1 : (a0_0 != 4) = true := bne_iff_ne.mpr c2
    by_cases c13 : a0_0 = 31
    · rw [if_pos c13] at H
      have c13b0 : (a0_0 == 31) = true := beq_iff_eq.mpr c13
      have c13b1 : (a0_0 != 31) = false := bne_eq_false_iff_eq.mpr c13
      clear c13
      replace H := Option.bind_eq_some_iff.mp H
      obtain ⟨t246, A140, H⟩ := H
      replace H : (if t246 = true then ((causal_within.f a0_1 0 73048).bind fun t247 => (some t247)) else (some false)) = some r := H
      have A14 := Aside0.mk A140
      clear A140
      by_cases c15 : t246 = true
      · subst c15
        have H1 : ((causal_within.f a0_1 0 73048).bind fun t247 => (some t247)) = some r := by rw [if_pos rfl] at H; exact H
        clear H
        have H := H1
        clear H1
        replace H := Option.bind_eq_some_iff.mp H
        obtain ⟨t247, A160, H⟩ := H
        replace H : (some t247) = some r := H
        have A16 := Aside0.mk A160
        clear A160
        obtain rfl := Option.some.inj H
        go_enter Tryd.func110, Tryd.ntmps110
        go_wp2_with (first | ((with_reducible refine gate_dst (N := 1) rfl ?_); refine box_event ?hg (N := 1) ?hd (cs := #[.int .i64 a0_0, .int .i64 a0_1, .string a0_2, .slice A0_3 l0_3.length c0_3]) (t := 24) ?hr ?_; (case hd => rfl); (case hg => rfl); (case hr => first | (go_simp; done) | (go_simp; rfl)); intro gb243 hg w17 hbox hb; have n0_ := Aside0.mk (below_step (by repeat (first | (with_reducible first | exact HB.out | apply below_alloc | apply pw_below_drewN | apply below_drew1) | exact HB.out)) hb); have n1_ := Aside0.mk (hbox); have n2_ := Aside0.mk ((by rw [hg]; exact (below_size (by repeat (first | (with_reducible first | exact HB.out | apply below_alloc | apply pw_below_drewN | apply below_drew1) | exact HB.out))) : w.heap.size ≤ gb243)); have n3_ := Aside0.mk ((by rw [hg]; exact (below_size (by repeat (first | (with_reducible first | exact HB.out | apply below_alloc | apply pw_below_drewN | apply below_drew1) | exact HB.out))) : w.heap.size ≤ gb243)); clear HB; have HB := n0_; have BK243 := n1_; have GW243 := n2_; have GE243 := n3_; clear n0_ n1_ n2_ n3_; clear hb hbox hg; have hcz18_0 : w17.cell? ⟨gb243, 0, none⟩ = some (.int .i64 a0_0) := (blk_cell BK243.out 0).trans rfl; have hcz18_1 : w17.cell? ⟨gb243, 1, none⟩ = some (.int .i64 a0_1) := (blk_cell BK243.out 1).trans rfl; have hcz18_2 : w17.cell? ⟨gb243, 2, none⟩ = some (.string a0_2) := (blk_cell BK243.out 2).trans rfl; have hcz18_3 : w17.cell? ⟨gb243, 3, none⟩ = some (.slice A0_3 l0_3.length c0_3) := (blk_cell BK243.out 3).trans rfl; have hfz18_0 := blk_frozen BK243.out 0; have hfz18_1 := blk_frozen BK243.out 1; have hfz18_2 := blk_frozen BK243.out 2; have hfz18_3 := blk_frozen BK243.out 3) | ((with_reducible refine gate_callee (f := 128) rfl ?_); refine goesL_ (some 19) rfl rfl Tryd.func128 (by kernel_rfl) rfl #[.string a0_2] rfl (by (try simp only [List.map_toArray, List.map_cons, List.map_nil]); first | done | rfl | (simp only [List.length_drop, List.length_take]; rfl)) ?_; (with_reducible refine (causal_isName.calls a0_2 true _ A14.out).mono ?_); rintro e w19 ⟨rfl, hb⟩; refine ⟨_, rfl, ?_⟩; have n0_ := Aside0.mk (blk_below (g := gb243) (o := .cells #[.int .i64 a0_0, .int .i64 a0_1, .string a0_2, .slice A0_3 l0_3.length c0_3] 24 (0, 0)) (by (with_reducible repeat (first | refine blk_drewN ?_ _ | refine blk_drew ?_ | refine blk_alloc ?_ _)); exact BK243.out) hb); have n1_ := Aside0.mk (below_step (by repeat (first | (with_reducible first | exact HB.out | apply below_alloc | apply pw_below_drewN | apply below_drew1 | refine below_set ?_ GE243.out) | exact HB.out)) hb); clear BK243; clear HB; have BK243 := n0_; have HB := n1_; clear n0_ n1_; (try clear hb); (try clear hb2); (try clear hk); (try clear hi); have hcz20_0 : w19.cell? ⟨gb243, 0, none⟩ = some (.int .i64 a0_0) := (blk_cell BK243.out 0).trans rfl; have hcz20_1 : w19.cell? ⟨gb243, 1, none⟩ = some (.int .i64 a0_1) := (blk_cell BK243.out 1).trans rfl; have hcz20_2 : w19.cell? ⟨gb243, 2, none⟩ = some (.string a0_2) := (blk_cell BK243.out 2).trans rfl; have hcz20_3 : w19.cell? ⟨gb243, 3, none⟩ = some (.slice A0_3 l0_3.length c0_3) := (blk_cell BK243.out 3).trans rfl; have hfz20_0 := blk_frozen BK243.out 0; have hfz20_1 := blk_frozen BK243.out 1; have hfz20_2 := blk_frozen BK243.out 2; have hfz20_3 := blk_frozen BK243.out 3) | (go_at_call 129; (with_reducible refine (causal_within.calls a0_1 0 73048 t247 _ A16.out).mono ?_); rintro e w' ⟨rfl, ⟨nd, rfl⟩⟩))
        go_ret
        exact ⟨by first | rfl | (simp [errW_none, errW_some] <;> rfl) | (simp [*, errW_none, errW_some] <;> rfl), by repeat (first | (with_reducible first | exact HB.out | apply below_alloc | apply pw_below_drewN | apply below_drew1 | refine below_set ?_ GE243.out) | exact HB.out)⟩
      · replace c15 := Bool.eq_false_iff.mpr c15
        subst c15
        have H1 : (some false) = some r := by rw [if_neg (show ¬ (false = true) by decide)] at H; exact H
        clear H
        have H := H1
        clear H1
        obtain rfl := Option.some.inj H
        go_enter Tryd.func110, Tryd.ntmps110
        go_wp2_with (first | ((with_reducible refine gate_dst (N := 1) rfl ?_); refine box_event ?hg (N := 1) ?hd (cs := #[.int .i64 a0_0, .int .i64 a0_1, .string a0_2, .slice A0_3 l0_3.length c0_3]) (t := 24) ?hr ?_; (case hd => rfl); (case hg => rfl); (case hr => first | (go_simp; done) | (go_simp; rfl)); intro gb243 hg w21 hbox hb; have n0_ := Aside0.mk (below_step (by repeat (first | (with_reducible first | exact HB.out | apply below_alloc | apply pw_below_drewN | apply below_drew1) | exact HB.out)) hb); have n1_ := Aside0.mk (hbox); have n2_ := Aside0.mk ((by rw [hg]; exact (below_size (by repeat (first | (with_reducible first | exact HB.out | apply below_alloc | apply pw_below_drewN | apply below_drew1) | exact HB.out))) : w.heap.size ≤ gb243)); have n3_ := Aside0.mk ((by rw [hg]; exact (below_size (by repeat (first | (with_reducible first | exact HB.out | apply below_alloc | apply pw_below_drewN | apply below_drew1) | exact HB.out))) : w.heap.size ≤ gb243)); clear HB; have HB := n0_; have BK243 := n1_; have GW243 := n2_; have GE243 := n3_; clear n0_ n1_ n2_ n3_; clear hb hbox hg; have hcz22_0 : w21.cell? ⟨gb243, 0, none⟩ = some (.int .i64 a0_0) := (blk_cell BK243.out 0).trans rfl; have hcz22_1 : w21.cell? ⟨gb243, 1, none⟩ = some (.int .i64 a0_1) := (blk_cell BK243.out 1).trans rfl; have hcz22_2 : w21.cell? ⟨gb243, 2, none⟩ = some (.string a0_2) := (blk_cell BK243.out 2).trans rfl; have hcz22_3 : w21.cell? ⟨gb243, 3, none⟩ = some (.slice A0_3 l0_3.length c0_3) := (blk_cell BK243.out 3).trans rfl; have hfz22_0 := blk_frozen BK243.out 0; have hfz22_1 := blk_frozen BK243.out 1; have hfz22_2 := blk_frozen BK243.out 2; have hfz22_3 := blk_frozen BK243.out 3) | ((with_reducible refine gate_callee (f := 128) rfl ?_); refine goesL_ (some 19) rfl rfl Tryd.func128 (by kernel_rfl) rfl #[.string a0_2] rfl (by (try simp only [List.map_toArray, List.map_cons, List.map_nil]); first | done | rfl | (simp only [List.length_drop, List.length_take]; rfl)) ?_; (with_reducible refine (causal_isName.calls a0_2 false _ A14.out).mono ?_); rintro e w23 ⟨rfl, hb⟩; refine ⟨_, rfl, ?_⟩; have n0_ := Aside0.mk (blk_below (g := gb243) (o := .cells #[.int .i64 a0_0, .int .i64 a0_1, .string a0_2, .slice A0_3 l0_3.length c0_3] 24 (0, 0)) (by (with_reducible repeat (first | refine blk_drewN ?_ _ | refine blk_drew ?_ | refine blk_alloc ?_ _)); exact BK243.out) hb); have n1_ := Aside0.mk (below_step (by repeat (first | (with_reducible first | exact HB.out | apply below_alloc | apply pw_below_drewN | apply below_drew1 | refine below_set ?_ GE243.out) | exact HB.out)) hb); clear BK243; clear HB; have BK243 := n0_; have HB := n1_; clear n0_ n1_; (try clear hb); (try clear hb2); (try clear hk); (try clear hi)))
        go_ret
        exact ⟨by first | rfl | (simp [errW_none, errW_some] <;> rfl) | (simp [*, errW_none, errW_some] <;> rfl), by repeat (first | (with_reducible first | exact HB.out | apply below_alloc | apply pw_below_drewN | apply below_drew1 | refine below_set ?_ GE243.out) | exact HB.out)⟩
    · rw [if_neg c13] at H
      have c13b0 : (a0_0 == 31) = false := beq_eq_false_iff_ne.mpr c13
      have c13b1 : (a0_0 != 31) = true := bne_iff_ne.mpr c13
      by_cases c24 : a0_0 = 24
      · rw [if_pos c24] at H
        have c24b0 : (a0_0 == 24) = true := beq_iff_eq.mpr c24
        have c24b1 : (a0_0 != 24) = false := bne_eq_false_iff_eq.mpr c24
        clear c24
        replace H := Option.bind_eq_some_iff.mp H
        obtain ⟨t248, A250, H⟩ := H
        replace H : (if t248 = true then (some (a0_1 == 0)) else (some false)) = some r := H
        have A25 := Aside0.mk A250
        clear A250
        by_cases c26 : t248 = true
        · subst c26
          have H1 : (some (a0_1 == 0)) = some r := by rw [if_pos rfl] at H; exact H
          clear H
          have H := H1
          clear H1
          obtain rfl := Option.some.inj H
          go_enter Tryd.func110, Tryd.ntmps110
          go_wp2_with (first | ((with_reducible refine gate_dst (N := 1) rfl ?_); refine box_event ?hg (N := 1) ?hd (cs := #[.int .i64 a0_0, .int .i64 a0_1, .string a0_2, .slice A0_3 l0_3.length c0_3]) (t := 24) ?hr ?_; (case hd => rfl); (case hg => rfl); (case hr => first | (go_simp; done) | (go_simp; rfl)); intro gb243 hg w27 hbox hb; have n0_ := Aside0.mk (below_step (by repeat (first | (with_reducible first | exact HB.out | apply below_alloc | apply pw_below_drewN | apply below_drew1) | exact HB.out)) hb); have n1_ := Aside0.mk (hbox); have n2_ := Aside0.mk ((by rw [hg]; exact (below_size (by repeat (first | (with_reducible first | exact HB.out | apply below_alloc | apply pw_below_drewN | apply below_drew1) | exact HB.out))) : w.heap.size ≤ gb243)); have n3_ := Aside0.mk ((by rw [hg]; exact (below_size (by repeat (first | (with_reducible first | exact HB.out | apply below_alloc | apply pw_below_drewN | apply below_drew1) | exact HB.out))) : w.heap.size ≤ gb243)); clear HB; have HB := n0_; have BK243 := n1_; have GW243 := n2_; have GE243 := n3_; clear n0_ n1_ n2_ n3_; clear hb hbox hg; have hcz28_0 : w27.cell? ⟨gb243, 0, none⟩ = some (.int .i64 a0_0) := (blk_cell BK243.out 0).trans rfl; have hcz28_1 : w27.cell? ⟨gb243, 1, none⟩ = some (.int .i64 a0_1) := (blk_cell BK243.out 1).trans rfl; have hcz28_2 : w27.cell? ⟨gb243, 2, none⟩ = some (.string a0_2) := (blk_cell BK243.out 2).trans rfl; have hcz28_3 : w27.cell? ⟨gb243, 3, none⟩ = some (.slice A0_3 l0_3.length c0_3) := (blk_cell BK243.out 3).trans rfl; have hfz28_0 := blk_frozen BK243.out 0; have hfz28_1 := blk_frozen BK243.out 1; have hfz28_2 := blk_frozen BK243.out 2; have hfz28_3 := blk_frozen BK243.out 3) | ((with_reducible refine gate_callee (f := 130) rfl ?_); refine goesL_ (some 29) rfl rfl Tryd.func130 (by kernel_rfl) rfl #[.string a0_2] rfl (by (try simp only [List.map_toArray, List.map_cons, List.map_nil]); first | done | rfl | (simp only [List.length_drop, List.length_take]; rfl)) ?_; (with_reducible refine (causal_isCur.calls a0_2 true _ A25.out).mono ?_); rintro e w29 ⟨rfl, hb⟩; refine ⟨_, rfl, ?_⟩; have n0_ := Aside0.mk (blk_below (g := gb243) (o := .cells #[.int .i64 a0_0, .int .i64 a0_1, .string a0_2, .slice A0_3 l0_3.length c0_3] 24 (0, 0)) (by (with_reducible repeat (first | refine blk_drewN ?_ _ | refine blk_drew ?_ | refine blk_alloc ?_ _)); exact BK243.out) hb); have n1_ := Aside0.mk (below_step (by repeat (first | (with_reducible first | exact HB.out | apply below_alloc | apply pw_below_drewN | apply below_drew1 | refine below_set ?_ GE243.out) | exact HB.out)) hb); clear BK243; clear HB; have BK243 := n0_; have HB := n1_; clear n0_ n1_; (try clear hb); (try clear hb2); (try clear hk); (try clear hi); have hcz30_0 : w29.cell? ⟨gb243, 0, none⟩ = some (.int .i64 a0_0) := (blk_cell BK243.out 0).trans rfl; have hcz30_1 : w29.cell? ⟨gb243, 1, none⟩ = some (.int .i64 a0_1) := (blk_cell BK243.out 1).trans rfl; have hcz30_2 : w29.cell? ⟨gb243, 2, none⟩ = some (.string a0_2) := (blk_cell BK243.out 2).trans rfl; have hcz30_3 : w29.cell? ⟨gb243, 3, none⟩ = some (.slice A0_3 l0_3.length c0_3) := (blk_cell BK243.out 3).trans rfl; have hfz30_0 := blk_frozen BK243.out 0; have hfz30_1 := blk_frozen BK243.out 1; have hfz30_2 := blk_frozen BK243.out 2; have hfz30_3 := blk_frozen BK243.out 3))
          go_ret
          exact ⟨by first | rfl | (simp [errW_none, errW_some] <;> rfl) | (simp [*, errW_none, errW_some] <;> rfl), by repeat (first | (with_reducible first | exact HB.out | apply below_alloc | apply pw_below_drewN | apply below_drew1 | refine below_set ?_ GE243.out) | exact HB.out)⟩
        · replace c26 := Bool.eq_false_iff.mpr c26
          subst c26
          have H1 : (some false) = some r := by rw [if_neg (show ¬ (false = true) by decide)] at H; exact H
          clear H
          have H := H1
          clear H1
          obtain rfl := Option.some.inj H
          go_enter Tryd.func110, Tryd.ntmps110
          go_wp2_with (first | ((with_reducible refine gate_dst (N := 1) rfl ?_); refine box_event ?hg (N := 1) ?hd (cs := #[.int .i64 a0_0, .int .i64 a0_1, .string a0_2, .slice A0_3 l0_3.length c0_3]) (t := 24) ?hr ?_; (case hd => rfl); (case hg => rfl); (case hr => first | (go_simp; done) | (go_simp; rfl)); intro gb243 hg w31 hbox hb; have n0_ := Aside0.mk (below_step (by repeat (first | (with_reducible first | exact HB.out | apply below_alloc | apply pw_below_drewN | apply below_drew1) | exact HB.out)) hb); have n1_ := Aside0.mk (hbox); have n2_ := Aside0.mk ((by rw [hg]; exact (below_size (by repeat (first | (with_reducible first | exact HB.out | apply below_alloc | apply pw_below_drewN | apply below_drew1) | exact HB.out))) : w.heap.size ≤ gb243)); have n3_ := Aside0.mk ((by rw [hg]; exact (below_size (by repeat (first | (with_reducible first | exact HB.out | apply below_alloc | apply pw_below_drewN | apply below_drew1) | exact HB.out))) : w.heap.size ≤ gb243)); clear HB; have HB := n0_; have BK243 := n1_; have GW243 := n2_; have GE243 := n3_; clear n0_ n1_ n2_ n3_; clear hb hbox hg; have hcz32_0 : w31.cell? ⟨gb243, 0, none⟩ = some (.int .i64 a0_0) := (blk_cell BK243.out 0).trans rfl; have hcz32_1 : w31.cell? ⟨gb243, 1, none⟩ = some (.int .i64 a0_1) := (blk_cell BK243.out 1).trans rfl; have hcz32_2 : w31.cell? ⟨gb243, 2, none⟩ = some (.string a0_2) := (blk_cell BK243.out 2).trans rfl; have hcz32_3 : w31.cell? ⟨gb243, 3, none⟩ = some (.slice A0_3 l0_3.length c0_3) := (blk_cell BK243.out 3).trans rfl; have hfz32_0 := blk_frozen BK243.out 0; have hfz32_1 := blk_frozen BK243.out 1; have hfz32_2 := blk_frozen BK243.out 2; have hfz32_3 := blk_frozen BK243.out 3) | ((with_reducible refine gate_callee (f := 130) rfl ?_); refine goesL_ (some 29) rfl rfl Tryd.func130 (by kernel_rfl) rfl #[.string a0_2] rfl (by (try simp only [List.map_toArray, List.map_cons, List.map_nil]); first | done | rfl | (simp only [List.length_drop, List.length_take]; rfl)) ?_; (with_reducible refine (causal_isCur.calls a0_2 false _ A25.out).mono ?_); rintro e w33 ⟨rfl, hb⟩; refine ⟨_, rfl, ?_⟩; have n0_ := Aside0.mk (blk_below (g := gb243) (o := .cells #[.int .i64 a0_0, .int .i64 a0_1, .string a0_2, .slice A0_3 l0_3.length c0_3] 24 (0, 0)) (by (with_reducible repeat (first | refine blk_drewN ?_ _ | refine blk_drew ?_ | refine blk_alloc ?_ _)); exact BK243.out) hb); have n1_ := Aside0.mk (below_step (by repeat (first | (with_reducible first | exact HB.out | apply below_alloc | apply pw_below_drewN | apply below_drew1 | refine below_set ?_ GE243.out) | exact HB.out)) hb); clear BK243; clear HB; have BK243 := n0_; have HB := n1_; clear n0_ n1_; (try clear hb); (try clear hb2); (try clear hk); (try clear hi)))
          go_ret
          exact ⟨by first | rfl | (simp [errW_none, errW_some] <;> rfl) | (simp [*, errW_none, errW_some] <;> rfl), by repeat (first | (with_reducible first | exact HB.out | apply below_alloc | apply pw_below_drewN | apply below_drew1 | refine below_set ?_ GE243.out) | exact HB.out)⟩
      · rw [if_neg c24] at H
        have c24b0 : (a0_0 == 24) = false := beq_eq_false_iff_ne.mpr c24
        have c24b1 : (a0_0 != 24) = true := bne_iff_ne.mpr c24
        by_cases c34 : a0_0 = 1
        · rw [if_pos c34] at H
          have c34b0 : (a0_0 == 1) = true := beq_iff_eq.mpr c34
          have c34b1 : (a0_0 != 1) = false := bne_eq_false_iff_eq.mpr c34
          clear c34
          by_cases c35 : a0_2.toList = ([] : List UInt8)
          · rw [if_pos c35] at H
            have c35b0 : (a0_2.toList == ([] : List UInt8)) = true := beq_iff_eq.mpr c35
            have c35b1 : (a0_2.toList != ([] : List UInt8)) = false := bne_eq_false_iff_eq.mpr c35
            clear c35
            replace H := Option.bind_eq_some_iff.mp H
            obtain ⟨t249, A360, H⟩ := H
            replace H : (some t249) = some r := H
            have A36 := Aside0.mk A360
            clear A360
            obtain rfl := Option.some.inj H
            go_enter Tryd.func110, Tryd.ntmps110
            go_wp2_with (first | ((with_reducible refine gate_dst (N := 1) rfl ?_); refine box_event ?hg (N := 1) ?hd (cs := #[.int .i64 a0_0, .int .i64 a0_1, .string a0_2, .slice A0_3 l0_3.length c0_3]) (t := 24) ?hr ?_; (case hd => rfl); (case hg => rfl); (case hr => first | (go_simp; done) | (go_simp; rfl)); intro gb243 hg w37 hbox hb; have n0_ := Aside0.mk (below_step (by repeat (first | (with_reducible first | exact HB.out | apply below_alloc | apply pw_below_drewN | apply below_drew1) | exact HB.out)) hb); have n1_ := Aside0.mk (hbox); have n2_ := Aside0.mk ((by rw [hg]; exact (below_size (by repeat (first | (with_reducible first | exact HB.out | apply below_alloc | apply pw_below_drewN | apply below_drew1) | exact HB.out))) : w.heap.size ≤ gb243)); have n3_ := Aside0.mk ((by rw [hg]; exact (below_size (by repeat (first | (with_reducible first | exact HB.out | apply below_alloc | apply pw_below_drewN | apply below_drew1) | exact HB.out))) : w.heap.size ≤ gb243)); clear HB; have HB := n0_; have BK243 := n1_; have GW243 := n2_; have GE243 := n3_; clear n0_ n1_ n2_ n3_; clear hb hbox hg; have hcz38_0 : w37.cell? ⟨gb243, 0, none⟩ = some (.int .i64 a0_0) := (blk_cell BK243.out 0).trans rfl; have hcz38_1 : w37.cell? ⟨gb243, 1, none⟩ = some (.int .i64 a0_1) := (blk_cell BK243.out 1).trans rfl; have hcz38_2 : w37.cell? ⟨gb243, 2, none⟩ = some (.string a0_2) := (blk_cell BK243.out 2).trans rfl; have hcz38_3 : w37.cell? ⟨gb243, 3, none⟩ = some (.slice A0_3 l0_3.length c0_3) := (blk_cell BK243.out 3).trans rfl; have hfz38_0 := blk_frozen BK243.out 0; have hfz38_1 := blk_frozen BK243.out 1; have hfz38_2 := blk_frozen BK243.out 2; have hfz38_3 := blk_frozen BK243.out 3) | (go_at_call 129; (with_reducible refine (causal_within.calls a0_1 (-1000000000000000) 1000000000000000 t249 _ A36.out).mono ?_); rintro e w' ⟨rfl, ⟨nd, rfl⟩⟩))
            go_ret
            exact ⟨by first | rfl | (simp [errW_none, errW_some] <;> rfl) | (simp [*, errW_none, errW_some] <;> rfl), by repeat (first | (with_reducible first | exact HB.out | apply below_alloc | apply pw_below_drewN | apply below_drew1 | refine below_set ?_ GE243.out) | exact HB.out)⟩
          · rw [if_neg c35] at H
            have c35b0 : (a0_2.toList == ([] : List UInt8)) = false := beq_eq_false_iff_ne.mpr c35
            have c35b1 : (a0_2.toList != ([] : List UInt8)) = true := bne_iff_ne.mpr c35
            obtain rfl := Option.some.inj H
            go_enter Tryd.func110, Tryd.ntmps110
            go_wp2_with (first | ((with_reducible refine gate_dst (N := 1) rfl ?_); refine box_event ?hg (N := 1) ?hd (cs := #[.int .i64 a0_0, .int .i64 a0_1, .string a0_2, .slice A0_3 l0_3.length c0_3]) (t := 24) ?hr ?_; (case hd => rfl); (case hg => rfl); (case hr => first | (go_simp; done) | (go_simp; rfl)); intro gb243 hg w39 hbox hb; have n0_ := Aside0.mk (below_step (by repeat (first | (with_reducible first | exact HB.out | apply below_alloc | apply pw_below_drewN | apply below_drew1) | exact HB.out)) hb); have n1_ := Aside0.mk (hbox); have n2_ := Aside0.mk ((by rw [hg]; exact (below_size (by repeat (first | (with_reducible first | exact HB.out | apply below_alloc | apply pw_below_drewN | apply below_drew1) | exact HB.out))) : w.heap.size ≤ gb243)); have n3_ := Aside0.mk ((by rw [hg]; exact (below_size (by repeat (first | (with_reducible first | exact HB.out | apply below_alloc | apply pw_below_drewN | apply below_drew1) | exact HB.out))) : w.heap.size ≤ gb243)); clear HB; have HB := n0_; have BK243 := n1_; have GW243 := n2_; have GE243 := n3_; clear n0_ n1_ n2_ n3_; clear hb hbox hg; have hcz40_0 : w39.cell? ⟨gb243, 0, none⟩ = some (.int .i64 a0_0) := (blk_cell BK243.out 0).trans rfl; have hcz40_1 : w39.cell? ⟨gb243, 1, none⟩ = some (.int .i64 a0_1) := (blk_cell BK243.out 1).trans rfl; have hcz40_2 : w39.cell? ⟨gb243, 2, none⟩ = some (.string a0_2) := (blk_cell BK243.out 2).trans rfl; have hcz40_3 : w39.cell? ⟨gb243, 3, none⟩ = some (.slice A0_3 l0_3.length c0_3) := (blk_cell BK243.out 3).trans rfl; have hfz40_0 := blk_frozen BK243.out 0; have hfz40_1 := blk_frozen BK243.out 1; have hfz40_2 := blk_frozen BK243.out 2; have hfz40_3 := blk_frozen BK243.out 3))
            go_ret
            exact ⟨by first | rfl | (simp [errW_none, errW_some] <;> rfl) | (simp [*, errW_none, errW_some] <;> rfl), by repeat (first | (with_reducible first | exact HB.out | apply below_alloc | apply pw_below_drewN | apply below_drew1 | refine below_set ?_ GE243.out) | exact HB.out)⟩
        · rw [if_neg c34] at H
          have c34b0 : (a0_0 == 1) = false := beq_eq_false_iff_ne.mpr c34
          have c34b1 : (a0_0 != 1) = true := bne_iff_ne.mpr c34
          by_cases c41 : a0_0 = 2
          · rw [if_pos c41] at H
            have c41b0 : (a0_0 == 2) = true := beq_iff_eq.mpr c41
            have c41b1 : (a0_0 != 2) = false := bne_eq_false_iff_eq.mpr c41
            clear c41
            by_cases c42 : a0_2.toList = ([] : List UInt8)
            · rw [if_pos c42] at H
              have c42b0 : (a0_2.toList == ([] : List UInt8)) = true := beq_iff_eq.mpr c42
              have c42b1 : (a0_2.toList != ([] : List UInt8)) = false := bne_eq_false_iff_eq.mpr c42
              clear c42
              replace H := Option.bind_eq_some_iff.mp H
              obtain ⟨t250, A430, H⟩ := H
              replace H : (some t250) = some r := H
              have A43 := Aside0.mk A430
              clear A430
              obtain rfl := Option.some.inj H
              go_enter Tryd.func110, Tryd.ntmps110
              go_wp2_with (first | ((with_reducible refine gate_dst (N := 1) rfl ?_); refine box_event ?hg (N := 1) ?hd (cs := #[.int .i64 a0_0, .int .i64 a0_1, .string a0_2, .slice A0_3 l0_3.length c0_3]) (t := 24) ?hr ?_; (case hd => rfl); (case hg => rfl); (case hr => first | (go_simp; done) | (go_simp; rfl)); intro gb243 hg w44 hbox hb; have n0_ := Aside0.mk (below_step (by repeat (first | (with_reducible first | exact HB.out | apply below_alloc | apply pw_below_drewN | apply below_drew1) | exact HB.out)) hb); have n1_ := Aside0.mk (hbox); have n2_ := Aside0.mk ((by rw [hg]; exact (below_size (by repeat (first | (with_reducible first | exact HB.out | apply below_alloc | apply pw_below_drewN | apply below_drew1) | exact HB.out))) : w.heap.size ≤ gb243)); have n3_ := Aside0.mk ((by rw [hg]; exact (below_size (by repeat (first | (with_reducible first | exact HB.out | apply below_alloc | apply pw_below_drewN | apply below_drew1) | exact HB.out))) : w.heap.size ≤ gb243)); clear HB; have HB := n0_; have BK243 := n1_; have GW243 := n2_; have GE243 := n3_; clear n0_ n1_ n2_ n3_; clear hb hbox hg; have hcz45_0 : w44.cell? ⟨gb243, 0, none⟩ = some (.int .i64 a0_0) := (blk_cell BK243.out 0).trans rfl; have hcz45_1 : w44.cell? ⟨gb243, 1, none⟩ = some (.int .i64 a0_1) := (blk_cell BK243.out 1).trans rfl; have hcz45_2 : w44.cell? ⟨gb243, 2, none⟩ = some (.string a0_2) := (blk_cell BK243.out 2).trans rfl; have hcz45_3 : w44.cell? ⟨gb243, 3, none⟩ = some (.slice A0_3 l0_3.length c0_3) := (blk_cell BK243.out 3).trans rfl; have hfz45_0 := blk_frozen BK243.out 0; have hfz45_1 := blk_frozen BK243.out 1; have hfz45_2 := blk_frozen BK243.out 2; have hfz45_3 := blk_frozen BK243.out 3) | (go_at_call 129; (with_reducible refine (causal_within.calls a0_1 0 1 t250 _ A43.out).mono ?_); rintro e w' ⟨rfl, ⟨nd, rfl⟩⟩))
              go_ret
              exact ⟨by first | rfl | (simp [errW_none, errW_some] <;> rfl) | (simp [*, errW_none, errW_some] <;> rfl), by repeat (first | (with_reducible first | exact HB.out | apply below_alloc | apply pw_below_drewN | apply below_drew1 | refine below_set ?_ GE243.out) | exact HB.out)⟩
            · rw [if_neg c42] at H
              have c42b0 : (a0_2.toList == ([] : List UInt8)) = false := beq_eq_false_iff_ne.mpr c42
              have c42b1 : (a0_2.toList != ([] : List UInt8)) = true := bne_iff_ne.mpr c42
              obtain rfl := Option.some.inj H
              go_enter Tryd.func110, Tryd.ntmps110
              go_wp2_with (first | ((with_reducible refine gate_dst (N := 1) rfl ?_); refine box_event ?hg (N := 1) ?hd (cs := #[.int .i64 a0_0, .int .i64 a0_1, .string a0_2, .slice A0_3 l0_3.length c0_3]) (t := 24) ?hr ?_; (case hd => rfl); (case hg => rfl); (case hr => first | (go_simp; done) | (go_simp; rfl)); intro gb243 hg w46 hbox hb; have n0_ := Aside0.mk (below_step (by repeat (first | (with_reducible first | exact HB.out | apply below_alloc | apply pw_below_drewN | apply below_drew1) | exact HB.out)) hb); have n1_ := Aside0.mk (hbox); have n2_ := Aside0.mk ((by rw [hg]; exact (below_size (by repeat (first | (with_reducible first | exact HB.out | apply below_alloc | apply pw_below_drewN | apply below_drew1) | exact HB.out))) : w.heap.size ≤ gb243)); have n3_ := Aside0.mk ((by rw [hg]; exact (below_size (by repeat (first | (with_reducible first | exact HB.out | apply below_alloc | apply pw_below_drewN | apply below_drew1) | exact HB.out))) : w.heap.size ≤ gb243)); clear HB; have HB := n0_; have BK243 := n1_; have GW243 := n2_; have GE243 := n3_; clear n0_ n1_ n2_ n3_; clear hb hbox hg; have hcz47_0 : w46.cell? ⟨gb243, 0, none⟩ = some (.int .i64 a0_0) := (blk_cell BK243.out 0).trans rfl; have hcz47_1 : w46.cell? ⟨gb243, 1, none⟩ = some (.int .i64 a0_1) := (blk_cell BK243.out 1).trans rfl; have hcz47_2 : w46.cell? ⟨gb243, 2, none⟩ = some (.string a0_2) := (blk_cell BK243.out 2).trans rfl; have hcz47_3 : w46.cell? ⟨gb243, 3, none⟩ = some (.slice A0_3 l0_3.length c0_3) := (blk_cell BK243.out 3).trans rfl; have hfz47_0 := blk_frozen BK243.out 0; have hfz47_1 := blk_frozen BK243.out 1; have hfz47_2 := blk_frozen BK243.out 2; have hfz47_3 := blk_frozen BK243.out 3))
              go_ret
              exact ⟨by first | rfl | (simp [errW_none, errW_some] <;> rfl) | (simp [*, errW_none, errW_some] <;> rfl), by repeat (first | (with_reducible first | exact HB.out | apply below_alloc | apply pw_below_drewN | apply below_drew1 | refine below_set ?_ GE243.out) | exact HB.out)⟩
          · rw [if_neg c41] at H
            have c41b0 : (a0_0 == 2) = false := beq_eq_false_iff_ne.mpr c41
            have c41b1 : (a0_0 != 2) = true := bne_iff_ne.mpr c41
            have HC48 := Aside0.mk H
            clear H
            go_enter Tryd.func110, Tryd.ntmps110
            go_upto_if 55 with (first | ((with_reducible refine gate_dst (N := 1) rfl ?_); refine box_event ?hg (N := 1) ?hd (cs := #[.int .i64 a0_0, .int .i64 a0_1, .string a0_2, .slice A0_3 l0_3.length c0_3]) (t := 24) ?hr ?_; (case hd => rfl); (case hg => rfl); (case hr => first | (go_simp; done) | (go_simp; rfl)); intro gb243 hg w49 hbox hb; have n0_ := Aside0.mk (below_step (by repeat (first | (with_reducible first | exact HB.out | apply below_alloc | apply pw_below_drewN | apply below_drew1) | exact HB.out)) hb); have n1_ := Aside0.mk (hbox); have n2_ := Aside0.mk ((by rw [hg]; exact (below_size (by repeat (first | (with_reducible first | exact HB.out | apply below_alloc | apply pw_below_drewN | apply below_drew1) | exact HB.out))) : w.heap.size ≤ gb243)); have n3_ := Aside0.mk ((by rw [hg]; exact (below_size (by repeat (first | (with_reducible first | exact HB.out | apply below_alloc | apply pw_below_drewN | apply below_drew1) | exact HB.out))) : w.heap.size ≤ gb243)); clear HB; have HB := n0_; have BK243 := n1_; have GW243 := n2_; have GE243 := n3_; clear n0_ n1_ n2_ n3_; clear hb hbox hg; have hcz50_0 : w49.cell? ⟨gb243, 0, none⟩ = some (.int .i64 a0_0) := (blk_cell BK243.out 0).trans rfl; have hcz50_1 : w49.cell? ⟨gb243, 1, none⟩ = some (.int .i64 a0_1) := (blk_cell BK243.out 1).trans rfl; have hcz50_2 : w49.cell? ⟨gb243, 2, none⟩ = some (.string a0_2) := (blk_cell BK243.out 2).trans rfl; have hcz50_3 : w49.cell? ⟨gb243, 3, none⟩ = some (.slice A0_3 l0_3.length c0_3) := (blk_cell BK243.out 3).trans rfl; have hfz50_0 := blk_frozen BK243.out 0; have hfz50_1 := blk_frozen BK243.out 1; have hfz50_2 := blk_frozen BK243.out 2; have hfz50_3 := blk_frozen BK243.out 3))
            (try simp only [Act.put, List.setIfInBounds_toArray, List.set_cons_zero, List.set_cons_succ])
            go_cut [55] (fun v55 wc => ∃ (kq : Nat) (x55_47 : Bool), v55 = .bool x55_47 ∧ Aside0 (causal_fields.j0 kq a0_0 x55_47 a0_0 a0_1 a0_2 l0_3 = some r) ∧ Aside0 (kq ≤ k) ∧ Aside0 (wc.heap[gb243]? = some (.cells #[.int .i64 a0_0, .int .i64 a0_1, .string a0_2, (.slice A0_3 l0_3.length c0_3)] 24 (0, 0))) ∧ Aside0 (Below w.heap.size w wc))
            case first =>
              have H := HC48.out
              clear HC48
              by_cases c51 : a0_0 = 3
              · rw [if_pos c51] at H
                have c51b0 : (a0_0 == 3) = true := beq_iff_eq.mpr c51
                have c51b1 : (a0_0 != 3) = false := bne_eq_false_iff_eq.mpr c51
                clear c51
                (first | rw [c51b0] | (simp only [i64_w, i32_w]; rw [c51b0]) | skip)
                have H' := Aside0.mk H
                clear H
                go_wp2
                go_meet
                case rel => exact ⟨_, ((a0_0 == 3)), (by first | rfl | (simp; done) | (simp [*]; done)), H', ⟨by first | omega | exact Nat.le_refl _⟩, ⟨by (with_reducible repeat (first | refine blk_drewN ?_ _ | refine blk_drew ?_ | refine blk_alloc ?_ _)); exact BK243.out⟩, ⟨by repeat (first | (with_reducible first | exact HB.out | apply below_alloc | apply pw_below_drewN | apply below_drew1 | refine below_set ?_ GE243.out) | exact HB.out)⟩⟩
              · rw [if_neg c51] at H
                have c51b0 : (a0_0 == 3) = false := beq_eq_false_iff_ne.mpr c51
                have c51b1 : (a0_0 != 3) = true := bne_iff_ne.mpr c51
                (first | rw [c51b0] | (simp only [i64_w, i32_w]; rw [c51b0]) | skip)
                by_cases c52 : a0_0 = 29
                · rw [if_pos c52] at H
                  have c52b0 : (a0_0 == 29) = true := beq_iff_eq.mpr c52
                  have c52b1 : (a0_0 != 29) = false := bne_eq_false_iff_eq.mpr c52
                  clear c52
                  have H' := Aside0.mk H
                  clear H
                  go_wp2
                  go_meet
                  case rel => exact ⟨_, ((a0_0 == 29)), (by first | rfl | (simp; done) | (simp [*]; done)), H', ⟨by first | omega | exact Nat.le_refl _⟩, ⟨by (with_reducible repeat (first | refine blk_drewN ?_ _ | refine blk_drew ?_ | refine blk_alloc ?_ _)); exact BK243.out⟩, ⟨by repeat (first | (with_reducible first | exact HB.out | apply below_alloc | apply pw_below_drewN | apply below_drew1 | refine below_set ?_ GE243.out) | exact HB.out)⟩⟩
                · rw [if_neg c52] at H
                  have c52b0 : (a0_0 == 29) = false := beq_eq_false_iff_ne.mpr c52
                  have c52b1 : (a0_0 != 29) = true := bne_iff_ne.mpr c52
                  have H' := Aside0.mk H
                  clear H
                  go_wp2
                  go_meet
                  case rel => exact ⟨_, ((a0_0 == 30)), (by first | rfl | (simp; done) | (simp [*]; done)), H', ⟨by first | omega | exact Nat.le_refl _⟩, ⟨by (with_reducible repeat (first | refine blk_drewN ?_ _ | refine blk_drew ?_ | refine blk_alloc ?_ _)); exact BK243.out⟩, ⟨by repeat (first | (with_reducible first | exact HB.out | apply below_alloc | apply pw_below_drewN | apply below_drew1 | refine below_set ?_ GE243.out) | exact HB.out)⟩⟩
            case rest =>
              clear HC48
              try clear c1
              try clear c2
              try clear c2b0
              try clear c2b1
              try clear p2
              try clear c3
              try clear c4
              try clear c5
              try clear c11
              try clear c12
              try clear c13
              try clear c13b0
              try clear c13b1
              try clear c15
              try clear c24
              try clear c24b0
              try clear c24b1
              try clear c26
              try clear c34
              try clear c34b0
              try clear c34b1
              try clear c35
              try clear c35b0
              try clear c35b1
              try clear c41
              try clear c41b0
              try clear c41b1
              try clear c42
              try clear c42b0
              try clear c42b1
              try clear c51
              try clear c51b0
              try clear c51b1
              try clear c52
              try clear c52b0
              try clear c52b1
              try clear hcz11_0
              try clear hcz11_1
              try clear hcz11_2
              try clear hcz11_3
              try clear hcz18_0
              try clear hcz18_1
              try clear hcz18_2
              try clear hcz18_3
              try clear hcz20_0
              try clear hcz20_1
              try clear hcz20_2
              try clear hcz20_3
              try clear hcz22_0
              try clear hcz22_1
              try clear hcz22_2
              try clear hcz22_3
              try clear hcz28_0
              try clear hcz28_1
              try clear hcz28_2
              try clear hcz28_3
              try clear hcz30_0
              try clear hcz30_1
              try clear hcz30_2
              try clear hcz30_3
              try clear hcz32_0
              try clear hcz32_1
              try clear hcz32_2
              try clear hcz32_3
              try clear hcz38_0
              try clear hcz38_1
              try clear hcz38_2
              try clear hcz38_3
              try clear hcz40_0
              try clear hcz40_1
              try clear hcz40_2
              try clear hcz40_3
              try clear hcz45_0
              try clear hcz45_1
              try clear hcz45_2
              try clear hcz45_3
              try clear hcz47_0
              try clear hcz47_1
              try clear hcz47_2
              try clear hcz47_3
              try clear hcz50_0
              try clear hcz50_1
              try clear hcz50_2
              try clear hcz50_3
              try clear hcz7_0
              try clear hcz7_1
              try clear hcz7_2
              try clear hcz7_3
              try clear hcz9_0
              try clear hcz9_1
              try clear hcz9_2
              try clear hcz9_3
              try clear hfz11_0
              try clear hfz11_1
              try clear hfz11_2
              try clear hfz11_3
              try clear hfz18_0
              try clear hfz18_1
              try clear hfz18_2
              try clear hfz18_3
              try clear hfz20_0
              try clear hfz20_1
              try clear hfz20_2
              try clear hfz20_3
              try clear hfz22_0
              try clear hfz22_1
              try clear hfz22_2
              try clear hfz22_3
              try clear hfz28_0
              try clear hfz28_1
              try clear hfz28_2
              try clear hfz28_3
              try clear hfz30_0
              try clear hfz30_1
              try clear hfz30_2
              try clear hfz30_3
              try clear hfz32_0
              try clear hfz32_1
              try clear hfz32_2
              try clear hfz32_3
              try clear hfz38_0
              try clear hfz38_1
              try clear hfz38_2
              try clear hfz38_3
              try clear hfz40_0
              try clear hfz40_1
              try clear hfz40_2
              try clear hfz40_3
              try clear hfz45_0
              try clear hfz45_1
              try clear hfz45_2
              try clear hfz45_3
              try clear hfz47_0
              try clear hfz47_1
              try clear hfz47_2
              try clear hfz47_3
              try clear hfz50_0
              try clear hfz50_1
              try clear hfz50_2
              try clear hfz50_3
              try clear hfz7_0
              try clear hfz7_1
              try clear hfz7_2
              try clear hfz7_3
              try clear hfz9_0
              try clear hfz9_1
              try clear hfz9_2
              try clear hfz9_3
              obtain ⟨kq, x55_47, rfl, HA, HJ47, BK243, HB⟩ := hcut
              cases kq with
              | zero => exact absurd HA.out (by simp [causal_fields.j0])
              | succ kj47 =>
                have H := HA.out
                clear HA
                simp only [causal_fields.j0] at H
                by_cases c53 : x55_47 = true
                · subst c53
                  have H1 : (if a0_2.toList = ([] : List UInt8) then ((causal_within.f a0_1 0 73048).bind fun t251 => (some t251)) else (some false)) = some r := by rw [if_pos rfl] at H; exact H
                  clear H
                  have H := H1
                  clear H1
                  by_cases c54 : a0_2.toList = ([] : List UInt8)
                  · rw [if_pos c54] at H
                    have c54b0 : (a0_2.toList == ([] : List UInt8)) = true := beq_iff_eq.mpr c54
                    have c54b1 : (a0_2.toList != ([] : List UInt8)) = false := bne_eq_false_iff_eq.mpr c54
                    clear c54
                    replace H := Option.bind_eq_some_iff.mp H
                    obtain ⟨t251, A550, H⟩ := H
                    replace H : (some t251) = some r := H
                    have A55 := Aside0.mk A550
                    clear A550
                    obtain rfl := Option.some.inj H
                    have hcz56_0 : wc.cell? ⟨gb243, 0, none⟩ = some (.int .i64 a0_0) := (blk_cell BK243.out 0).trans rfl
                    have hcz56_1 : wc.cell? ⟨gb243, 1, none⟩ = some (.int .i64 a0_1) := (blk_cell BK243.out 1).trans rfl
                    have hcz56_2 : wc.cell? ⟨gb243, 2, none⟩ = some (.string a0_2) := (blk_cell BK243.out 2).trans rfl
                    have hcz56_3 : wc.cell? ⟨gb243, 3, none⟩ = some (.slice A0_3 l0_3.length c0_3) := (blk_cell BK243.out 3).trans rfl
                    have hfz56_0 := blk_frozen BK243.out 0
                    have hfz56_1 := blk_frozen BK243.out 1
                    have hfz56_2 := blk_frozen BK243.out 2
                    have hfz56_3 := blk_frozen BK243.out 3
                    go_wp2_with (first | (go_at_call 129; (with_reducible refine (causal_within.calls a0_1 0 73048 t251 _ A55.out).mono ?_); rintro e w' ⟨rfl, ⟨nd, rfl⟩⟩))
                    go_ret
                    exact ⟨by first | rfl | (simp [errW_none, errW_some] <;> rfl) | (simp [*, errW_none, errW_some] <;> rfl), by repeat (first | (with_reducible first | exact HB.out | apply below_alloc | apply pw_below_drewN | apply below_drew1 | refine below_set ?_ GE243.out) | exact HB.out)⟩
                  · rw [if_neg c54] at H
                    have c54b0 : (a0_2.toList == ([] : List UInt8)) = false := beq_eq_false_iff_ne.mpr c54
                    have c54b1 : (a0_2.toList != ([] : List UInt8)) = true := bne_iff_ne.mpr c54
                    obtain rfl := Option.some.inj H
                    have hcz57_0 : wc.cell? ⟨gb243, 0, none⟩ = some (.int .i64 a0_0) := (blk_cell BK243.out 0).trans rfl
                    have hcz57_1 : wc.cell? ⟨gb243, 1, none⟩ = some (.int .i64 a0_1) := (blk_cell BK243.out 1).trans rfl
                    have hcz57_2 : wc.cell? ⟨gb243, 2, none⟩ = some (.string a0_2) := (blk_cell BK243.out 2).trans rfl
                    have hcz57_3 : wc.cell? ⟨gb243, 3, none⟩ = some (.slice A0_3 l0_3.length c0_3) := (blk_cell BK243.out 3).trans rfl
                    have hfz57_0 := blk_frozen BK243.out 0
                    have hfz57_1 := blk_frozen BK243.out 1
                    have hfz57_2 := blk_frozen BK243.out 2
                    have hfz57_3 := blk_frozen BK243.out 3
                    go_wp2
                    go_ret
                    exact ⟨by first | rfl | (simp [errW_none, errW_some] <;> rfl) | (simp [*, errW_none, errW_some] <;> rfl), by repeat (first | (with_reducible first | exact HB.out | apply below_alloc | apply pw_below_drewN | apply below_drew1 | refine below_set ?_ GE243.out) | exact HB.out)⟩
                · replace c53 := Bool.eq_false_iff.mpr c53
                  subst c53
                  have H1 : (if a0_0 = 5 then (if a0_2.toList = ([] : List UInt8) then ((causal_within.f a0_1 (-3660) 3660).bind fun t252 => (some t252)) else (some false)) else (if a0_2.toList = ([] : List UInt8) then (some (a0_1 == 0)) else (some false))) = some r := by rw [if_neg (show ¬ (false = true) by decide)] at H; exact H
                  clear H
                  have H := H1
                  clear H1
                  by_cases c58 : a0_0 = 5
                  · rw [if_pos c58] at H
                    have c58b0 : (a0_0 == 5) = true := beq_iff_eq.mpr c58
                    have c58b1 : (a0_0 != 5) = false := bne_eq_false_iff_eq.mpr c58
                    clear c58
                    by_cases c59 : a0_2.toList = ([] : List UInt8)
                    · rw [if_pos c59] at H
                      have c59b0 : (a0_2.toList == ([] : List UInt8)) = true := beq_iff_eq.mpr c59
                      have c59b1 : (a0_2.toList != ([] : List UInt8)) = false := bne_eq_false_iff_eq.mpr c59
                      clear c59
                      replace H := Option.bind_eq_some_iff.mp H
                      obtain ⟨t252, A600, H⟩ := H
                      replace H : (some t252) = some r := H
                      have A60 := Aside0.mk A600
                      clear A600
                      obtain rfl := Option.some.inj H
                      have hcz61_0 : wc.cell? ⟨gb243, 0, none⟩ = some (.int .i64 a0_0) := (blk_cell BK243.out 0).trans rfl
                      have hcz61_1 : wc.cell? ⟨gb243, 1, none⟩ = some (.int .i64 a0_1) := (blk_cell BK243.out 1).trans rfl
                      have hcz61_2 : wc.cell? ⟨gb243, 2, none⟩ = some (.string a0_2) := (blk_cell BK243.out 2).trans rfl
                      have hcz61_3 : wc.cell? ⟨gb243, 3, none⟩ = some (.slice A0_3 l0_3.length c0_3) := (blk_cell BK243.out 3).trans rfl
                      have hfz61_0 := blk_frozen BK243.out 0
                      have hfz61_1 := blk_frozen BK243.out 1
                      have hfz61_2 := blk_frozen BK243.out 2
                      have hfz61_3 := blk_frozen BK243.out 3
                      go_wp2_with (first | (go_at_call 129; (with_reducible refine (causal_within.calls a0_1 (-3660) 3660 t252 _ A60.out).mono ?_); rintro e w' ⟨rfl, ⟨nd, rfl⟩⟩))
                      go_ret
                      exact ⟨by first | rfl | (simp [errW_none, errW_some] <;> rfl) | (simp [*, errW_none, errW_some] <;> rfl), by repeat (first | (with_reducible first | exact HB.out | apply below_alloc | apply pw_below_drewN | apply below_drew1 | refine below_set ?_ GE243.out) | exact HB.out)⟩
                    · rw [if_neg c59] at H
                      have c59b0 : (a0_2.toList == ([] : List UInt8)) = false := beq_eq_false_iff_ne.mpr c59
                      have c59b1 : (a0_2.toList != ([] : List UInt8)) = true := bne_iff_ne.mpr c59
                      obtain rfl := Option.some.inj H
                      have hcz62_0 : wc.cell? ⟨gb243, 0, none⟩ = some (.int .i64 a0_0) := (blk_cell BK243.out 0).trans rfl
                      have hcz62_1 : wc.cell? ⟨gb243, 1, none⟩ = some (.int .i64 a0_1) := (blk_cell BK243.out 1).trans rfl
                      have hcz62_2 : wc.cell? ⟨gb243, 2, none⟩ = some (.string a0_2) := (blk_cell BK243.out 2).trans rfl
                      have hcz62_3 : wc.cell? ⟨gb243, 3, none⟩ = some (.slice A0_3 l0_3.length c0_3) := (blk_cell BK243.out 3).trans rfl
                      have hfz62_0 := blk_frozen BK243.out 0
                      have hfz62_1 := blk_frozen BK243.out 1
                      have hfz62_2 := blk_frozen BK243.out 2
                      have hfz62_3 := blk_frozen BK243.out 3
                      go_wp2
                      go_ret
                      exact ⟨by first | rfl | (simp [errW_none, errW_some] <;> rfl) | (simp [*, errW_none, errW_some] <;> rfl), by repeat (first | (with_reducible first | exact HB.out | apply below_alloc | apply pw_below_drewN | apply below_drew1 | refine below_set ?_ GE243.out) | exact HB.out)⟩
                  · rw [if_neg c58] at H
                    have c58b0 : (a0_0 == 5) = false := beq_eq_false_iff_ne.mpr c58
                    have c58b1 : (a0_0 != 5) = true := bne_iff_ne.mpr c58
                    by_cases c63 : a0_2.toList = ([] : List UInt8)
                    · rw [if_pos c63] at H
                      have c63b0 : (a0_2.toList == ([] : List UInt8)) = true := beq_iff_eq.mpr c63
                      have c63b1 : (a0_2.toList != ([] : List UInt8)) = false := bne_eq_false_iff_eq.mpr c63
                      clear c63
                      obtain rfl := Option.some.inj H
                      have hcz64_0 : wc.cell? ⟨gb243, 0, none⟩ = some (.int .i64 a0_0) := (blk_cell BK243.out 0).trans rfl
                      have hcz64_1 : wc.cell? ⟨gb243, 1, none⟩ = some (.int .i64 a0_1) := (blk_cell BK243.out 1).trans rfl
                      have hcz64_2 : wc.cell? ⟨gb243, 2, none⟩ = some (.string a0_2) := (blk_cell BK243.out 2).trans rfl
                      have hcz64_3 : wc.cell? ⟨gb243, 3, none⟩ = some (.slice A0_3 l0_3.length c0_3) := (blk_cell BK243.out 3).trans rfl
                      have hfz64_0 := blk_frozen BK243.out 0
                      have hfz64_1 := blk_frozen BK243.out 1
                      have hfz64_2 := blk_frozen BK243.out 2
                      have hfz64_3 := blk_frozen BK243.out 3
                      go_wp2
                      go_ret
                      exact ⟨by first | rfl | (simp [errW_none, errW_some] <;> rfl) | (simp [*, errW_none, errW_some] <;> rfl), by repeat (first | (with_reducible first | exact HB.out | apply below_alloc | apply pw_below_drewN | apply below_drew1 | refine below_set ?_ GE243.out) | exact HB.out)⟩
                    · rw [if_neg c63] at H
                      have c63b0 : (a0_2.toList == ([] : List UInt8)) = false := beq_eq_false_iff_ne.mpr c63
                      have c63b1 : (a0_2.toList != ([] : List UInt8)) = true := bne_iff_ne.mpr c63
                      obtain rfl := Option.some.inj H
                      have hcz65_0 : wc.cell? ⟨gb243, 0, none⟩ = some (.int .i64 a0_0) := (blk_cell BK243.out 0).trans rfl
                      have hcz65_1 : wc.cell? ⟨gb243, 1, none⟩ = some (.int .i64 a0_1) := (blk_cell BK243.out 1).trans rfl
                      have hcz65_2 : wc.cell? ⟨gb243, 2, none⟩ = some (.string a0_2) := (blk_cell BK243.out 2).trans rfl
                      have hcz65_3 : wc.cell? ⟨gb243, 3, none⟩ = some (.slice A0_3 l0_3.length c0_3) := (blk_cell BK243.out 3).trans rfl
                      have hfz65_0 := blk_frozen BK243.out 0
                      have hfz65_1 := blk_frozen BK243.out 1
                      have hfz65_2 := blk_frozen BK243.out 2
                      have hfz65_3 := blk_frozen BK243.out 3
                      go_wp2
                      go_ret
                      exact ⟨by first | rfl | (simp [errW_none, errW_some] <;> rfl) | (simp [*, errW_none, errW_some] <;> rfl), by repeat (first | (with_reducible first | exact HB.out | apply below_alloc | apply pw_below_drewN | apply below_drew1 | refine below_set ?_ GE243.out) | exact HB.out)⟩

end Go.Proofs.YtniajhmbdbgmgaaDoor.Q

/- The causal layer's table of sorts tells its row. -/
namespace Go.Proofs.YtniajhmbdbgmgaaDoor.Q
open Go Go.RowKit Go.Proofs Go.Proofs.YtniajhmbdbgmgaaDoor

/-- What an operation's kids and its own type are, by letters. -/
def sorts : List (List UInt8) := [[], [62, 110], [62, 98], [62, 100], [62, 110], [62, 100], [110, 62, 110], [110, 110, 62, 110], [110, 110, 62, 110], [110, 110, 62, 110], [110, 110, 62, 110], [110, 110, 62, 98], [110, 110, 62, 98], [110, 110, 62, 98], [98, 62, 98], [98, 98, 62, 98], [98, 98, 62, 98], [100, 100, 62, 98], [100, 110, 62, 100], [100, 110, 62, 100], [100, 100, 62, 110], [100, 100, 62, 110], [98, 120, 120, 62, 120], [62, 99], [62, 99], [99, 62, 99], [110, 99, 62, 99], [99, 99, 62, 99], [98, 99, 99, 62, 99], [99, 62, 99], [98, 99, 62, 99], [99, 99, 62, 99]]
def sortAt (op : Int) : List UInt8 := if 0 ≤ op ∧ op < 32 then sorts.getD op.toNat [] else []
def causal_sort.f (a0 : Int) : Option ByteArray := some ⟨(sortAt a0).toArray⟩

theorem sort_cell (W : World) (T : TypeId) (i : Nat) (hi : i < 32) :
    (W.alloc (.cells #[.string ⟨#[]⟩, .string ⟨#[62, 110]⟩, .string ⟨#[62, 98]⟩, .string ⟨#[62, 100]⟩, .string ⟨#[62, 110]⟩, .string ⟨#[62, 100]⟩, .string ⟨#[110, 62, 110]⟩, .string ⟨#[110, 110, 62, 110]⟩, .string ⟨#[110, 110, 62, 110]⟩, .string ⟨#[110, 110, 62, 110]⟩, .string ⟨#[110, 110, 62, 110]⟩, .string ⟨#[110, 110, 62, 98]⟩, .string ⟨#[110, 110, 62, 98]⟩, .string ⟨#[110, 110, 62, 98]⟩, .string ⟨#[98, 62, 98]⟩, .string ⟨#[98, 98, 62, 98]⟩, .string ⟨#[98, 98, 62, 98]⟩, .string ⟨#[100, 100, 62, 98]⟩, .string ⟨#[100, 110, 62, 100]⟩, .string ⟨#[100, 110, 62, 100]⟩, .string ⟨#[100, 100, 62, 110]⟩, .string ⟨#[100, 100, 62, 110]⟩, .string ⟨#[98, 120, 120, 62, 120]⟩, .string ⟨#[62, 99]⟩, .string ⟨#[62, 99]⟩, .string ⟨#[99, 62, 99]⟩, .string ⟨#[110, 99, 62, 99]⟩, .string ⟨#[99, 99, 62, 99]⟩, .string ⟨#[98, 99, 99, 62, 99]⟩, .string ⟨#[99, 62, 99]⟩, .string ⟨#[98, 99, 62, 99]⟩, .string ⟨#[99, 99, 62, 99]⟩] T)).cell? ⟨W.heap.size, i, none⟩ = some (.string ⟨(sorts.getD i []).toArray⟩) := by
  rw [World.cell?_alloc_new]
  match i, hi with
  | 0, _ => rfl
  | 1, _ => rfl
  | 2, _ => rfl
  | 3, _ => rfl
  | 4, _ => rfl
  | 5, _ => rfl
  | 6, _ => rfl
  | 7, _ => rfl
  | 8, _ => rfl
  | 9, _ => rfl
  | 10, _ => rfl
  | 11, _ => rfl
  | 12, _ => rfl
  | 13, _ => rfl
  | 14, _ => rfl
  | 15, _ => rfl
  | 16, _ => rfl
  | 17, _ => rfl
  | 18, _ => rfl
  | 19, _ => rfl
  | 20, _ => rfl
  | 21, _ => rfl
  | 22, _ => rfl
  | 23, _ => rfl
  | 24, _ => rfl
  | 25, _ => rfl
  | 26, _ => rfl
  | 27, _ => rfl
  | 28, _ => rfl
  | 29, _ => rfl
  | 30, _ => rfl
  | 31, _ => rfl
  | n + 32, h => exact absurd h (by omega)

theorem sort_built (w : World) : (Instr.build 167 #[(0, .string ⟨#[]⟩), (1, .string ⟨#[62, 110]⟩), (2, .string ⟨#[62, 98]⟩), (3, .string ⟨#[62, 100]⟩), (4, .string ⟨#[62, 110]⟩), (5, .string ⟨#[62, 100]⟩), (6, .string ⟨#[110, 62, 110]⟩), (7, .string ⟨#[110, 110, 62, 110]⟩), (8, .string ⟨#[110, 110, 62, 110]⟩), (9, .string ⟨#[110, 110, 62, 110]⟩), (10, .string ⟨#[110, 110, 62, 110]⟩), (11, .string ⟨#[110, 110, 62, 98]⟩), (12, .string ⟨#[110, 110, 62, 98]⟩), (13, .string ⟨#[110, 110, 62, 98]⟩), (14, .string ⟨#[98, 62, 98]⟩), (15, .string ⟨#[98, 98, 62, 98]⟩), (16, .string ⟨#[98, 98, 62, 98]⟩), (17, .string ⟨#[100, 100, 62, 98]⟩), (18, .string ⟨#[100, 110, 62, 100]⟩), (19, .string ⟨#[100, 110, 62, 100]⟩), (20, .string ⟨#[100, 100, 62, 110]⟩), (21, .string ⟨#[100, 100, 62, 110]⟩), (22, .string ⟨#[98, 120, 120, 62, 120]⟩), (23, .string ⟨#[62, 99]⟩), (24, .string ⟨#[62, 99]⟩), (25, .string ⟨#[99, 62, 99]⟩), (26, .string ⟨#[110, 99, 62, 99]⟩), (27, .string ⟨#[99, 99, 62, 99]⟩), (28, .string ⟨#[98, 99, 99, 62, 99]⟩), (29, .string ⟨#[99, 62, 99]⟩), (30, .string ⟨#[98, 99, 62, 99]⟩), (31, .string ⟨#[99, 99, 62, 99]⟩)]).run Tryd.prog w = .ok (.agg #[.string ⟨#[]⟩, .string ⟨#[62, 110]⟩, .string ⟨#[62, 98]⟩, .string ⟨#[62, 100]⟩, .string ⟨#[62, 110]⟩, .string ⟨#[62, 100]⟩, .string ⟨#[110, 62, 110]⟩, .string ⟨#[110, 110, 62, 110]⟩, .string ⟨#[110, 110, 62, 110]⟩, .string ⟨#[110, 110, 62, 110]⟩, .string ⟨#[110, 110, 62, 110]⟩, .string ⟨#[110, 110, 62, 98]⟩, .string ⟨#[110, 110, 62, 98]⟩, .string ⟨#[110, 110, 62, 98]⟩, .string ⟨#[98, 62, 98]⟩, .string ⟨#[98, 98, 62, 98]⟩, .string ⟨#[98, 98, 62, 98]⟩, .string ⟨#[100, 100, 62, 98]⟩, .string ⟨#[100, 110, 62, 100]⟩, .string ⟨#[100, 110, 62, 100]⟩, .string ⟨#[100, 100, 62, 110]⟩, .string ⟨#[100, 100, 62, 110]⟩, .string ⟨#[98, 120, 120, 62, 120]⟩, .string ⟨#[62, 99]⟩, .string ⟨#[62, 99]⟩, .string ⟨#[99, 62, 99]⟩, .string ⟨#[110, 99, 62, 99]⟩, .string ⟨#[99, 99, 62, 99]⟩, .string ⟨#[98, 99, 99, 62, 99]⟩, .string ⟨#[99, 62, 99]⟩, .string ⟨#[98, 99, 62, 99]⟩, .string ⟨#[99, 99, 62, 99]⟩]) w := run_build w _ _ _ (by kernel_rfl)
theorem build_to {P : Program} {w : World} {ρ : Operand → Value} {o : Oper} {t : TypeId} {parts : Array (Nat × Operand)} {parts' : Array (Nat × Value)} {cs : Array Value} (hb : (Instr.build t parts').run P w = .ok (.agg cs) w) (ho : o.op = .build t parts) (hp : parts.map (fun (i, x) => (i, ρ x)) = parts') : (execOp ρ o).run P w = .ok (.value (.agg cs)) w := by
  obtain ⟨r, hr⟩ : ∃ r, Instr.build t parts' = r := ⟨_, rfl⟩
  rw [hr] at hb
  unfold execOp
  rw [ho]
  simp only [hp, hr]
  simp [go_sem, hb]
/-- What the walk wants of the array's cells. -/
theorem sort_cells : ∃ cs : Array Value, cs.size = 32 ∧ (∀ w, (Instr.build 167 #[(0, .string ⟨#[]⟩), (1, .string ⟨#[62, 110]⟩), (2, .string ⟨#[62, 98]⟩), (3, .string ⟨#[62, 100]⟩), (4, .string ⟨#[62, 110]⟩), (5, .string ⟨#[62, 100]⟩), (6, .string ⟨#[110, 62, 110]⟩), (7, .string ⟨#[110, 110, 62, 110]⟩), (8, .string ⟨#[110, 110, 62, 110]⟩), (9, .string ⟨#[110, 110, 62, 110]⟩), (10, .string ⟨#[110, 110, 62, 110]⟩), (11, .string ⟨#[110, 110, 62, 98]⟩), (12, .string ⟨#[110, 110, 62, 98]⟩), (13, .string ⟨#[110, 110, 62, 98]⟩), (14, .string ⟨#[98, 62, 98]⟩), (15, .string ⟨#[98, 98, 62, 98]⟩), (16, .string ⟨#[98, 98, 62, 98]⟩), (17, .string ⟨#[100, 100, 62, 98]⟩), (18, .string ⟨#[100, 110, 62, 100]⟩), (19, .string ⟨#[100, 110, 62, 100]⟩), (20, .string ⟨#[100, 100, 62, 110]⟩), (21, .string ⟨#[100, 100, 62, 110]⟩), (22, .string ⟨#[98, 120, 120, 62, 120]⟩), (23, .string ⟨#[62, 99]⟩), (24, .string ⟨#[62, 99]⟩), (25, .string ⟨#[99, 62, 99]⟩), (26, .string ⟨#[110, 99, 62, 99]⟩), (27, .string ⟨#[99, 99, 62, 99]⟩), (28, .string ⟨#[98, 99, 99, 62, 99]⟩), (29, .string ⟨#[99, 62, 99]⟩), (30, .string ⟨#[98, 99, 62, 99]⟩), (31, .string ⟨#[99, 99, 62, 99]⟩)]).run Tryd.prog w = .ok (.agg cs) w) ∧
    (∀ (w : World) (c : Array Value), c.size = 32 → (storeCells ⟨w.heap.size, 0, none⟩ cs.toList 0).run Tryd.prog (w.alloc (.cells c 167)) = .ok () (w.alloc (.cells cs 167))) ∧
    (∀ (w : World) (i : Nat), i < 32 → (w.alloc (.cells cs 167)).cell? ⟨w.heap.size, i, none⟩ = some (.string ⟨(sorts.getD i []).toArray⟩)) :=
  ⟨#[.string ⟨#[]⟩, .string ⟨#[62, 110]⟩, .string ⟨#[62, 98]⟩, .string ⟨#[62, 100]⟩, .string ⟨#[62, 110]⟩, .string ⟨#[62, 100]⟩, .string ⟨#[110, 62, 110]⟩, .string ⟨#[110, 110, 62, 110]⟩, .string ⟨#[110, 110, 62, 110]⟩, .string ⟨#[110, 110, 62, 110]⟩, .string ⟨#[110, 110, 62, 110]⟩, .string ⟨#[110, 110, 62, 98]⟩, .string ⟨#[110, 110, 62, 98]⟩, .string ⟨#[110, 110, 62, 98]⟩, .string ⟨#[98, 62, 98]⟩, .string ⟨#[98, 98, 62, 98]⟩, .string ⟨#[98, 98, 62, 98]⟩, .string ⟨#[100, 100, 62, 98]⟩, .string ⟨#[100, 110, 62, 100]⟩, .string ⟨#[100, 110, 62, 100]⟩, .string ⟨#[100, 100, 62, 110]⟩, .string ⟨#[100, 100, 62, 110]⟩, .string ⟨#[98, 120, 120, 62, 120]⟩, .string ⟨#[62, 99]⟩, .string ⟨#[62, 99]⟩, .string ⟨#[99, 62, 99]⟩, .string ⟨#[110, 99, 62, 99]⟩, .string ⟨#[99, 99, 62, 99]⟩, .string ⟨#[98, 99, 99, 62, 99]⟩, .string ⟨#[99, 62, 99]⟩, .string ⟨#[98, 99, 62, 99]⟩, .string ⟨#[99, 99, 62, 99]⟩], rfl, sort_built, fun w c h => run_storeCells_new w _ c _ (by kernel_rfl) h (by kernel_rfl), fun w i hi => sort_cell w _ i hi⟩
set_option maxHeartbeats 2000000 in
set_option maxRecDepth 100000 in
theorem causal_sort.calls (a0 : Int) (r : ByteArray) (w : World) (h : causal_sort.f a0 = some r) : Calls Tryd.prog 109 #[.int .i64 a0] w fun e w' => e = .returned (.string r) ∧ Below w.heap.size w w' := by
  obtain rfl : (⟨(sortAt a0).toArray⟩ : ByteArray) = r := by simpa [causal_sort.f] using h
  clear h
  obtain ⟨cs, hsz, hb, hst, hcell⟩ := sort_cells
  have hB := (Below.refl w.heap.size w).alloc (Nat.le_refl _) (.cells cs 167)
  by_cases c : 0 ≤ a0 ∧ a0 < 32
  · obtain ⟨k, rfl⟩ : ∃ k : Nat, a0 = (k : Int) := ⟨a0.toNat, by omega⟩
    have hk : (k : Int) < 32 := c.2
    have hc := hcell w k (by omega)
    have er : sorts.getD k [] = sortAt (k : Int) := by unfold sortAt; rw [if_pos c]; rfl
    obtain ⟨s, es⟩ : ∃ s, sortAt (k : Int) = s := ⟨_, rfl⟩
    rw [er, es] at hc
    rw [es]
    clear c es er hcell
    have t1 : decide ((k : Int) < 0) = false := decide_eq_false (by omega)
    have t2 : decide (32 ≤ (k : Int)) = false := decide_eq_false (by omega)
    go_enter Tryd.func109, Tryd.ntmps109
    go_upto_region 1 with fail
    refine wp_region_lit ?_
    refine Great.wpList_runTo rfl (some 4) rfl (.agg cs) w (build_to (hb w) rfl (by simp [Act.eval])) ?_
    go_wp2_with fail
    go_ret
    exact ⟨rfl, hB⟩
  · have es : sortAt a0 = [] := by unfold sortAt; rw [if_neg c]
    rw [es]
    have hor : a0 < 0 ∨ 32 ≤ a0 := by omega
    clear c es hcell
    rcases hor with hor | hor
    · have t1 : decide (a0 < 0) = true := decide_eq_true hor
      go_enter Tryd.func109, Tryd.ntmps109
      go_upto_region 1 with fail
      refine wp_region_lit ?_
      refine Great.wpList_runTo rfl (some 4) rfl (.agg cs) w (build_to (hb w) rfl (by simp [Act.eval])) ?_
      go_wp2_with fail
      go_ret
      exact ⟨rfl, hB⟩
    · have t1 : decide (a0 < 0) = false := decide_eq_false (by omega)
      have t2 : decide (32 ≤ a0) = true := decide_eq_true hor
      go_enter Tryd.func109, Tryd.ntmps109
      go_upto_region 1 with fail
      refine wp_region_lit ?_
      refine Great.wpList_runTo rfl (some 4) rfl (.agg cs) w (build_to (hb w) rfl (by simp [Act.eval])) ?_
      go_wp2_with fail
      go_ret
      exact ⟨rfl, hB⟩
end Go.Proofs.YtniajhmbdbgmgaaDoor.Q

namespace Go.Proofs.YtniajhmbdbgmgaaDoor.Q
open Go.RowKit Go.Proofs.YtniajhmbdbgmgaaDoorW.PrintWords Go.Proofs.YtniajhmbdbgmgaaDoorW.PrintLast Go.Proofs.YtniajhmbdbgmgaaDoorW.PrintMore
attribute [local go_sem] max2_int min2_int max_two min_two max_three min_three max_four min_four   -- for this text's walks alone
set_option linter.unusedVariables false
set_option linter.unusedSimpArgs false

/-! ### causal_letter: function 76 -/
mutual
def causal_letter.j0 : Nat → ByteArray → ByteArray → Bool → Int → Int → ByteArray → List (S24) → Option (Int)
  | 0, _, _, _, _, _, _, _ => none
  | k + 1, x3, x4, x32, x254000, x254001, x254002, x254003 => if x32 = true then (some 0) else (causal_letter.l0 k x3 x4 0 x254003 (x254003.length : Int) 0)
def causal_letter.l0 : Nat → ByteArray → ByteArray → Int → List (S24) → Int → Int → Option (Int)
  | 0, _, _, _, _, _, _ => none
  | k + 1, x3, x4, x6, x34, x35, x36 => if x36 < x35 then (if 0 ≤ x36 then (if x36 < (x34.length : Int) then ((causal_letter.f k ((rd_T24 x34 x36).f0) ((rd_T24 x34 x36).f1) ((rd_T24 x34 x36).f2) ((rd_T24 x34 x36).f3)).bind fun t261 => (if t261 = 0 then (some 0) else (if x36 < (x3.size : Int) then (if (bt x3 x36) = 120 then (if t261 = 99 then (causal_letter.j2 k x3 x4 x6 x36 t261 x34 x35 x36 false) else (if x6 = 0 then (causal_letter.j2 k x3 x4 x6 x36 t261 x34 x35 x36 true) else (causal_letter.j2 k x3 x4 x6 x36 t261 x34 x35 x36 (x6 == t261)))) else (causal_letter.j2 k x3 x4 x6 x36 t261 x34 x35 x36 false)) else (none)))) else (none)) else (none)) else (if x4.toList = ([120] : List UInt8) then (some x6) else (if 0 < (x4.size : Int) then (some (bt x4 0)) else (none)))
def causal_letter.j2 : Nat → ByteArray → ByteArray → Int → Int → Int → List (S24) → Int → Int → Bool → Option (Int)
  | 0, _, _, _, _, _, _, _, _, _ => none
  | k + 1, x3, x4, x6, x7, x9, x34, x35, x36, x46 => if x46 = true then (causal_letter.l0 k x3 x4 x9 x34 x35 (wrap64 (x36 + 1))) else (if 0 ≤ x7 then (if x7 < (x3.size : Int) then (if (bt x3 x7) = x9 then (causal_letter.l0 k x3 x4 x6 x34 x35 (wrap64 (x36 + 1))) else (some 0)) else (none)) else (none))
def causal_letter.f : Nat → Int → Int → ByteArray → List (S24) → Option (Int)
  | 0, _, _, _, _ => none
  | k + 1, a0_0, a0_1, a0_2, l0_3 => (causal_sort.f a0_0).bind fun t254 => ((strings_Cut.f t254 (⟨#[62]⟩ : ByteArray)).bind fun bt255 => (if bt255.2.2 = true then (if (bt255.1.size : Int) = (l0_3.length : Int) then ((causal_fields.f k a0_0 a0_1 a0_2 l0_3).bind fun t258 => (causal_letter.j0 k bt255.1 bt255.2.1 (!t258) a0_0 a0_1 a0_2 l0_3)) else (causal_letter.j0 k bt255.1 bt255.2.1 true a0_0 a0_1 a0_2 l0_3)) else (causal_letter.j0 k bt255.1 bt255.2.1 true a0_0 a0_1 a0_2 l0_3)))
end
theorem causal_letter.mono_l : ∀ k, (∀ y0 y1 y2 y3, LeO (causal_letter.f k y0 y1 y2 y3) (causal_letter.f (k + 1) y0 y1 y2 y3)) ∧ (∀ y0 y1 y2 y3 y4 y5 y6, LeO (causal_letter.j0 k y0 y1 y2 y3 y4 y5 y6) (causal_letter.j0 (k + 1) y0 y1 y2 y3 y4 y5 y6)) ∧ (∀ y0 y1 y2 y3 y4 y5, LeO (causal_letter.l0 k y0 y1 y2 y3 y4 y5) (causal_letter.l0 (k + 1) y0 y1 y2 y3 y4 y5)) ∧ (∀ y0 y1 y2 y3 y4 y5 y6 y7 y8, LeO (causal_letter.j2 k y0 y1 y2 y3 y4 y5 y6 y7 y8) (causal_letter.j2 (k + 1) y0 y1 y2 y3 y4 y5 y6 y7 y8))
  | 0 => ⟨fun _ _ _ _ r h => by simp [causal_letter.f] at h, fun _ _ _ _ _ _ _ r h => by simp [causal_letter.j0] at h, fun _ _ _ _ _ _ r h => by simp [causal_letter.l0] at h, fun _ _ _ _ _ _ _ _ _ r h => by simp [causal_letter.j2] at h⟩
  | k + 1 => by
    obtain ⟨ih0, ih1, ih2, ih3⟩ := causal_letter.mono_l k
    refine ⟨?_, ?_, ?_, ?_⟩
    · intro y0 y1 y2 y3
      unfold causal_letter.f
      repeat' first
      | (with_reducible exact ih0 _ _ _ _)
      | (with_reducible exact ih1 _ _ _ _ _ _ _)
      | (with_reducible exact ih2 _ _ _ _ _ _)
      | (with_reducible exact ih3 _ _ _ _ _ _ _ _ _)
      | (with_reducible exact causal_fields.mono _ _ _ _ _)
      | (with_reducible exact LeO.refl _)
      | (with_reducible exact LeO.none _)
      | (with_reducible refine LeO.ite ?_ ?_)
      | (with_reducible refine LeO.bind ?_ (fun _ => ?_))
      | exact ih0 _ _ _ _
      | exact ih1 _ _ _ _ _ _ _
      | exact ih2 _ _ _ _ _ _
      | exact ih3 _ _ _ _ _ _ _ _ _
      | exact causal_fields.mono _ _ _ _ _
      | exact LeO.none _
      | refine LeO.ite ?_ ?_
      | refine LeO.bind ?_ (fun _ => ?_)
    · intro y0 y1 y2 y3 y4 y5 y6
      unfold causal_letter.j0
      repeat' first
      | (with_reducible exact ih0 _ _ _ _)
      | (with_reducible exact ih1 _ _ _ _ _ _ _)
      | (with_reducible exact ih2 _ _ _ _ _ _)
      | (with_reducible exact ih3 _ _ _ _ _ _ _ _ _)
      | (with_reducible exact causal_fields.mono _ _ _ _ _)
      | (with_reducible exact LeO.refl _)
      | (with_reducible exact LeO.none _)
      | (with_reducible refine LeO.ite ?_ ?_)
      | (with_reducible refine LeO.bind ?_ (fun _ => ?_))
      | exact ih0 _ _ _ _
      | exact ih1 _ _ _ _ _ _ _
      | exact ih2 _ _ _ _ _ _
      | exact ih3 _ _ _ _ _ _ _ _ _
      | exact causal_fields.mono _ _ _ _ _
      | exact LeO.none _
      | refine LeO.ite ?_ ?_
      | refine LeO.bind ?_ (fun _ => ?_)
    · intro y0 y1 y2 y3 y4 y5
      unfold causal_letter.l0
      repeat' first
      | (with_reducible exact ih0 _ _ _ _)
      | (with_reducible exact ih1 _ _ _ _ _ _ _)
      | (with_reducible exact ih2 _ _ _ _ _ _)
      | (with_reducible exact ih3 _ _ _ _ _ _ _ _ _)
      | (with_reducible exact causal_fields.mono _ _ _ _ _)
      | (with_reducible exact LeO.refl _)
      | (with_reducible exact LeO.none _)
      | (with_reducible refine LeO.ite ?_ ?_)
      | (with_reducible refine LeO.bind ?_ (fun _ => ?_))
      | exact ih0 _ _ _ _
      | exact ih1 _ _ _ _ _ _ _
      | exact ih2 _ _ _ _ _ _
      | exact ih3 _ _ _ _ _ _ _ _ _
      | exact causal_fields.mono _ _ _ _ _
      | exact LeO.none _
      | refine LeO.ite ?_ ?_
      | refine LeO.bind ?_ (fun _ => ?_)
    · intro y0 y1 y2 y3 y4 y5 y6 y7 y8
      unfold causal_letter.j2
      repeat' first
      | (with_reducible exact ih0 _ _ _ _)
      | (with_reducible exact ih1 _ _ _ _ _ _ _)
      | (with_reducible exact ih2 _ _ _ _ _ _)
      | (with_reducible exact ih3 _ _ _ _ _ _ _ _ _)
      | (with_reducible exact causal_fields.mono _ _ _ _ _)
      | (with_reducible exact LeO.refl _)
      | (with_reducible exact LeO.none _)
      | (with_reducible refine LeO.ite ?_ ?_)
      | (with_reducible refine LeO.bind ?_ (fun _ => ?_))
      | exact ih0 _ _ _ _
      | exact ih1 _ _ _ _ _ _ _
      | exact ih2 _ _ _ _ _ _
      | exact ih3 _ _ _ _ _ _ _ _ _
      | exact causal_fields.mono _ _ _ _ _
      | exact LeO.none _
      | refine LeO.ite ?_ ?_
      | refine LeO.bind ?_ (fun _ => ?_)
theorem causal_letter.mono : ∀ a0 a1 a2 a3 k, LeO (causal_letter.f k a0 a1 a2 a3) (causal_letter.f (k + 1) a0 a1 a2 a3) := by
  intro a0 a1 a2 a3 k
  obtain ⟨ih0, ih1, ih2, ih3⟩ := causal_letter.mono_l k
  exact ih0 a0 a1 a2 a3
set_option maxHeartbeats 8000000 in
set_option maxRecDepth 100000 in
theorem causal_letter.calls (k : Nat) : ∀ (a0_0 : Int) (a0_1 : Int) (a0_2 : ByteArray) (A0_3 : Option Addr) (c0_3 : Nat) (l0_3 : List (S24)) (r : Int) (w : World) (hr0_3 : Kd.C k24 w A0_3 l0_3.length l0_3) (hc0_3 : l0_3.length ≤ c0_3) (h : causal_letter.f k a0_0 a0_1 a0_2 l0_3 = some r),
    Calls Tryd.prog 76 #[.agg #[.int .i64 a0_0, .int .i64 a0_1, .string a0_2, .slice A0_3 l0_3.length c0_3]] w fun e w' => e = .returned (.int .u8 r) ∧ Below w.heap.size w w' := by
  induction k using Nat.strongRecOn with
  | _ k ih =>
  intro a0_0 a0_1 a0_2 A0_3 c0_3 l0_3 r w hr0_3 hc0_3 h
  cases k with
  | zero => exact absurd h (by simp [causal_letter.f])
  | succ k =>
  simp only [causal_letter.f] at h
  have hu24 := Tryd.underlying24
  have HR0_3 := Aside0.mk hr0_3
  have HC0_3 := Aside0.mk hc0_3
  clear hr0_3 hc0_3
  have HB := Aside0.mk (Below.refl w.heap.size w)
  have H : ((causal_sort.f a0_0).bind fun t254 => ((strings_Cut.f t254 (⟨#[62]⟩ : ByteArray)).bind fun bt255 => (if bt255.2.2 = true then (if (bt255.1.size : Int) = (l0_3.length : Int) then ((causal_fields.f k a0_0 a0_1 a0_2 l0_3).bind fun t258 => (causal_letter.j0 k bt255.1 bt255.2.1 (!t258) a0_0 a0_1 a0_2 l0_3)) else (causal_letter.j0 k bt255.1 bt255.2.1 true a0_0 a0_1 a0_2 l0_3)) else (causal_letter.j0 k bt255.1 bt255.2.1 true a0_0 a0_1 a0_2 l0_3)))) = some r := h
  clear h
  replace H := Option.bind_eq_some_iff.mp H
  obtain ⟨t254, A20, H⟩ := H
  replace H : ((strings_Cut.f t254 (⟨#[62]⟩ : ByteArray)).bind fun bt255 => (if bt255.2.2 = true then (if (bt255.1.size : Int) = (l0_3.length : Int) then ((causal_fields.f k a0_0 a0_1 a0_2 l0_3).bind fun t258 => (causal_letter.j0 k bt255.1 bt255.2.1 (!t258) a0_0 a0_1 a0_2 l0_3)) else (causal_letter.j0 k bt255.1 bt255.2.1 true a0_0 a0_1 a0_2 l0_3)) else (causal_letter.j0 k bt255.1 bt255.2.1 true a0_0 a0_1 a0_2 l0_3))) = some r := H
  have A2 := Aside0.mk A20
  clear A20
  replace H := Option.bind_eq_some_iff.mp H
  obtain ⟨⟨t255, t256, t257⟩, A30, H⟩ := H
  replace H : (if t257 = true then (if (t255.size : Int) = (l0_3.length : Int) then ((causal_fields.f k a0_0 a0_1 a0_2 l0_3).bind fun t258 => (causal_letter.j0 k t255 t256 (!t258) a0_0 a0_1 a0_2 l0_3)) else (causal_letter.j0 k t255 t256 true a0_0 a0_1 a0_2 l0_3)) else (causal_letter.j0 k t255 t256 true a0_0 a0_1 a0_2 l0_3)) = some r := H
  have A3 := Aside0.mk A30
  clear A30
  have HC4 := Aside0.mk H
  clear H
  go_enter Tryd.func76, Tryd.ntmps76
  go_upto_region 2 with (first | ((with_reducible refine gate_dst (N := 1) rfl ?_); (try (refine gate_guard (by rfl) ?_; dsimp only)); refine box_event ?hg (N := 1) ?hd (cs := #[.int .i64 a0_0, .int .i64 a0_1, .string a0_2, .slice A0_3 l0_3.length c0_3]) (t := 24) ?hr ?_; (case hd => rfl); (case hg => rfl); (case hr => first | (go_simp; done) | (go_simp; rfl)); intro gb253 hg w5 hbox hb; have n0_ := Aside0.mk (below_step (by repeat (first | (with_reducible first | exact HB.out | apply below_alloc | apply pw_below_drewN | apply below_drew1) | exact HB.out)) hb); have n1_ := Aside0.mk (hbox); have n2_ := Aside0.mk ((by rw [hg]; exact (below_size (by repeat (first | (with_reducible first | exact HB.out | apply below_alloc | apply pw_below_drewN | apply below_drew1) | exact HB.out))) : w.heap.size ≤ gb253)); have n3_ := Aside0.mk ((by rw [hg]; exact (below_size (by repeat (first | (with_reducible first | exact HB.out | apply below_alloc | apply pw_below_drewN | apply below_drew1) | exact HB.out))) : w.heap.size ≤ gb253)); clear HB; have HB := n0_; have BK253 := n1_; have GW253 := n2_; have GE253 := n3_; clear n0_ n1_ n2_ n3_; clear hb hbox hg; have hcz6_0 : w5.cell? ⟨gb253, 0, none⟩ = some (.int .i64 a0_0) := (blk_cell BK253.out 0).trans rfl; have hcz6_1 : w5.cell? ⟨gb253, 1, none⟩ = some (.int .i64 a0_1) := (blk_cell BK253.out 1).trans rfl; have hcz6_2 : w5.cell? ⟨gb253, 2, none⟩ = some (.string a0_2) := (blk_cell BK253.out 2).trans rfl; have hcz6_3 : w5.cell? ⟨gb253, 3, none⟩ = some (.slice A0_3 l0_3.length c0_3) := (blk_cell BK253.out 3).trans rfl; have hfz6_0 := blk_frozen BK253.out 0; have hfz6_1 := blk_frozen BK253.out 1; have hfz6_2 := blk_frozen BK253.out 2; have hfz6_3 := blk_frozen BK253.out 3) | ((with_reducible refine gate_callee (f := 109) rfl ?_); refine goesL_ (some 13) rfl rfl Tryd.func109 (by kernel_rfl) rfl #[.int .i64 a0_0] rfl (by (try simp only [List.map_toArray, List.map_cons, List.map_nil]); first | done | rfl | (simp only [List.length_drop, List.length_take]; rfl)) ?_; (with_reducible refine (causal_sort.calls a0_0 t254 _ A2.out).mono ?_); rintro e w7 ⟨rfl, hb⟩; refine ⟨_, rfl, ?_⟩; have n0_ := Aside0.mk (blk_below (g := gb253) (o := .cells #[.int .i64 a0_0, .int .i64 a0_1, .string a0_2, .slice A0_3 l0_3.length c0_3] 24 (0, 0)) (by (with_reducible repeat (first | refine blk_drewN ?_ _ | refine blk_drew ?_ | refine blk_alloc ?_ _)); exact BK253.out) hb); have n1_ := Aside0.mk (below_step (by repeat (first | (with_reducible first | exact HB.out | apply below_alloc | apply pw_below_drewN | apply below_drew1 | refine below_set ?_ GE253.out) | exact HB.out)) hb); clear BK253; clear HB; have BK253 := n0_; have HB := n1_; clear n0_ n1_; (try clear hb); (try clear hb2); (try clear hk); (try clear hi)) | ((with_reducible refine gate_callee (f := 108) rfl ?_); refine goesL_ (some 14) rfl rfl Tryd.func108 (by kernel_rfl) rfl #[.string t254, .string (⟨#[62]⟩ : ByteArray)] rfl (by (try simp only [List.map_toArray, List.map_cons, List.map_nil]); first | done | rfl | (simp only [List.length_drop, List.length_take]; rfl)) ?_; (with_reducible refine (strings_Cut.calls t254 (⟨#[62]⟩ : ByteArray) t255 t256 t257 _ A3.out).mono ?_); rintro e w8 ⟨rfl, hb⟩; refine ⟨_, rfl, ?_⟩; have n0_ := Aside0.mk (blk_below (g := gb253) (o := .cells #[.int .i64 a0_0, .int .i64 a0_1, .string a0_2, .slice A0_3 l0_3.length c0_3] 24 (0, 0)) (by (with_reducible repeat (first | refine blk_drewN ?_ _ | refine blk_drew ?_ | refine blk_alloc ?_ _)); exact BK253.out) hb); have n1_ := Aside0.mk (below_step (by repeat (first | (with_reducible first | exact HB.out | apply below_alloc | apply pw_below_drewN | apply below_drew1 | refine below_set ?_ GE253.out) | exact HB.out)) hb); clear BK253; clear HB; have BK253 := n0_; have HB := n1_; clear n0_ n1_; (try clear hb); (try clear hb2); (try clear hk); (try clear hi)))
  (try simp only [Act.put, List.setIfInBounds_toArray, List.set_cons_zero, List.set_cons_succ])
  go_cut [32] (fun v32 wc => ∃ (kq : Nat) (x32_3 : Bool), v32 = .bool x32_3 ∧ Aside0 (causal_letter.j0 kq t255 t256 x32_3 a0_0 a0_1 a0_2 l0_3 = some r) ∧ Aside0 (kq ≤ k) ∧ Aside0 (wc.heap[gb253]? = some (.cells #[.int .i64 a0_0, .int .i64 a0_1, .string a0_2, (.slice A0_3 l0_3.length c0_3)] 24 (0, 0))) ∧ Aside0 (Below w.heap.size w wc))
  case first =>
    have H := HC4.out
    clear HC4
    by_cases c9 : t257 = true
    · subst c9
      have H1 : (if (t255.size : Int) = (l0_3.length : Int) then ((causal_fields.f k a0_0 a0_1 a0_2 l0_3).bind fun t258 => (causal_letter.j0 k t255 t256 (!t258) a0_0 a0_1 a0_2 l0_3)) else (causal_letter.j0 k t255 t256 true a0_0 a0_1 a0_2 l0_3)) = some r := by rw [if_pos rfl] at H; exact H
      clear H
      have H := H1
      clear H1
      by_cases c10 : (t255.size : Int) = (l0_3.length : Int)
      · rw [if_pos c10] at H
        have c10b0 : ((t255.size : Int) == (l0_3.length : Int)) = true := beq_iff_eq.mpr c10
        have c10b1 : ((t255.size : Int) != (l0_3.length : Int)) = false := bne_eq_false_iff_eq.mpr c10
        have c10b2 : (t255.size == l0_3.length) = true := by first | simpa using c10 | (simp at c10 ⊢; omega)
        clear c10
        (first | rw [c10b0] | (simp only [i64_w, i32_w]; rw [c10b0]) | skip)
        replace H := Option.bind_eq_some_iff.mp H
        obtain ⟨t258, A110, H⟩ := H
        replace H : (causal_letter.j0 k t255 t256 (!t258) a0_0 a0_1 a0_2 l0_3) = some r := H
        have A11 := Aside0.mk A110
        clear A110
        have H' := Aside0.mk H
        clear H
        have hcz12_0 : w8.cell? ⟨gb253, 0, none⟩ = some (.int .i64 a0_0) := (blk_cell BK253.out 0).trans rfl
        have hcz12_1 : w8.cell? ⟨gb253, 1, none⟩ = some (.int .i64 a0_1) := (blk_cell BK253.out 1).trans rfl
        have hcz12_2 : w8.cell? ⟨gb253, 2, none⟩ = some (.string a0_2) := (blk_cell BK253.out 2).trans rfl
        have hcz12_3 : w8.cell? ⟨gb253, 3, none⟩ = some (.slice A0_3 l0_3.length c0_3) := (blk_cell BK253.out 3).trans rfl
        have hfz12_0 := blk_frozen BK253.out 0
        have hfz12_1 := blk_frozen BK253.out 1
        have hfz12_2 := blk_frozen BK253.out 2
        have hfz12_3 := blk_frozen BK253.out 3
        go_wp2_with (first | (go_at_call 110; (with_reducible refine (causal_fields.calls k a0_0 a0_1 a0_2 _ _ l0_3 t258 _ ?side1 ?side2 A11.out).mono ?_); (case side1 => repeat (first | exact (Kd.C_below HR0_3.out HB.out) | (with_reducible refine Kd.C_alloc ?_ _) | (with_reducible refine Kd.C_drewN ?_ _) | (with_reducible refine Kd.C_drew ?_))); (case side2 => exact HC0_3.out); rintro e w13 ⟨rfl, hb⟩; have n0_ := Aside0.mk (blk_below (g := gb253) (o := .cells #[.int .i64 a0_0, .int .i64 a0_1, .string a0_2, .slice A0_3 l0_3.length c0_3] 24 (0, 0)) (by (with_reducible repeat (first | refine blk_drewN ?_ _ | refine blk_drew ?_ | refine blk_alloc ?_ _)); exact BK253.out) hb); have n1_ := Aside0.mk (below_step (by repeat (first | (with_reducible first | exact HB.out | apply below_alloc | apply pw_below_drewN | apply below_drew1 | refine below_set ?_ GE253.out) | exact HB.out)) hb); clear BK253; clear HB; have BK253 := n0_; have HB := n1_; clear n0_ n1_; (try clear hb); (try clear hb2); (try clear hk); (try clear hi)))
        go_meet
        case rel => exact ⟨_, (!t258), (by first | rfl | (simp; done) | (simp [*]; done)), H', ⟨by first | omega | exact Nat.le_refl _⟩, ⟨by (with_reducible repeat (first | refine blk_drewN ?_ _ | refine blk_drew ?_ | refine blk_alloc ?_ _)); exact BK253.out⟩, ⟨by repeat (first | (with_reducible first | exact HB.out | apply below_alloc | apply pw_below_drewN | apply below_drew1 | refine below_set ?_ GE253.out) | exact HB.out)⟩⟩
      · rw [if_neg c10] at H
        have c10b0 : ((t255.size : Int) == (l0_3.length : Int)) = false := beq_eq_false_iff_ne.mpr c10
        have c10b1 : ((t255.size : Int) != (l0_3.length : Int)) = true := bne_iff_ne.mpr c10
        have c10b2 : (t255.size == l0_3.length) = false := by first | simpa using c10 | (simp at c10 ⊢; omega)
        (first | rw [c10b0] | (simp only [i64_w, i32_w]; rw [c10b0]) | skip)
        have H' := Aside0.mk H
        clear H
        have hcz14_0 : w8.cell? ⟨gb253, 0, none⟩ = some (.int .i64 a0_0) := (blk_cell BK253.out 0).trans rfl
        have hcz14_1 : w8.cell? ⟨gb253, 1, none⟩ = some (.int .i64 a0_1) := (blk_cell BK253.out 1).trans rfl
        have hcz14_2 : w8.cell? ⟨gb253, 2, none⟩ = some (.string a0_2) := (blk_cell BK253.out 2).trans rfl
        have hcz14_3 : w8.cell? ⟨gb253, 3, none⟩ = some (.slice A0_3 l0_3.length c0_3) := (blk_cell BK253.out 3).trans rfl
        have hfz14_0 := blk_frozen BK253.out 0
        have hfz14_1 := blk_frozen BK253.out 1
        have hfz14_2 := blk_frozen BK253.out 2
        have hfz14_3 := blk_frozen BK253.out 3
        go_wp2
        go_meet
        case rel => exact ⟨_, (true), (by first | rfl | (simp; done) | (simp [*]; done)), H', ⟨by first | omega | exact Nat.le_refl _⟩, ⟨by (with_reducible repeat (first | refine blk_drewN ?_ _ | refine blk_drew ?_ | refine blk_alloc ?_ _)); exact BK253.out⟩, ⟨by repeat (first | (with_reducible first | exact HB.out | apply below_alloc | apply pw_below_drewN | apply below_drew1 | refine below_set ?_ GE253.out) | exact HB.out)⟩⟩
    · replace c9 := Bool.eq_false_iff.mpr c9
      subst c9
      have H1 : (causal_letter.j0 k t255 t256 true a0_0 a0_1 a0_2 l0_3) = some r := by rw [if_neg (show ¬ (false = true) by decide)] at H; exact H
      clear H
      have H := H1
      clear H1
      have H' := Aside0.mk H
      clear H
      go_wp2
      go_meet
      case rel => exact ⟨_, (true), (by first | rfl | (simp; done) | (simp [*]; done)), H', ⟨by first | omega | exact Nat.le_refl _⟩, ⟨by (with_reducible repeat (first | refine blk_drewN ?_ _ | refine blk_drew ?_ | refine blk_alloc ?_ _)); exact BK253.out⟩, ⟨by repeat (first | (with_reducible first | exact HB.out | apply below_alloc | apply pw_below_drewN | apply below_drew1 | refine below_set ?_ GE253.out) | exact HB.out)⟩⟩
  case rest =>
    clear HC4
    try clear c1
    try clear p2
    try clear c7
    try clear c9
    try clear c10
    try clear c10b0
    try clear c10b1
    try clear c10b2
    try clear hcz12_0
    try clear hcz12_1
    try clear hcz12_2
    try clear hcz12_3
    try clear hcz14_0
    try clear hcz14_1
    try clear hcz14_2
    try clear hcz14_3
    try clear hcz6_0
    try clear hcz6_1
    try clear hcz6_2
    try clear hcz6_3
    try clear hfz12_0
    try clear hfz12_1
    try clear hfz12_2
    try clear hfz12_3
    try clear hfz14_0
    try clear hfz14_1
    try clear hfz14_2
    try clear hfz14_3
    try clear hfz6_0
    try clear hfz6_1
    try clear hfz6_2
    try clear hfz6_3
    obtain ⟨kq, x32_3, rfl, HA, HJ3, BK253, HB⟩ := hcut
    cases kq with
    | zero => exact absurd HA.out (by simp [causal_letter.j0])
    | succ kj3 =>
      have H := HA.out
      clear HA
      simp only [causal_letter.j0] at H
      by_cases c15 : x32_3 = true
      · subst c15
        have H1 : (some 0) = some r := by rw [if_pos rfl] at H; exact H
        clear H
        have H := H1
        clear H1
        obtain rfl := Option.some.inj H
        go_wp2
        go_ret
        exact ⟨by first | rfl | (simp [errW_none, errW_some] <;> rfl) | (simp [*, errW_none, errW_some] <;> rfl), by repeat (first | (with_reducible first | exact HB.out | apply below_alloc | apply pw_below_drewN | apply below_drew1 | refine below_set ?_ GE253.out) | exact HB.out)⟩
      · replace c15 := Bool.eq_false_iff.mpr c15
        subst c15
        have H1 : (causal_letter.l0 kj3 t255 t256 0 l0_3 (l0_3.length : Int) 0) = some r := by rw [if_neg (show ¬ (false = true) by decide)] at H; exact H
        clear H
        have H := H1
        clear H1
        have H' := Aside0.mk H
        clear H
        have hcz16_0 : wc.cell? ⟨gb253, 0, none⟩ = some (.int .i64 a0_0) := (blk_cell BK253.out 0).trans rfl
        have hcz16_1 : wc.cell? ⟨gb253, 1, none⟩ = some (.int .i64 a0_1) := (blk_cell BK253.out 1).trans rfl
        have hcz16_2 : wc.cell? ⟨gb253, 2, none⟩ = some (.string a0_2) := (blk_cell BK253.out 2).trans rfl
        have hcz16_3 : wc.cell? ⟨gb253, 3, none⟩ = some (.slice A0_3 l0_3.length c0_3) := (blk_cell BK253.out 3).trans rfl
        have hfz16_0 := blk_frozen BK253.out 0
        have hfz16_1 := blk_frozen BK253.out 1
        have hfz16_2 := blk_frozen BK253.out 2
        have hfz16_3 := blk_frozen BK253.out 3
        go_wp2
        go_loopg [6, 36] kj3 (fun kq v6 v36 w' => ∃ (x6_2 : Int) (x36_2 : Int), v6 = .int .u8 x6_2 ∧ v36 = .int .i64 x36_2 ∧ Aside0 (causal_letter.l0 kq t255 t256 x6_2 l0_3 (l0_3.length : Int) x36_2 = some r) ∧ Aside0 (kq ≤ kj3) ∧ Aside0 (w'.heap[gb253]? = some (.cells #[.int .i64 a0_0, .int .i64 a0_1, .string a0_2, (.slice A0_3 l0_3.length c0_3)] 24 (0, 0))) ∧ Aside0 (Below w.heap.size w w'))
        case atStart => exact ⟨(0), (0), (by first | rfl | (simp; done) | (simp [*]; done)), (by first | rfl | (simp; done) | (simp [*]; done)), H', ⟨Nat.le_refl _⟩, ⟨by (with_reducible repeat (first | refine blk_drewN ?_ _ | refine blk_drew ?_ | refine blk_alloc ?_ _)); exact BK253.out⟩, ⟨by repeat (first | (with_reducible first | exact HB.out | apply below_alloc | apply pw_below_drewN | apply below_drew1 | refine below_set ?_ GE253.out) | exact HB.out)⟩⟩
        case round =>
          clear H'
          try clear c1
          try clear p2
          try clear c7
          try clear c9
          try clear c10
          try clear c10b0
          try clear c10b1
          try clear c10b2
          try clear c15
          try clear hcz12_0
          try clear hcz12_1
          try clear hcz12_2
          try clear hcz12_3
          try clear hcz14_0
          try clear hcz14_1
          try clear hcz14_2
          try clear hcz14_3
          try clear hcz16_0
          try clear hcz16_1
          try clear hcz16_2
          try clear hcz16_3
          try clear hcz6_0
          try clear hcz6_1
          try clear hcz6_2
          try clear hcz6_3
          try clear hfz12_0
          try clear hfz12_1
          try clear hfz12_2
          try clear hfz12_3
          try clear hfz14_0
          try clear hfz14_1
          try clear hfz14_2
          try clear hfz14_3
          try clear hfz16_0
          try clear hfz16_1
          try clear hfz16_2
          try clear hfz16_3
          try clear hfz6_0
          try clear hfz6_1
          try clear hfz6_2
          try clear hfz6_3
          try clear p2
          obtain ⟨x6_2, x36_2, rfl, rfl, HA, HK2, BK253, HB⟩ := hrel
          cases gk with
          | zero => exact absurd HA.out (by simp [causal_letter.l0])
          | succ k2 =>
            have H := HA.out
            clear HA
            simp only [causal_letter.l0] at H
            by_cases c17 : x36_2 < (l0_3.length : Int)
            · rw [if_pos c17] at H
              have c17b0 : decide (x36_2 < (l0_3.length : Int)) = true := decide_eq_true c17
              clear c17
              by_cases c18 : 0 ≤ x36_2
              · rw [if_pos c18] at H
                have c18b0 : decide (0 ≤ x36_2) = true := decide_eq_true c18
                clear c18
                by_cases c19 : x36_2 < (l0_3.length : Int)
                · rw [if_pos c19] at H
                  have c19b0 : decide (x36_2 < (l0_3.length : Int)) = true := decide_eq_true c19
                  clear c19
                  replace H := Option.bind_eq_some_iff.mp H
                  obtain ⟨t261, A200, H⟩ := H
                  replace H : (if t261 = 0 then (some 0) else (if x36_2 < (t255.size : Int) then (if (bt t255 x36_2) = 120 then (if t261 = 99 then (causal_letter.j2 k2 t255 t256 x6_2 x36_2 t261 l0_3 (l0_3.length : Int) x36_2 false) else (if x6_2 = 0 then (causal_letter.j2 k2 t255 t256 x6_2 x36_2 t261 l0_3 (l0_3.length : Int) x36_2 true) else (causal_letter.j2 k2 t255 t256 x6_2 x36_2 t261 l0_3 (l0_3.length : Int) x36_2 (x6_2 == t261)))) else (causal_letter.j2 k2 t255 t256 x6_2 x36_2 t261 l0_3 (l0_3.length : Int) x36_2 false)) else (none))) = some r := H
                  have A20 := Aside0.mk A200
                  clear A200
                  by_cases c21 : t261 = 0
                  · rw [if_pos c21] at H
                    have c21b0 : (t261 == 0) = true := beq_iff_eq.mpr c21
                    have c21b1 : (t261 != 0) = false := bne_eq_false_iff_eq.mpr c21
                    clear c21
                    obtain rfl := Option.some.inj H
                    have p259 : 0 ≤ (x36_2 : Int) := of_decide_eq_true (by first | (with_reducible assumption) | assumption)
                    have q259 : x36_2 < (l0_3.length : Int) := of_decide_eq_true (by first | (with_reducible assumption) | assumption)
                    obtain ⟨ad259, A259_3, c259_3, e259, hx259_0, hx259_1, hx259_2, hx259_3, hl259_3, hi259_3⟩ := at_T24 HR0_3.out x36_2 p259 q259
                    cases e259
                    replace hx259_0 := (HB.out.cell (World.block_lt_of_cell? w _ hx259_0)).trans hx259_0
                    replace hx259_1 := (HB.out.cell (World.block_lt_of_cell? w _ hx259_1)).trans hx259_1
                    replace hx259_2 := (HB.out.cell (World.block_lt_of_cell? w _ hx259_2)).trans hx259_2
                    replace hx259_3 := (HB.out.cell (World.block_lt_of_cell? w _ hx259_3)).trans hx259_3
                    have HR259_3 := Aside0.mk hi259_3
                    have HC259_3 := Aside0.mk hl259_3
                    clear hi259_3 hl259_3
                    replace p259 := eq_true p259
                    replace q259 := eq_true q259
                    go_wp2_with (first | ((with_reducible refine gate_dst (N := 8) rfl ?_); (try (refine gate_guard (by rfl) ?_; dsimp only)); refine box_event ?hg (N := 8) ?hd (cs := #[.int .i64 0, .int .i64 0, .string (⟨#[]⟩ : ByteArray), .slice none 0 0]) (t := 24) ?hr ?_; (case hd => rfl); (case hg => rfl); (case hr => first | (go_simp; done) | (go_simp; rfl)); intro gb260 hg w22 hbox hb; have n0_ := Aside0.mk (blk_below (g := gb253) (o := .cells #[.int .i64 a0_0, .int .i64 a0_1, .string a0_2, .slice (some ad259) l0_3.length c0_3] 24 (0, 0)) (by (with_reducible repeat (first | refine blk_drewN ?_ _ | refine blk_drew ?_ | refine blk_alloc ?_ _)); exact BK253.out) hb); have n1_ := Aside0.mk (below_step (by repeat (first | (with_reducible first | exact HB.out | apply below_alloc | apply pw_below_drewN | apply below_drew1 | refine below_set ?_ GE253.out) | exact HB.out)) hb); have n2_ := Aside0.mk (hbox); have n3_ := Aside0.mk ((by rw [hg]; exact (below_size (by repeat (first | (with_reducible first | exact HB.out | apply below_alloc | apply pw_below_drewN | apply below_drew1 | refine below_set ?_ GE253.out) | exact HB.out))) : w.heap.size ≤ gb260)); have n4_ := Aside0.mk ((by rw [hg]; exact (below_size (by repeat (first | (with_reducible first | exact HB.out | apply below_alloc | apply pw_below_drewN | apply below_drew1 | refine below_set ?_ GE253.out) | exact HB.out))) : w.heap.size ≤ gb260)); have n5_ := Aside0.mk ((by rw [hg]; exact Nat.ne_of_lt (blk_lt (g := gb253) (o := .cells #[.int .i64 a0_0, .int .i64 a0_1, .string a0_2, .slice (some ad259) l0_3.length c0_3] 24 (0, 0)) (by (with_reducible repeat (first | refine blk_drewN ?_ _ | refine blk_drew ?_ | refine blk_alloc ?_ _)); exact BK253.out)) : gb253 ≠ gb260)); have n6_ := Aside0.mk ((by rw [hg]; exact Nat.ne_of_gt (blk_lt (g := gb253) (o := .cells #[.int .i64 a0_0, .int .i64 a0_1, .string a0_2, .slice (some ad259) l0_3.length c0_3] 24 (0, 0)) (by (with_reducible repeat (first | refine blk_drewN ?_ _ | refine blk_drew ?_ | refine blk_alloc ?_ _)); exact BK253.out)) : gb260 ≠ gb253)); clear BK253; clear HB; have BK253 := n0_; have HB := n1_; have BK260 := n2_; have GW260 := n3_; have GE260 := n4_; have NB253_260 := n5_; have NB260_253 := n6_; clear n0_ n1_ n2_ n3_ n4_ n5_ n6_; clear hb hbox hg; have hnb23 := NB260_253.out; have hnc23 := NB253_260.out; have hcz24_0 : w22.cell? ⟨gb260, 0, none⟩ = some (.int .i64 0) := (blk_cell BK260.out 0).trans rfl; have hcz24_1 : w22.cell? ⟨gb260, 1, none⟩ = some (.int .i64 0) := (blk_cell BK260.out 1).trans rfl; have hcz24_2 : w22.cell? ⟨gb260, 2, none⟩ = some (.string (⟨#[]⟩ : ByteArray)) := (blk_cell BK260.out 2).trans rfl; have hcz24_3 : w22.cell? ⟨gb260, 3, none⟩ = some (.slice none 0 0) := (blk_cell BK260.out 3).trans rfl; have hfz24_0 := blk_frozen BK260.out 0; have hfz24_1 := blk_frozen BK260.out 1; have hfz24_2 := blk_frozen BK260.out 2; have hfz24_3 := blk_frozen BK260.out 3) | ((with_reducible refine gate_callee (f := 76) rfl ?_); refine goesL_ (some 42) rfl rfl Tryd.func76 (by kernel_rfl) rfl #[.agg #[.int .i64 ((rd_T24 l0_3 x36_2).f0), .int .i64 ((rd_T24 l0_3 x36_2).f1), .string ((rd_T24 l0_3 x36_2).f2), .slice A259_3 ((rd_T24 l0_3 x36_2).f3).length c259_3]] rfl (by (try simp only [List.map_toArray, List.map_cons, List.map_nil]); first | done | rfl | (simp only [List.length_drop, List.length_take]; rfl)) ?_; (with_reducible refine (ih k2 (by have := HJ3.out; have := HK2.out; omega) ((rd_T24 l0_3 x36_2).f0) ((rd_T24 l0_3 x36_2).f1) ((rd_T24 l0_3 x36_2).f2) _ _ ((rd_T24 l0_3 x36_2).f3) t261 _ ?side1 ?side2 A20.out).mono ?_); (case side1 => exact Kd.C_below HR259_3.out (by repeat (first | (with_reducible first | exact HB.out | apply below_alloc | apply pw_below_drewN | apply below_drew1 | refine below_set ?_ GE253.out | refine below_set ?_ GE260.out) | exact HB.out))); (case side2 => exact HC259_3.out); rintro e w25 ⟨rfl, hb⟩; refine ⟨_, rfl, ?_⟩; have n0_ := Aside0.mk (blk_below (g := gb253) (o := .cells #[.int .i64 a0_0, .int .i64 a0_1, .string a0_2, .slice (some ad259) l0_3.length c0_3] 24 (0, 0)) (by (with_reducible repeat (first | refine blk_drewN ?_ _ | refine blk_drew ?_ | refine blk_alloc ?_ _)); refine blk_far ?_ NB253_260.out _; (with_reducible repeat (first | refine blk_drewN ?_ _ | refine blk_drew ?_ | refine blk_alloc ?_ _)); refine blk_far ?_ NB253_260.out _; (with_reducible repeat (first | refine blk_drewN ?_ _ | refine blk_drew ?_ | refine blk_alloc ?_ _)); refine blk_far ?_ NB253_260.out _; (with_reducible repeat (first | refine blk_drewN ?_ _ | refine blk_drew ?_ | refine blk_alloc ?_ _)); refine blk_far ?_ NB253_260.out _; (with_reducible repeat (first | refine blk_drewN ?_ _ | refine blk_drew ?_ | refine blk_alloc ?_ _)); exact BK253.out) hb); have n1_ := Aside0.mk (blk_below (g := gb260) (o := .cells #[.int .i64 ((rd_T24 l0_3 x36_2).f0), .int .i64 ((rd_T24 l0_3 x36_2).f1), .string ((rd_T24 l0_3 x36_2).f2), .slice A259_3 ((rd_T24 l0_3 x36_2).f3).length c259_3] 24 (0, 0)) (by (with_reducible repeat (first | refine blk_drewN ?_ _ | refine blk_drew ?_ | refine blk_alloc ?_ _)); refine blk_put (cs := #[.int .i64 ((rd_T24 l0_3 x36_2).f0), .int .i64 ((rd_T24 l0_3 x36_2).f1), .string ((rd_T24 l0_3 x36_2).f2), .slice none 0 0]) ?_ 3 _ rfl; (with_reducible repeat (first | refine blk_drewN ?_ _ | refine blk_drew ?_ | refine blk_alloc ?_ _)); refine blk_put (cs := #[.int .i64 ((rd_T24 l0_3 x36_2).f0), .int .i64 ((rd_T24 l0_3 x36_2).f1), .string (⟨#[]⟩ : ByteArray), .slice none 0 0]) ?_ 2 _ rfl; (with_reducible repeat (first | refine blk_drewN ?_ _ | refine blk_drew ?_ | refine blk_alloc ?_ _)); refine blk_put (cs := #[.int .i64 ((rd_T24 l0_3 x36_2).f0), .int .i64 0, .string (⟨#[]⟩ : ByteArray), .slice none 0 0]) ?_ 1 _ rfl; (with_reducible repeat (first | refine blk_drewN ?_ _ | refine blk_drew ?_ | refine blk_alloc ?_ _)); refine blk_put (cs := #[.int .i64 0, .int .i64 0, .string (⟨#[]⟩ : ByteArray), .slice none 0 0]) ?_ 0 _ rfl; (with_reducible repeat (first | refine blk_drewN ?_ _ | refine blk_drew ?_ | refine blk_alloc ?_ _)); exact BK260.out) hb); have n2_ := Aside0.mk (below_step (by repeat (first | (with_reducible first | exact HB.out | apply below_alloc | apply pw_below_drewN | apply below_drew1 | refine below_set ?_ GE253.out | refine below_set ?_ GE260.out) | exact HB.out)) hb); clear BK253; clear BK260; clear HB; have BK253 := n0_; have BK260 := n1_; have HB := n2_; clear n0_ n1_ n2_; (try clear hb); (try clear hb2); (try clear hk); (try clear hi)))
                    go_ret
                    exact ⟨by first | rfl | (simp [errW_none, errW_some] <;> rfl) | (simp [*, errW_none, errW_some] <;> rfl), by repeat (first | (with_reducible first | exact HB.out | apply below_alloc | apply pw_below_drewN | apply below_drew1 | refine below_set ?_ GE253.out | refine below_set ?_ GE260.out) | exact HB.out)⟩
                  · rw [if_neg c21] at H
                    have c21b0 : (t261 == 0) = false := beq_eq_false_iff_ne.mpr c21
                    have c21b1 : (t261 != 0) = true := bne_iff_ne.mpr c21
                    have HC26 := Aside0.mk H
                    clear H
                    have p259 : 0 ≤ (x36_2 : Int) := of_decide_eq_true (by first | (with_reducible assumption) | assumption)
                    have q259 : x36_2 < (l0_3.length : Int) := of_decide_eq_true (by first | (with_reducible assumption) | assumption)
                    obtain ⟨ad259, A259_3, c259_3, e259, hx259_0, hx259_1, hx259_2, hx259_3, hl259_3, hi259_3⟩ := at_T24 HR0_3.out x36_2 p259 q259
                    cases e259
                    replace hx259_0 := (HB.out.cell (World.block_lt_of_cell? w _ hx259_0)).trans hx259_0
                    replace hx259_1 := (HB.out.cell (World.block_lt_of_cell? w _ hx259_1)).trans hx259_1
                    replace hx259_2 := (HB.out.cell (World.block_lt_of_cell? w _ hx259_2)).trans hx259_2
                    replace hx259_3 := (HB.out.cell (World.block_lt_of_cell? w _ hx259_3)).trans hx259_3
                    have HR259_3 := Aside0.mk hi259_3
                    have HC259_3 := Aside0.mk hl259_3
                    clear hi259_3 hl259_3
                    replace p259 := eq_true p259
                    replace q259 := eq_true q259
                    go_upto_region 11 with (first | ((with_reducible refine gate_dst (N := 8) rfl ?_); (try (refine gate_guard (by rfl) ?_; dsimp only)); refine box_event ?hg (N := 8) ?hd (cs := #[.int .i64 0, .int .i64 0, .string (⟨#[]⟩ : ByteArray), .slice none 0 0]) (t := 24) ?hr ?_; (case hd => rfl); (case hg => rfl); (case hr => first | (go_simp; done) | (go_simp; rfl)); intro gb260 hg w27 hbox hb; have n0_ := Aside0.mk (blk_below (g := gb253) (o := .cells #[.int .i64 a0_0, .int .i64 a0_1, .string a0_2, .slice (some ad259) l0_3.length c0_3] 24 (0, 0)) (by (with_reducible repeat (first | refine blk_drewN ?_ _ | refine blk_drew ?_ | refine blk_alloc ?_ _)); exact BK253.out) hb); have n1_ := Aside0.mk (below_step (by repeat (first | (with_reducible first | exact HB.out | apply below_alloc | apply pw_below_drewN | apply below_drew1 | refine below_set ?_ GE253.out) | exact HB.out)) hb); have n2_ := Aside0.mk (hbox); have n3_ := Aside0.mk ((by rw [hg]; exact (below_size (by repeat (first | (with_reducible first | exact HB.out | apply below_alloc | apply pw_below_drewN | apply below_drew1 | refine below_set ?_ GE253.out) | exact HB.out))) : w.heap.size ≤ gb260)); have n4_ := Aside0.mk ((by rw [hg]; exact (below_size (by repeat (first | (with_reducible first | exact HB.out | apply below_alloc | apply pw_below_drewN | apply below_drew1 | refine below_set ?_ GE253.out) | exact HB.out))) : w.heap.size ≤ gb260)); have n5_ := Aside0.mk ((by rw [hg]; exact Nat.ne_of_lt (blk_lt (g := gb253) (o := .cells #[.int .i64 a0_0, .int .i64 a0_1, .string a0_2, .slice (some ad259) l0_3.length c0_3] 24 (0, 0)) (by (with_reducible repeat (first | refine blk_drewN ?_ _ | refine blk_drew ?_ | refine blk_alloc ?_ _)); exact BK253.out)) : gb253 ≠ gb260)); have n6_ := Aside0.mk ((by rw [hg]; exact Nat.ne_of_gt (blk_lt (g := gb253) (o := .cells #[.int .i64 a0_0, .int .i64 a0_1, .string a0_2, .slice (some ad259) l0_3.length c0_3] 24 (0, 0)) (by (with_reducible repeat (first | refine blk_drewN ?_ _ | refine blk_drew ?_ | refine blk_alloc ?_ _)); exact BK253.out)) : gb260 ≠ gb253)); clear BK253; clear HB; have BK253 := n0_; have HB := n1_; have BK260 := n2_; have GW260 := n3_; have GE260 := n4_; have NB253_260 := n5_; have NB260_253 := n6_; clear n0_ n1_ n2_ n3_ n4_ n5_ n6_; clear hb hbox hg; have hnb28 := NB260_253.out; have hnc28 := NB253_260.out; have hcz29_0 : w27.cell? ⟨gb260, 0, none⟩ = some (.int .i64 0) := (blk_cell BK260.out 0).trans rfl; have hcz29_1 : w27.cell? ⟨gb260, 1, none⟩ = some (.int .i64 0) := (blk_cell BK260.out 1).trans rfl; have hcz29_2 : w27.cell? ⟨gb260, 2, none⟩ = some (.string (⟨#[]⟩ : ByteArray)) := (blk_cell BK260.out 2).trans rfl; have hcz29_3 : w27.cell? ⟨gb260, 3, none⟩ = some (.slice none 0 0) := (blk_cell BK260.out 3).trans rfl; have hfz29_0 := blk_frozen BK260.out 0; have hfz29_1 := blk_frozen BK260.out 1; have hfz29_2 := blk_frozen BK260.out 2; have hfz29_3 := blk_frozen BK260.out 3) | ((with_reducible refine gate_callee (f := 76) rfl ?_); refine goesL_ (some 42) rfl rfl Tryd.func76 (by kernel_rfl) rfl #[.agg #[.int .i64 ((rd_T24 l0_3 x36_2).f0), .int .i64 ((rd_T24 l0_3 x36_2).f1), .string ((rd_T24 l0_3 x36_2).f2), .slice A259_3 ((rd_T24 l0_3 x36_2).f3).length c259_3]] rfl (by (try simp only [List.map_toArray, List.map_cons, List.map_nil]); first | done | rfl | (simp only [List.length_drop, List.length_take]; rfl)) ?_; (with_reducible refine (ih k2 (by have := HJ3.out; have := HK2.out; omega) ((rd_T24 l0_3 x36_2).f0) ((rd_T24 l0_3 x36_2).f1) ((rd_T24 l0_3 x36_2).f2) _ _ ((rd_T24 l0_3 x36_2).f3) t261 _ ?side1 ?side2 A20.out).mono ?_); (case side1 => exact Kd.C_below HR259_3.out (by repeat (first | (with_reducible first | exact HB.out | apply below_alloc | apply pw_below_drewN | apply below_drew1 | refine below_set ?_ GE253.out | refine below_set ?_ GE260.out) | exact HB.out))); (case side2 => exact HC259_3.out); rintro e w30 ⟨rfl, hb⟩; refine ⟨_, rfl, ?_⟩; have n0_ := Aside0.mk (blk_below (g := gb253) (o := .cells #[.int .i64 a0_0, .int .i64 a0_1, .string a0_2, .slice (some ad259) l0_3.length c0_3] 24 (0, 0)) (by (with_reducible repeat (first | refine blk_drewN ?_ _ | refine blk_drew ?_ | refine blk_alloc ?_ _)); refine blk_far ?_ NB253_260.out _; (with_reducible repeat (first | refine blk_drewN ?_ _ | refine blk_drew ?_ | refine blk_alloc ?_ _)); refine blk_far ?_ NB253_260.out _; (with_reducible repeat (first | refine blk_drewN ?_ _ | refine blk_drew ?_ | refine blk_alloc ?_ _)); refine blk_far ?_ NB253_260.out _; (with_reducible repeat (first | refine blk_drewN ?_ _ | refine blk_drew ?_ | refine blk_alloc ?_ _)); refine blk_far ?_ NB253_260.out _; (with_reducible repeat (first | refine blk_drewN ?_ _ | refine blk_drew ?_ | refine blk_alloc ?_ _)); exact BK253.out) hb); have n1_ := Aside0.mk (blk_below (g := gb260) (o := .cells #[.int .i64 ((rd_T24 l0_3 x36_2).f0), .int .i64 ((rd_T24 l0_3 x36_2).f1), .string ((rd_T24 l0_3 x36_2).f2), .slice A259_3 ((rd_T24 l0_3 x36_2).f3).length c259_3] 24 (0, 0)) (by (with_reducible repeat (first | refine blk_drewN ?_ _ | refine blk_drew ?_ | refine blk_alloc ?_ _)); refine blk_put (cs := #[.int .i64 ((rd_T24 l0_3 x36_2).f0), .int .i64 ((rd_T24 l0_3 x36_2).f1), .string ((rd_T24 l0_3 x36_2).f2), .slice none 0 0]) ?_ 3 _ rfl; (with_reducible repeat (first | refine blk_drewN ?_ _ | refine blk_drew ?_ | refine blk_alloc ?_ _)); refine blk_put (cs := #[.int .i64 ((rd_T24 l0_3 x36_2).f0), .int .i64 ((rd_T24 l0_3 x36_2).f1), .string (⟨#[]⟩ : ByteArray), .slice none 0 0]) ?_ 2 _ rfl; (with_reducible repeat (first | refine blk_drewN ?_ _ | refine blk_drew ?_ | refine blk_alloc ?_ _)); refine blk_put (cs := #[.int .i64 ((rd_T24 l0_3 x36_2).f0), .int .i64 0, .string (⟨#[]⟩ : ByteArray), .slice none 0 0]) ?_ 1 _ rfl; (with_reducible repeat (first | refine blk_drewN ?_ _ | refine blk_drew ?_ | refine blk_alloc ?_ _)); refine blk_put (cs := #[.int .i64 0, .int .i64 0, .string (⟨#[]⟩ : ByteArray), .slice none 0 0]) ?_ 0 _ rfl; (with_reducible repeat (first | refine blk_drewN ?_ _ | refine blk_drew ?_ | refine blk_alloc ?_ _)); exact BK260.out) hb); have n2_ := Aside0.mk (below_step (by repeat (first | (with_reducible first | exact HB.out | apply below_alloc | apply pw_below_drewN | apply below_drew1 | refine below_set ?_ GE253.out | refine below_set ?_ GE260.out) | exact HB.out)) hb); clear BK253; clear BK260; clear HB; have BK253 := n0_; have BK260 := n1_; have HB := n2_; clear n0_ n1_ n2_; (try clear hb); (try clear hb2); (try clear hk); (try clear hi)))
                    (try simp only [Act.put, List.setIfInBounds_toArray, List.set_cons_zero, List.set_cons_succ])
                    go_cut [46] (fun v46 wc => ∃ (kq : Nat) (x46_25 : Bool), v46 = .bool x46_25 ∧ Aside0 (causal_letter.j2 kq t255 t256 x6_2 x36_2 t261 l0_3 (l0_3.length : Int) x36_2 x46_25 = some r) ∧ Aside0 (kq ≤ k2) ∧ Aside0 (wc.heap[gb253]? = some (.cells #[.int .i64 a0_0, .int .i64 a0_1, .string a0_2, (.slice (some ad259) l0_3.length c0_3)] 24 (0, 0))) ∧ Aside0 (wc.heap[gb260]? = some (.cells #[.int .i64 ((rd_T24 l0_3 x36_2).f0), .int .i64 ((rd_T24 l0_3 x36_2).f1), .string ((rd_T24 l0_3 x36_2).f2), (.slice A259_3 ((rd_T24 l0_3 x36_2).f3).length c259_3)] 24 (0, 0))) ∧ Aside0 (Below w.heap.size w wc))
                    case first =>
                      have H := HC26.out
                      clear HC26
                      by_cases c31 : x36_2 < (t255.size : Int)
                      · rw [if_pos c31] at H
                        have c31b0 : decide (x36_2 < (t255.size : Int)) = true := decide_eq_true c31
                        clear c31
                        (first | rw [c31b0] | (simp only [i64_w, i32_w]; rw [c31b0]) | skip)
                        by_cases c33 : (bt t255 x36_2) = 120
                        · rw [if_pos c33] at H
                          have c33b0 : ((bt t255 x36_2) == 120) = true := beq_iff_eq.mpr c33
                          have c33b1 : ((bt t255 x36_2) != 120) = false := bne_eq_false_iff_eq.mpr c33
                          clear c33
                          by_cases c34 : t261 = 99
                          · rw [if_pos c34] at H
                            have c34b0 : (t261 == 99) = true := beq_iff_eq.mpr c34
                            have c34b1 : (t261 != 99) = false := bne_eq_false_iff_eq.mpr c34
                            clear c34
                            have H' := Aside0.mk H
                            clear H
                            have p32 : 0 ≤ (x36_2 : Int) := of_decide_eq_true (by first | (with_reducible assumption) | assumption)
                            have q32 : x36_2 < (t255.size : Int) := of_decide_eq_true (by first | (with_reducible assumption) | assumption)
                            have hx32 := bt_at t255 x36_2
                            replace p32 := eq_true p32
                            replace q32 := eq_true q32
                            go_wp2
                            go_meet
                            case rel => exact ⟨_, (false), (by first | rfl | (simp; done) | (simp [*]; done)), H', ⟨by have := HJ3.out; have := HK2.out; first | omega | exact Nat.le_refl _⟩, ⟨by (with_reducible repeat (first | refine blk_drewN ?_ _ | refine blk_drew ?_ | refine blk_alloc ?_ _)); exact BK253.out⟩, ⟨by (with_reducible repeat (first | refine blk_drewN ?_ _ | refine blk_drew ?_ | refine blk_alloc ?_ _)); exact BK260.out⟩, ⟨by repeat (first | (with_reducible first | exact HB.out | apply below_alloc | apply pw_below_drewN | apply below_drew1 | refine below_set ?_ GE253.out | refine below_set ?_ GE260.out) | exact HB.out)⟩⟩
                          · rw [if_neg c34] at H
                            have c34b0 : (t261 == 99) = false := beq_eq_false_iff_ne.mpr c34
                            have c34b1 : (t261 != 99) = true := bne_iff_ne.mpr c34
                            by_cases c35 : x6_2 = 0
                            · rw [if_pos c35] at H
                              have c35b0 : (x6_2 == 0) = true := beq_iff_eq.mpr c35
                              have c35b1 : (x6_2 != 0) = false := bne_eq_false_iff_eq.mpr c35
                              clear c35
                              have H' := Aside0.mk H
                              clear H
                              have p32 : 0 ≤ (x36_2 : Int) := of_decide_eq_true (by first | (with_reducible assumption) | assumption)
                              have q32 : x36_2 < (t255.size : Int) := of_decide_eq_true (by first | (with_reducible assumption) | assumption)
                              have hx32 := bt_at t255 x36_2
                              replace p32 := eq_true p32
                              replace q32 := eq_true q32
                              go_wp2
                              go_meet
                              case rel => exact ⟨_, (true), (by first | rfl | (simp; done) | (simp [*]; done)), H', ⟨by have := HJ3.out; have := HK2.out; first | omega | exact Nat.le_refl _⟩, ⟨by (with_reducible repeat (first | refine blk_drewN ?_ _ | refine blk_drew ?_ | refine blk_alloc ?_ _)); exact BK253.out⟩, ⟨by (with_reducible repeat (first | refine blk_drewN ?_ _ | refine blk_drew ?_ | refine blk_alloc ?_ _)); exact BK260.out⟩, ⟨by repeat (first | (with_reducible first | exact HB.out | apply below_alloc | apply pw_below_drewN | apply below_drew1 | refine below_set ?_ GE253.out | refine below_set ?_ GE260.out) | exact HB.out)⟩⟩
                            · rw [if_neg c35] at H
                              have c35b0 : (x6_2 == 0) = false := beq_eq_false_iff_ne.mpr c35
                              have c35b1 : (x6_2 != 0) = true := bne_iff_ne.mpr c35
                              have H' := Aside0.mk H
                              clear H
                              have p32 : 0 ≤ (x36_2 : Int) := of_decide_eq_true (by first | (with_reducible assumption) | assumption)
                              have q32 : x36_2 < (t255.size : Int) := of_decide_eq_true (by first | (with_reducible assumption) | assumption)
                              have hx32 := bt_at t255 x36_2
                              replace p32 := eq_true p32
                              replace q32 := eq_true q32
                              go_wp2
                              go_meet
                              case rel => exact ⟨_, ((x6_2 == t261)), (by first | rfl | (simp; done) | (simp [*]; done)), H', ⟨by have := HJ3.out; have := HK2.out; first | omega | exact Nat.le_refl _⟩, ⟨by (with_reducible repeat (first | refine blk_drewN ?_ _ | refine blk_drew ?_ | refine blk_alloc ?_ _)); exact BK253.out⟩, ⟨by (with_reducible repeat (first | refine blk_drewN ?_ _ | refine blk_drew ?_ | refine blk_alloc ?_ _)); exact BK260.out⟩, ⟨by repeat (first | (with_reducible first | exact HB.out | apply below_alloc | apply pw_below_drewN | apply below_drew1 | refine below_set ?_ GE253.out | refine below_set ?_ GE260.out) | exact HB.out)⟩⟩
                        · rw [if_neg c33] at H
                          have c33b0 : ((bt t255 x36_2) == 120) = false := beq_eq_false_iff_ne.mpr c33
                          have c33b1 : ((bt t255 x36_2) != 120) = true := bne_iff_ne.mpr c33
                          have H' := Aside0.mk H
                          clear H
                          have p32 : 0 ≤ (x36_2 : Int) := of_decide_eq_true (by first | (with_reducible assumption) | assumption)
                          have q32 : x36_2 < (t255.size : Int) := of_decide_eq_true (by first | (with_reducible assumption) | assumption)
                          have hx32 := bt_at t255 x36_2
                          replace p32 := eq_true p32
                          replace q32 := eq_true q32
                          go_wp2
                          go_meet
                          case rel => exact ⟨_, (false), (by first | rfl | (simp; done) | (simp [*]; done)), H', ⟨by have := HJ3.out; have := HK2.out; first | omega | exact Nat.le_refl _⟩, ⟨by (with_reducible repeat (first | refine blk_drewN ?_ _ | refine blk_drew ?_ | refine blk_alloc ?_ _)); exact BK253.out⟩, ⟨by (with_reducible repeat (first | refine blk_drewN ?_ _ | refine blk_drew ?_ | refine blk_alloc ?_ _)); exact BK260.out⟩, ⟨by repeat (first | (with_reducible first | exact HB.out | apply below_alloc | apply pw_below_drewN | apply below_drew1 | refine below_set ?_ GE253.out | refine below_set ?_ GE260.out) | exact HB.out)⟩⟩
                      · rw [if_neg c31] at H
                        exact absurd H (by simp)
                    case rest =>
                      clear HC26
                      try clear c1
                      try clear c2
                      try clear p2
                      try clear q2
                      try clear hx2
                      try clear c3
                      try clear p3
                      try clear q3
                      try clear hx3
                      try clear c7
                      try clear c9
                      try clear c10
                      try clear c10b0
                      try clear c10b1
                      try clear c10b2
                      try clear c15
                      try clear c17
                      try clear c17b0
                      try clear c18
                      try clear c18b0
                      try clear c19
                      try clear c19b0
                      try clear c21
                      try clear c21b0
                      try clear c21b1
                      try clear c23
                      try clear c25
                      try clear p25
                      try clear q25
                      try clear hx25
                      try clear c28
                      try clear c31
                      try clear c31b0
                      try clear p32
                      try clear q32
                      try clear hx32
                      try clear c33
                      try clear c33b0
                      try clear c33b1
                      try clear c34
                      try clear c34b0
                      try clear c34b1
                      try clear c35
                      try clear c35b0
                      try clear c35b1
                      try clear hcz12_0
                      try clear hcz12_1
                      try clear hcz12_2
                      try clear hcz12_3
                      try clear hcz14_0
                      try clear hcz14_1
                      try clear hcz14_2
                      try clear hcz14_3
                      try clear hcz16_0
                      try clear hcz16_1
                      try clear hcz16_2
                      try clear hcz16_3
                      try clear hcz24_0
                      try clear hcz24_1
                      try clear hcz24_2
                      try clear hcz24_3
                      try clear hcz29_0
                      try clear hcz29_1
                      try clear hcz29_2
                      try clear hcz29_3
                      try clear hcz6_0
                      try clear hcz6_1
                      try clear hcz6_2
                      try clear hcz6_3
                      try clear hfz12_0
                      try clear hfz12_1
                      try clear hfz12_2
                      try clear hfz12_3
                      try clear hfz14_0
                      try clear hfz14_1
                      try clear hfz14_2
                      try clear hfz14_3
                      try clear hfz16_0
                      try clear hfz16_1
                      try clear hfz16_2
                      try clear hfz16_3
                      try clear hfz24_0
                      try clear hfz24_1
                      try clear hfz24_2
                      try clear hfz24_3
                      try clear hfz29_0
                      try clear hfz29_1
                      try clear hfz29_2
                      try clear hfz29_3
                      try clear hfz6_0
                      try clear hfz6_1
                      try clear hfz6_2
                      try clear hfz6_3
                      try clear hx259_0
                      try clear hx259_1
                      try clear hx259_2
                      try clear hx259_3
                      try clear p2
                      try clear p259
                      try clear p32
                      try clear q259
                      try clear q32
                      obtain ⟨kq, x46_25, rfl, HA, HJ25, BK253, BK260, HB⟩ := hcut
                      cases kq with
                      | zero => exact absurd HA.out (by simp [causal_letter.j2])
                      | succ kj25 =>
                        have H := HA.out
                        clear HA
                        simp only [causal_letter.j2] at H
                        by_cases c36 : x46_25 = true
                        · subst c36
                          have H1 : (causal_letter.l0 kj25 t255 t256 t261 l0_3 (l0_3.length : Int) (wrap64 (x36_2 + 1))) = some r := by rw [if_pos rfl] at H; exact H
                          clear H
                          have H := H1
                          clear H1
                          have H' := Aside0.mk H
                          clear H
                          go_wp2
                          go_roundg kj25
                          case measure => have := HJ3.out; have := HK2.out; have := HJ25.out; omega
                          case rel => exact ⟨(t261), (wrap64 (x36_2 + 1)), (by first | rfl | (simp; done) | (simp [*]; done)), (by first | rfl | (simp; done) | (simp [*]; done)), H', ⟨by have := HJ3.out; have := HK2.out; have := HJ25.out; omega⟩, ⟨by (with_reducible repeat (first | refine blk_drewN ?_ _ | refine blk_drew ?_ | refine blk_alloc ?_ _)); exact BK253.out⟩, ⟨by repeat (first | (with_reducible first | exact HB.out | apply below_alloc | apply pw_below_drewN | apply below_drew1 | refine below_set ?_ GE253.out | refine below_set ?_ GE260.out) | exact HB.out)⟩⟩
                        · replace c36 := Bool.eq_false_iff.mpr c36
                          subst c36
                          have H1 : (if 0 ≤ x36_2 then (if x36_2 < (t255.size : Int) then (if (bt t255 x36_2) = t261 then (causal_letter.l0 kj25 t255 t256 x6_2 l0_3 (l0_3.length : Int) (wrap64 (x36_2 + 1))) else (some 0)) else (none)) else (none)) = some r := by rw [if_neg (show ¬ (false = true) by decide)] at H; exact H
                          clear H
                          have H := H1
                          clear H1
                          by_cases c37 : 0 ≤ x36_2
                          · rw [if_pos c37] at H
                            have c37b0 : decide (0 ≤ x36_2) = true := decide_eq_true c37
                            clear c37
                            by_cases c38 : x36_2 < (t255.size : Int)
                            · rw [if_pos c38] at H
                              have c38b0 : decide (x36_2 < (t255.size : Int)) = true := decide_eq_true c38
                              clear c38
                              by_cases c40 : (bt t255 x36_2) = t261
                              · rw [if_pos c40] at H
                                have c40b0 : ((bt t255 x36_2) == t261) = true := beq_iff_eq.mpr c40
                                have c40b1 : ((bt t255 x36_2) != t261) = false := bne_eq_false_iff_eq.mpr c40
                                clear c40
                                have H' := Aside0.mk H
                                clear H
                                have p39 : 0 ≤ (x36_2 : Int) := of_decide_eq_true (by first | (with_reducible assumption) | assumption)
                                have q39 : x36_2 < (t255.size : Int) := of_decide_eq_true (by first | (with_reducible assumption) | assumption)
                                have hx39 := bt_at t255 x36_2
                                replace p39 := eq_true p39
                                replace q39 := eq_true q39
                                go_wp2
                                go_roundg kj25
                                case measure => have := HJ3.out; have := HK2.out; have := HJ25.out; omega
                                case rel => exact ⟨(x6_2), (wrap64 (x36_2 + 1)), (by first | rfl | (simp; done) | (simp [*]; done)), (by first | rfl | (simp; done) | (simp [*]; done)), H', ⟨by have := HJ3.out; have := HK2.out; have := HJ25.out; omega⟩, ⟨by (with_reducible repeat (first | refine blk_drewN ?_ _ | refine blk_drew ?_ | refine blk_alloc ?_ _)); exact BK253.out⟩, ⟨by repeat (first | (with_reducible first | exact HB.out | apply below_alloc | apply pw_below_drewN | apply below_drew1 | refine below_set ?_ GE253.out | refine below_set ?_ GE260.out) | exact HB.out)⟩⟩
                              · rw [if_neg c40] at H
                                have c40b0 : ((bt t255 x36_2) == t261) = false := beq_eq_false_iff_ne.mpr c40
                                have c40b1 : ((bt t255 x36_2) != t261) = true := bne_iff_ne.mpr c40
                                obtain rfl := Option.some.inj H
                                have p39 : 0 ≤ (x36_2 : Int) := of_decide_eq_true (by first | (with_reducible assumption) | assumption)
                                have q39 : x36_2 < (t255.size : Int) := of_decide_eq_true (by first | (with_reducible assumption) | assumption)
                                have hx39 := bt_at t255 x36_2
                                replace p39 := eq_true p39
                                replace q39 := eq_true q39
                                go_wp2
                                go_ret
                                exact ⟨by first | rfl | (simp [errW_none, errW_some] <;> rfl) | (simp [*, errW_none, errW_some] <;> rfl), by repeat (first | (with_reducible first | exact HB.out | apply below_alloc | apply pw_below_drewN | apply below_drew1 | refine below_set ?_ GE253.out | refine below_set ?_ GE260.out) | exact HB.out)⟩
                            · rw [if_neg c38] at H
                              exact absurd H (by simp)
                          · rw [if_neg c37] at H
                            exact absurd H (by simp)
                · rw [if_neg c19] at H
                  exact absurd H (by simp)
              · rw [if_neg c18] at H
                exact absurd H (by simp)
            · rw [if_neg c17] at H
              have c17b0 : decide (x36_2 < (l0_3.length : Int)) = false := decide_eq_false c17
              clear c17
              by_cases c41 : t256.toList = ([120] : List UInt8)
              · rw [if_pos c41] at H
                have c41b0 : (t256.toList == ([120] : List UInt8)) = true := beq_iff_eq.mpr c41
                have c41b1 : (t256.toList != ([120] : List UInt8)) = false := bne_eq_false_iff_eq.mpr c41
                clear c41
                obtain rfl := Option.some.inj H
                go_wp2
                go_ret
                exact ⟨by first | rfl | (simp [errW_none, errW_some] <;> rfl) | (simp [*, errW_none, errW_some] <;> rfl), by repeat (first | (with_reducible first | exact HB.out | apply below_alloc | apply pw_below_drewN | apply below_drew1 | refine below_set ?_ GE253.out) | exact HB.out)⟩
              · rw [if_neg c41] at H
                have c41b0 : (t256.toList == ([120] : List UInt8)) = false := beq_eq_false_iff_ne.mpr c41
                have c41b1 : (t256.toList != ([120] : List UInt8)) = true := bne_iff_ne.mpr c41
                by_cases c42 : 0 < (t256.size : Int)
                · rw [if_pos c42] at H
                  have c42b0 : decide (0 < (t256.size : Int)) = true := decide_eq_true c42
                  have c42b1 : decide (0 < t256.size) = true := decide_eq_true (by omega)
                  clear c42
                  obtain rfl := Option.some.inj H
                  have p43 : 0 ≤ (0 : Int) := (by omega)
                  have q43 : 0 < t256.size := (by have : (0 : Int) < (t256.size : Int) := of_decide_eq_true (by first | (with_reducible assumption) | assumption); omega)
                  have hx43 : ∀ h : 0 < t256.size, ((t256[0]'h).toNat : Int) = bt t256 0 := bt_at t256 0
                  clear p43
                  have qi43 : (0 < (t256.size : Int)) = True := eq_true (of_decide_eq_true (by first | (with_reducible assumption) | assumption))
                  replace q43 := eq_true q43
                  go_wp2
                  go_ret
                  exact ⟨by first | rfl | (simp [errW_none, errW_some] <;> rfl) | (simp [*, errW_none, errW_some] <;> rfl), by repeat (first | (with_reducible first | exact HB.out | apply below_alloc | apply pw_below_drewN | apply below_drew1 | refine below_set ?_ GE253.out) | exact HB.out)⟩
                · rw [if_neg c42] at H
                  exact absurd H (by simp)

end Go.Proofs.YtniajhmbdbgmgaaDoor.Q
