/- causal.Check tells whether a term is a contract none of whose observables looks ahead. Layer 14 in plain Lean: the printed check of a term tells whether it is small, of the right type, and looks not ahead; any term. What a rule of layer 16 owes, and the literal in opt.rewrite that asks one rule. opt.first over the rules: the first rule that fits. opt.rewrite: a term's kids are rewritten, then the rules are asked until none fits. The three makers of constants inside opt.fold. -/
import Derived.Test.YtniajhmbdbgmgaaDoorMOptFolds0
import Derived.Test.YtniajhmbdbgmgaaDoorMOptFolds2
import Derived.Test.YtniajhmbdbgmgaaDoorMOptFolds1
import Derived.KernelRfl
import Derived.Laws.NewBlocks
import Derived.Laws.EntriesVeiled
import Derived.Deep.LoopGhost
namespace Go.Proofs.YtniajhmbdbgmgaaDoor.Q
open Go.RowKit Go.Proofs.YtniajhmbdbgmgaaDoorW.PrintWords Go.Proofs.YtniajhmbdbgmgaaDoorW.PrintLast Go.Proofs.YtniajhmbdbgmgaaDoorW.PrintMore
attribute [local go_sem] max2_int min2_int max_two min_two max_three min_three max_four min_four   -- for this text's walks alone
set_option linter.unusedVariables false
set_option linter.unusedSimpArgs false

/-! ### causal_Type: function 48 -/
def causal_Type.f (k : Nat) (a0_0 : Int) (a0_1 : Int) (a0_2 : ByteArray) (l0_3 : List (S24)) : Option (Int × Bool) := (causal_small.f a0_0 a0_1 a0_2 l0_3).bind fun t263 => (if t263 = true then ((causal_letter.f k a0_0 a0_1 a0_2 l0_3).bind fun t264 => (if t264 = 0 then (some (0, false)) else ((strings_IndexByte.f (⟨#[110, 98, 100, 63, 99]⟩ : ByteArray) t264).bind fun t265 => (some (t265, true))))) else (some (0, false)))
theorem causal_Type.mono : ∀ a0 a1 a2 a3 k, LeO (causal_Type.f k a0 a1 a2 a3) (causal_Type.f (k + 1) a0 a1 a2 a3) := by
  intro a0 a1 a2 a3 k
  unfold causal_Type.f
  repeat' first
      | (with_reducible exact causal_letter.mono _ _ _ _ _)
      | (with_reducible exact LeO.refl _)
      | (with_reducible exact LeO.none _)
      | (with_reducible refine LeO.ite ?_ ?_)
      | (with_reducible refine LeO.bind ?_ (fun _ => ?_))
      | exact causal_letter.mono _ _ _ _ _
      | exact LeO.none _
      | refine LeO.ite ?_ ?_
      | refine LeO.bind ?_ (fun _ => ?_)
set_option maxHeartbeats 8000000 in
set_option maxRecDepth 100000 in
theorem causal_Type.calls (k : Nat) (a0_0 : Int) (a0_1 : Int) (a0_2 : ByteArray) (A0_3 : Option Addr) (c0_3 : Nat) (l0_3 : List (S24)) (r1 : Int) (r2 : Bool) (w : World) (hr0_3 : Kd.C k24 w A0_3 l0_3.length l0_3) (hc0_3 : l0_3.length ≤ c0_3) (h : causal_Type.f k a0_0 a0_1 a0_2 l0_3 = some (r1, r2)) :
    Calls Tryd.prog 48 #[.agg #[.int .i64 a0_0, .int .i64 a0_1, .string a0_2, .slice A0_3 l0_3.length c0_3]] w fun e w' => e = .returned (.tuple #[.int .i64 r1, .bool r2]) ∧ Below w.heap.size w w' := by
  have hu24 := Tryd.underlying24
  have HR0_3 := Aside0.mk hr0_3
  have HC0_3 := Aside0.mk hc0_3
  clear hr0_3 hc0_3
  have HB := Aside0.mk (Below.refl w.heap.size w)
  have H : ((causal_small.f a0_0 a0_1 a0_2 l0_3).bind fun t263 => (if t263 = true then ((causal_letter.f k a0_0 a0_1 a0_2 l0_3).bind fun t264 => (if t264 = 0 then (some (0, false)) else ((strings_IndexByte.f (⟨#[110, 98, 100, 63, 99]⟩ : ByteArray) t264).bind fun t265 => (some (t265, true))))) else (some (0, false)))) = some (r1, r2) := h
  clear h
  replace H := Option.bind_eq_some_iff.mp H
  obtain ⟨t263, A20, H⟩ := H
  replace H : (if t263 = true then ((causal_letter.f k a0_0 a0_1 a0_2 l0_3).bind fun t264 => (if t264 = 0 then (some (0, false)) else ((strings_IndexByte.f (⟨#[110, 98, 100, 63, 99]⟩ : ByteArray) t264).bind fun t265 => (some (t265, true))))) else (some (0, false))) = some (r1, r2) := H
  have A2 := Aside0.mk A20
  clear A20
  by_cases c3 : t263 = true
  · subst c3
    have H1 : ((causal_letter.f k a0_0 a0_1 a0_2 l0_3).bind fun t264 => (if t264 = 0 then (some (0, false)) else ((strings_IndexByte.f (⟨#[110, 98, 100, 63, 99]⟩ : ByteArray) t264).bind fun t265 => (some (t265, true))))) = some (r1, r2) := by rw [if_pos rfl] at H; exact H
    clear H
    have H := H1
    clear H1
    replace H := Option.bind_eq_some_iff.mp H
    obtain ⟨t264, A40, H⟩ := H
    replace H : (if t264 = 0 then (some (0, false)) else ((strings_IndexByte.f (⟨#[110, 98, 100, 63, 99]⟩ : ByteArray) t264).bind fun t265 => (some (t265, true)))) = some (r1, r2) := H
    have A4 := Aside0.mk A40
    clear A40
    by_cases c5 : t264 = 0
    · rw [if_pos c5] at H
      have c5b0 : (t264 == 0) = true := beq_iff_eq.mpr c5
      have c5b1 : (t264 != 0) = false := bne_eq_false_iff_eq.mpr c5
      clear c5
      simp only [Option.some.injEq, Prod.mk.injEq] at H
      obtain ⟨rfl, rfl⟩ := H
      go_enter Tryd.func48, Tryd.ntmps48
      go_wp2_with (first | ((with_reducible refine gate_dst (N := 1) rfl ?_); refine box_event ?hg (N := 1) ?hd (cs := #[.int .i64 a0_0, .int .i64 a0_1, .string a0_2, .slice A0_3 l0_3.length c0_3]) (t := 24) ?hr ?_; (case hd => rfl); (case hg => rfl); (case hr => first | (go_simp; done) | (go_simp; rfl)); intro gb262 hg w6 hbox hb; have n0_ := Aside0.mk (below_step (by repeat (first | (with_reducible first | exact HB.out | apply below_alloc | apply pw_below_drewN | apply below_drew1) | exact HB.out)) hb); have n1_ := Aside0.mk (hbox); have n2_ := Aside0.mk ((by rw [hg]; exact (below_size (by repeat (first | (with_reducible first | exact HB.out | apply below_alloc | apply pw_below_drewN | apply below_drew1) | exact HB.out))) : w.heap.size ≤ gb262)); have n3_ := Aside0.mk ((by rw [hg]; exact (below_size (by repeat (first | (with_reducible first | exact HB.out | apply below_alloc | apply pw_below_drewN | apply below_drew1) | exact HB.out))) : w.heap.size ≤ gb262)); clear HB; have HB := n0_; have BK262 := n1_; have GW262 := n2_; have GE262 := n3_; clear n0_ n1_ n2_ n3_; clear hb hbox hg; have hcz7_0 : w6.cell? ⟨gb262, 0, none⟩ = some (.int .i64 a0_0) := (blk_cell BK262.out 0).trans rfl; have hcz7_1 : w6.cell? ⟨gb262, 1, none⟩ = some (.int .i64 a0_1) := (blk_cell BK262.out 1).trans rfl; have hcz7_2 : w6.cell? ⟨gb262, 2, none⟩ = some (.string a0_2) := (blk_cell BK262.out 2).trans rfl; have hcz7_3 : w6.cell? ⟨gb262, 3, none⟩ = some (.slice A0_3 l0_3.length c0_3) := (blk_cell BK262.out 3).trans rfl; have hfz7_0 := blk_frozen BK262.out 0; have hfz7_1 := blk_frozen BK262.out 1; have hfz7_2 := blk_frozen BK262.out 2; have hfz7_3 := blk_frozen BK262.out 3) | ((with_reducible refine gate_callee (f := 75) rfl ?_); refine goesL_ (some 6) rfl rfl Tryd.func75 (by kernel_rfl) rfl #[.agg #[.int .i64 a0_0, .int .i64 a0_1, .string a0_2, .slice A0_3 l0_3.length c0_3]] rfl (by (try simp only [List.map_toArray, List.map_cons, List.map_nil]); first | done | rfl | (simp only [List.length_drop, List.length_take]; rfl)) ?_; (with_reducible refine (causal_small.calls a0_0 a0_1 a0_2 _ _ l0_3 true _ ?side1 ?side2 A2.out).mono ?_); (case side1 => repeat (first | exact (Kd.C_below HR0_3.out HB.out) | (with_reducible refine Kd.C_alloc ?_ _) | (with_reducible refine Kd.C_drewN ?_ _) | (with_reducible refine Kd.C_drew ?_))); (case side2 => exact HC0_3.out); rintro e w8 ⟨rfl, hb⟩; refine ⟨_, rfl, ?_⟩; have n0_ := Aside0.mk (blk_below (g := gb262) (o := .cells #[.int .i64 a0_0, .int .i64 a0_1, .string a0_2, .slice A0_3 l0_3.length c0_3] 24 (0, 0)) (by (with_reducible repeat (first | refine blk_drewN ?_ _ | refine blk_drew ?_ | refine blk_alloc ?_ _)); exact BK262.out) hb); have n1_ := Aside0.mk (below_step (by repeat (first | (with_reducible first | exact HB.out | apply below_alloc | apply pw_below_drewN | apply below_drew1 | refine below_set ?_ GE262.out) | exact HB.out)) hb); clear BK262; clear HB; have BK262 := n0_; have HB := n1_; clear n0_ n1_; (try clear hb); (try clear hb2); (try clear hk); (try clear hi); have hcz9_0 : w8.cell? ⟨gb262, 0, none⟩ = some (.int .i64 a0_0) := (blk_cell BK262.out 0).trans rfl; have hcz9_1 : w8.cell? ⟨gb262, 1, none⟩ = some (.int .i64 a0_1) := (blk_cell BK262.out 1).trans rfl; have hcz9_2 : w8.cell? ⟨gb262, 2, none⟩ = some (.string a0_2) := (blk_cell BK262.out 2).trans rfl; have hcz9_3 : w8.cell? ⟨gb262, 3, none⟩ = some (.slice A0_3 l0_3.length c0_3) := (blk_cell BK262.out 3).trans rfl; have hfz9_0 := blk_frozen BK262.out 0; have hfz9_1 := blk_frozen BK262.out 1; have hfz9_2 := blk_frozen BK262.out 2; have hfz9_3 := blk_frozen BK262.out 3) | ((with_reducible refine gate_callee (f := 76) rfl ?_); refine goesL_ (some 9) rfl rfl Tryd.func76 (by kernel_rfl) rfl #[.agg #[.int .i64 a0_0, .int .i64 a0_1, .string a0_2, .slice A0_3 l0_3.length c0_3]] rfl (by (try simp only [List.map_toArray, List.map_cons, List.map_nil]); first | done | rfl | (simp only [List.length_drop, List.length_take]; rfl)) ?_; (with_reducible refine (causal_letter.calls k a0_0 a0_1 a0_2 _ _ l0_3 t264 _ ?side1 ?side2 A4.out).mono ?_); (case side1 => repeat (first | exact (Kd.C_below HR0_3.out HB.out) | (with_reducible refine Kd.C_alloc ?_ _) | (with_reducible refine Kd.C_drewN ?_ _) | (with_reducible refine Kd.C_drew ?_))); (case side2 => exact HC0_3.out); rintro e w10 ⟨rfl, hb⟩; refine ⟨_, rfl, ?_⟩; have n0_ := Aside0.mk (blk_below (g := gb262) (o := .cells #[.int .i64 a0_0, .int .i64 a0_1, .string a0_2, .slice A0_3 l0_3.length c0_3] 24 (0, 0)) (by (with_reducible repeat (first | refine blk_drewN ?_ _ | refine blk_drew ?_ | refine blk_alloc ?_ _)); exact BK262.out) hb); have n1_ := Aside0.mk (below_step (by repeat (first | (with_reducible first | exact HB.out | apply below_alloc | apply pw_below_drewN | apply below_drew1 | refine below_set ?_ GE262.out) | exact HB.out)) hb); clear BK262; clear HB; have BK262 := n0_; have HB := n1_; clear n0_ n1_; (try clear hb); (try clear hb2); (try clear hk); (try clear hi)))
      go_ret2
      exact ⟨by first | rfl | (simp [errW_none, errW_some] <;> rfl) | (simp [*, errW_none, errW_some] <;> rfl), by repeat (first | (with_reducible first | exact HB.out | apply below_alloc | apply pw_below_drewN | apply below_drew1 | refine below_set ?_ GE262.out) | exact HB.out)⟩
    · rw [if_neg c5] at H
      have c5b0 : (t264 == 0) = false := beq_eq_false_iff_ne.mpr c5
      have c5b1 : (t264 != 0) = true := bne_iff_ne.mpr c5
      replace H := Option.bind_eq_some_iff.mp H
      obtain ⟨t265, A110, H⟩ := H
      replace H : (some (t265, true)) = some (r1, r2) := H
      have A11 := Aside0.mk A110
      clear A110
      simp only [Option.some.injEq, Prod.mk.injEq] at H
      obtain ⟨rfl, rfl⟩ := H
      go_enter Tryd.func48, Tryd.ntmps48
      go_wp2_with (first | ((with_reducible refine gate_dst (N := 1) rfl ?_); refine box_event ?hg (N := 1) ?hd (cs := #[.int .i64 a0_0, .int .i64 a0_1, .string a0_2, .slice A0_3 l0_3.length c0_3]) (t := 24) ?hr ?_; (case hd => rfl); (case hg => rfl); (case hr => first | (go_simp; done) | (go_simp; rfl)); intro gb262 hg w12 hbox hb; have n0_ := Aside0.mk (below_step (by repeat (first | (with_reducible first | exact HB.out | apply below_alloc | apply pw_below_drewN | apply below_drew1) | exact HB.out)) hb); have n1_ := Aside0.mk (hbox); have n2_ := Aside0.mk ((by rw [hg]; exact (below_size (by repeat (first | (with_reducible first | exact HB.out | apply below_alloc | apply pw_below_drewN | apply below_drew1) | exact HB.out))) : w.heap.size ≤ gb262)); have n3_ := Aside0.mk ((by rw [hg]; exact (below_size (by repeat (first | (with_reducible first | exact HB.out | apply below_alloc | apply pw_below_drewN | apply below_drew1) | exact HB.out))) : w.heap.size ≤ gb262)); clear HB; have HB := n0_; have BK262 := n1_; have GW262 := n2_; have GE262 := n3_; clear n0_ n1_ n2_ n3_; clear hb hbox hg; have hcz13_0 : w12.cell? ⟨gb262, 0, none⟩ = some (.int .i64 a0_0) := (blk_cell BK262.out 0).trans rfl; have hcz13_1 : w12.cell? ⟨gb262, 1, none⟩ = some (.int .i64 a0_1) := (blk_cell BK262.out 1).trans rfl; have hcz13_2 : w12.cell? ⟨gb262, 2, none⟩ = some (.string a0_2) := (blk_cell BK262.out 2).trans rfl; have hcz13_3 : w12.cell? ⟨gb262, 3, none⟩ = some (.slice A0_3 l0_3.length c0_3) := (blk_cell BK262.out 3).trans rfl; have hfz13_0 := blk_frozen BK262.out 0; have hfz13_1 := blk_frozen BK262.out 1; have hfz13_2 := blk_frozen BK262.out 2; have hfz13_3 := blk_frozen BK262.out 3) | ((with_reducible refine gate_callee (f := 75) rfl ?_); refine goesL_ (some 6) rfl rfl Tryd.func75 (by kernel_rfl) rfl #[.agg #[.int .i64 a0_0, .int .i64 a0_1, .string a0_2, .slice A0_3 l0_3.length c0_3]] rfl (by (try simp only [List.map_toArray, List.map_cons, List.map_nil]); first | done | rfl | (simp only [List.length_drop, List.length_take]; rfl)) ?_; (with_reducible refine (causal_small.calls a0_0 a0_1 a0_2 _ _ l0_3 true _ ?side1 ?side2 A2.out).mono ?_); (case side1 => repeat (first | exact (Kd.C_below HR0_3.out HB.out) | (with_reducible refine Kd.C_alloc ?_ _) | (with_reducible refine Kd.C_drewN ?_ _) | (with_reducible refine Kd.C_drew ?_))); (case side2 => exact HC0_3.out); rintro e w14 ⟨rfl, hb⟩; refine ⟨_, rfl, ?_⟩; have n0_ := Aside0.mk (blk_below (g := gb262) (o := .cells #[.int .i64 a0_0, .int .i64 a0_1, .string a0_2, .slice A0_3 l0_3.length c0_3] 24 (0, 0)) (by (with_reducible repeat (first | refine blk_drewN ?_ _ | refine blk_drew ?_ | refine blk_alloc ?_ _)); exact BK262.out) hb); have n1_ := Aside0.mk (below_step (by repeat (first | (with_reducible first | exact HB.out | apply below_alloc | apply pw_below_drewN | apply below_drew1 | refine below_set ?_ GE262.out) | exact HB.out)) hb); clear BK262; clear HB; have BK262 := n0_; have HB := n1_; clear n0_ n1_; (try clear hb); (try clear hb2); (try clear hk); (try clear hi); have hcz15_0 : w14.cell? ⟨gb262, 0, none⟩ = some (.int .i64 a0_0) := (blk_cell BK262.out 0).trans rfl; have hcz15_1 : w14.cell? ⟨gb262, 1, none⟩ = some (.int .i64 a0_1) := (blk_cell BK262.out 1).trans rfl; have hcz15_2 : w14.cell? ⟨gb262, 2, none⟩ = some (.string a0_2) := (blk_cell BK262.out 2).trans rfl; have hcz15_3 : w14.cell? ⟨gb262, 3, none⟩ = some (.slice A0_3 l0_3.length c0_3) := (blk_cell BK262.out 3).trans rfl; have hfz15_0 := blk_frozen BK262.out 0; have hfz15_1 := blk_frozen BK262.out 1; have hfz15_2 := blk_frozen BK262.out 2; have hfz15_3 := blk_frozen BK262.out 3) | ((with_reducible refine gate_callee (f := 76) rfl ?_); refine goesL_ (some 9) rfl rfl Tryd.func76 (by kernel_rfl) rfl #[.agg #[.int .i64 a0_0, .int .i64 a0_1, .string a0_2, .slice A0_3 l0_3.length c0_3]] rfl (by (try simp only [List.map_toArray, List.map_cons, List.map_nil]); first | done | rfl | (simp only [List.length_drop, List.length_take]; rfl)) ?_; (with_reducible refine (causal_letter.calls k a0_0 a0_1 a0_2 _ _ l0_3 t264 _ ?side1 ?side2 A4.out).mono ?_); (case side1 => repeat (first | exact (Kd.C_below HR0_3.out HB.out) | (with_reducible refine Kd.C_alloc ?_ _) | (with_reducible refine Kd.C_drewN ?_ _) | (with_reducible refine Kd.C_drew ?_))); (case side2 => exact HC0_3.out); rintro e w16 ⟨rfl, hb⟩; refine ⟨_, rfl, ?_⟩; have n0_ := Aside0.mk (blk_below (g := gb262) (o := .cells #[.int .i64 a0_0, .int .i64 a0_1, .string a0_2, .slice A0_3 l0_3.length c0_3] 24 (0, 0)) (by (with_reducible repeat (first | refine blk_drewN ?_ _ | refine blk_drew ?_ | refine blk_alloc ?_ _)); exact BK262.out) hb); have n1_ := Aside0.mk (below_step (by repeat (first | (with_reducible first | exact HB.out | apply below_alloc | apply pw_below_drewN | apply below_drew1 | refine below_set ?_ GE262.out) | exact HB.out)) hb); clear BK262; clear HB; have BK262 := n0_; have HB := n1_; clear n0_ n1_; (try clear hb); (try clear hb2); (try clear hk); (try clear hi)) | ((with_reducible refine gate_callee (f := 77) rfl ?_); refine goesL_ (some 13) rfl rfl Tryd.func77 (by kernel_rfl) rfl #[.string (⟨#[110, 98, 100, 63, 99]⟩ : ByteArray), .int .u8 t264] rfl (by (try simp only [List.map_toArray, List.map_cons, List.map_nil]); first | done | rfl | (simp only [List.length_drop, List.length_take]; rfl)) ?_; (with_reducible refine (strings_IndexByte.calls (⟨#[110, 98, 100, 63, 99]⟩ : ByteArray) t264 t265 _ A11.out).mono ?_); rintro e w17 ⟨rfl, hb⟩; refine ⟨_, rfl, ?_⟩; have n0_ := Aside0.mk (blk_below (g := gb262) (o := .cells #[.int .i64 a0_0, .int .i64 a0_1, .string a0_2, .slice A0_3 l0_3.length c0_3] 24 (0, 0)) (by (with_reducible repeat (first | refine blk_drewN ?_ _ | refine blk_drew ?_ | refine blk_alloc ?_ _)); exact BK262.out) hb); have n1_ := Aside0.mk (below_step (by repeat (first | (with_reducible first | exact HB.out | apply below_alloc | apply pw_below_drewN | apply below_drew1 | refine below_set ?_ GE262.out) | exact HB.out)) hb); clear BK262; clear HB; have BK262 := n0_; have HB := n1_; clear n0_ n1_; (try clear hb); (try clear hb2); (try clear hk); (try clear hi)))
      go_ret2
      exact ⟨by first | rfl | (simp [errW_none, errW_some] <;> rfl) | (simp [*, errW_none, errW_some] <;> rfl), by repeat (first | (with_reducible first | exact HB.out | apply below_alloc | apply pw_below_drewN | apply below_drew1 | refine below_set ?_ GE262.out) | exact HB.out)⟩
  · replace c3 := Bool.eq_false_iff.mpr c3
    subst c3
    have H1 : (some (0, false)) = some (r1, r2) := by rw [if_neg (show ¬ (false = true) by decide)] at H; exact H
    clear H
    have H := H1
    clear H1
    simp only [Option.some.injEq, Prod.mk.injEq] at H
    obtain ⟨rfl, rfl⟩ := H
    go_enter Tryd.func48, Tryd.ntmps48
    go_wp2_with (first | ((with_reducible refine gate_dst (N := 1) rfl ?_); refine box_event ?hg (N := 1) ?hd (cs := #[.int .i64 a0_0, .int .i64 a0_1, .string a0_2, .slice A0_3 l0_3.length c0_3]) (t := 24) ?hr ?_; (case hd => rfl); (case hg => rfl); (case hr => first | (go_simp; done) | (go_simp; rfl)); intro gb262 hg w18 hbox hb; have n0_ := Aside0.mk (below_step (by repeat (first | (with_reducible first | exact HB.out | apply below_alloc | apply pw_below_drewN | apply below_drew1) | exact HB.out)) hb); have n1_ := Aside0.mk (hbox); have n2_ := Aside0.mk ((by rw [hg]; exact (below_size (by repeat (first | (with_reducible first | exact HB.out | apply below_alloc | apply pw_below_drewN | apply below_drew1) | exact HB.out))) : w.heap.size ≤ gb262)); have n3_ := Aside0.mk ((by rw [hg]; exact (below_size (by repeat (first | (with_reducible first | exact HB.out | apply below_alloc | apply pw_below_drewN | apply below_drew1) | exact HB.out))) : w.heap.size ≤ gb262)); clear HB; have HB := n0_; have BK262 := n1_; have GW262 := n2_; have GE262 := n3_; clear n0_ n1_ n2_ n3_; clear hb hbox hg; have hcz19_0 : w18.cell? ⟨gb262, 0, none⟩ = some (.int .i64 a0_0) := (blk_cell BK262.out 0).trans rfl; have hcz19_1 : w18.cell? ⟨gb262, 1, none⟩ = some (.int .i64 a0_1) := (blk_cell BK262.out 1).trans rfl; have hcz19_2 : w18.cell? ⟨gb262, 2, none⟩ = some (.string a0_2) := (blk_cell BK262.out 2).trans rfl; have hcz19_3 : w18.cell? ⟨gb262, 3, none⟩ = some (.slice A0_3 l0_3.length c0_3) := (blk_cell BK262.out 3).trans rfl; have hfz19_0 := blk_frozen BK262.out 0; have hfz19_1 := blk_frozen BK262.out 1; have hfz19_2 := blk_frozen BK262.out 2; have hfz19_3 := blk_frozen BK262.out 3) | ((with_reducible refine gate_callee (f := 75) rfl ?_); refine goesL_ (some 6) rfl rfl Tryd.func75 (by kernel_rfl) rfl #[.agg #[.int .i64 a0_0, .int .i64 a0_1, .string a0_2, .slice A0_3 l0_3.length c0_3]] rfl (by (try simp only [List.map_toArray, List.map_cons, List.map_nil]); first | done | rfl | (simp only [List.length_drop, List.length_take]; rfl)) ?_; (with_reducible refine (causal_small.calls a0_0 a0_1 a0_2 _ _ l0_3 false _ ?side1 ?side2 A2.out).mono ?_); (case side1 => repeat (first | exact (Kd.C_below HR0_3.out HB.out) | (with_reducible refine Kd.C_alloc ?_ _) | (with_reducible refine Kd.C_drewN ?_ _) | (with_reducible refine Kd.C_drew ?_))); (case side2 => exact HC0_3.out); rintro e w20 ⟨rfl, hb⟩; refine ⟨_, rfl, ?_⟩; have n0_ := Aside0.mk (blk_below (g := gb262) (o := .cells #[.int .i64 a0_0, .int .i64 a0_1, .string a0_2, .slice A0_3 l0_3.length c0_3] 24 (0, 0)) (by (with_reducible repeat (first | refine blk_drewN ?_ _ | refine blk_drew ?_ | refine blk_alloc ?_ _)); exact BK262.out) hb); have n1_ := Aside0.mk (below_step (by repeat (first | (with_reducible first | exact HB.out | apply below_alloc | apply pw_below_drewN | apply below_drew1 | refine below_set ?_ GE262.out) | exact HB.out)) hb); clear BK262; clear HB; have BK262 := n0_; have HB := n1_; clear n0_ n1_; (try clear hb); (try clear hb2); (try clear hk); (try clear hi)))
    go_ret2
    exact ⟨by first | rfl | (simp [errW_none, errW_some] <;> rfl) | (simp [*, errW_none, errW_some] <;> rfl), by repeat (first | (with_reducible first | exact HB.out | apply below_alloc | apply pw_below_drewN | apply below_drew1 | refine below_set ?_ GE262.out) | exact HB.out)⟩

/-! ### denote_rightPick: function 32 -/
def denote_rightPick.f (k : Nat) (a0_0 : ByteArray) (a0_1 : Int) : Option (Bool) := if a0_0.toList = ([] : List UInt8) then (some (a0_1 == 0)) else ((causal_Type.f k 4 0 a0_0 ([] : List (S24))).bind fun bt267 => (if bt267.2 = true then (if a0_1 = 1 then (some true) else (some (a0_1 == 2))) else (some false)))
theorem denote_rightPick.mono : ∀ a0 a1 k, LeO (denote_rightPick.f k a0 a1) (denote_rightPick.f (k + 1) a0 a1) := by
  intro a0 a1 k
  unfold denote_rightPick.f
  repeat' first
      | (with_reducible exact causal_Type.mono _ _ _ _ _)
      | (with_reducible exact LeO.refl _)
      | (with_reducible exact LeO.none _)
      | (with_reducible refine LeO.ite ?_ ?_)
      | (with_reducible refine LeO.bind ?_ (fun _ => ?_))
      | exact causal_Type.mono _ _ _ _ _
      | exact LeO.none _
      | refine LeO.ite ?_ ?_
      | refine LeO.bind ?_ (fun _ => ?_)
set_option maxHeartbeats 8000000 in
set_option maxRecDepth 100000 in
theorem denote_rightPick.calls (k : Nat) (a0_0 : ByteArray) (a0_1 : Int) (r : Bool) (w : World) (h : denote_rightPick.f k a0_0 a0_1 = some r) :
    Calls Tryd.prog 32 #[.agg #[.string a0_0, .int .i64 a0_1]] w fun e w' => e = .returned (.bool r) ∧ Below w.heap.size w w' := by
  have hu34 := Tryd.underlying34
  have hu24 := Tryd.underlying24
  have HB := Aside0.mk (Below.refl w.heap.size w)
  have H : (if a0_0.toList = ([] : List UInt8) then (some (a0_1 == 0)) else ((causal_Type.f k 4 0 a0_0 ([] : List (S24))).bind fun bt267 => (if bt267.2 = true then (if a0_1 = 1 then (some true) else (some (a0_1 == 2))) else (some false)))) = some r := h
  clear h
  by_cases c2 : a0_0.toList = ([] : List UInt8)
  · rw [if_pos c2] at H
    have c2b0 : (a0_0.toList == ([] : List UInt8)) = true := beq_iff_eq.mpr c2
    have c2b1 : (a0_0.toList != ([] : List UInt8)) = false := bne_eq_false_iff_eq.mpr c2
    clear c2
    obtain rfl := Option.some.inj H
    go_enter Tryd.func32, Tryd.ntmps32
    go_wp2_with (first | ((with_reducible refine gate_dst (N := 1) rfl ?_); refine box_event ?hg (N := 1) ?hd (cs := #[.string a0_0, .int .i64 a0_1]) (t := 34) ?hr ?_; (case hd => rfl); (case hg => rfl); (case hr => first | (go_simp; done) | (go_simp; rfl)); intro gb266 hg w3 hbox hb; have n0_ := Aside0.mk (below_step (by repeat (first | (with_reducible first | exact HB.out | apply below_alloc | apply pw_below_drewN | apply below_drew1) | exact HB.out)) hb); have n1_ := Aside0.mk (hbox); have n2_ := Aside0.mk ((by rw [hg]; exact (below_size (by repeat (first | (with_reducible first | exact HB.out | apply below_alloc | apply pw_below_drewN | apply below_drew1) | exact HB.out))) : w.heap.size ≤ gb266)); have n3_ := Aside0.mk ((by rw [hg]; exact (below_size (by repeat (first | (with_reducible first | exact HB.out | apply below_alloc | apply pw_below_drewN | apply below_drew1) | exact HB.out))) : w.heap.size ≤ gb266)); clear HB; have HB := n0_; have BK266 := n1_; have GW266 := n2_; have GE266 := n3_; clear n0_ n1_ n2_ n3_; clear hb hbox hg; have hcz4_0 : w3.cell? ⟨gb266, 0, none⟩ = some (.string a0_0) := (blk_cell BK266.out 0).trans rfl; have hcz4_1 : w3.cell? ⟨gb266, 1, none⟩ = some (.int .i64 a0_1) := (blk_cell BK266.out 1).trans rfl; have hfz4_0 := blk_frozen BK266.out 0; have hfz4_1 := blk_frozen BK266.out 1))
    go_ret
    exact ⟨by first | rfl | (simp [errW_none, errW_some] <;> rfl) | (simp [*, errW_none, errW_some] <;> rfl), by repeat (first | (with_reducible first | exact HB.out | apply below_alloc | apply pw_below_drewN | apply below_drew1 | refine below_set ?_ GE266.out) | exact HB.out)⟩
  · rw [if_neg c2] at H
    have c2b0 : (a0_0.toList == ([] : List UInt8)) = false := beq_eq_false_iff_ne.mpr c2
    have c2b1 : (a0_0.toList != ([] : List UInt8)) = true := bne_iff_ne.mpr c2
    replace H := Option.bind_eq_some_iff.mp H
    obtain ⟨⟨t267, t268⟩, A50, H⟩ := H
    replace H : (if t268 = true then (if a0_1 = 1 then (some true) else (some (a0_1 == 2))) else (some false)) = some r := H
    have A5 := Aside0.mk A50
    clear A50
    by_cases c6 : t268 = true
    · subst c6
      have H1 : (if a0_1 = 1 then (some true) else (some (a0_1 == 2))) = some r := by rw [if_pos rfl] at H; exact H
      clear H
      have H := H1
      clear H1
      by_cases c7 : a0_1 = 1
      · rw [if_pos c7] at H
        have c7b0 : (a0_1 == 1) = true := beq_iff_eq.mpr c7
        have c7b1 : (a0_1 != 1) = false := bne_eq_false_iff_eq.mpr c7
        clear c7
        obtain rfl := Option.some.inj H
        go_enter Tryd.func32, Tryd.ntmps32
        go_wp2_with (first | ((with_reducible refine gate_dst (N := 1) rfl ?_); refine box_event ?hg (N := 1) ?hd (cs := #[.string a0_0, .int .i64 a0_1]) (t := 34) ?hr ?_; (case hd => rfl); (case hg => rfl); (case hr => first | (go_simp; done) | (go_simp; rfl)); intro gb266 hg w8 hbox hb; have n0_ := Aside0.mk (below_step (by repeat (first | (with_reducible first | exact HB.out | apply below_alloc | apply pw_below_drewN | apply below_drew1) | exact HB.out)) hb); have n1_ := Aside0.mk (hbox); have n2_ := Aside0.mk ((by rw [hg]; exact (below_size (by repeat (first | (with_reducible first | exact HB.out | apply below_alloc | apply pw_below_drewN | apply below_drew1) | exact HB.out))) : w.heap.size ≤ gb266)); have n3_ := Aside0.mk ((by rw [hg]; exact (below_size (by repeat (first | (with_reducible first | exact HB.out | apply below_alloc | apply pw_below_drewN | apply below_drew1) | exact HB.out))) : w.heap.size ≤ gb266)); clear HB; have HB := n0_; have BK266 := n1_; have GW266 := n2_; have GE266 := n3_; clear n0_ n1_ n2_ n3_; clear hb hbox hg; have hcz9_0 : w8.cell? ⟨gb266, 0, none⟩ = some (.string a0_0) := (blk_cell BK266.out 0).trans rfl; have hcz9_1 : w8.cell? ⟨gb266, 1, none⟩ = some (.int .i64 a0_1) := (blk_cell BK266.out 1).trans rfl; have hfz9_0 := blk_frozen BK266.out 0; have hfz9_1 := blk_frozen BK266.out 1) | ((with_reducible refine gate_callee (f := 48) rfl ?_); refine goesL_ (some 15) rfl rfl Tryd.func48 (by kernel_rfl) rfl #[.agg #[.int .i64 4, .int .i64 0, .string a0_0, .slice none 0 0]] rfl (by (try simp only [List.map_toArray, List.map_cons, List.map_nil]); first | done | rfl | (simp only [List.length_drop, List.length_take]; rfl)) ?_; (refine (causal_Type.calls k 4 0 a0_0 _ _ ([] : List (S24)) t267 true _ ?side1 ?side2 A5.out).mono ?_); (case side1 => exact Kd.C_nil _ _); (case side2 => exact Nat.le_refl _); rintro e w10 ⟨rfl, hb⟩; refine ⟨_, rfl, ?_⟩; have n0_ := Aside0.mk (blk_below (g := gb266) (o := .cells #[.string a0_0, .int .i64 a0_1] 34 (0, 0)) (by (with_reducible repeat (first | refine blk_drewN ?_ _ | refine blk_drew ?_ | refine blk_alloc ?_ _)); exact BK266.out) hb); have n1_ := Aside0.mk (below_step (by repeat (first | (with_reducible first | exact HB.out | apply below_alloc | apply pw_below_drewN | apply below_drew1 | refine below_set ?_ GE266.out) | exact HB.out)) hb); clear BK266; clear HB; have BK266 := n0_; have HB := n1_; clear n0_ n1_; (try clear hb); (try clear hb2); (try clear hk); (try clear hi); have hcz11_0 : w10.cell? ⟨gb266, 0, none⟩ = some (.string a0_0) := (blk_cell BK266.out 0).trans rfl; have hcz11_1 : w10.cell? ⟨gb266, 1, none⟩ = some (.int .i64 a0_1) := (blk_cell BK266.out 1).trans rfl; have hfz11_0 := blk_frozen BK266.out 0; have hfz11_1 := blk_frozen BK266.out 1))
        go_ret
        exact ⟨by first | rfl | (simp [errW_none, errW_some] <;> rfl) | (simp [*, errW_none, errW_some] <;> rfl), by repeat (first | (with_reducible first | exact HB.out | apply below_alloc | apply pw_below_drewN | apply below_drew1 | refine below_set ?_ GE266.out) | exact HB.out)⟩
      · rw [if_neg c7] at H
        have c7b0 : (a0_1 == 1) = false := beq_eq_false_iff_ne.mpr c7
        have c7b1 : (a0_1 != 1) = true := bne_iff_ne.mpr c7
        obtain rfl := Option.some.inj H
        go_enter Tryd.func32, Tryd.ntmps32
        go_wp2_with (first | ((with_reducible refine gate_dst (N := 1) rfl ?_); refine box_event ?hg (N := 1) ?hd (cs := #[.string a0_0, .int .i64 a0_1]) (t := 34) ?hr ?_; (case hd => rfl); (case hg => rfl); (case hr => first | (go_simp; done) | (go_simp; rfl)); intro gb266 hg w12 hbox hb; have n0_ := Aside0.mk (below_step (by repeat (first | (with_reducible first | exact HB.out | apply below_alloc | apply pw_below_drewN | apply below_drew1) | exact HB.out)) hb); have n1_ := Aside0.mk (hbox); have n2_ := Aside0.mk ((by rw [hg]; exact (below_size (by repeat (first | (with_reducible first | exact HB.out | apply below_alloc | apply pw_below_drewN | apply below_drew1) | exact HB.out))) : w.heap.size ≤ gb266)); have n3_ := Aside0.mk ((by rw [hg]; exact (below_size (by repeat (first | (with_reducible first | exact HB.out | apply below_alloc | apply pw_below_drewN | apply below_drew1) | exact HB.out))) : w.heap.size ≤ gb266)); clear HB; have HB := n0_; have BK266 := n1_; have GW266 := n2_; have GE266 := n3_; clear n0_ n1_ n2_ n3_; clear hb hbox hg; have hcz13_0 : w12.cell? ⟨gb266, 0, none⟩ = some (.string a0_0) := (blk_cell BK266.out 0).trans rfl; have hcz13_1 : w12.cell? ⟨gb266, 1, none⟩ = some (.int .i64 a0_1) := (blk_cell BK266.out 1).trans rfl; have hfz13_0 := blk_frozen BK266.out 0; have hfz13_1 := blk_frozen BK266.out 1) | ((with_reducible refine gate_callee (f := 48) rfl ?_); refine goesL_ (some 15) rfl rfl Tryd.func48 (by kernel_rfl) rfl #[.agg #[.int .i64 4, .int .i64 0, .string a0_0, .slice none 0 0]] rfl (by (try simp only [List.map_toArray, List.map_cons, List.map_nil]); first | done | rfl | (simp only [List.length_drop, List.length_take]; rfl)) ?_; (refine (causal_Type.calls k 4 0 a0_0 _ _ ([] : List (S24)) t267 true _ ?side1 ?side2 A5.out).mono ?_); (case side1 => exact Kd.C_nil _ _); (case side2 => exact Nat.le_refl _); rintro e w14 ⟨rfl, hb⟩; refine ⟨_, rfl, ?_⟩; have n0_ := Aside0.mk (blk_below (g := gb266) (o := .cells #[.string a0_0, .int .i64 a0_1] 34 (0, 0)) (by (with_reducible repeat (first | refine blk_drewN ?_ _ | refine blk_drew ?_ | refine blk_alloc ?_ _)); exact BK266.out) hb); have n1_ := Aside0.mk (below_step (by repeat (first | (with_reducible first | exact HB.out | apply below_alloc | apply pw_below_drewN | apply below_drew1 | refine below_set ?_ GE266.out) | exact HB.out)) hb); clear BK266; clear HB; have BK266 := n0_; have HB := n1_; clear n0_ n1_; (try clear hb); (try clear hb2); (try clear hk); (try clear hi); have hcz15_0 : w14.cell? ⟨gb266, 0, none⟩ = some (.string a0_0) := (blk_cell BK266.out 0).trans rfl; have hcz15_1 : w14.cell? ⟨gb266, 1, none⟩ = some (.int .i64 a0_1) := (blk_cell BK266.out 1).trans rfl; have hfz15_0 := blk_frozen BK266.out 0; have hfz15_1 := blk_frozen BK266.out 1))
        go_ret
        exact ⟨by first | rfl | (simp [errW_none, errW_some] <;> rfl) | (simp [*, errW_none, errW_some] <;> rfl), by repeat (first | (with_reducible first | exact HB.out | apply below_alloc | apply pw_below_drewN | apply below_drew1 | refine below_set ?_ GE266.out) | exact HB.out)⟩
    · replace c6 := Bool.eq_false_iff.mpr c6
      subst c6
      have H1 : (some false) = some r := by rw [if_neg (show ¬ (false = true) by decide)] at H; exact H
      clear H
      have H := H1
      clear H1
      obtain rfl := Option.some.inj H
      go_enter Tryd.func32, Tryd.ntmps32
      go_wp2_with (first | ((with_reducible refine gate_dst (N := 1) rfl ?_); refine box_event ?hg (N := 1) ?hd (cs := #[.string a0_0, .int .i64 a0_1]) (t := 34) ?hr ?_; (case hd => rfl); (case hg => rfl); (case hr => first | (go_simp; done) | (go_simp; rfl)); intro gb266 hg w16 hbox hb; have n0_ := Aside0.mk (below_step (by repeat (first | (with_reducible first | exact HB.out | apply below_alloc | apply pw_below_drewN | apply below_drew1) | exact HB.out)) hb); have n1_ := Aside0.mk (hbox); have n2_ := Aside0.mk ((by rw [hg]; exact (below_size (by repeat (first | (with_reducible first | exact HB.out | apply below_alloc | apply pw_below_drewN | apply below_drew1) | exact HB.out))) : w.heap.size ≤ gb266)); have n3_ := Aside0.mk ((by rw [hg]; exact (below_size (by repeat (first | (with_reducible first | exact HB.out | apply below_alloc | apply pw_below_drewN | apply below_drew1) | exact HB.out))) : w.heap.size ≤ gb266)); clear HB; have HB := n0_; have BK266 := n1_; have GW266 := n2_; have GE266 := n3_; clear n0_ n1_ n2_ n3_; clear hb hbox hg; have hcz17_0 : w16.cell? ⟨gb266, 0, none⟩ = some (.string a0_0) := (blk_cell BK266.out 0).trans rfl; have hcz17_1 : w16.cell? ⟨gb266, 1, none⟩ = some (.int .i64 a0_1) := (blk_cell BK266.out 1).trans rfl; have hfz17_0 := blk_frozen BK266.out 0; have hfz17_1 := blk_frozen BK266.out 1) | ((with_reducible refine gate_callee (f := 48) rfl ?_); refine goesL_ (some 15) rfl rfl Tryd.func48 (by kernel_rfl) rfl #[.agg #[.int .i64 4, .int .i64 0, .string a0_0, .slice none 0 0]] rfl (by (try simp only [List.map_toArray, List.map_cons, List.map_nil]); first | done | rfl | (simp only [List.length_drop, List.length_take]; rfl)) ?_; (refine (causal_Type.calls k 4 0 a0_0 _ _ ([] : List (S24)) t267 false _ ?side1 ?side2 A5.out).mono ?_); (case side1 => exact Kd.C_nil _ _); (case side2 => exact Nat.le_refl _); rintro e w18 ⟨rfl, hb⟩; refine ⟨_, rfl, ?_⟩; have n0_ := Aside0.mk (blk_below (g := gb266) (o := .cells #[.string a0_0, .int .i64 a0_1] 34 (0, 0)) (by (with_reducible repeat (first | refine blk_drewN ?_ _ | refine blk_drew ?_ | refine blk_alloc ?_ _)); exact BK266.out) hb); have n1_ := Aside0.mk (below_step (by repeat (first | (with_reducible first | exact HB.out | apply below_alloc | apply pw_below_drewN | apply below_drew1 | refine below_set ?_ GE266.out) | exact HB.out)) hb); clear BK266; clear HB; have BK266 := n0_; have HB := n1_; clear n0_ n1_; (try clear hb); (try clear hb2); (try clear hk); (try clear hi)))
      go_ret
      exact ⟨by first | rfl | (simp [errW_none, errW_some] <;> rfl) | (simp [*, errW_none, errW_some] <;> rfl), by repeat (first | (with_reducible first | exact HB.out | apply below_alloc | apply pw_below_drewN | apply below_drew1 | refine below_set ?_ GE266.out) | exact HB.out)⟩

-- NOT PRINTED: function 33 (denote_terms)

/-! ### slices_Index_int_int: function 63 -/
def slices_Index_int_int.l0 : Nat → List Int → Int → Int → Int → Option (Int)
  | 0, _, _, _, _ => none
  | k + 1, x0, x1, x7, x8 => if x8 < x7 then (if 0 ≤ x8 then (if x8 < (x0.length : Int) then (if x1 = (rd x0 x8) then (some x8) else (slices_Index_int_int.l0 k x0 x1 x7 (wrap64 (x8 + 1)))) else (none)) else (none)) else (some (-1))
def slices_Index_int_int.f (k : Nat) (l0 : List Int) (a1 : Int) : Option (Int) := slices_Index_int_int.l0 k l0 a1 (l0.length : Int) 0
theorem slices_Index_int_int.mono_l : ∀ k, (∀ y0 y1 y2 y3, LeO (slices_Index_int_int.l0 k y0 y1 y2 y3) (slices_Index_int_int.l0 (k + 1) y0 y1 y2 y3))
  | 0 => fun _ _ _ _ r h => by simp [slices_Index_int_int.l0] at h
  | k + 1 => by
    have ih0 := slices_Index_int_int.mono_l k
    · intro y0 y1 y2 y3
      unfold slices_Index_int_int.l0
      repeat' first
      | (with_reducible exact ih0 _ _ _ _)
      | (with_reducible exact LeO.refl _)
      | (with_reducible exact LeO.none _)
      | (with_reducible refine LeO.ite ?_ ?_)
      | (with_reducible refine LeO.bind ?_ (fun _ => ?_))
      | exact ih0 _ _ _ _
      | exact LeO.none _
      | refine LeO.ite ?_ ?_
      | refine LeO.bind ?_ (fun _ => ?_)
theorem slices_Index_int_int.mono : ∀ a0 a1 k, LeO (slices_Index_int_int.f k a0 a1) (slices_Index_int_int.f (k + 1) a0 a1) := by
  intro a0 a1 k
  have ih0 := slices_Index_int_int.mono_l k
  unfold slices_Index_int_int.f
  repeat' first
      | (with_reducible exact ih0 _ _ _ _)
      | (with_reducible exact LeO.refl _)
      | (with_reducible exact LeO.none _)
      | (with_reducible refine LeO.ite ?_ ?_)
      | (with_reducible refine LeO.bind ?_ (fun _ => ?_))
      | exact ih0 _ _ _ _
      | exact LeO.none _
      | refine LeO.ite ?_ ?_
      | refine LeO.bind ?_ (fun _ => ?_)
set_option maxHeartbeats 8000000 in
set_option maxRecDepth 100000 in
theorem slices_Index_int_int.calls (k : Nat) (A0 : Option Addr) (c0 : Nat) (l0 : List Int) (a1 : Int) (r : Int) (w : World) (hr0 : Kd.C (Kd.int .i64) w A0 l0.length l0) (hc0 : l0.length ≤ c0) (h : slices_Index_int_int.f k l0 a1 = some r) :
    Calls Tryd.prog 63 #[.slice A0 l0.length c0, .int .i64 a1] w fun e w' => e = .returned (.int .i64 r) ∧ Drawn0 w w' := by
  have HR0 := Aside0.mk hr0
  have HC0 := Aside0.mk hc0
  clear hr0 hc0
  have H : (slices_Index_int_int.l0 k l0 a1 (l0.length : Int) 0) = some r := h
  clear h
  have H' := Aside0.mk H
  clear H
  go_enter Tryd.func63, Tryd.ntmps63
  go_wp2
  go_loopg [8] k (fun kq v8 w' => ∃ (x8_1 : Int), v8 = .int .i64 x8_1 ∧ Aside0 (slices_Index_int_int.l0 kq l0 a1 (l0.length : Int) x8_1 = some r) ∧ Aside0 (kq ≤ k) ∧ Drawn0 w w')
  case atStart => exact ⟨(0), (by first | rfl | (simp; done) | (simp [*]; done)), H', ⟨Nat.le_refl _⟩, by repeat (first | exact Drawn0.refl _ | apply Drawn0.step)⟩
  case round =>
    clear H'
    try clear p2
    obtain ⟨x8_1, rfl, HA, HK1, ⟨m1, rfl⟩⟩ := hrel
    cases gk with
    | zero => exact absurd HA.out (by simp [slices_Index_int_int.l0])
    | succ k1 =>
      have H := HA.out
      clear HA
      simp only [slices_Index_int_int.l0] at H
      by_cases c3 : x8_1 < (l0.length : Int)
      · rw [if_pos c3] at H
        have c3b0 : decide (x8_1 < (l0.length : Int)) = true := decide_eq_true c3
        clear c3
        by_cases c4 : 0 ≤ x8_1
        · rw [if_pos c4] at H
          have c4b0 : decide (0 ≤ x8_1) = true := decide_eq_true c4
          clear c4
          by_cases c5 : x8_1 < (l0.length : Int)
          · rw [if_pos c5] at H
            have c5b0 : decide (x8_1 < (l0.length : Int)) = true := decide_eq_true c5
            clear c5
            by_cases c6 : a1 = (rd l0 x8_1)
            · rw [if_pos c6] at H
              have c6b0 : (a1 == (rd l0 x8_1)) = true := beq_iff_eq.mpr c6
              have c6b1 : (a1 != (rd l0 x8_1)) = false := bne_eq_false_iff_eq.mpr c6
              clear c6
              obtain rfl := Option.some.inj H
              have p270 : 0 ≤ (x8_1 : Int) := of_decide_eq_true (by first | (with_reducible assumption) | assumption)
              have q270 : x8_1 < (l0.length : Int) := of_decide_eq_true (by first | (with_reducible assumption) | assumption)
              obtain ⟨ad270, e270, hx270_0⟩ := Kd.at_int HR0.out x8_1 p270 q270
              cases e270
              replace p270 := eq_true p270
              replace q270 := eq_true q270
              go_wp2
              go_ret
              exact ⟨by first | rfl | (simp; done) | (simp [*]; done), by repeat (first | exact Drawn0.refl _ | apply Drawn0.step)⟩
            · rw [if_neg c6] at H
              have c6b0 : (a1 == (rd l0 x8_1)) = false := beq_eq_false_iff_ne.mpr c6
              have c6b1 : (a1 != (rd l0 x8_1)) = true := bne_iff_ne.mpr c6
              have H' := Aside0.mk H
              clear H
              have p270 : 0 ≤ (x8_1 : Int) := of_decide_eq_true (by first | (with_reducible assumption) | assumption)
              have q270 : x8_1 < (l0.length : Int) := of_decide_eq_true (by first | (with_reducible assumption) | assumption)
              obtain ⟨ad270, e270, hx270_0⟩ := Kd.at_int HR0.out x8_1 p270 q270
              cases e270
              replace p270 := eq_true p270
              replace q270 := eq_true q270
              go_wp2
              go_roundg k1
              case measure => have := HK1.out; omega
              case rel => exact ⟨(wrap64 (x8_1 + 1)), (by first | rfl | (simp; done) | (simp [*]; done)), H', ⟨by have := HK1.out; omega⟩, by repeat (first | exact Drawn0.refl _ | apply Drawn0.step)⟩
          · rw [if_neg c5] at H
            exact absurd H (by simp)
        · rw [if_neg c4] at H
          exact absurd H (by simp)
      · rw [if_neg c3] at H
        have c3b0 : decide (x8_1 < (l0.length : Int)) = false := decide_eq_false c3
        clear c3
        obtain rfl := Option.some.inj H
        go_wp2
        go_ret
        exact ⟨by first | rfl | (simp; done) | (simp [*]; done), by repeat (first | exact Drawn0.refl _ | apply Drawn0.step)⟩

end Go.Proofs.YtniajhmbdbgmgaaDoor.Q

/- causal.Check tells whether a term is a contract none of whose observables looks ahead. -/
namespace Go.Proofs.YtniajhmbdbgmgaaDoor.Q
open Go Go.RowKit Go.Proofs Go.Proofs.YtniajhmbdbgmgaaDoor Go.Shelf Go.Proofs.YtniajhmbdbgmgaaDoorW.PrintWords Go.Proofs.YtniajhmbdbgmgaaDoorW.PrintLast Go.Proofs.YtniajhmbdbgmgaaDoorW.PrintMore
attribute [local go_sem] Oper.semAt_some

def aheadK (k : Int × Int × Int × ByteArray) : Bool := (k.2.1 == 4 || k.2.1 == 5) && decide (k.2.2.1 < 0)
def checkT (x : S24) (t : Int) (ok : Bool) : Int := if ok = true ∧ t = 4 then (if (preT 1 x).any aheadK = true then 141 else 0) else 140
def causal_Check.f (k : Nat) (a b : Int) (c : ByteArray) (l : List S24) : Option Int := (causal_Type.f k a b c l).bind fun r => some (checkT ⟨a, b, c, l⟩ r.1 r.2)
theorem causal_Check.mono : ∀ a b c l k, LeO (causal_Check.f k a b c l) (causal_Check.f (k + 1) a b c l) := by
  intro a b c l k r h
  unfold causal_Check.f at h ⊢
  cases ht : causal_Type.f k a b c l with
  | none => rw [ht] at h; simp at h
  | some t =>
    rw [causal_Type.mono a b c l k t ht]
    rw [ht] at h
    exact h

theorem core_cells {W : World} {B : Nat} {a b : Int} {s : ByteArray} {v : Value} {t : TypeId} (h : W.heap[B]? = some (.cells #[.int .i64 a, .int .i64 b, .string s, v] t (0, 0))) :
    W.cell? ⟨B, 0, none⟩ = some (.int .i64 a) ∧ W.cell? ⟨B, 1, none⟩ = some (.int .i64 b) ∧ W.cell? ⟨B, 2, none⟩ = some (.string s) ∧ W.cell? ⟨B, 3, none⟩ = some v := by
  simp [World.cell?, h]
set_option maxRecDepth 100000 in
set_option maxHeartbeats 4000000 in
theorem check_in (F : Fence) (hd : F.depth = none) (hF : ∀ f, F.fn f) (hro : F.round = none) (n : Nat) (hn : 3 ≤ n) (x : S24) (A : Option Addr) (c : Nat) (w : World) (ht : Kd.C k24 w A x.f3.length x.f3) (hc : x.f3.length ≤ c) (t : Int) (ok : Bool)
    (hty : ∀ W, Below w.heap.size w W → CallsIn F (n - 1) Tryd.prog 48 #[.agg #[.int .i64 x.f0, .int .i64 x.f1, .string x.f2, .slice A x.f3.length c]] W fun e w' => e = .returned (.tuple #[.int .i64 t, .bool ok]) ∧ Below W.heap.size W w') :
    CallsIn F n Tryd.prog 27 #[.agg #[.int .i64 x.f0, .int .i64 x.f1, .string x.f2, .slice A x.f3.length c]] w fun e w' => e = .returned (.int .i64 (checkT x t ok)) ∧ Below w.heap.size w w' := by
  have h1 : 1 ≤ n := by omega
  have hF1 := hF 27; have hF2 := hF 49; have hF3 := hF 78
  have hT := Lib.hid ht
  have hTy := Lib.hid hty
  clear ht hty
  obtain ⟨w2, ew2⟩ : ∃ w2, (w.alloc (.cells #[.int .i64 x.f0, .int .i64 x.f1, .string x.f2, .slice A x.f3.length c] 24)).alloc (.cells #[.int .i64 0] 26) = w2 := ⟨_, rfl⟩
  have s2 : w2.heap.size = w.heap.size + 1 + 1 := by rw [← ew2]; simp
  have hB2 : Below w.heap.size w w2 := by rw [← ew2]; exact ((Below.refl _ w).alloc (Nat.le_refl _) _).alloc (by simp) _
  have b1 : w2.heap[w.heap.size]? = some (.cells #[.int .i64 x.f0, .int .i64 x.f1, .string x.f2, .slice A x.f3.length c] 24 (0, 0)) := by
    rw [← ew2]; exact (Below.heap_alloc _ _ _ (by simp)).trans (World.alloc_heap_new w _)
  have b2 : Boxed w2 (w.heap.size + 1) 26 (.int .i64 0) := by
    rw [← ew2]
    have := Boxed.new (w.alloc (.cells #[.int .i64 x.f0, .int .i64 x.f1, .string x.f2, .slice A x.f3.length c] 24)) 26 (.int .i64 0)
    rwa [World.size_alloc] at this
  refine callsIn_of_wp_marks Tryd.func27 rfl hF1 ?_ hro
  simp only [Tryd.ntmps27, List.size_toArray, List.length_cons, List.length_nil, Nat.reduceAdd, Nat.reduceSub, Array.replicate_succ, Array.replicate_zero, List.push_toArray, List.append_toArray, List.nil_append, List.cons_append]
  obtain ⟨d0, d1, d2, d3⟩ := core_cells b1
  have hcall := (hTy.out w2 hB2).mono (R' := fun e W => (e = .returned (.tuple #[.int .i64 t, .bool ok]) ∧ (W.cell? ⟨w.heap.size, 0, none⟩ = some (.int .i64 x.f0) ∧ W.cell? ⟨w.heap.size, 1, none⟩ = some (.int .i64 x.f1) ∧ W.cell? ⟨w.heap.size, 2, none⟩ = some (.string x.f2) ∧ W.cell? ⟨w.heap.size, 3, none⟩ = some (.slice A x.f3.length c)) ∧
      Boxed W (w.heap.size + 1) 26 (.int .i64 0) ∧ Below w.heap.size w W ∧ w2.heap.size ≤ W.heap.size))
    (fun e W h => ⟨h.1, core_cells ((h.2.block _ (by omega)).trans b1), (h.2.block _ (by omega)).trans b2, hB2.trans (h.2.mono hB2.size), h.2.size⟩)
  clear hTy b1 b2
  by_cases hcase : ok = true ∧ t = 4
  case neg =>
    have hres : checkT x t ok = 140 := by unfold checkT; rw [if_neg hcase]
    have hR := Lib.hid hres
    clear hres
    cases ok
    · gi_wp2_with (gi_at_call 48; refine hcall.mono ?_; rintro e W ⟨rfl, ⟨g0, g1, g2, g3⟩, hbr, hBW, hsz⟩; have hcr := boxed_cell hbr; have hfr := boxed_frozen hbr)
      refine ⟨.int .i64 140, ?_, by rw [hR.out], hBW.setCell (p := ⟨w.heap.size + 1, 0, none⟩) (by simp) _⟩
      simp [results, Tryd.f27, go_sem, boxed_cell (boxed_set hbr (.int .i64 140))]
    · have t1 : (t != 4) = true := bne_iff_ne.2 (fun h => hcase ⟨rfl, h⟩)
      clear hcase
      gi_wp2_with (gi_at_call 48; refine hcall.mono ?_; rintro e W ⟨rfl, ⟨g0, g1, g2, g3⟩, hbr, hBW, hsz⟩; have hcr := boxed_cell hbr; have hfr := boxed_frozen hbr)
      refine ⟨.int .i64 140, ?_, by rw [hR.out], hBW.setCell (p := ⟨w.heap.size + 1, 0, none⟩) (by simp) _⟩
      simp [results, Tryd.f27, go_sem, boxed_cell (boxed_set hbr (.int .i64 140))]
  case pos =>
    obtain ⟨rfl, rfl⟩ := hcase
    have hres : checkT x 4 true = if (preT 1 x).any aheadK = true then 141 else 0 := rfl
    have hR := Lib.hid hres
    clear hres
    gi_wp2_with (gi_at_call 48; refine hcall.mono ?_; rintro e W ⟨rfl, ⟨g0, g1, g2, g3⟩, hbr, hBW, hsz⟩; have hcr := boxed_cell hbr; have hfr := boxed_frozen hbr)
    refine (all_in F (n - 1) hF2 hro _ _ _ _ _ _ _).mono ?_
    rintro e w' ⟨rfl, rfl⟩
    gi_wp2
    have hBW := hBW
    obtain ⟨w5, ew5⟩ : ∃ w5, W.alloc (.cells #[.int .i64 x.f0, .int .i64 x.f1, .string x.f2, .slice A x.f3.length c] 24) = w5 := ⟨_, rfl⟩
    have s5 : w5.heap.size = W.heap.size + 1 := by rw [← ew5]; simp
    have hB5 : Below w.heap.size w w5 := by rw [← ew5]; exact hBW.alloc hBW.size _
    have b5 : w5.heap[W.heap.size]? = some (.cells #[.int .i64 x.f0, .int .i64 x.f1, .string x.f2, .slice A x.f3.length c] 24 (0, 0)) := by rw [← ew5]; exact World.alloc_heap_new W _
    have b2' : Boxed w5 (w.heap.size + 1) 26 (.int .i64 0) := by rw [← ew5]; exact boxed_more hbr _
    rw [ew5]
    have hF5 : Kd.F k24 w5 (fun i => i < w5.heap.size ∧ ¬ (i = w.heap.size + 1)) A x.f3.length x.f3 :=
      Kd.F_mono (Kd.F_below (Kd.C_F k24_heap hT.out) hB5) (fun k hk => ⟨by have := hB5.size; omega, by omega⟩)
    refine wpIn_rangeFunc_ownH hro h1 (gf := 78) (lb := #[.pointer (some ⟨W.heap.size, 0, none⟩)]) rfl hF3 (enters_of Tryd.func78 (by kernel_rfl) rfl)
      (all_stops F hd (n - 1) hF3 (hF _) hro W.heap.size w5.heap.size (fun i => i = w.heap.size + 1) (fun k hk => by omega) x A c w5 b5 hF5 hc (Nat.le_refl _))
      (fun h k => h.trans k) (fun W l o o' hl h hc _ => KC.put W l o o' hl h hc) (Below.refl _ _) (fun _ => rfl)
      (fun pre W' => ((∀ y ∈ pre, aheadK y.key = false) ∧ Boxed W' (w.heap.size + 1) 26 (.int .i64 0)) ∧ (Below w.heap.size w W' ∧ w5.heap.size ≤ W'.heap.size))
      (fun k pre W' => ((k = .ret ∧ ∃ y ∈ pre, aheadK y.key = true) ∧ Boxed W' (w.heap.size + 1) 26 (.int .i64 141)) ∧ Below w.heap.size w W')
      (OwnFrom.and (OwnFrom.and (ownFrom_pure _ _) (Own.from (boxed_own _ _ _) _)) (OwnFrom.and (ownFrom_below (Nat.le_refl _) (by omega)) (fun s A B row hs hg _ => Nat.le_trans hs hg.size)))
      (fun k => OwnFrom.and (OwnFrom.and (ownFrom_pure _ _) (Own.from (boxed_own _ _ _) _)) (ownFrom_below (Nat.le_refl _) (by omega)))
      ⟨⟨by simp, b2'⟩, hB5, Nat.le_refl _⟩
      (fun y a' W' => ∃ Bx, W'.heap[Bx]? = some (.cells #[.int .i64 y.op, .int .i64 y.n, .string y.s, .slice y.A y.len y.cap] 24 (0, 0)) ∧ w5.heap.size ≤ Bx ∧ a' = { tmps := #[.agg #[.int .i64 x.f0, .int .i64 x.f1, .string x.f2, .slice A x.f3.length c], .pointer (some ⟨w.heap.size, 0, none⟩), .pointer (some ⟨w.heap.size + 1, 0, none⟩), .int .i64 4, .bool true, undef, .pointer (some ⟨Bx, 0, none⟩),
        .tuple #[.int .i64 4, .bool true], .agg #[.int .i64 x.f0, .int .i64 x.f1, .string x.f2, .slice A x.f3.length c], .tuple #[.int .i64 4, .bool true], .int .i64 4, .bool true, .bool true, .bool false, .bool false, .int .i64 4, .bool false, .bool false, .agg #[.int .i64 x.f0, .int .i64 x.f1, .string x.f2, .slice A x.f3.length c],
        .func (.func 78) #[] #[.pointer (some ⟨W.heap.size, 0, none⟩)], .int .i64 y.d, .agg #[.int .i64 y.op, .int .i64 y.n, .string y.s, .slice y.A y.len y.cap], undef, undef, undef, undef, undef, undef, undef, undef, undef, undef, undef, undef, undef], defers := [] })
      (fun y a' s A B row hs hg hrow => by
        obtain ⟨Bx, hb, hl, ha⟩ := hs
        refine ⟨Bx, (hg.block Bx (Array.getElem?_eq_some_iff.1 hb).1 (fun e => ?_)).trans hb, hl, ha⟩
        obtain ⟨_, o, ho, hcells⟩ := hrow Bx e.symm
        rw [hb] at ho; cases ho; cases hcells) ?assign ?body ?done ?stop
    case assign =>
      intro l pre y W6 K hi hK
      simp only [Item.enc]
      gi_wp2
      refine hK _ _ ((KeepsOthers.alloc _ _).from _) (KC.alloc _ _ hi.2.2) ⟨⟨hi.1.1, boxed_more hi.1.2 _⟩, hi.2.1.alloc hi.2.1.size _, Nat.le_trans hi.2.2 (by simp)⟩ ⟨W6.heap.size, World.alloc_heap_new W6 _, hi.2.2, rfl⟩
    case body =>
      rintro l pre y a' W6 _ _ ⟨⟨hp, hb⟩, hB, hs6⟩ ⟨Bx, hx, hlx, rfl⟩ _
      obtain ⟨k0, k1, k2, k3⟩ := core_cells hx
      have hc6 := boxed_cell hb
      have hf6 := boxed_frozen hb
      have HB := Lib.hid hB; have HP := Lib.hid hp; have HBx := Lib.hid hb
      clear hB hp hb hx k2 k3
      by_cases q : aheadK y.key = true
      · have q' : (y.op = 4 ∨ y.op = 5) ∧ y.n < 0 := by
          simp [aheadK, Item.key] at q
          exact ⟨q.1, of_decide_eq_true q.2⟩
        have t2 : decide (y.n < 0) = true := decide_eq_true q'.2
        have HQ := Lib.hid q
        rcases q'.1 with e | e
        · have t1 : (y.op == 4) = true := beq_iff_eq.2 e
          clear q q' e
          gi_wp2
          exact ⟨(KeepsOthers.setCell _ _ _).from _, ⟨⟨rfl, y, by simp, HQ.out⟩, boxed_set HBx.out _⟩, HB.out.setCell (p := ⟨w.heap.size + 1, 0, none⟩) (by simp) _⟩
        · have t1 : (y.op == 4) = false := beq_eq_false_iff_ne.2 (by omega)
          have t3 : (y.op == 5) = true := beq_iff_eq.2 e
          clear q q' e
          gi_wp2
          exact ⟨(KeepsOthers.setCell _ _ _).from _, ⟨⟨rfl, y, by simp, HQ.out⟩, boxed_set HBx.out _⟩, HB.out.setCell (p := ⟨w.heap.size + 1, 0, none⟩) (by simp) _⟩
      · have q0 : aheadK y.key = false := by simpa using q
        have hI : ∀ z ∈ pre ++ [y], aheadK z.key = false := by
          intro z hz
          rcases List.mem_append.1 hz with hz | hz
          · exact HP.out z hz
          · simp at hz; subst hz; exact q0
        have HI := Lib.hid hI
        have q' : ¬ ((y.op = 4 ∨ y.op = 5) ∧ y.n < 0) := by
          rintro ⟨g1, g2⟩
          simp [aheadK, Item.key] at q0
          exact of_decide_eq_false (q0 g1) g2
        clear q q0 hI
        by_cases e4 : y.op = 4
        · have t1 : (y.op == 4) = true := beq_iff_eq.2 e4
          have t2 : decide (y.n < 0) = false := decide_eq_false (fun h => q' ⟨.inl e4, h⟩)
          clear q' e4
          gi_wp2
          exact ⟨KeepsFrom.refl _ _, KC.refl _ _ _, ⟨HI.out, HBx.out⟩, HB.out, hs6⟩
        · have t1 : (y.op == 4) = false := beq_eq_false_iff_ne.2 e4
          by_cases e5 : y.op = 5
          · have t3 : (y.op == 5) = true := beq_iff_eq.2 e5
            have t2 : decide (y.n < 0) = false := decide_eq_false (fun h => q' ⟨.inr e5, h⟩)
            clear q' e4 e5
            gi_wp2
            exact ⟨KeepsFrom.refl _ _, KC.refl _ _ _, ⟨HI.out, HBx.out⟩, HB.out, hs6⟩
          · have t3 : (y.op == 5) = false := beq_eq_false_iff_ne.2 e5
            clear q' e4 e5
            gi_wp2
            exact ⟨KeepsFrom.refl _ _, KC.refl _ _ _, ⟨HI.out, HBx.out⟩, HB.out, hs6⟩
    case done =>
      rintro D ys W6 hD hS ⟨⟨hp, hb⟩, hB, hs6⟩ hK
      have hc6 := boxed_cell hb
      have hf6 := boxed_frozen hb
      have hres : checkT x 4 true = 0 := by
        rw [hR.out, if_neg]
        rw [Bool.not_eq_true, List.any_eq_false, ← hS]
        intro z hz
        obtain ⟨y, hy, rfl⟩ := List.mem_map.1 hz
        simpa using hp y hy
      gi_wp2
      have hK' := (KeepsOthers.setCell W6 ⟨w.heap.size + 1, 0, none⟩ (.int .i64 0)).same D _ hK rfl
      refine ⟨by simp, .inl ⟨_, _, rfl, run_takeDeferred hK', ?_⟩⟩
      have hc5 := cell_kept (World.cell?_setCell_same' W6 ⟨w.heap.size + 1, 0, none⟩ (.int .i64 0) (by rw [hc6]; rfl)) (grownBy_putObj' _ D (.deferred none)) (fun r e => by cases e; exact ⟨_, hK', rfl⟩)
      refine ⟨.int .i64 0, ?_, by rw [hres], (hB.setCell (p := ⟨w.heap.size + 1, 0, none⟩) (by simp) _).trans (belowK_b (w := w) (Nat.le_refl _) _ D _ _ (by have := hB5.size; omega) hK' rfl rfl)⟩
      simp [results, Tryd.f27, go_sem, hc5]
    case stop =>
      rintro D k pre W6 hD hS ⟨⟨⟨rfl, y, hy, hq⟩, hb⟩, hB⟩ hK
      have hres : checkT x 4 true = 141 := by
        rw [hR.out, if_pos]
        rw [List.any_eq_true]
        obtain ⟨r, hr⟩ := hS
        exact ⟨y.key, by rw [← hr]; exact List.mem_append_left _ (List.mem_map_of_mem hy), hq⟩
      gi_wp2
      refine ⟨by simp, .inl ⟨_, _, rfl, run_takeDeferred hK, ?_⟩⟩
      have hc5 := cell_kept (boxed_cell hb) (grownBy_putObj' _ D (.deferred none)) (fun r e => by cases e; exact ⟨_, hK, rfl⟩)
      refine ⟨.int .i64 141, ?_, by rw [hres], hB.trans (belowK_b (w := w) (Nat.le_refl _) W6 D _ _ (by have := hB5.size; omega) hK rfl rfl)⟩
      simp [results, Tryd.f27, go_sem, hc5]

theorem causal_Check.calls (k : Nat) (a0_0 : Int) (a0_1 : Int) (a0_2 : ByteArray) (A0_3 : Option Addr) (c0_3 : Nat) (l0_3 : List S24) (r : Int) (w : World) (hr0_3 : Kd.C k24 w A0_3 l0_3.length l0_3) (hc0_3 : l0_3.length ≤ c0_3) (h : causal_Check.f k a0_0 a0_1 a0_2 l0_3 = some r) :
    Calls Tryd.prog 27 #[.agg #[.int .i64 a0_0, .int .i64 a0_1, .string a0_2, .slice A0_3 l0_3.length c0_3]] w fun e w' => e = .returned (.int .i64 r) ∧ Below w.heap.size w w' := by
  unfold causal_Check.f at h
  obtain ⟨⟨t, ok⟩, ht, h⟩ := Option.bind_eq_some_iff.1 h
  obtain rfl := Option.some.inj h
  exact (callsIn_wide (n := 3)).1 (check_in Fence.wide rfl (fun _ => trivial) rfl 3 (Nat.le_refl _) ⟨a0_0, a0_1, a0_2, l0_3⟩ A0_3 c0_3 w hr0_3 hc0_3 t ok
    (fun W hW => callsIn_wide.2 (causal_Type.calls k a0_0 a0_1 a0_2 A0_3 c0_3 l0_3 t ok W (Kd.C_below hr0_3 hW) hc0_3 ht)))
end Go.Proofs.YtniajhmbdbgmgaaDoor.Q

/- Layer 14 in plain Lean: the printed check of a term tells whether it is small, of the right type, and looks not ahead; any term. -/
namespace Go.Proofs.YtniajhmbdbgmgaaDoor.Q
open Go Go.RowKit Go.Proofs Go.Proofs.YtniajhmbdbgmgaaDoor Go.Proofs.YtniajhmbdbgmgaaDoorW.PrintWords

/-! ### names and fields -/
theorem isName_some (s : ByteArray) : ∃ b, causal_isName.f s = some b := by
  unfold causal_isName.f
  by_cases h1 : s.toList = ([] : List UInt8)
  · exact ⟨_, if_pos h1⟩
  · rw [if_neg h1]
    by_cases h2 : (s.size : Int) > 24
    · exact ⟨_, if_pos h2⟩
    · rw [if_neg h2]
      have h3 : 0 < (s.size : Int) := by
        refine Classical.byContradiction fun hn => h1 ?_
        rw [Lib.toList_data]
        have : s.data.toList.length = s.size := rfl
        exact List.eq_nil_of_length_eq_zero (by omega)
      rw [if_pos h3]
      split
      · exact ⟨_, rfl⟩
      · split
        · exact ⟨_, rfl⟩
        · unfold strings_Trim.f
          rw [if_pos ⟨by omega, by decide, by decide⟩]
          exact ⟨_, rfl⟩
def nameT (s : ByteArray) : Bool := (causal_isName.f s).getD false
theorem isName_is (s : ByteArray) : causal_isName.f s = some (nameT s) := by
  obtain ⟨b, hb⟩ := isName_some s
  unfold nameT
  rw [hb]
  rfl
theorem isCur_some (s : ByteArray) : ∃ b, causal_isCur.f s = some b := by
  unfold causal_isCur.f
  by_cases h : (s.size : Int) = 3
  · rw [if_pos h]
    unfold strings_Trim.f
    rw [if_pos ⟨by omega, by decide, by decide⟩]
    exact ⟨_, rfl⟩
  · exact ⟨_, if_neg h⟩
def curT (s : ByteArray) : Bool := (causal_isCur.f s).getD false
theorem isCur_is (s : ByteArray) : causal_isCur.f s = some (curT s) := by
  obtain ⟨b, hb⟩ := isCur_some s
  unfold curT
  rw [hb]
  rfl
def inT (n a b : Int) : Bool := decide (a ≤ n) && decide (n ≤ b)
theorem within_is (n a b : Int) : causal_within.f n a b = some (inT n a b) := by
  unfold causal_within.f inT
  by_cases h : a ≤ n
  · rw [if_pos h, decide_eq_true h, Bool.true_and]
  · rw [if_neg h, decide_eq_false h, Bool.false_and]
theorem inT_iff (n a b : Int) : inT n a b = true ↔ a ≤ n ∧ n ≤ b := by simp [inT]
def emptyT (s : ByteArray) : Bool := decide (s.toList = ([] : List UInt8))
/-- Are an operation's fields right? -/
def flT (op n : Int) (s : ByteArray) : Bool :=
  if op = 4 then nameT s && inT n (-3660) 3660 else if op = 31 then nameT s && inT n 0 73048 else if op = 24 then curT s && n == 0
  else emptyT s && (if op = 1 then inT n (-1000000000000000) 1000000000000000 else if op = 2 then inT n 0 1 else if op = 3 ∨ op = 29 ∨ op = 30 then inT n 0 73048 else if op = 5 then inT n (-3660) 3660 else n == 0)
theorem ite_empty (s : ByteArray) (b : Bool) : (if s.toList = ([] : List UInt8) then some b else some false) = some (emptyT s && b) := by
  unfold emptyT
  split
  · simp [*]
  · simp [*]
theorem fields_is (k : Nat) (op n : Int) (s : ByteArray) (l : List Core) : causal_fields.f (k + 1) op n s l = some (flT op n s) := by
  unfold causal_fields.f flT
  simp only [isName_is, isCur_is, within_is, Option.bind_some, causal_fields.j0, ite_empty]
  by_cases h4 : op = 4
  · rw [if_pos h4, if_pos h4]; cases nameT s <;> simp
  · rw [if_neg h4, if_neg h4]
    by_cases h31 : op = 31
    · rw [if_pos h31, if_pos h31]; cases nameT s <;> simp
    · rw [if_neg h31, if_neg h31]
      by_cases h24 : op = 24
      · rw [if_pos h24, if_pos h24]; cases curT s <;> simp
      · rw [if_neg h24, if_neg h24]
        by_cases h1 : op = 1
        · rw [if_pos h1, if_pos h1]
        · rw [if_neg h1, if_neg h1]
          by_cases h2 : op = 2
          · rw [if_pos h2, if_pos h2]
          · rw [if_neg h2, if_neg h2]
            by_cases h3 : op = 3
            · subst h3; simp
            · rw [if_neg h3]
              by_cases h29 : op = 29
              · subst h29; simp
              · rw [if_neg h29]
                by_cases h30 : op = 30
                · subst h30; simp
                · simp only [beq_eq_false_iff_ne.2 h30, Bool.false_eq_true, if_false]
                  rw [if_neg (show ¬ (op = 3 ∨ op = 29 ∨ op = 30) by omega)]
                  by_cases h5 : op = 5
                  · rw [if_pos h5, if_pos h5]
                  · rw [if_neg h5, if_neg h5]
theorem empty_iff (s : ByteArray) : emptyT s = true ↔ s = ⟨#[]⟩ := by
  unfold emptyT
  rw [decide_eq_true_eq, Lib.toList_data]
  constructor
  · intro h
    obtain ⟨d⟩ := s
    simp only [Array.toList_eq_nil_iff] at h
    rw [h]
  · rintro rfl
    rfl
theorem emptyT_nil : emptyT ⟨#[]⟩ = true := (empty_iff _).2 rfl
theorem flOk : FlOk flT := by
  refine ⟨fun n h0 h1 => ?_, fun n h0 h1 => ?_, fun n h0 h1 => ?_, ?_, fun n s h => ?_, fun n s h => ?_, fun n s h => ?_, fun n m s t h h' => ?_, fun n s h => ?_⟩
  · simp [flT, emptyT_nil, inT_iff, h0, h1]
  · simp [flT, emptyT_nil, inT_iff, h0, h1]
  · simp [flT, emptyT_nil, inT_iff, h0, h1]
  · simp [flT, emptyT_nil]
  · simp [flT, inT_iff] at h; exact h.2
  · simp [flT, inT_iff] at h; exact h.2
  · simp [flT, inT_iff] at h; exact h.2
  · simp [flT, inT_iff] at h h'
    simp [flT, emptyT_nil, inT_iff]
    split <;> omega
  · simp [flT, inT_iff] at h
    simp [flT, emptyT_nil, inT_iff, h.2]

/-! ### the table of sorts -/
def kidsB (n : Nat) : List UInt8 := ([[], [], [], [], [], [], [110], [110, 110], [110, 110], [110, 110], [110, 110], [110, 110], [110, 110], [110, 110], [98], [98, 98], [98, 98], [100, 100], [100, 110], [100, 110], [100, 100], [100, 100], [98, 120, 120], [], [], [99], [110, 99], [99, 99], [98, 99, 99], [99], [98, 99], [99, 99]] : List (List UInt8)).getD n []
def ownB (n : Nat) : UInt8 := ([0, 110, 98, 100, 110, 100, 110, 110, 110, 110, 110, 98, 98, 98, 98, 98, 98, 98, 100, 100, 110, 110, 120, 99, 99, 99, 99, 99, 99, 99, 99, 99] : List UInt8).getD n 0
def cutOk (n : Nat) : Bool := match strings_Cut.f ⟨(sortAt (n : Int)).toArray⟩ ⟨#[62]⟩ with
  | some r => if n = 0 then !r.2.2 else r.1.data.toList == kidsB n && r.2.1.data.toList == [ownB n] && r.2.2
  | none => false
theorem cutOk_all : ((List.range 32).all cutOk) = true := by kernel_rfl
theorem cut_in (n : Nat) (h1 : 1 ≤ n) (h : n < 32) : strings_Cut.f ⟨(sortAt (n : Int)).toArray⟩ ⟨#[62]⟩ = some (⟨(kidsB n).toArray⟩, ⟨#[ownB n]⟩, true) := by
  have hc := List.all_eq_true.1 cutOk_all n (List.mem_range.2 h)
  unfold cutOk at hc
  cases hr : strings_Cut.f ⟨(sortAt (n : Int)).toArray⟩ ⟨#[62]⟩ with
  | none => rw [hr] at hc; cases hc
  | some r =>
    rw [hr] at hc
    simp only at hc
    rw [if_neg (by omega)] at hc
    simp only [Bool.and_eq_true, beq_iff_eq] at hc
    obtain ⟨⟨a⟩, ⟨b⟩, c⟩ := r
    simp only at hc
    rw [← hc.1.1, hc.2]
    have hb : b = #[ownB n] := by rw [← Array.toList_inj, hc.1.2]
    rw [hb]
theorem cut_out (op : Int) (h : op < 1 ∨ 31 < op) : ∃ a b, strings_Cut.f ⟨(sortAt op).toArray⟩ ⟨#[62]⟩ = some (a, b, false) := by
  have he : sortAt op = [] := by
    unfold sortAt
    by_cases h0 : 0 ≤ op ∧ op < 32
    · have : op = 0 := by omega
      subst this
      rfl
    · rw [if_neg h0]
  rw [he]
  exact ⟨_, _, rfl⟩

/-! ### a term's letter -/
def goL (own : Int) : List Int → List Int → Int → Int
  | k :: ks, t :: ts, x => if t = 0 then 0 else if k = 120 ∧ t ≠ 99 ∧ (x = 0 ∨ x = t) then goL own ks ts t else if k = t then goL own ks ts x else 0
  | _, _, x => if own = 120 then x else own
theorem bt_list (l : List UInt8) (j : Nat) (hj : j < l.length) : bt ⟨l.toArray⟩ (j : Int) = (l[j].toNat : Int) := by
  unfold bt
  have h : ((j : Int)).toNat < (⟨l.toArray⟩ : ByteArray).size := by simpa [ByteArray.size] using hj
  rw [dif_pos h]
  rfl
theorem letter_loop (kb : List UInt8) (ow : UInt8) (l : List Core) (ty : Core → Int) (hlen : kb.length = l.length) (hl : l.length ≤ 3) (hty : ∀ x ∈ l, ty x = 0 ∨ ty x = 110 ∨ ty x = 98 ∨ ty x = 100 ∨ ty x = 99)
    (hx : ∀ x ∈ l, ∃ K, ∀ k, K ≤ k → causal_letter.f k x.f0 x.f1 x.f2 x.f3 = some (ty x)) :
    ∀ (d j : Nat) (x : Int), j + d = l.length → ∃ K, ∀ k, K ≤ k → causal_letter.l0 k ⟨kb.toArray⟩ ⟨#[ow]⟩ x l (l.length : Int) (j : Int) =
      some (goL (ow.toNat : Int) ((kb.drop j).map (fun b => (b.toNat : Int))) ((l.drop j).map ty) x) := by
  intro d
  induction d with
  | zero =>
    intro j x hj
    refine ⟨1, fun k hk => ?_⟩
    obtain ⟨k, rfl⟩ : ∃ m, k = m + 1 := ⟨k - 1, by omega⟩
    rw [causal_letter.l0, if_neg (by omega), List.drop_of_length_le (by omega), List.drop_of_length_le (by omega)]
    simp only [List.map_nil, goL]
    by_cases ho : ow = 120
    · subst ho
      have h120 : (⟨#[120]⟩ : ByteArray).toList = ([120] : List UInt8) := by rw [Lib.toList_data]
      rw [if_pos h120, if_pos (by decide)]
    · have hn : ¬ ((⟨#[ow]⟩ : ByteArray).toList = ([120] : List UInt8)) := by
        rw [Lib.toList_data]
        intro h
        exact ho (by simpa using h)
      have hn2 : ¬ ((ow.toNat : Int) = 120) := by
        intro h
        apply ho
        have : ow.toNat = (120 : UInt8).toNat := by have e : (120 : UInt8).toNat = 120 := rfl; omega
        exact UInt8.toNat_inj.1 this
      rw [if_neg hn, if_neg hn2]
      rfl
  | succ d ih =>
    intro j x hj
    have hjl : j < l.length := by omega
    have hjk : j < kb.length := by omega
    have ekb : kb.drop j = kb[j] :: kb.drop (j + 1) := List.drop_eq_getElem_cons hjk
    have el : l.drop j = l[j] :: l.drop (j + 1) := List.drop_eq_getElem_cons hjl
    have hmem : l[j] ∈ l := List.getElem_mem hjl
    obtain ⟨K1, h1⟩ := hx _ hmem
    have hrd : rd_T24 l (j : Int) = l[j] := by
      unfold rd_T24
      rw [Int.toNat_natCast, List.getD_eq_getElem?_getD, List.getElem?_eq_getElem hjl]
      rfl
    have hbt := bt_list kb j hjk
    have hsz : ((⟨kb.toArray⟩ : ByteArray).size : Int) = kb.length := by simp [ByteArray.size]
    have hw : wrap64 ((j : Int) + 1) = ((j + 1 : Nat) : Int) := by rw [wrap_in (by omega) (by omega)]; omega
    rw [ekb, el]
    simp only [List.map_cons, goL]
    have ht := hty _ hmem
    by_cases h0 : ty l[j] = 0
    · refine ⟨K1 + 1, fun k hk => ?_⟩
      obtain ⟨k, rfl⟩ : ∃ m, k = m + 1 := ⟨k - 1, by omega⟩
      rw [causal_letter.l0, if_pos (by omega), if_pos (by omega), if_pos (by omega), hrd, h1 k (by omega), Option.bind_some, if_pos h0, if_pos h0]
    · rw [if_neg h0]
      have step : ∀ k, K1 ≤ k → causal_letter.l0 (k + 1) ⟨kb.toArray⟩ ⟨#[ow]⟩ x l (l.length : Int) (j : Int) =
          causal_letter.j2 k ⟨kb.toArray⟩ ⟨#[ow]⟩ x (j : Int) (ty l[j]) l (l.length : Int) (j : Int) (decide ((kb[j].toNat : Int) = 120 ∧ ty l[j] ≠ 99 ∧ (x = 0 ∨ x = ty l[j]))) := by
        intro k hk
        rw [causal_letter.l0, if_pos (by omega), if_pos (by omega), if_pos (by omega), hrd, h1 k hk, Option.bind_some, if_neg h0, if_pos (by rw [hsz]; omega), hbt]
        by_cases g1 : (kb[j].toNat : Int) = 120
        · rw [if_pos g1]
          by_cases g2 : ty l[j] = 99
          · rw [if_pos g2, decide_eq_false (fun h => h.2.1 g2)]
          · rw [if_neg g2]
            by_cases g3 : x = 0
            · rw [if_pos g3, decide_eq_true ⟨g1, g2, .inl g3⟩]
            · rw [if_neg g3]
              by_cases g4 : x = ty l[j]
              · rw [decide_eq_true ⟨g1, g2, .inr g4⟩, beq_iff_eq.2 g4]
              · rw [decide_eq_false (fun h => h.2.2.elim g3 g4), beq_eq_false_iff_ne.2 g4]
        · rw [if_neg g1, decide_eq_false (fun h => g1 h.1)]
      by_cases hc : (kb[j].toNat : Int) = 120 ∧ ty l[j] ≠ 99 ∧ (x = 0 ∨ x = ty l[j])
      · rw [if_pos hc]
        obtain ⟨K2, h2⟩ := ih (j + 1) (ty l[j]) (by omega)
        refine ⟨K1 + K2 + 2, fun k hk => ?_⟩
        obtain ⟨k, rfl⟩ : ∃ m, k = m + 2 := ⟨k - 2, by omega⟩
        rw [step (k + 1) (by omega), decide_eq_true hc, causal_letter.j2, if_pos rfl, hw]
        exact h2 k (by omega)
      · rw [if_neg hc]
        by_cases hk : (kb[j].toNat : Int) = ty l[j]
        · rw [if_pos hk]
          obtain ⟨K2, h2⟩ := ih (j + 1) x (by omega)
          refine ⟨K1 + K2 + 2, fun k hk2 => ?_⟩
          obtain ⟨k, rfl⟩ : ∃ m, k = m + 2 := ⟨k - 2, by omega⟩
          rw [step (k + 1) (by omega), decide_eq_false hc, causal_letter.j2, if_neg (by simp), if_pos (by omega), if_pos (by rw [hsz]; omega), hbt, if_pos hk, hw]
          exact h2 k (by omega)
        · rw [if_neg hk]
          refine ⟨K1 + 2, fun k hk2 => ?_⟩
          obtain ⟨k, rfl⟩ : ∃ m, k = m + 2 := ⟨k - 2, by omega⟩
          rw [step (k + 1) (by omega), decide_eq_false hc, causal_letter.j2, if_neg (by simp), if_pos (by omega), if_pos (by rw [hsz]; omega), hbt, if_neg hk]
def kidsI (n : Nat) : List Int := (kidsB n).map fun b => (b.toNat : Int)
def sigIs (n : Nat) : Bool := n == 0 || n == 22 || (sig (n : Int) == some (kidsI n, ((ownB n).toNat : Int)) && (kidsI n).all (fun k => k == 110 || k == 98 || k == 100 || k == 99) && ((ownB n).toNat : Int) != 120)
theorem sigIs_all : ((List.range 32).all sigIs) = true := by kernel_rfl
theorem kidsB_len : ((List.range 32).all fun n => decide ((kidsB n).length ≤ 3)) = true := by kernel_rfl
theorem goL_plain (own : Int) (ho : own ≠ 120) : ∀ (ks ts : List Int) (x : Int), (∀ k ∈ ks, k = 110 ∨ k = 98 ∨ k = 100 ∨ k = 99) → ks.length = ts.length → goL own ks ts x = if ts = ks then own else 0
  | [], [], x, _, _ => by simp [goL, ho]
  | k :: ks, t :: ts, x, hk, hl => by
    have hk0 := hk k (List.mem_cons_self ..)
    rw [goL]
    by_cases h0 : t = 0
    · rw [if_pos h0, if_neg (fun h => by have := (List.cons.inj h).1; omega)]
    · rw [if_neg h0, if_neg (fun h => by omega)]
      by_cases e : k = t
      · rw [if_pos e, goL_plain own ho ks ts x (fun z hz => hk z (List.mem_cons_of_mem _ hz)) (by simpa using hl)]
        subst e
        simp
      · rw [if_neg e, if_neg (fun h => e (List.cons.inj h).1.symm)]
theorem node_go (n : Nat) (h1 : 1 ≤ n) (h : n < 32) (ts : List Int) (hl : (kidsB n).length = ts.length) (hts : ∀ t ∈ ts, t = 0 ∨ t = 110 ∨ t = 98 ∨ t = 100 ∨ t = 99) : goL ((ownB n).toNat : Int) (kidsI n) ts 0 = nodeT (n : Int) ts := by
  by_cases h22 : n = 22
  · subst h22
    unfold nodeT
    rw [if_pos (by decide)]
    match ts, hl with
    | [a, b, c], _ =>
      have ha := hts a (by simp); have hb := hts b (by simp); have hc := hts c (by simp)
      show goL 120 [98, 120, 120] [a, b, c] 0 = _
      rcases ha with rfl | rfl | rfl | rfl | rfl <;> rcases hb with rfl | rfl | rfl | rfl | rfl <;> rcases hc with rfl | rfl | rfl | rfl | rfl <;> decide
  · have hs := List.all_eq_true.1 sigIs_all n (List.mem_range.2 h)
    unfold sigIs at hs
    rw [beq_eq_false_iff_ne.2 (show n ≠ 0 by omega), beq_eq_false_iff_ne.2 h22] at hs
    simp only [Bool.false_or, Bool.and_eq_true, beq_iff_eq, List.all_eq_true, Bool.or_eq_true, or_assoc, bne_iff_ne] at hs
    rw [goL_plain _ hs.2 _ _ _ hs.1.2 (by unfold kidsI; rw [List.length_map]; exact hl)]
    unfold nodeT
    rw [if_neg (show ¬ (n : Int) = 22 by omega), hs.1.1]
theorem nodeT_len (n : Nat) (h1 : 1 ≤ n) (h : n < 32) (ts : List Int) (hl : (kidsB n).length ≠ ts.length) : nodeT (n : Int) ts = 0 := by
  unfold nodeT
  by_cases h22 : n = 22
  · subst h22
    rw [if_pos (by decide)]
    match ts, hl with
    | [], _ => rfl
    | [_], _ => rfl
    | [_, _], _ => rfl
    | [_, _, _], hl => exact absurd rfl hl
    | _ :: _ :: _ :: _ :: _, _ => rfl
  · have hs := List.all_eq_true.1 sigIs_all n (List.mem_range.2 h)
    unfold sigIs at hs
    rw [beq_eq_false_iff_ne.2 (show n ≠ 0 by omega), beq_eq_false_iff_ne.2 h22] at hs
    simp only [Bool.false_or, Bool.and_eq_true, beq_iff_eq, List.all_eq_true, Bool.or_eq_true, or_assoc, bne_iff_ne] at hs
    rw [if_neg (show ¬ (n : Int) = 22 by omega), hs.1.1]
    simp only
    rw [if_neg]
    intro e
    apply hl
    rw [e]
    unfold kidsI
    rw [List.length_map]
theorem ty_or (x : Core) : tyT flT x = 0 ∨ tyT flT x = 110 ∨ tyT flT x = 98 ∨ tyT flT x = 100 ∨ tyT flT x = 99 := by
  by_cases h : tyT flT x = 0
  · exact .inl h
  · exact .inr (ty_own h)
/-- The printed letter is the type's. -/
theorem letter_is (x : Core) : ∃ K, ∀ k, K ≤ k → causal_letter.f k x.f0 x.f1 x.f2 x.f3 = some (tyT flT x) := by
  refine ind_core (P := fun x => ∃ K, ∀ k, K ≤ k → causal_letter.f k x.f0 x.f1 x.f2 x.f3 = some (tyT flT x)) (fun x ih => ?_) x
  have ht := tyT_eq (fl := flT) x
  by_cases ho : 1 ≤ x.f0 ∧ x.f0 ≤ 31
  · obtain ⟨n, hn⟩ : ∃ n : Nat, x.f0 = n := ⟨x.f0.toNat, by omega⟩
    have hcut := cut_in n (by omega) (by omega)
    have hk3 : (kidsB n).length ≤ 3 := by simpa using List.all_eq_true.1 kidsB_len n (List.mem_range.2 (by omega))
    have hsz : ((⟨(kidsB n).toArray⟩ : ByteArray).size : Int) = (kidsB n).length := by simp [ByteArray.size]
    by_cases hl : (kidsB n).length = x.f3.length
    · by_cases hf : flT x.f0 x.f1 x.f2 = true
      · obtain ⟨K, hK⟩ := letter_loop (kidsB n) (ownB n) x.f3 (tyT flT) hl (by omega) (fun z _ => ty_or z) ih x.f3.length 0 0 (by omega)
        refine ⟨K + 3, fun k hk => ?_⟩
        obtain ⟨k, rfl⟩ : ∃ m, k = m + 3 := ⟨k - 3, by omega⟩
        rw [causal_letter.f]
        simp only [causal_sort.f, Option.bind_some]
        rw [hn, hcut]
        simp only [Option.bind_some, if_true]
        rw [if_pos (by rw [hsz]; omega), fields_is, ← hn, hf]
        simp only [Option.bind_some, Bool.not_true, causal_letter.j0]
        have := hK (k + 1) (by omega)
        rw [List.drop_zero, List.drop_zero] at this
        rw [if_neg (by simp)]
        rw [show ((0 : Nat) : Int) = 0 from rfl] at this
        rw [this, ht, if_pos hf, hn]
        exact congrArg some (node_go n (by omega) (by omega) _ (by rw [List.length_map]; exact hl) (fun t htm => by obtain ⟨z, _, rfl⟩ := List.mem_map.1 htm; exact ty_or z))
      · have hf : flT x.f0 x.f1 x.f2 = false := by simpa using hf
        refine ⟨2, fun k hk => ?_⟩
        obtain ⟨k, rfl⟩ : ∃ m, k = m + 2 := ⟨k - 2, by omega⟩
        rw [causal_letter.f]
        simp only [causal_sort.f, Option.bind_some]
        rw [hn, hcut]
        simp only [Option.bind_some, if_true]
        rw [if_pos (by rw [hsz]; omega), fields_is, ← hn, hf]
        simp only [Option.bind_some, Bool.not_false, causal_letter.j0, if_true]
        rw [ht, if_neg (by simp [hf])]
    · refine ⟨2, fun k hk => ?_⟩
      obtain ⟨k, rfl⟩ : ∃ m, k = m + 2 := ⟨k - 2, by omega⟩
      rw [causal_letter.f]
      simp only [causal_sort.f, Option.bind_some]
      rw [hn, hcut]
      simp only [Option.bind_some, if_true]
      rw [if_neg (by rw [hsz]; omega)]
      simp only [causal_letter.j0, if_true]
      rw [ht, hn, nodeT_len n (by omega) (by omega) _ (by rw [List.length_map]; exact hl)]
      split <;> rfl
  · refine ⟨2, fun k hk => ?_⟩
    obtain ⟨k, rfl⟩ : ∃ m, k = m + 2 := ⟨k - 2, by omega⟩
    obtain ⟨a, b, hcut⟩ := cut_out x.f0 (by omega)
    rw [causal_letter.f]
    simp only [causal_sort.f, Option.bind_some]
    rw [hcut]
    simp only [Option.bind_some, Bool.false_eq_true, if_false, causal_letter.j0, if_true]
    have h0 : nodeT x.f0 (x.f3.map (tyT flT)) = 0 := by
      refine Classical.byContradiction fun hn => ho ?_
      have h22 : x.f0 ≠ 22 := by omega
      unfold nodeT at hn
      rw [if_neg h22] at hn
      cases hs : sig x.f0 with
      | none => rw [hs] at hn; exact absurd rfl hn
      | some p => have := sig_op (ks := p.1) (own := p.2) hs; omega
    rw [ht, h0]
    split <;> rfl

/-! ### the check -/
def NoAhead (op n : Int) : Prop := ¬ ((op = 4 ∨ op = 5) ∧ n < 0)
/-- A right contract. -/
structure Right (x : Core) : Prop where
  size : sizeT x ≤ 2000
  depth : depthT x ≤ 200
  ty : tyT flT x = 99
  ahead : allT NoAhead x
theorem small_iff (x : Core) : smallT x = true ↔ sizeT x ≤ 2000 ∧ depthT x ≤ 200 := by
  unfold smallT
  rw [Bool.and_eq_true, decide_eq_true_eq, preT_length, List.all_eq_true]
  have := pre_depth x 1 (by omega) (by omega)
  simp only [decide_eq_true_eq]
  rw [this]
  omega
theorem ahead_iff (x : Core) : (preT 1 x).any aheadK = false ↔ allT NoAhead x := by
  rw [← pre_all NoAhead x 1, List.any_eq_false]
  refine forall_congr' fun k => forall_congr' fun _ => ?_
  unfold aheadK NoAhead
  simp only [Bool.and_eq_true, Bool.or_eq_true, beq_iff_eq, decide_eq_true_eq]
theorem type_is (x : Core) : ∃ K, ∀ k, K ≤ k → causal_Type.f k x.f0 x.f1 x.f2 x.f3 = some (if smallT x = true ∧ tyT flT x ≠ 0 then ((if tyT flT x = 110 then 0 else if tyT flT x = 98 then 1 else if tyT flT x = 100 then 2 else 4), true) else (0, false)) := by
  obtain ⟨K, hK⟩ := letter_is x
  refine ⟨K, fun k hk => ?_⟩
  unfold causal_Type.f causal_small.f
  rw [core_eta, Option.bind_some]
  by_cases hs : smallT x = true
  · rw [if_pos hs, hK k hk, Option.bind_some]
    by_cases h0 : tyT flT x = 0
    · rw [if_pos h0, if_neg (fun h => h.2 h0)]
    · rw [if_neg h0, if_pos ⟨hs, h0⟩]
      rcases ty_own h0 with h | h | h | h <;> rw [h] <;> rfl
  · rw [if_neg hs, if_neg (fun h => hs h.1)]
theorem check_is (x : Core) : ∃ e : Int, (∃ K, ∀ k, K ≤ k → causal_Check.f k x.f0 x.f1 x.f2 x.f3 = some e) ∧ (e = 0 ↔ Right x) := by
  obtain ⟨K, hK⟩ := type_is x
  refine ⟨_, ⟨K, fun k hk => by unfold causal_Check.f; rw [hK k hk, Option.bind_some, core_eta]⟩, ?_⟩
  by_cases h : smallT x = true ∧ tyT flT x ≠ 0
  · rw [if_pos h]
    have hty := ty_own h.2
    by_cases h99 : tyT flT x = 99
    · rw [h99]
      unfold checkT
      rw [if_pos ⟨rfl, rfl⟩]
      cases ha : (preT 1 x).any aheadK with
      | true =>
        rw [if_pos rfl]
        refine ⟨fun h => absurd h (by decide), fun hr => ?_⟩
        have := (ahead_iff x).2 hr.ahead
        rw [ha] at this
        cases this
      | false =>
        rw [if_neg (by simp)]
        exact ⟨fun _ => ⟨((small_iff x).1 h.1).1, ((small_iff x).1 h.1).2, h99, (ahead_iff x).1 ha⟩, fun _ => rfl⟩
    · have : (if tyT flT x = 110 then (0 : Int) else if tyT flT x = 98 then 1 else if tyT flT x = 100 then 2 else 4) ≠ 4 := by
        rcases hty with e | e | e | e
        · rw [e]; decide
        · rw [e]; decide
        · rw [e]; decide
        · exact absurd e h99
      unfold checkT
      rw [if_neg (fun hh => this hh.2)]
      exact ⟨fun h => absurd h (by decide), fun hr => absurd hr.ty h99⟩
  · rw [if_neg h]
    refine ⟨fun h => absurd h (by simp [checkT]), fun hr => absurd ?_ h⟩
    exact ⟨(small_iff x).2 ⟨hr.size, hr.depth⟩, by rw [hr.ty]; decide⟩
end Go.Proofs.YtniajhmbdbgmgaaDoor.Q

/- What a rule of layer 16 owes, and the literal in opt.rewrite that asks one rule. -/
namespace Go.Proofs.YtniajhmbdbgmgaaDoor.Q
open Go Go.RowKit Go.Proofs Go.Proofs.YtniajhmbdbgmgaaDoor Go.Shelf Go.Proofs.YtniajhmbdbgmgaaDoorW.PrintWords Go.Proofs.YtniajhmbdbgmgaaDoorW.PrintLast Go.Proofs.YtniajhmbdbgmgaaDoorW.PrintMore

/-- Which operations of a region have come up, as bits. -/
def bm (n m : Nat) : Array Bool := ((List.range n).map fun i => m.testBit i).toArray
theorem bcell {W w1 : World} (hb : Below W.heap.size W w1) : (∀ b o, b < W.heap.size → w1.cell? ⟨b, o, none⟩ = W.cell? ⟨b, o, none⟩) ∧ (∀ b o, b < W.heap.size → w1.frozen? ⟨b, o, none⟩ = W.frozen? ⟨b, o, none⟩) :=
  ⟨fun b o h => hb.cell (p := ⟨b, o, none⟩) h, fun b o h => hb.frozen (p := ⟨b, o, none⟩) h⟩
theorem below_put4 {n B : Nat} {w W : World} (h : Below n w W) (hB : n ≤ B) (a b c d : Value) : Below n w ((((W.setCell ⟨B, 0, none⟩ a).setCell ⟨B, 1, none⟩ b).setCell ⟨B, 2, none⟩ c).setCell ⟨B, 3, none⟩ d) :=
  (((h.setCell (p := ⟨B, 0, none⟩) hB _).setCell (p := ⟨B, 1, none⟩) hB _).setCell (p := ⟨B, 2, none⟩) hB _).setCell (p := ⟨B, 3, none⟩) hB _
theorem V_put4 {α : Type} {K : Kd α} {e base B : Nat} {ok : Nat → Prop} {W : World} {v : Value} {xs : List α} (h : K.V e W base ok v xs) (hok : ∀ k, ok k → k ≠ B) (a b c d : Value) :
    K.V e ((((W.setCell ⟨B, 0, none⟩ a).setCell ⟨B, 1, none⟩ b).setCell ⟨B, 2, none⟩ c).setCell ⟨B, 3, none⟩ d) base ok v xs :=
  Kd.V_far (p := ⟨B, 3, none⟩) (Kd.V_far (p := ⟨B, 2, none⟩) (Kd.V_far (p := ⟨B, 1, none⟩) (Kd.V_far (p := ⟨B, 0, none⟩) h hok _) hok _) hok _) hok _
/-- A function's argument lies in its box, and its result's box is empty. -/
structure DInv (w : World) (A : Option Addr) (c : Nat) (x : Core) (W : World) : Prop where
  bel : Below w.heap.size w W
  b0 : W.heap[w.heap.size]? = some (.cells #[.int .i64 x.f0, .int .i64 x.f1, .string x.f2, .slice A x.f3.length c] 24 (0, 0))
  b1 : W.heap[w.heap.size + 1]? = some (.cells #[.int .i64 0, .int .i64 0, .string ⟨#[]⟩, .slice none 0 0] 24 (0, 0))
theorem DInv.below {w W W' : World} {A : Option Addr} {c : Nat} {x : Core} (h : DInv w A c x W) (hb : Below W.heap.size W W') : DInv w A c x W' := ⟨h.bel.trans (hb.mono h.bel.size), blk_below h.b0 hb, blk_below h.b1 hb⟩
theorem DInv.drew {w W : World} {A : Option Addr} {c : Nat} {x : Core} (h : DInv w A c x W) : DInv w A c x W.drew := h.below (below_drew (Below.refl _ _))
theorem DInv.new (w : World) (A : Option Addr) (c : Nat) (x : Core) : DInv w A c x ((w.alloc (.cells #[.int .i64 x.f0, .int .i64 x.f1, .string x.f2, .slice A x.f3.length c] 24)).alloc (.cells #[.int .i64 0, .int .i64 0, .string ⟨#[]⟩, .slice none 0 0] 24)) := by
  refine ⟨below_alloc (below_alloc (Below.refl _ _) _) _, (Below.heap_alloc _ _ _ (by simp)).trans (World.alloc_heap_new w _), ?_⟩
  rw [← World.size_alloc]; exact World.alloc_heap_new _ _
theorem blk_put4 {W : World} {B : Nat} {t : TypeId} {a0 b0 c0 d0 : Value} (h : W.heap[B]? = some (.cells #[a0, b0, c0, d0] t (0, 0))) (a b c d : Value) :
    ((((W.setCell ⟨B, 0, none⟩ a).setCell ⟨B, 1, none⟩ b).setCell ⟨B, 2, none⟩ c).setCell ⟨B, 3, none⟩ d).heap[B]? = some (.cells #[a, b, c, d] t (0, 0)) :=
  blk_set (blk_set (blk_set (blk_set h 0 a) 1 b) 2 c) 3 d
theorem blk_away4 {W : World} {B g : Nat} {t : TypeId} {cs : Array Value} (h : W.heap[g]? = some (.cells cs t (0, 0))) (hne : g ≠ B) (a b c d : Value) :
    ((((W.setCell ⟨B, 0, none⟩ a).setCell ⟨B, 1, none⟩ b).setCell ⟨B, 2, none⟩ c).setCell ⟨B, 3, none⟩ d).heap[g]? = some (.cells cs t (0, 0)) :=
  blk_far (blk_far (blk_far (blk_far h hne a) hne b) hne c) hne d
theorem DInv.put4 {w W : World} {A : Option Addr} {c : Nat} {x : Core} (h : DInv w A c x W) {B : Nat} (hB : w.heap.size + 1 < B) (p q r s : Value) : DInv w A c x ((((W.setCell ⟨B, 0, none⟩ p).setCell ⟨B, 1, none⟩ q).setCell ⟨B, 2, none⟩ r).setCell ⟨B, 3, none⟩ s) :=
  ⟨below_put4 h.bel (by omega) _ _ _ _, blk_away4 h.b0 (by omega) _ _ _ _, blk_away4 h.b1 (by omega) _ _ _ _⟩
/-- A rule's contract: it answers as g says; what it answers leads to what came in and to new blocks. -/
def Ru (f : FuncId) (g : Rule) : Prop := ∀ (x y : Core) (ok : Bool) (P : Nat → Prop) (A : Option Addr) (c : Nat) (w : World),
  Kd.V k24 24 w w.heap.size P (.slice A x.f3.length c) x.f3 → g x = some (y, ok) →
  Calls Tryd.prog f #[.agg #[.int .i64 x.f0, .int .i64 x.f1, .string x.f2, .slice A x.f3.length c]] w fun e w' =>
    ∃ v : Value, e = .returned (.tuple #[.agg #[.int .i64 y.f0, .int .i64 y.f1, .string y.f2, v], .bool ok]) ∧ Kd.V k24 24 w' w.heap.size (fun k => P k ∨ w.heap.size ≤ k) v y.f3 ∧ Below w.heap.size w w'

/-- A call by a function's value comes to that function. -/
def Ent (f : FuncId) : Prop := ∀ (args : Array Value) (w : World), (callFunc f args).run Tryd.prog w = .ok (.enter f args) w

def band (a b : Int) : Int := Go.bits .and .i64 a b
/-- What the literal answers: the rule's answer, where its pass is asked for. -/
def hopF (passes p : Int) (g : Rule) (x : Core) : Option (Core × Bool) := if band passes p = 0 then some (x, false) else g x

set_option maxRecDepth 100000 in
theorem hop (f : FuncId) (g : Rule) (he : Ent f) (hR : Ru f g) (passes p : Int) (Bp : Nat) (x y : Core) (ok : Bool) (P : Nat → Prop) (A : Option Addr) (c : Nat) (w : World) (hb : Boxed w Bp 3 (.int .i64 passes))
    (hV : Kd.V k24 24 w w.heap.size P (.slice A x.f3.length c) x.f3) (h : hopF passes p g x = some (y, ok)) :
    Calls Tryd.prog 51 #[.agg #[.int .i64 p, .func (.func f) #[] #[]], .agg #[.int .i64 x.f0, .int .i64 x.f1, .string x.f2, .slice A x.f3.length c], .pointer (some ⟨Bp, 0, none⟩)] w fun e w' =>
      ∃ v : Value, e = .returned (.tuple #[.agg #[.int .i64 y.f0, .int .i64 y.f1, .string y.f2, v], .bool ok]) ∧ Kd.V k24 24 w' w.heap.size (fun k => P k ∨ w.heap.size ≤ k) v y.f3 ∧ Below w.heap.size w w' := by
  have hc := boxed_cell hb
  have hlt : Bp < w.heap.size := (Array.getElem?_eq_some_iff.1 hb).1
  have l1 : Bp < w.heap.size + 1 := by omega
  have l2 : Bp < w.heap.size + 1 + 1 := by omega
  unfold hopF at h
  by_cases hz : band passes p = 0
  · rw [if_pos hz] at h
    simp only [Option.some.injEq, Prod.mk.injEq] at h
    obtain ⟨rfl, rfl⟩ := h
    have HV := Lib.hid hV
    have t1 : (Go.bits .and .i64 passes p == 0) = true := beq_iff_eq.2 hz
    clear hV hz hb
    go_enter Tryd.func51, Tryd.ntmps51
    go_wp2
    refine bodyPost_ret (v := .tuple #[.agg #[.int .i64 x.f0, .int .i64 x.f1, .string x.f2, .slice A x.f3.length c], .bool false]) (by simp [results, Tryd.f51, go_sem]) rfl ?_
    exact ⟨_, rfl, Kd.V_mono (Kd.V_alloc (Kd.V_alloc (Kd.V_alloc HV.out _) _) _) (fun _ h => .inl h), below_alloc (below_alloc (below_alloc (Below.refl _ _) _) _) _⟩
  · rw [if_neg hz] at h
    have hr := hR x y ok (fun k => P k ∧ k < w.heap.size) A c (((w.alloc (.cells #[.int .i64 p, .func (.func f) #[] #[]] 111)).alloc (.cells #[.int .i64 x.f0, .int .i64 x.f1, .string x.f2, .slice A x.f3.length c] 24)).alloc (.cells #[.int .i64 0, .int .i64 0, .string ⟨#[]⟩, .slice none 0 0] 24))
      (Kd.V_alloc (Kd.V_alloc (Kd.V_alloc (Kd.V_bound hV) _) _) _) h
    have HR := Lib.hid hr
    have t1 : (Go.bits .and .i64 passes p == 0) = false := beq_eq_false_iff_ne.2 hz
    clear hV hz hb h hr hR
    unfold Ent at he
    go_enter Tryd.func51, Tryd.ntmps51
    go_wp2
    refine HR.out.mono ?_
    rintro e w' ⟨v, rfl, hv, hbel⟩
    obtain ⟨A', c', rfl⟩ := Kd.V_slice hv
    obtain ⟨hcc, hff⟩ := bcell hbel
    have hsz := hbel.size
    simp only [World.size_alloc] at hcc hff hsz
    have HX := Lib.hid (And.intro hv hbel)
    clear hv hbel HR
    go_wp2
    refine bodyPost_ret (v := .tuple #[.agg #[.int .i64 y.f0, .int .i64 y.f1, .string y.f2, .slice A' y.f3.length c'], .bool ok]) (by simp [results, Tryd.f51, go_sem, hcc]) rfl ?_
    have hv := HX.out.1
    simp only [World.size_alloc] at hv
    refine ⟨_, rfl, Kd.V_mono (V_put4 hv (fun k hk => ?_) _ _ _ _) (fun k hk => ?_), below_put4 ((below_alloc (below_alloc (below_alloc (Below.refl _ _) _) _) _).trans (HX.out.2.mono (by simp; omega))) (by omega) _ _ _ _⟩
    · rcases hk with hk | hk <;> omega
    · rcases hk with hk | hk
      · exact .inl hk.1
      · exact .inr (by omega)
end Go.Proofs.YtniajhmbdbgmgaaDoor.Q

/- opt.first over the rules: the first rule that fits. -/
namespace Go.Proofs.YtniajhmbdbgmgaaDoor.Q
open Go Go.RowKit Go.Proofs Go.Proofs.YtniajhmbdbgmgaaDoor Go.Shelf Go.Proofs.YtniajhmbdbgmgaaDoorW.PrintWords Go.Proofs.YtniajhmbdbgmgaaDoorW.PrintLast Go.Proofs.YtniajhmbdbgmgaaDoorW.PrintMore

attribute [local go_sem] World.cell?_alloc_lt
/-- A rule in memory: its pass, its function, and what that answers. -/
structure RuleM where
  p : Int
  f : FuncId
  g : Rule
def RuleM.pair (r : RuleM) : Int × Rule := (r.p, r.g)
/-- The rules lie in a block. -/
def RulesAt (w : World) (B : Nat) (L : List RuleM) : Prop := B < w.heap.size ∧ ∀ (j : Nat) (r : RuleM), L[j]? = some r → w.cell? ⟨B, j * 2, none⟩ = some (.int .i64 r.p) ∧ w.cell? ⟨B, j * 2 + 1, none⟩ = some (.func (.func r.f) #[] #[])
theorem RulesAt.below {n : Nat} {w w' : World} {B : Nat} {L : List RuleM} (h : RulesAt w B L) (hb : Below n w w') (hB : B < n) : RulesAt w' B L :=
  ⟨Nat.lt_of_lt_of_le h.1 hb.size, fun j r hj => ⟨(hb.cell (p := ⟨B, j * 2, none⟩) hB).trans (h.2 j r hj).1, (hb.cell (p := ⟨B, j * 2 + 1, none⟩) hB).trans (h.2 j r hj).2⟩⟩
theorem Boxed.belowN {n : Nat} {w w' : World} {B : Nat} {t : TypeId} {v : Value} (h : Boxed w B t v) (hb : Below n w w') (hB : B < n) : Boxed w' B t v := (hb.block _ hB).trans h

/-- One step of the search. -/
theorem first_hop (passes : Int) (x : Core) (r : RuleM) (L : List RuleM) (y : Core) (ok : Bool) (h : firstF band passes x ((r :: L).map RuleM.pair) = some (y, ok)) :
    ∃ z o, hopF passes r.p r.g x = some (z, o) ∧ (o = true → z = y ∧ ok = true) ∧ (o = false → firstF band passes x (L.map RuleM.pair) = some (y, ok)) := by
  simp only [List.map_cons, RuleM.pair, firstF] at h
  unfold hopF
  by_cases hz : band passes r.p = 0
  · rw [if_pos hz] at h ⊢
    exact ⟨x, false, rfl, (fun h => by cases h), fun _ => h⟩
  · rw [if_neg hz] at h ⊢
    obtain ⟨⟨z, o⟩, hy, h⟩ := Option.bind_eq_some_iff.1 h
    refine ⟨z, o, hy, fun ho => ?_, fun ho => ?_⟩
    · subst ho
      simp only [if_pos, Option.some.injEq, Prod.mk.injEq] at h
      exact ⟨h.1, h.2.symm⟩
    · subst ho
      simpa using h

/-- What holds all along the search. -/
structure FInv (w : World) (A : Option Addr) (c : Nat) (x : Core) (W : World) : Prop where
  bel : Below w.heap.size w W
  b1 : W.heap[w.heap.size]? = some (.cells #[.int .i64 x.f0, .int .i64 x.f1, .string x.f2, .slice A x.f3.length c] 24 (0, 0))
  b2 : W.heap[w.heap.size + 1]? = some (.cells #[.int .i64 0, .int .i64 0, .string ⟨#[]⟩, .slice none 0 0] 24 (0, 0))
set_option maxRecDepth 100000 in
theorem first_is (L : List RuleM) (hL : ∀ r ∈ L, Ent r.f ∧ Ru r.f r.g) (hlen : L.length ≤ 1000000) (Br cap Bp : Nat) (passes : Int) (x y : Core) (ok : Bool) (P : Nat → Prop) (A : Option Addr) (c : Nat) (w : World) (hb : Boxed w Bp 3 (.int .i64 passes)) (hr : RulesAt w Br L)
    (hV : Kd.V k24 24 w w.heap.size P (.slice A x.f3.length c) x.f3) (h : firstF band passes x (L.map RuleM.pair) = some (y, ok)) :
    Calls Tryd.prog 50 #[.slice (some ⟨Br, 0, none⟩) L.length cap, .agg #[.int .i64 x.f0, .int .i64 x.f1, .string x.f2, .slice A x.f3.length c], .func (.func 51) #[] #[.pointer (some ⟨Bp, 0, none⟩)]] w fun e w' =>
      ∃ v : Value, e = .returned (.tuple #[.agg #[.int .i64 y.f0, .int .i64 y.f1, .string y.f2, v], .bool ok]) ∧ Kd.V k24 24 w' w.heap.size (fun k => P k ∨ w.heap.size ≤ k) v y.f3 ∧ Below w.heap.size w w' := by
  have hltp : Bp < w.heap.size := (Array.getElem?_eq_some_iff.1 hb).1
  have hltr : Br < w.heap.size := hr.1
  have HV := Lib.hid hV; have HB := Lib.hid hb; have HRs := Lib.hid hr; have HL := Lib.hid hL; have HF := Lib.hid h
  clear hV hb hr hL h
  go_enter Tryd.func50, Tryd.ntmps50
  go_wp2
  obtain ⟨w2, ew2⟩ : ∃ w2, ((w.alloc (.cells #[.int .i64 x.f0, .int .i64 x.f1, .string x.f2, .slice A x.f3.length c] 24)).alloc (.cells #[.int .i64 0, .int .i64 0, .string ⟨#[]⟩, .slice none 0 0] 24)) = w2 := ⟨_, rfl⟩
  have hB2 : Below w.heap.size w w2 := by rw [← ew2]; exact below_alloc (below_alloc (Below.refl _ _) _) _
  have h1 : w2.heap[w.heap.size]? = some (.cells #[.int .i64 x.f0, .int .i64 x.f1, .string x.f2, .slice A x.f3.length c] 24 (0, 0)) := by
    rw [← ew2]; exact (Below.heap_alloc _ _ _ (by simp)).trans (World.alloc_heap_new w _)
  have h2 : w2.heap[w.heap.size + 1]? = some (.cells #[.int .i64 0, .int .i64 0, .string ⟨#[]⟩, .slice none 0 0] 24 (0, 0)) := by
    rw [← ew2, ← World.size_alloc]; exact World.alloc_heap_new _ _
  rw [ew2]
  have H0 := Lib.hid (FInv.mk (A := A) (c := c) hB2 h1 h2 : FInv w A c x w2)
  clear ew2 hB2 h1 h2
  have HF0 : Hid (firstF band passes x ((L.drop 0).map RuleM.pair) = some (y, ok)) := HF
  clear HF
  go_loopw [15] (fun i wr => ∃ j : Nat, j ≤ L.length ∧ i = .int .i64 j ∧ Hid (FInv w A c x wr) ∧ Hid (firstF band passes x ((L.drop j).map RuleM.pair) = some (y, ok))) (fun i _ => L.length - (intOf i).toNat)
  case atStart => exact ⟨0, Nat.zero_le _, rfl, H0, HF0⟩
  case round =>
    obtain ⟨j, hj, rfl, hI, hf⟩ := hrel
    clear H0 HF0
    have hsz : w.heap.size + 1 < wr.heap.size := blk_lt hI.out.b2
    have hsz0 : w.heap.size < wr.heap.size := by omega
    by_cases hlt : j < L.length
    · have t1 : decide (j < L.length) = true := decide_eq_true hlt
      obtain ⟨r, hrj⟩ : ∃ r, L[j]? = some r := ⟨L[j], List.getElem?_eq_getElem hlt⟩
      have hdrop : L.drop j = r :: L.drop (j + 1) := by
        rw [List.drop_eq_getElem_cons hlt, ← Option.some.inj (hrj.symm.trans (List.getElem?_eq_getElem hlt))]
      have hff := hf.out
      rw [hdrop] at hff
      obtain ⟨z, o, hz, hy, hn⟩ := first_hop passes x r _ y ok hff
      have hRs := HRs.out.below hI.out.bel (by omega)
      obtain ⟨k0, k1⟩ := hRs.2 j r hrj
      obtain ⟨d0, d1, d2, d3⟩ := core_cells hI.out.b1
      have hrm := HL.out r (List.mem_of_getElem? hrj)
      have hcall := hop r.f r.g hrm.1 hrm.2 passes r.p Bp x z o (fun k => P k ∧ k < w.heap.size) A c (wr.alloc (.cells #[.int .i64 r.p, .func (.func r.f) #[] #[]] 111)) (Boxed.belowN HB.out (below_alloc hI.out.bel _) hltp)
        (Kd.V_alloc (Kd.V_step (Kd.V_bound HV.out) (fun k hk _ => hI.out.bel.block k hk.2)) _) hz
      have HC := Lib.hid hcall; have HY := Lib.hid hy; have HN := Lib.hid hn
      clear hcall hy hn hf hff hz hrm hRs hdrop hrj
      go_wp2_with fail
      refine HC.out.mono ?_
      rintro e w' ⟨v, rfl, hv, hbel⟩
      obtain ⟨A', c', rfl⟩ := Kd.V_slice hv
      have hB2 : Below w.heap.size w w' := (below_alloc hI.out.bel _).trans (hbel.mono (by simp; omega))
      have e1 : w'.heap[w.heap.size]? = some (.cells #[.int .i64 x.f0, .int .i64 x.f1, .string x.f2, .slice A x.f3.length c] 24 (0, 0)) := (hbel.block _ (by simp; omega)).trans (blk_alloc hI.out.b1 _)
      have e2 : w'.heap[w.heap.size + 1]? = some (.cells #[.int .i64 0, .int .i64 0, .string ⟨#[]⟩, .slice none 0 0] 24 (0, 0)) := (hbel.block _ (by simp; omega)).trans (blk_alloc hI.out.b2 _)
      have hs2 : w.heap.size + 1 < w'.heap.size := blk_lt e2
      have hs1 : w.heap.size < w'.heap.size := by omega
      obtain ⟨f0, f1, f2, f3⟩ := core_cells e2
      have g0 := blk_frozen e2 0; have g1 := blk_frozen e2 1; have g2 := blk_frozen e2 2; have g3 := blk_frozen e2 3
      have HX := Lib.hid hv; have HB2 := Lib.hid hB2; have E1 := Lib.hid e1; have E2 := Lib.hid e2; have HBL := Lib.hid hbel
      clear hv hbel HC hB2 e1 e2 d0 d1 d2 d3 k0 k1
      cases o
      · have HN1 := Lib.hid (HN.out rfl)
        clear HN HY
        go_wp2
        go_roundw
        case rel => exact ⟨j + 1, hlt, by go_num, Lib.hid (FInv.mk (below_alloc HB2.out _) (blk_alloc E1.out _) (blk_alloc E2.out _)), HN1⟩
        case measure => simp [intOf]; omega
      · obtain ⟨rfl, rfl⟩ := HY.out rfl
        clear HN HY
        go_wp2
        refine bodyPost_ret (v := .tuple #[.agg #[.int .i64 z.f0, .int .i64 z.f1, .string z.f2, .slice A' z.f3.length c'], .bool true]) (by simp [results, Tryd.f50, go_sem, f0, f1, f2, f3, hs2]) rfl ?_
        have hv := HX.out
        simp only [World.size_alloc] at hv
        refine ⟨_, rfl, Kd.V_mono (Kd.V_alloc (V_put4 hv (fun k hk => ?_) _ _ _ _) _) (fun k hk => ?_), below_alloc (below_put4 HB2.out (by omega) _ _ _ _) _⟩
        · rcases hk with hk | hk <;> omega
        · rcases hk with hk | hk
          · exact .inl hk.1
          · exact .inr (by omega)
    · obtain rfl : j = L.length := by omega
      have hf2 := hf.out
      rw [List.drop_length] at hf2
      simp only [List.map_nil, firstF, Option.some.injEq, Prod.mk.injEq] at hf2
      obtain ⟨rfl, rfl⟩ := hf2
      have t1 : decide (L.length < L.length) = false := decide_eq_false (by omega)
      obtain ⟨f0, f1, f2, f3⟩ := core_cells hI.out.b2
      have g0 := blk_frozen hI.out.b2 0; have g1 := blk_frozen hI.out.b2 1; have g2 := blk_frozen hI.out.b2 2; have g3 := blk_frozen hI.out.b2 3
      clear hf hlt
      go_wp2
      refine bodyPost_ret (v := .tuple #[.agg #[.int .i64 0, .int .i64 0, .string ⟨#[]⟩, .slice none 0 0], .bool false]) (by simp [results, Tryd.f50, go_sem, f0, f1, f2, f3, hsz]) rfl ?_
      exact ⟨_, rfl, Kd.V_nil _ _ _ _ _, below_alloc (below_put4 hI.out.bel (by omega) _ _ _ _) _⟩
end Go.Proofs.YtniajhmbdbgmgaaDoor.Q

/- opt.rewrite: a term's kids are rewritten, then the rules are asked until none fits. -/
namespace Go.Proofs.YtniajhmbdbgmgaaDoor.Q
open Go Go.RowKit Go.Proofs Go.Proofs.YtniajhmbdbgmgaaDoor Go.Shelf Go.Proofs.YtniajhmbdbgmgaaDoorW.PrintWords Go.Proofs.YtniajhmbdbgmgaaDoorW.PrintLast Go.Proofs.YtniajhmbdbgmgaaDoorW.PrintMore
set_option linter.unusedSimpArgs false
attribute [local go_sem] World.cell?_alloc_lt

/-- What holds while the kids are rewritten: vk lies in 'out', vr is the row that was made so far. -/
structure RInv (w : World) (A : Option Addr) (c : Nat) (x : Core) (passes : Int) (vk vr : Value) (xs : List Core) (P : Nat → Prop) (W : World) : Prop where
  bel : Below w.heap.size w W
  b0 : W.heap[w.heap.size]? = some (.cells #[.int .i64 x.f0, .int .i64 x.f1, .string x.f2, .slice A x.f3.length c] 24 (0, 0))
  b1 : Boxed W (w.heap.size + 1) 3 (.int .i64 passes)
  b2 : W.heap[w.heap.size + 1 + 1]? = some (.cells #[.int .i64 0, .int .i64 0, .string ⟨#[]⟩, .slice none 0 0] 24 (0, 0))
  b3 : W.heap[w.heap.size + 1 + 1 + 1]? = some (.cells #[.int .i64 x.f0, .int .i64 x.f1, .string x.f2, vk] 24 (0, 0))
  row : Kd.N k24 24 W w.heap.size (fun k => (P k ∧ k < w.heap.size) ∨ w.heap.size + 4 ≤ k) vr xs
section
variable {w W W' : World} {A : Option Addr} {c : Nat} {x : Core} {passes : Int} {vk vr : Value} {xs : List Core} {P : Nat → Prop}
theorem RInv.size (h : RInv w A c x passes vk vr xs P W) : w.heap.size + 1 + 1 + 1 < W.heap.size := blk_lt h.b3
theorem RInv.below (h : RInv w A c x passes vk vr xs P W) (hb : Below W.heap.size W W') : RInv w A c x passes vk vr xs P W' :=
  ⟨h.bel.trans (hb.mono h.bel.size), blk_below h.b0 hb, blk_below h.b1 hb, blk_below h.b2 hb, blk_below h.b3 hb, Kd.N_below h.row hb⟩
theorem RInv.alloc (h : RInv w A c x passes vk vr xs P W) (o : Obj) : RInv w A c x passes vk vr xs P (W.alloc o) := h.below (below_alloc (Below.refl _ _) o)
theorem RInv.drew (h : RInv w A c x passes vk vr xs P W) : RInv w A c x passes vk vr xs P W.drew := h.below (below_drew (Below.refl _ _))
theorem RInv.own (h : RInv w A c x passes vk vr xs P W) : ∀ k, vr.ownBlock = some k → w.heap.size + 4 ≤ k ∧ k < W.heap.size := fun k hk => by
  have h1 := Kd.N_base h.row k hk
  have h2 := Kd.N_lt h.row k hk
  have h3 := h.row.1 k hk
  omega
theorem RInv.append {v7 : Value} {ys : List Core} {W7 : World} (h : RInv w A c x passes vk vr xs P W) (ho : Kd.N k24 24 W7 w.heap.size (fun k => (P k ∧ k < w.heap.size) ∨ w.heap.size + 4 ≤ k) v7 ys) (hb : Below w.heap.size w W7) (hg : W.grownBy W7 vr.ownBlock) : RInv w A c x passes vk v7 ys P W7 := by
  have hown := h.own
  refine ⟨hb, blk_grown h.b0 hg ?_, blk_grown h.b1 hg ?_, blk_grown h.b2 hg ?_, blk_grown h.b3 hg ?_, ho⟩
  all_goals
    intro he
    have := hown _ he.symm
    omega
theorem RInv.store (h : RInv w A c x passes vk vr xs P W) : RInv w A c x passes vr vr xs P (W.setCell ⟨w.heap.size + 1 + 1 + 1, 3, none⟩ vr) := by
  refine ⟨h.bel.setCell (p := ⟨w.heap.size + 1 + 1 + 1, 3, none⟩) (by simp; omega) _, blk_far h.b0 (by simp; omega) _, blk_far h.b1 (by simp) _, blk_far h.b2 (by simp) _, blk_set h.b3 3 vr, Kd.N_far (p := ⟨w.heap.size + 1 + 1 + 1, 3, none⟩) h.row (fun k hk => ?_) _⟩
  simp only
  omega
theorem RInv.held (h : RInv w A c x passes vk vr xs P W) {Bk c3 : Nat} {kd : Core} {A3 : Option Addr} (hk : W.heap[Bk]? = some (.cells #[.int .i64 kd.f0, .int .i64 kd.f1, .string kd.f2, .slice A3 kd.f3.length c3] 24 (0, 0))) :
    W.cell? ⟨w.heap.size + 1 + 1 + 1, 3, none⟩ = some vk ∧ (W.cell? ⟨Bk, 0, none⟩ = some (.int .i64 kd.f0) ∧ W.cell? ⟨Bk, 1, none⟩ = some (.int .i64 kd.f1) ∧ W.cell? ⟨Bk, 2, none⟩ = some (.string kd.f2) ∧ W.cell? ⟨Bk, 3, none⟩ = some (.slice A3 kd.f3.length c3)) ∧ W.cell? ⟨w.heap.size + 1, 0, none⟩ = some (.int .i64 passes) :=
  ⟨(core_cells h.b3).2.2.2, core_cells hk, boxed_cell h.b1⟩
end
theorem mapM_get {f : Core → Option Core} : ∀ {l m : List Core}, l.mapM f = some m → m.length = l.length ∧ ∀ (j : Nat) (h : j < l.length) (h' : j < m.length), f l[j] = some m[j]
  | [], m, h => by
    simp at h
    subst h
    exact ⟨rfl, fun j h => absurd h (Nat.not_lt_zero _)⟩
  | a :: l, m, h => by
    rw [List.mapM_cons] at h
    obtain ⟨b, hb, h⟩ := Option.bind_eq_some_iff.1 h
    obtain ⟨r, hr, h⟩ := Option.bind_eq_some_iff.1 h
    have h := Option.some.inj h
    subst h
    obtain ⟨h1, h2⟩ := mapM_get hr
    refine ⟨by simp [h1], fun j hj hj' => ?_⟩
    cases j with
    | zero => exact hb
    | succ j => exact h2 j (by simpa using hj) (by simpa using hj')
/-- What holds while the rules are asked. -/
structure LInv (w : World) (passes : Int) (v : Value) (y : Core) (P : Nat → Prop) (W : World) : Prop where
  bel : Below w.heap.size w W
  b1 : Boxed W (w.heap.size + 1) 3 (.int .i64 passes)
  b2 : W.heap[w.heap.size + 1 + 1]? = some (.cells #[.int .i64 0, .int .i64 0, .string ⟨#[]⟩, .slice none 0 0] 24 (0, 0))
  b3 : W.heap[w.heap.size + 1 + 1 + 1]? = some (.cells #[.int .i64 y.f0, .int .i64 y.f1, .string y.f2, v] 24 (0, 0))
  row : Kd.V k24 24 W w.heap.size (fun k => (P k ∧ k < w.heap.size) ∨ w.heap.size + 4 ≤ k) v y.f3
set_option maxRecDepth 100000 in
set_option maxHeartbeats 4000000 in
theorem rewrite_is (L : List RuleM) (hL : ∀ r ∈ L, Ent r.f ∧ Ru r.f r.g) (hlen : L.length ≤ 1000000) (Br cap : Nat) (passes : Int) : ∀ (k : Nat) (x z : Core) (P : Nat → Prop) (A : Option Addr) (c : Nat) (w : World), RulesAt w Br L →
    Kd.V k24 24 w w.heap.size P (.slice A x.f3.length c) x.f3 → rewriteF band (L.map RuleM.pair) passes k x = some z →
    Calls Tryd.prog 28 #[.agg #[.int .i64 x.f0, .int .i64 x.f1, .string x.f2, .slice A x.f3.length c], .int .i64 passes, .slice (some ⟨Br, 0, none⟩) L.length cap] w fun e w' =>
      ∃ v : Value, e = .returned (.agg #[.int .i64 z.f0, .int .i64 z.f1, .string z.f2, v]) ∧ Kd.V k24 24 w' w.heap.size (fun k => P k ∨ w.heap.size ≤ k) v z.f3 ∧ Below w.heap.size w w' := by
  intro k
  induction k with
  | zero => intro x z P A c w _ _ h; cases h
  | succ k ih =>
    intro x z P A c w hr hV h
    rw [rewriteF] at h
    by_cases hn : x.f3.length ≤ 1000
    case neg => rw [if_neg hn] at h; cases h
    rw [if_pos hn] at h
    obtain ⟨m, hm, hloop⟩ := Option.bind_eq_some_iff.1 h
    obtain ⟨hml, hmj⟩ := mapM_get hm
    have hltr : Br < w.heap.size := hr.1
    have hF := (Kd.V_at hV).2.2
    have hcc := (Kd.V_at hV).2.1
    have hcall : ∀ (j : Nat) (hj : j < x.f3.length) (hj' : j < m.length) (A3 : Option Addr) (c3 : Nat), Kd.F k24 w P A3 x.f3[j].f3.length x.f3[j].f3 → x.f3[j].f3.length ≤ c3 → ∀ W, Below w.heap.size w W →
        Calls Tryd.prog 28 #[.agg #[.int .i64 x.f3[j].f0, .int .i64 x.f3[j].f1, .string x.f3[j].f2, .slice A3 x.f3[j].f3.length c3], .int .i64 passes, .slice (some ⟨Br, 0, none⟩) L.length cap] W fun e W' =>
          ∃ v : Value, e = .returned (.agg #[.int .i64 m[j].f0, .int .i64 m[j].f1, .string m[j].f2, v]) ∧ Kd.V k24 24 W' W.heap.size (fun k => (P k ∧ k < w.heap.size) ∨ W.heap.size ≤ k) v m[j].f3 ∧ Below W.heap.size W W' :=
      fun j hj hj' A3 c3 h1 h2 W hW => ih x.f3[j] m[j] (fun k => P k ∧ k < w.heap.size) A3 c3 W (hr.below hW hltr) (Kd.V_mk h2 (Kd.F_step (Kd.F_bound h1) (fun k hk _ => hW.block k hk.2))) (hmj j hj hj')
    have HC := Lib.hid hcall; have HF := Lib.hid hF; have HL := Lib.hid hL; have HR := Lib.hid hr; have HLo := Lib.hid hloop; have HML := Lib.hid hml
    clear hcall hF hL hr hloop hml hmj hm h hV ih
    go_enter Tryd.func28, Tryd.ntmps28
    go_wp2
    obtain ⟨w4, ew4⟩ : ∃ w4, ((((w.alloc (.cells #[.int .i64 x.f0, .int .i64 x.f1, .string x.f2, .slice A x.f3.length c] 24)).alloc (.cells #[.int .i64 passes] 3)).alloc (.cells #[.int .i64 0, .int .i64 0, .string ⟨#[]⟩, .slice none 0 0] 24)).alloc (.cells #[.int .i64 x.f0, .int .i64 x.f1, .string x.f2, .slice none 0 0] 24)) = w4 := ⟨_, rfl⟩
    have h4 : RInv w A c x passes (.slice none 0 0) (.slice none 0 0) [] P w4 := by
      rw [← ew4]
      have z0 := World.alloc_heap_new w (.cells #[.int .i64 x.f0, .int .i64 x.f1, .string x.f2, .slice A x.f3.length c] 24)
      have z1 := World.alloc_heap_new (w.alloc (.cells #[.int .i64 x.f0, .int .i64 x.f1, .string x.f2, .slice A x.f3.length c] 24)) (.cells #[.int .i64 passes] 3)
      have z2 := World.alloc_heap_new ((w.alloc (.cells #[.int .i64 x.f0, .int .i64 x.f1, .string x.f2, .slice A x.f3.length c] 24)).alloc (.cells #[.int .i64 passes] 3)) (.cells #[.int .i64 0, .int .i64 0, .string ⟨#[]⟩, .slice none 0 0] 24)
      have z3 := World.alloc_heap_new (((w.alloc (.cells #[.int .i64 x.f0, .int .i64 x.f1, .string x.f2, .slice A x.f3.length c] 24)).alloc (.cells #[.int .i64 passes] 3)).alloc (.cells #[.int .i64 0, .int .i64 0, .string ⟨#[]⟩, .slice none 0 0] 24)) (.cells #[.int .i64 x.f0, .int .i64 x.f1, .string x.f2, .slice none 0 0] 24)
      simp only [World.size_alloc] at z1 z2 z3
      exact ⟨below_alloc (below_alloc (below_alloc (below_alloc (Below.refl _ _) _) _) _) _, blk_alloc (blk_alloc (blk_alloc z0 _) _) _, blk_alloc (blk_alloc z1 _) _, blk_alloc z2 _, z3, Kd.N_nil _ _ _ _ _⟩
    rw [ew4]
    have H4 := Lib.hid h4
    clear h4 ew4
    go_loopw [17] (fun i wr => ∃ (j : Nat) (vk : Value), j ≤ x.f3.length ∧ i = .int .i64 j ∧ Hid (RInv w A c x passes vk vk (m.take j) P wr)) (fun i _ => x.f3.length - (intOf i).toNat)
    case atStart => exact ⟨0, _, Nat.zero_le _, rfl, H4⟩
    case round =>
      obtain ⟨j, vk, hj, rfl, hI⟩ := hrel
      clear H4
      have hsz := hI.out.size
      have hs0 : w.heap.size < wr.heap.size := by omega
      have hs1 : w.heap.size + 1 < wr.heap.size := by omega
      by_cases hlt : j < x.f3.length
      · have t1 : decide (j < x.f3.length) = true := decide_eq_true hlt
        obtain ⟨ad, A3, c3, hA, d0, d1, d2, d3, hl3, hF3⟩ := kid_at HF.out j hlt
        obtain ⟨kd, ekd⟩ : ∃ kd, x.f3[j] = kd := ⟨_, rfl⟩
        have hmj : j < m.length := by have := HML.out; omega
        have hcall := HC.out j hlt hmj A3 c3 hF3 hl3
        subst hA
        rw [ekd] at d0 d1 d2 d3 hl3 hcall
        replace d0 := (hI.out.bel.cell (World.block_lt_of_cell? w _ d0)).trans d0
        replace d1 := (hI.out.bel.cell (World.block_lt_of_cell? w _ d1)).trans d1
        replace d2 := (hI.out.bel.cell (World.block_lt_of_cell? w _ d2)).trans d2
        replace d3 := (hI.out.bel.cell (World.block_lt_of_cell? w _ d3)).trans d3
        have HCj := Lib.hid hcall
        clear hcall hF3 ekd
        go_wp2
        obtain ⟨Bk, eBk⟩ : ∃ Bk, wr.heap.size = Bk := ⟨_, rfl⟩
        obtain ⟨W4, eW4⟩ : ∃ W4, wr.alloc (.cells #[.int .i64 kd.f0, .int .i64 kd.f1, .string kd.f2, .slice A3 kd.f3.length c3] 24) = W4 := ⟨_, rfl⟩
        have hk4 : W4.heap[Bk]? = some (.cells #[.int .i64 kd.f0, .int .i64 kd.f1, .string kd.f2, .slice A3 kd.f3.length c3] 24 (0, 0)) := by
          rw [← eW4, ← eBk]; exact World.alloc_heap_new wr _
        have h4 : RInv w (some ad) c x passes vk vk (m.take j) P W4 := by rw [← eW4]; exact hI.out.alloc _
        have hne : some Bk ≠ vk.ownBlock := fun he => by have := (hI.out.own Bk he.symm).2; omega
        rw [eW4, eBk]
        have H4d := Lib.hid h4.drew
        have hk4d := Lib.hid (blk_drew hk4)
        have Hne := Lib.hid hne
        clear h4 hk4 eW4 eBk hne d0 d1 d2 d3 hl3
        refine start_ (n := 10) (S := fun w' => w'.cell? ⟨w.heap.size + 1 + 1 + 1, 3, none⟩ = some vk ∧ (w'.cell? ⟨Bk, 0, none⟩ = some (.int .i64 kd.f0) ∧ w'.cell? ⟨Bk, 1, none⟩ = some (.int .i64 kd.f1) ∧ w'.cell? ⟨Bk, 2, none⟩ = some (.string kd.f2) ∧ w'.cell? ⟨Bk, 3, none⟩ = some (.slice A3 kd.f3.length c3)) ∧ w'.cell? ⟨w.heap.size + 1, 0, none⟩ = some (.int .i64 passes)) (ds := [9]) (bm 10 0) (by kernel_rfl) rfl (by kernel_rfl) (H4d.out.held hk4d.out) (fun hHeld => ?_)
        generalize W4.drew = W5 at H4d hk4d hHeld ⊢
        refine pure_ (i := 0) (N := some 21) (v := ?_) (a' := ?_) (bm 10 1) rfl rfl (by kernel_rfl) (fun _ _ _ h => h) (Or.inl ⟨by rfl, ?_⟩) ?_ ?_
        rotate_left
        · intro w'
          go_simp
          with_reducible rfl
        rotate_left
        · simp only [Act.put, List.setIfInBounds_toArray, List.set_cons_zero, List.set_cons_succ, i64_w, i32_w]
          rfl
        refine pure_ (i := 4) (N := some 25) (v := ?_) (a' := ?_) (bm 10 17) rfl rfl (by kernel_rfl) (fun _ _ _ h => h) (Or.inl ⟨by rfl, ?_⟩) ?_ ?_
        rotate_left
        · intro w'
          go_simp
          with_reducible rfl
        rotate_left
        · simp only [Act.put, List.setIfInBounds_toArray, List.set_cons_zero, List.set_cons_succ, i64_w, i32_w]
          rfl
        refine take_ (i := 1) (N := some 22) (v := ?_) (a' := ?_) (bm 10 19) rfl rfl (by kernel_rfl) (fun _ _ _ h => h) (Or.inl ⟨by rfl, ?_⟩) hHeld ?_ ?_
        rotate_left
        · rintro w' ⟨s0, ⟨s1, s2, s3, s4⟩, s5⟩
          go_simp
          with_reducible rfl
        rotate_left
        · simp only [Act.put, List.setIfInBounds_toArray, List.set_cons_zero, List.set_cons_succ, i64_w, i32_w]
          rfl
        refine take_ (i := 2) (N := some 23) (v := ?_) (a' := ?_) (bm 10 23) rfl rfl (by kernel_rfl) (fun _ _ _ h => h) (Or.inl ⟨by rfl, ?_⟩) hHeld ?_ ?_
        rotate_left
        · rintro w' ⟨s0, ⟨s1, s2, s3, s4⟩, s5⟩
          go_simp
          with_reducible rfl
        rotate_left
        · simp only [Act.put, List.setIfInBounds_toArray, List.set_cons_zero, List.set_cons_succ, i64_w, i32_w]
          rfl
        refine take_ (i := 3) (N := some 24) (v := ?_) (a' := ?_) (bm 10 31) rfl rfl (by kernel_rfl) (fun _ _ _ h => h) (Or.inl ⟨by rfl, ?_⟩) hHeld ?_ ?_
        rotate_left
        · rintro w' ⟨s0, ⟨s1, s2, s3, s4⟩, s5⟩
          go_simp
          with_reducible rfl
        rotate_left
        · simp only [Act.put, List.setIfInBounds_toArray, List.set_cons_zero, List.set_cons_succ, i64_w, i32_w]
          rfl
        refine one_ (i := 5) (N := some 26) (bm 10 63) rfl rfl (by kernel_rfl) (by decide) (fun K hK => ?_)
        refine goes_ Tryd.func28 (by kernel_rfl) rfl #[.agg #[.int .i64 kd.f0, .int .i64 kd.f1, .string kd.f2, .slice A3 kd.f3.length c3], .int .i64 passes, .slice (some ⟨Br, 0, none⟩) L.length cap] (by rfl) rfl rfl (by (try simp only [List.map_toArray, List.map_cons, List.map_nil]); first | done | rfl) ?_
        refine (HCj.out W5 H4d.out.bel).mono ?_
        rintro e W6 ⟨v6, rfl, hv6, hbel6⟩
        refine ⟨_, rfl, ?_⟩
        obtain ⟨A6, c6, rfl⟩ := Kd.V_slice hv6
        have H6 : Hid (RInv w (some ad) c x passes vk vk (m.take j) P W6) := Lib.hid (H4d.out.below hbel6)
        have hk6 := Lib.hid (blk_below hk4d.out hbel6)
        have HV6 := Lib.hid hv6
        have HL6 := Lib.hid hbel6
        clear hv6 hbel6
        refine hK.out _ _ (H6.out.held hk6.out) (fun hHeld => ?_)
        clear hK K
        refine norm_ (a' := ?_) ?_ ?_
        rotate_left
        · show Act.put _ (some 26) _ = _
          simp only [Act.put, List.setIfInBounds_toArray, List.set_cons_zero, List.set_cons_succ, i64_w, i32_w]
          rfl
        refine one_ (i := 6) (N := some 27) (bm 10 127) rfl rfl (by kernel_rfl) (by decide) (fun K hK => ?_)
        refine value_ (w1 := ?_) (v := ?_) (by rfl) rfl ?_ ?_
        rotate_left 2
        · go_simp
          constructor
          · rfl
          · rfl
        refine hK.out _ _ ((H6.out.alloc _).held (blk_alloc hk6.out _)) (fun hHeld => ?_)
        clear hK K
        refine norm_ (a' := ?_) ?_ ?_
        rotate_left
        · show Act.put _ (some 27) _ = _
          simp only [Act.put, List.setIfInBounds_toArray, List.set_cons_zero, List.set_cons_succ, i64_w, i32_w]
          rfl
        refine one_ (i := 7) (N := some 28) (bm 10 255) rfl rfl (by kernel_rfl) (by decide) (fun K hK => ?_)
        refine Kd.N_append_step k24 (w0 := w) w.heap.size (by rfl) (.tmp 22) (.tmp 27) 22 24 (.agg #[(.int .i64 0), (.int .i64 0), (.string ⟨#[]⟩), (.slice none 0 0)]) 56 rfl Tryd.underlying22 info24 rfl (by decide) (by omega) vk (m.take j) m[j] [.int .i64 m[j].f0, .int .i64 m[j].f1, .string m[j].f2, .slice A6 m[j].f3.length c6] (fun k => (P k ∧ k < w.heap.size) ∨ w.heap.size + 4 ≤ k) (fun k => (P k ∧ k < w.heap.size) ∨ W5.heap.size ≤ k) rfl rfl ?aP ?aK ?aF ?aO ?aB ?aS ?aL ?_
        (case aP => exact k24_mkF _ _ m[j] (Kd.V_at HV6.out).2.1 (Kd.V_at HV6.out).2.2)
        (case aK => exact fun k hk => ⟨hk.imp id (fun h => by have := H4d.out.size; omega), fun he => by have := H4d.out.own k he.symm; omega⟩)
        (case aF => exact fun k hk => .inr (by have := H6.out.size; omega))
        (case aO => exact H6.out.row)
        (case aB => exact H6.out.bel)
        (case aS => exact H6.out.bel.size)
        (case aL => simp only [List.length_take]; omega)
        intro v7 W7 ho7 hb7 hg7 hat7
        obtain ⟨A7, c7, e7⟩ := Kd.N_slice ho7
        obtain ⟨n7, en7⟩ : ∃ n, (m.take j ++ [m[j]]).length = n := ⟨_, rfl⟩
        rw [en7] at e7
        subst e7
        clear en7
        have H7 : Hid (RInv w (some ad) c x passes vk (.slice A7 n7 c7) (m.take j ++ [m[j]]) P W7) := Lib.hid (H6.out.append ho7 hb7 hg7)
        have hk7 := Lib.hid (blk_grown hk6.out hg7 Hne.out)
        clear ho7 hb7 hg7 hat7
        refine hK.out _ _ (H7.out.held hk7.out) (fun hHeld => ?_)
        clear hK K
        refine norm_ (a' := ?_) ?_ ?_
        rotate_left
        · show Act.put _ (some 28) _ = _
          simp only [Act.put, List.setIfInBounds_toArray, List.set_cons_zero, List.set_cons_succ, i64_w, i32_w]
          rfl
        refine pure_ (i := 8) (N := some 29) (v := ?_) (a' := ?_) (bm 10 511) rfl rfl (by kernel_rfl) (fun _ _ _ h => h) (Or.inl ⟨by rfl, ?_⟩) ?_ ?_
        rotate_left
        · intro w'
          go_simp
          with_reducible rfl
        rotate_left
        · simp only [Act.put, List.setIfInBounds_toArray, List.set_cons_zero, List.set_cons_succ, i64_w, i32_w]
          rfl
        have hs8 := (core_cells H7.out.b3).2.2.2
        have hf8 := blk_frozen H7.out.b3 3
        refine last_ (i := 9) (N := none) (bm 10 1023) rfl rfl (by kernel_rfl) (by decide) (fun K hK => ?_)
        refine skip_ (w1 := ?_) (by rfl) rfl ?_ ?_
        rotate_left
        · go_simp
          rfl
        refine hK.out _ _ ?_
        clear hK K
        refine done_ (by kernel_rfl) ?_

        have HN8 : Hid (RInv w (some ad) c x passes (.slice A7 n7 c7) (.slice A7 n7 c7) (m.take (j + 1)) P (W7.setCell ⟨w.heap.size + 1 + 1 + 1, 3, none⟩ (.slice A7 n7 c7))) := by
          have := H7.out.store
          rw [List.take_add_one, List.getElem?_eq_getElem hmj]
          exact Lib.hid this
        clear H7 H6 hk6 hk7 HV6 HL6 hHeld H4d hk4d hs8 hf8
        go_wp2
        go_roundw
        case rel => exact ⟨j + 1, _, hlt, by go_num, HN8⟩
        case measure => simp [intOf]; omega
      · obtain rfl : j = x.f3.length := by omega
        have t1 : decide (x.f3.length < x.f3.length) = false := decide_eq_false (by omega)
        have hI2 : Hid (RInv w A c x passes vk vk m P wr) := by
          have := hI.out
          rw [← HML.out, List.take_length] at this
          exact Lib.hid this
        have hL0 : LInv w passes vk ⟨x.f0, x.f1, x.f2, m⟩ P wr := ⟨hI2.out.bel, hI2.out.b1, hI2.out.b2, hI2.out.b3, Kd.N_V hI2.out.row⟩
        have HL0 := Lib.hid hL0
        clear hI hI2 hL0 hlt
        go_wp2
        go_loopg [11] k (fun kq u wq => ∃ (y : Core) (v : Value), Hid (LInv w passes v y P wq) ∧ Hid (loopF band (L.map RuleM.pair) passes kq y = some z))
        case atStart => exact ⟨_, _, HL0, HLo⟩
        case round =>
          obtain ⟨y, v, hI, hl⟩ := hrel
          obtain ⟨k', rfl⟩ : ∃ k', gk = k' + 1 := by
            cases gk with
            | zero => cases hl.out
            | succ n => exact ⟨n, rfl⟩
          have hlo := hl.out
          rw [loopF] at hlo
          clear HL0 hl
          have hsz : w.heap.size + 1 + 1 + 1 < wr.heap.size := blk_lt hI.out.b3
          have hs1 : w.heap.size + 1 + 1 < wr.heap.size := by omega
          obtain ⟨A', c', rfl⟩ := Kd.V_slice hI.out.row
          obtain ⟨d0, d1, d2, d3⟩ := core_cells hI.out.b3
          obtain ⟨e0, e1, e2, e3⟩ := core_cells hI.out.b2
          have g0 := blk_frozen hI.out.b2 0; have g1 := blk_frozen hI.out.b2 1; have g2 := blk_frozen hI.out.b2 2; have g3 := blk_frozen hI.out.b2 3
          by_cases hy : y.f3 = []
          · rw [if_pos hy] at hlo
            obtain rfl := Option.some.inj hlo
            have t1 : decide (0 < y.f3.length) = false := by rw [hy]; rfl
            clear hy hlo
            go_wp2
            refine bodyPost_ret (v := .agg #[.int .i64 y.f0, .int .i64 y.f1, .string y.f2, .slice A' y.f3.length c']) (by simp [results, Tryd.f28, go_sem, e0, e1, e2, e3, hs1]) rfl ?_
            refine ⟨_, rfl, Kd.V_mono (V_put4 hI.out.row (fun k hk => ?_) _ _ _ _) (fun k hk => ?_), below_put4 hI.out.bel (by omega) _ _ _ _⟩
            · omega
            · exact hk.imp (fun h => h.1) (fun h => by omega)
          · rw [if_neg hy] at hlo
            obtain ⟨⟨q, ok⟩, hf, hlo⟩ := Option.bind_eq_some_iff.1 hlo
            have t1 : decide (0 < y.f3.length) = true := decide_eq_true (List.length_pos_iff.2 hy)
            have hcall := first_is L HL.out hlen Br cap (w.heap.size + 1) passes y q ok (fun k => (P k ∧ k < w.heap.size) ∨ w.heap.size + 4 ≤ k) A' c' wr hI.out.b1 (HR.out.below hI.out.bel hltr) hI.out.row hf
            have HCF := Lib.hid hcall
            have HLO := Lib.hid hlo
            clear hcall hy hf hlo
            go_wp2_with fail
            refine HCF.out.mono ?_
            rintro e w' ⟨vq, rfl, hvq, hbel⟩
            obtain ⟨Aq, cq, rfl⟩ := Kd.V_slice hvq
            have hI2 : LInv w passes (.slice A' y.f3.length c') y P w' :=
              ⟨hI.out.bel.trans (hbel.mono hI.out.bel.size), blk_below hI.out.b1 hbel, blk_below hI.out.b2 hbel, blk_below hI.out.b3 hbel, Kd.V_below hI.out.row hbel⟩
            have hs5 : w.heap.size + 1 + 1 + 1 < w'.heap.size := blk_lt hI2.b3
            have hs6 : w.heap.size + 1 + 1 < w'.heap.size := by omega
            obtain ⟨f0, f1, f2, f3⟩ := core_cells hI2.b3
            obtain ⟨j0, j1, j2, j3⟩ := core_cells hI2.b2
            have i0 := blk_frozen hI2.b2 0; have i1 := blk_frozen hI2.b2 1; have i2 := blk_frozen hI2.b2 2; have i3 := blk_frozen hI2.b2 3
            have l0 := blk_frozen hI2.b3 0; have l1 := blk_frozen hI2.b3 1; have l2 := blk_frozen hI2.b3 2; have l3 := blk_frozen hI2.b3 3
            have hv2 : Kd.V k24 24 w' w.heap.size (fun k => (P k ∧ k < w.heap.size) ∨ w.heap.size + 4 ≤ k) (.slice Aq q.f3.length cq) q.f3 := Kd.V_mono (Kd.V_lower hvq hI.out.bel.size) (fun k hk => hk.elim id (fun h => .inr (by omega)))
            have HV2 := Lib.hid hv2
            have HI2 := Lib.hid hI2
            clear hI2 hv2 hvq hbel d0 d1 d2 d3 e0 e1 e2 e3 g0 g1 g2 g3
            cases ok
            · have hz := HLO.out
              simp only [Bool.false_eq_true, if_false, Option.some.injEq] at hz
              subst hz
              clear HLO
              go_wp2
              refine bodyPost_ret (v := .agg #[.int .i64 y.f0, .int .i64 y.f1, .string y.f2, .slice A' y.f3.length c']) (by simp [results, Tryd.f28, go_sem, j0, j1, j2, j3, hs6]) rfl ?_
              refine ⟨_, rfl, Kd.V_mono (Kd.V_alloc (V_put4 HI2.out.row (fun k hk => ?_) _ _ _ _) _) (fun k hk => ?_), below_alloc (below_put4 HI2.out.bel (by omega) _ _ _ _) _⟩
              · omega
              · exact hk.imp (fun h => h.1) (fun h => by omega)
            · have hz : Hid (loopF band (L.map RuleM.pair) passes k' q = some z) := Lib.hid HLO.out
              clear HLO
              go_wp2
              go_roundg k'
              case measure => omega
              case rel =>
                refine ⟨q, .slice Aq q.f3.length cq, Lib.hid ⟨below_alloc (below_put4 HI2.out.bel (by omega) _ _ _ _) _, blk_alloc (blk_away4 HI2.out.b1 (by omega) _ _ _ _) _, blk_alloc (blk_away4 HI2.out.b2 (by omega) _ _ _ _) _, blk_alloc (blk_put4 HI2.out.b3 _ _ _ _) _, Kd.V_alloc (V_put4 HV2.out (fun k hk => ?_) _ _ _ _) _⟩, hz⟩
                omega
end Go.Proofs.YtniajhmbdbgmgaaDoor.Q


/- The three makers of constants inside opt.fold. -/
namespace Go.Proofs.YtniajhmbdbgmgaaDoor.Q
open Go Go.RowKit Go.Proofs Go.Proofs.YtniajhmbdbgmgaaDoor
theorem number_is (n : Int) (w : World) : Calls Tryd.prog 80 #[.int .i64 n] w fun e w' =>
    e = .returned (.tuple #[.agg #[.int .i64 1, .int .i64 n, .string ⟨#[]⟩, .slice none 0 0], .bool true]) ∧ w' = w.alloc (.cells #[.int .i64 1, .int .i64 n, .string ⟨#[]⟩, .slice none 0 0] 24) := by
  go_enter Tryd.func80, Tryd.ntmps80
  go_wp2
  exact bodyPost_ret (v := .tuple #[.agg #[.int .i64 1, .int .i64 n, .string ⟨#[]⟩, .slice none 0 0], .bool true]) (by simp [results, Tryd.f80, go_sem]) rfl ⟨rfl, rfl⟩
theorem day_is (n : Int) (w : World) : Calls Tryd.prog 83 #[.int .i64 n] w fun e w' =>
    e = .returned (.tuple #[.agg #[.int .i64 3, .int .i64 n, .string ⟨#[]⟩, .slice none 0 0], .bool true]) ∧ w' = w.alloc (.cells #[.int .i64 3, .int .i64 n, .string ⟨#[]⟩, .slice none 0 0] 24) := by
  go_enter Tryd.func83, Tryd.ntmps83
  go_wp2
  exact bodyPost_ret (v := .tuple #[.agg #[.int .i64 3, .int .i64 n, .string ⟨#[]⟩, .slice none 0 0], .bool true]) (by simp [results, Tryd.f83, go_sem]) rfl ⟨rfl, rfl⟩
theorem truth_is (b : Bool) (w : World) : Calls Tryd.prog 82 #[.bool b] w fun e w' => e = .returned (.int .i64 (if b = true then 1 else 0)) ∧ w' = w := by
  cases b
  all_goals
    go_enter Tryd.func82, Tryd.ntmps82
    go_wp2
    go_ret
    exact ⟨rfl, rfl⟩
theorem is_is (b : Bool) (w : World) : Calls Tryd.prog 81 #[.bool b] w fun e w' =>
    e = .returned (.tuple #[.agg #[.int .i64 2, .int .i64 (if b = true then 1 else 0), .string ⟨#[]⟩, .slice none 0 0], .bool true]) ∧ w' = w.alloc (.cells #[.int .i64 2, .int .i64 (if b = true then 1 else 0), .string ⟨#[]⟩, .slice none 0 0] 24) := by
  obtain ⟨n, hn⟩ : ∃ n : Int, (if b = true then 1 else 0) = n := ⟨_, rfl⟩
  have ht := fun w => truth_is b w
  rw [hn] at ht ⊢
  have HT := Lib.hid ht
  clear ht hn
  go_enter Tryd.func81, Tryd.ntmps81
  go_wp2_with (go_at_call 82; refine (HT.out _).mono ?_; rintro e w' ⟨rfl, rfl⟩)
  exact bodyPost_ret (v := .tuple #[.agg #[.int .i64 2, .int .i64 n, .string ⟨#[]⟩, .slice none 0 0], .bool true]) (by simp [results, Tryd.f81, go_sem]) rfl ⟨rfl, rfl⟩
end Go.Proofs.YtniajhmbdbgmgaaDoor.Q
