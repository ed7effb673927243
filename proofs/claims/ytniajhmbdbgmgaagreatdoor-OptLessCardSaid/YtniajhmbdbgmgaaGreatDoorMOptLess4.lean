import Derived.Test.YtniajhmbdbgmgaaGreatDoorMOptLess2
import Derived.Test.YtniajhmbdbgmgaaGreatDoorMOptLess3
import Derived.KernelRfl
namespace Go.Proofs.YtniajhmbdbgmgaaGreatDoor.Q
open Go.RowKit Go.Proofs.YtniajhmbdbgmgaaGreatDoorW.PrintWords Go.Proofs.YtniajhmbdbgmgaaGreatDoorW.PrintLast Go.Proofs.YtniajhmbdbgmgaaGreatDoorW.PrintMore
attribute [local go_sem] max2_int min2_int max_two min_two max_three min_three max_four min_four   -- for this text's walks alone
set_option linter.unusedVariables false
set_option linter.unusedSimpArgs false

/-! ### causal_letter: function 130 -/
mutual
def causal_letter.j0 : Nat → ByteArray → ByteArray → Bool → Int → Int → ByteArray → List (S24) → Option (Int)
  | 0, _, _, _, _, _, _, _ => none
  | k + 1, x3, x4, x32, x114000, x114001, x114002, x114003 => if x32 = true then (some 0) else (causal_letter.l0 k x3 x4 0 x114003 (x114003.length : Int) 0)
def causal_letter.l0 : Nat → ByteArray → ByteArray → Int → List (S24) → Int → Int → Option (Int)
  | 0, _, _, _, _, _, _ => none
  | k + 1, x3, x4, x6, x34, x35, x36 => if x36 < x35 then (if 0 ≤ x36 then (if x36 < (x34.length : Int) then ((causal_letter.f k ((rd_T24 x34 x36).f0) ((rd_T24 x34 x36).f1) ((rd_T24 x34 x36).f2) ((rd_T24 x34 x36).f3)).bind fun t121 => (if t121 = 0 then (some 0) else (if x36 < (x3.size : Int) then (if (bt x3 x36) = 120 then (if t121 = 99 then (causal_letter.j2 k x3 x4 x6 x36 t121 x34 x35 x36 false) else (if x6 = 0 then (causal_letter.j2 k x3 x4 x6 x36 t121 x34 x35 x36 true) else (causal_letter.j2 k x3 x4 x6 x36 t121 x34 x35 x36 (x6 == t121)))) else (causal_letter.j2 k x3 x4 x6 x36 t121 x34 x35 x36 false)) else (none)))) else (none)) else (none)) else (if x4.toList = ([120] : List UInt8) then (some x6) else (if 0 < (x4.size : Int) then (some (bt x4 0)) else (none)))
def causal_letter.j2 : Nat → ByteArray → ByteArray → Int → Int → Int → List (S24) → Int → Int → Bool → Option (Int)
  | 0, _, _, _, _, _, _, _, _, _ => none
  | k + 1, x3, x4, x6, x7, x9, x34, x35, x36, x46 => if x46 = true then (causal_letter.l0 k x3 x4 x9 x34 x35 (wrap64 (x36 + 1))) else (if 0 ≤ x7 then (if x7 < (x3.size : Int) then (if (bt x3 x7) = x9 then (causal_letter.l0 k x3 x4 x6 x34 x35 (wrap64 (x36 + 1))) else (some 0)) else (none)) else (none))
def causal_letter.f : Nat → Int → Int → ByteArray → List (S24) → Option (Int)
  | 0, _, _, _, _ => none
  | k + 1, a0_0, a0_1, a0_2, l0_3 => (causal_sort.f a0_0).bind fun t114 => ((strings_Cut.f t114 (⟨#[62]⟩ : ByteArray)).bind fun bt115 => (if bt115.2.2 = true then (if (bt115.1.size : Int) = (l0_3.length : Int) then ((causal_fields.f k a0_0 a0_1 a0_2 l0_3).bind fun t118 => (causal_letter.j0 k bt115.1 bt115.2.1 (!t118) a0_0 a0_1 a0_2 l0_3)) else (causal_letter.j0 k bt115.1 bt115.2.1 true a0_0 a0_1 a0_2 l0_3)) else (causal_letter.j0 k bt115.1 bt115.2.1 true a0_0 a0_1 a0_2 l0_3)))
end
theorem causal_letter.mono_l : ∀ k, (∀ y0 y1 y2 y3, LeO (causal_letter.f k y0 y1 y2 y3) (causal_letter.f (k + 1) y0 y1 y2 y3)) ∧ (∀ y0 y1 y2 y3 y4 y5 y6, LeO (causal_letter.j0 k y0 y1 y2 y3 y4 y5 y6) (causal_letter.j0 (k + 1) y0 y1 y2 y3 y4 y5 y6)) ∧ (∀ y0 y1 y2 y3 y4 y5, LeO (causal_letter.l0 k y0 y1 y2 y3 y4 y5) (causal_letter.l0 (k + 1) y0 y1 y2 y3 y4 y5)) ∧ (∀ y0 y1 y2 y3 y4 y5 y6 y7 y8, LeO (causal_letter.j2 k y0 y1 y2 y3 y4 y5 y6 y7 y8) (causal_letter.j2 (k + 1) y0 y1 y2 y3 y4 y5 y6 y7 y8))
  | 0 => ⟨fun _ _ _ _ r h => by simp [causal_letter.f] at h, fun _ _ _ _ _ _ _ r h => by simp [causal_letter.j0] at h, fun _ _ _ _ _ _ r h => by simp [causal_letter.l0] at h, fun _ _ _ _ _ _ _ _ _ r h => by simp [causal_letter.j2] at h⟩
  | k + 1 => by
    obtain ⟨ih0, ih1, ih2, ih3⟩ := causal_letter.mono_l k
    refine ⟨?_, ?_, ?_, ?_⟩
    · intro y0 y1 y2 y3
      unfold causal_letter.f
      repeat' first
      | (with_reducible exact ih0 _ _ _ _)
      | (with_reducible exact ih1 _ _ _ _ _ _ _)
      | (with_reducible exact ih2 _ _ _ _ _ _)
      | (with_reducible exact ih3 _ _ _ _ _ _ _ _ _)
      | (with_reducible exact causal_fields.mono _ _ _ _ _)
      | (with_reducible exact LeO.refl _)
      | (with_reducible exact LeO.none _)
      | (with_reducible refine LeO.ite ?_ ?_)
      | (with_reducible refine LeO.bind ?_ (fun _ => ?_))
      | exact ih0 _ _ _ _
      | exact ih1 _ _ _ _ _ _ _
      | exact ih2 _ _ _ _ _ _
      | exact ih3 _ _ _ _ _ _ _ _ _
      | exact causal_fields.mono _ _ _ _ _
      | exact LeO.none _
      | refine LeO.ite ?_ ?_
      | refine LeO.bind ?_ (fun _ => ?_)
    · intro y0 y1 y2 y3 y4 y5 y6
      unfold causal_letter.j0
      repeat' first
      | (with_reducible exact ih0 _ _ _ _)
      | (with_reducible exact ih1 _ _ _ _ _ _ _)
      | (with_reducible exact ih2 _ _ _ _ _ _)
      | (with_reducible exact ih3 _ _ _ _ _ _ _ _ _)
      | (with_reducible exact causal_fields.mono _ _ _ _ _)
      | (with_reducible exact LeO.refl _)
      | (with_reducible exact LeO.none _)
      | (with_reducible refine LeO.ite ?_ ?_)
      | (with_reducible refine LeO.bind ?_ (fun _ => ?_))
      | exact ih0 _ _ _ _
      | exact ih1 _ _ _ _ _ _ _
      | exact ih2 _ _ _ _ _ _
      | exact ih3 _ _ _ _ _ _ _ _ _
      | exact causal_fields.mono _ _ _ _ _
      | exact LeO.none _
      | refine LeO.ite ?_ ?_
      | refine LeO.bind ?_ (fun _ => ?_)
    · intro y0 y1 y2 y3 y4 y5
      unfold causal_letter.l0
      repeat' first
      | (with_reducible exact ih0 _ _ _ _)
      | (with_reducible exact ih1 _ _ _ _ _ _ _)
      | (with_reducible exact ih2 _ _ _ _ _ _)
      | (with_reducible exact ih3 _ _ _ _ _ _ _ _ _)
      | (with_reducible exact causal_fields.mono _ _ _ _ _)
      | (with_reducible exact LeO.refl _)
      | (with_reducible exact LeO.none _)
      | (with_reducible refine LeO.ite ?_ ?_)
      | (with_reducible refine LeO.bind ?_ (fun _ => ?_))
      | exact ih0 _ _ _ _
      | exact ih1 _ _ _ _ _ _ _
      | exact ih2 _ _ _ _ _ _
      | exact ih3 _ _ _ _ _ _ _ _ _
      | exact causal_fields.mono _ _ _ _ _
      | exact LeO.none _
      | refine LeO.ite ?_ ?_
      | refine LeO.bind ?_ (fun _ => ?_)
    · intro y0 y1 y2 y3 y4 y5 y6 y7 y8
      unfold causal_letter.j2
      repeat' first
      | (with_reducible exact ih0 _ _ _ _)
      | (with_reducible exact ih1 _ _ _ _ _ _ _)
      | (with_reducible exact ih2 _ _ _ _ _ _)
      | (with_reducible exact ih3 _ _ _ _ _ _ _ _ _)
      | (with_reducible exact causal_fields.mono _ _ _ _ _)
      | (with_reducible exact LeO.refl _)
      | (with_reducible exact LeO.none _)
      | (with_reducible refine LeO.ite ?_ ?_)
      | (with_reducible refine LeO.bind ?_ (fun _ => ?_))
      | exact ih0 _ _ _ _
      | exact ih1 _ _ _ _ _ _ _
      | exact ih2 _ _ _ _ _ _
      | exact ih3 _ _ _ _ _ _ _ _ _
      | exact causal_fields.mono _ _ _ _ _
      | exact LeO.none _
      | refine LeO.ite ?_ ?_
      | refine LeO.bind ?_ (fun _ => ?_)
set_option maxHeartbeats 8000000 in
set_option maxRecDepth 100000 in
theorem causal_letter.calls (k : Nat) : ∀ (a0_0 : Int) (a0_1 : Int) (a0_2 : ByteArray) (A0_3 : Option Addr) (c0_3 : Nat) (l0_3 : List (S24)) (r : Int) (w : World) (hr0_3 : Kd.C k24 w A0_3 l0_3.length l0_3) (hc0_3 : l0_3.length ≤ c0_3) (h : causal_letter.f k a0_0 a0_1 a0_2 l0_3 = some r),
    Calls Tryz.prog 130 #[.agg #[.int .i64 a0_0, .int .i64 a0_1, .string a0_2, .slice A0_3 l0_3.length c0_3]] w fun e w' => e = .returned (.int .u8 r) ∧ Below w.heap.size w w' := by
  induction k using Nat.strongRecOn with
  | _ k ih =>
  intro a0_0 a0_1 a0_2 A0_3 c0_3 l0_3 r w hr0_3 hc0_3 h
  cases k with
  | zero => exact absurd h (by simp [causal_letter.f])
  | succ k =>
  simp only [causal_letter.f] at h
  have hu24 := Tryz.underlying24
  have HR0_3 := Aside0.mk hr0_3
  have HC0_3 := Aside0.mk hc0_3
  clear hr0_3 hc0_3
  have HB := Aside0.mk (Below.refl w.heap.size w)
  have H : ((causal_sort.f a0_0).bind fun t114 => ((strings_Cut.f t114 (⟨#[62]⟩ : ByteArray)).bind fun bt115 => (if bt115.2.2 = true then (if (bt115.1.size : Int) = (l0_3.length : Int) then ((causal_fields.f k a0_0 a0_1 a0_2 l0_3).bind fun t118 => (causal_letter.j0 k bt115.1 bt115.2.1 (!t118) a0_0 a0_1 a0_2 l0_3)) else (causal_letter.j0 k bt115.1 bt115.2.1 true a0_0 a0_1 a0_2 l0_3)) else (causal_letter.j0 k bt115.1 bt115.2.1 true a0_0 a0_1 a0_2 l0_3)))) = some r := h
  clear h
  replace H := Option.bind_eq_some_iff.mp H
  obtain ⟨t114, A20, H⟩ := H
  replace H : ((strings_Cut.f t114 (⟨#[62]⟩ : ByteArray)).bind fun bt115 => (if bt115.2.2 = true then (if (bt115.1.size : Int) = (l0_3.length : Int) then ((causal_fields.f k a0_0 a0_1 a0_2 l0_3).bind fun t118 => (causal_letter.j0 k bt115.1 bt115.2.1 (!t118) a0_0 a0_1 a0_2 l0_3)) else (causal_letter.j0 k bt115.1 bt115.2.1 true a0_0 a0_1 a0_2 l0_3)) else (causal_letter.j0 k bt115.1 bt115.2.1 true a0_0 a0_1 a0_2 l0_3))) = some r := H
  have A2 := Aside0.mk A20
  clear A20
  replace H := Option.bind_eq_some_iff.mp H
  obtain ⟨⟨t115, t116, t117⟩, A30, H⟩ := H
  replace H : (if t117 = true then (if (t115.size : Int) = (l0_3.length : Int) then ((causal_fields.f k a0_0 a0_1 a0_2 l0_3).bind fun t118 => (causal_letter.j0 k t115 t116 (!t118) a0_0 a0_1 a0_2 l0_3)) else (causal_letter.j0 k t115 t116 true a0_0 a0_1 a0_2 l0_3)) else (causal_letter.j0 k t115 t116 true a0_0 a0_1 a0_2 l0_3)) = some r := H
  have A3 := Aside0.mk A30
  clear A30
  have HC4 := Aside0.mk H
  clear H
  go_enter Tryz.func130, Tryz.ntmps130
  go_upto_region 2 with (first | ((with_reducible refine gate_dst (N := 1) rfl ?_); (try (refine gate_guard (by rfl) ?_; dsimp only)); refine box_event ?hg (N := 1) ?hd (cs := #[.int .i64 a0_0, .int .i64 a0_1, .string a0_2, .slice A0_3 l0_3.length c0_3]) (t := 24) ?hr ?_; (case hd => rfl); (case hg => rfl); (case hr => first | (go_simp; done) | (go_simp; rfl)); intro gb113 hg w5 hbox hb; have n0_ := Aside0.mk (below_step (by repeat (first | (with_reducible first | exact HB.out | apply below_alloc | apply pw_below_drewN | apply below_drew1) | exact HB.out)) hb); have n1_ := Aside0.mk (hbox); have n2_ := Aside0.mk ((by rw [hg]; exact (below_size (by repeat (first | (with_reducible first | exact HB.out | apply below_alloc | apply pw_below_drewN | apply below_drew1) | exact HB.out))) : w.heap.size ≤ gb113)); have n3_ := Aside0.mk ((by rw [hg]; exact (below_size (by repeat (first | (with_reducible first | exact HB.out | apply below_alloc | apply pw_below_drewN | apply below_drew1) | exact HB.out))) : w.heap.size ≤ gb113)); clear HB; have HB := n0_; have BK113 := n1_; have GW113 := n2_; have GE113 := n3_; clear n0_ n1_ n2_ n3_; clear hb hbox hg; have hcz6_0 : w5.cell? ⟨gb113, 0, none⟩ = some (.int .i64 a0_0) := (blk_cell BK113.out 0).trans rfl; have hcz6_1 : w5.cell? ⟨gb113, 1, none⟩ = some (.int .i64 a0_1) := (blk_cell BK113.out 1).trans rfl; have hcz6_2 : w5.cell? ⟨gb113, 2, none⟩ = some (.string a0_2) := (blk_cell BK113.out 2).trans rfl; have hcz6_3 : w5.cell? ⟨gb113, 3, none⟩ = some (.slice A0_3 l0_3.length c0_3) := (blk_cell BK113.out 3).trans rfl; have hfz6_0 := blk_frozen BK113.out 0; have hfz6_1 := blk_frozen BK113.out 1; have hfz6_2 := blk_frozen BK113.out 2; have hfz6_3 := blk_frozen BK113.out 3) | ((with_reducible refine gate_callee (f := 186) rfl ?_); refine goesL_ (some 13) rfl rfl Tryz.func186 (by kernel_rfl) rfl #[.int .i64 a0_0] rfl (by (try simp only [List.map_toArray, List.map_cons, List.map_nil]); first | done | rfl | (simp only [List.length_drop, List.length_take]; rfl)) ?_; (with_reducible refine (causal_sort.calls a0_0 t114 _ A2.out).mono ?_); rintro e w7 ⟨rfl, hb⟩; refine ⟨_, rfl, ?_⟩; have n0_ := Aside0.mk (blk_below (g := gb113) (o := .cells #[.int .i64 a0_0, .int .i64 a0_1, .string a0_2, .slice A0_3 l0_3.length c0_3] 24 (0, 0)) (by (with_reducible repeat (first | refine blk_drewN ?_ _ | refine blk_drew ?_ | refine blk_alloc ?_ _)); exact BK113.out) hb); have n1_ := Aside0.mk (below_step (by repeat (first | (with_reducible first | exact HB.out | apply below_alloc | apply pw_below_drewN | apply below_drew1 | refine below_set ?_ GE113.out) | exact HB.out)) hb); clear BK113; clear HB; have BK113 := n0_; have HB := n1_; clear n0_ n1_; (try clear hb); (try clear hb2); (try clear hk); (try clear hi)) | ((with_reducible refine gate_callee (f := 185) rfl ?_); refine goesL_ (some 14) rfl rfl Tryz.func185 (by kernel_rfl) rfl #[.string t114, .string (⟨#[62]⟩ : ByteArray)] rfl (by (try simp only [List.map_toArray, List.map_cons, List.map_nil]); first | done | rfl | (simp only [List.length_drop, List.length_take]; rfl)) ?_; (with_reducible refine (strings_Cut.calls t114 (⟨#[62]⟩ : ByteArray) t115 t116 t117 _ A3.out).mono ?_); rintro e w8 ⟨rfl, hb⟩; refine ⟨_, rfl, ?_⟩; have n0_ := Aside0.mk (blk_below (g := gb113) (o := .cells #[.int .i64 a0_0, .int .i64 a0_1, .string a0_2, .slice A0_3 l0_3.length c0_3] 24 (0, 0)) (by (with_reducible repeat (first | refine blk_drewN ?_ _ | refine blk_drew ?_ | refine blk_alloc ?_ _)); exact BK113.out) hb); have n1_ := Aside0.mk (below_step (by repeat (first | (with_reducible first | exact HB.out | apply below_alloc | apply pw_below_drewN | apply below_drew1 | refine below_set ?_ GE113.out) | exact HB.out)) hb); clear BK113; clear HB; have BK113 := n0_; have HB := n1_; clear n0_ n1_; (try clear hb); (try clear hb2); (try clear hk); (try clear hi)))
  (try simp only [Act.put, List.setIfInBounds_toArray, List.set_cons_zero, List.set_cons_succ])
  go_cut [32] (fun v32 wc => ∃ (kq : Nat) (x32_3 : Bool), v32 = .bool x32_3 ∧ Aside0 (causal_letter.j0 kq t115 t116 x32_3 a0_0 a0_1 a0_2 l0_3 = some r) ∧ Aside0 (kq ≤ k) ∧ Aside0 (wc.heap[gb113]? = some (.cells #[.int .i64 a0_0, .int .i64 a0_1, .string a0_2, (.slice A0_3 l0_3.length c0_3)] 24 (0, 0))) ∧ Aside0 (Below w.heap.size w wc))
  case first =>
    have H := HC4.out
    clear HC4
    by_cases c9 : t117 = true
    · subst c9
      have H1 : (if (t115.size : Int) = (l0_3.length : Int) then ((causal_fields.f k a0_0 a0_1 a0_2 l0_3).bind fun t118 => (causal_letter.j0 k t115 t116 (!t118) a0_0 a0_1 a0_2 l0_3)) else (causal_letter.j0 k t115 t116 true a0_0 a0_1 a0_2 l0_3)) = some r := by rw [if_pos rfl] at H; exact H
      clear H
      have H := H1
      clear H1
      by_cases c10 : (t115.size : Int) = (l0_3.length : Int)
      · rw [if_pos c10] at H
        have c10b0 : ((t115.size : Int) == (l0_3.length : Int)) = true := beq_iff_eq.mpr c10
        have c10b1 : ((t115.size : Int) != (l0_3.length : Int)) = false := bne_eq_false_iff_eq.mpr c10
        have c10b2 : (t115.size == l0_3.length) = true := by first | simpa using c10 | (simp at c10 ⊢; omega)
        clear c10
        (first | rw [c10b0] | (simp only [i64_w, i32_w]; rw [c10b0]) | skip)
        replace H := Option.bind_eq_some_iff.mp H
        obtain ⟨t118, A110, H⟩ := H
        replace H : (causal_letter.j0 k t115 t116 (!t118) a0_0 a0_1 a0_2 l0_3) = some r := H
        have A11 := Aside0.mk A110
        clear A110
        have H' := Aside0.mk H
        clear H
        have hcz12_0 : w8.cell? ⟨gb113, 0, none⟩ = some (.int .i64 a0_0) := (blk_cell BK113.out 0).trans rfl
        have hcz12_1 : w8.cell? ⟨gb113, 1, none⟩ = some (.int .i64 a0_1) := (blk_cell BK113.out 1).trans rfl
        have hcz12_2 : w8.cell? ⟨gb113, 2, none⟩ = some (.string a0_2) := (blk_cell BK113.out 2).trans rfl
        have hcz12_3 : w8.cell? ⟨gb113, 3, none⟩ = some (.slice A0_3 l0_3.length c0_3) := (blk_cell BK113.out 3).trans rfl
        have hfz12_0 := blk_frozen BK113.out 0
        have hfz12_1 := blk_frozen BK113.out 1
        have hfz12_2 := blk_frozen BK113.out 2
        have hfz12_3 := blk_frozen BK113.out 3
        go_wp2_with (first | (go_at_call 187; (with_reducible refine (causal_fields.calls k a0_0 a0_1 a0_2 _ _ l0_3 t118 _ ?side1 ?side2 A11.out).mono ?_); (case side1 => repeat (first | exact (Kd.C_below HR0_3.out HB.out) | (with_reducible refine Kd.C_alloc ?_ _) | (with_reducible refine Kd.C_drewN ?_ _) | (with_reducible refine Kd.C_drew ?_))); (case side2 => exact HC0_3.out); rintro e w13 ⟨rfl, hb⟩; have n0_ := Aside0.mk (blk_below (g := gb113) (o := .cells #[.int .i64 a0_0, .int .i64 a0_1, .string a0_2, .slice A0_3 l0_3.length c0_3] 24 (0, 0)) (by (with_reducible repeat (first | refine blk_drewN ?_ _ | refine blk_drew ?_ | refine blk_alloc ?_ _)); exact BK113.out) hb); have n1_ := Aside0.mk (below_step (by repeat (first | (with_reducible first | exact HB.out | apply below_alloc | apply pw_below_drewN | apply below_drew1 | refine below_set ?_ GE113.out) | exact HB.out)) hb); clear BK113; clear HB; have BK113 := n0_; have HB := n1_; clear n0_ n1_; (try clear hb); (try clear hb2); (try clear hk); (try clear hi)))
        go_meet
        case rel => exact ⟨_, (!t118), (by first | rfl | (simp; done) | (simp [*]; done)), H', ⟨by first | omega | exact Nat.le_refl _⟩, ⟨by (with_reducible repeat (first | refine blk_drewN ?_ _ | refine blk_drew ?_ | refine blk_alloc ?_ _)); exact BK113.out⟩, ⟨by repeat (first | (with_reducible first | exact HB.out | apply below_alloc | apply pw_below_drewN | apply below_drew1 | refine below_set ?_ GE113.out) | exact HB.out)⟩⟩
      · rw [if_neg c10] at H
        have c10b0 : ((t115.size : Int) == (l0_3.length : Int)) = false := beq_eq_false_iff_ne.mpr c10
        have c10b1 : ((t115.size : Int) != (l0_3.length : Int)) = true := bne_iff_ne.mpr c10
        have c10b2 : (t115.size == l0_3.length) = false := by first | simpa using c10 | (simp at c10 ⊢; omega)
        (first | rw [c10b0] | (simp only [i64_w, i32_w]; rw [c10b0]) | skip)
        have H' := Aside0.mk H
        clear H
        have hcz14_0 : w8.cell? ⟨gb113, 0, none⟩ = some (.int .i64 a0_0) := (blk_cell BK113.out 0).trans rfl
        have hcz14_1 : w8.cell? ⟨gb113, 1, none⟩ = some (.int .i64 a0_1) := (blk_cell BK113.out 1).trans rfl
        have hcz14_2 : w8.cell? ⟨gb113, 2, none⟩ = some (.string a0_2) := (blk_cell BK113.out 2).trans rfl
        have hcz14_3 : w8.cell? ⟨gb113, 3, none⟩ = some (.slice A0_3 l0_3.length c0_3) := (blk_cell BK113.out 3).trans rfl
        have hfz14_0 := blk_frozen BK113.out 0
        have hfz14_1 := blk_frozen BK113.out 1
        have hfz14_2 := blk_frozen BK113.out 2
        have hfz14_3 := blk_frozen BK113.out 3
        go_wp2
        go_meet
        case rel => exact ⟨_, (true), (by first | rfl | (simp; done) | (simp [*]; done)), H', ⟨by first | omega | exact Nat.le_refl _⟩, ⟨by (with_reducible repeat (first | refine blk_drewN ?_ _ | refine blk_drew ?_ | refine blk_alloc ?_ _)); exact BK113.out⟩, ⟨by repeat (first | (with_reducible first | exact HB.out | apply below_alloc | apply pw_below_drewN | apply below_drew1 | refine below_set ?_ GE113.out) | exact HB.out)⟩⟩
    · replace c9 := Bool.eq_false_iff.mpr c9
      subst c9
      have H1 : (causal_letter.j0 k t115 t116 true a0_0 a0_1 a0_2 l0_3) = some r := by rw [if_neg (show ¬ (false = true) by decide)] at H; exact H
      clear H
      have H := H1
      clear H1
      have H' := Aside0.mk H
      clear H
      go_wp2
      go_meet
      case rel => exact ⟨_, (true), (by first | rfl | (simp; done) | (simp [*]; done)), H', ⟨by first | omega | exact Nat.le_refl _⟩, ⟨by (with_reducible repeat (first | refine blk_drewN ?_ _ | refine blk_drew ?_ | refine blk_alloc ?_ _)); exact BK113.out⟩, ⟨by repeat (first | (with_reducible first | exact HB.out | apply below_alloc | apply pw_below_drewN | apply below_drew1 | refine below_set ?_ GE113.out) | exact HB.out)⟩⟩
  case rest =>
    clear HC4
    try clear c1
    try clear p2
    try clear c9
    try clear c10
    try clear c10b0
    try clear c10b1
    try clear c10b2
    try clear c13
    try clear hcz12_0
    try clear hcz12_1
    try clear hcz12_2
    try clear hcz12_3
    try clear hcz14_0
    try clear hcz14_1
    try clear hcz14_2
    try clear hcz14_3
    try clear hcz6_0
    try clear hcz6_1
    try clear hcz6_2
    try clear hcz6_3
    try clear hfz12_0
    try clear hfz12_1
    try clear hfz12_2
    try clear hfz12_3
    try clear hfz14_0
    try clear hfz14_1
    try clear hfz14_2
    try clear hfz14_3
    try clear hfz6_0
    try clear hfz6_1
    try clear hfz6_2
    try clear hfz6_3
    obtain ⟨kq, x32_3, rfl, HA, HJ3, BK113, HB⟩ := hcut
    cases kq with
    | zero => exact absurd HA.out (by simp [causal_letter.j0])
    | succ kj3 =>
      have H := HA.out
      clear HA
      simp only [causal_letter.j0] at H
      by_cases c15 : x32_3 = true
      · subst c15
        have H1 : (some 0) = some r := by rw [if_pos rfl] at H; exact H
        clear H
        have H := H1
        clear H1
        obtain rfl := Option.some.inj H
        go_wp2
        go_ret
        exact ⟨by first | rfl | (simp [errW_none, errW_some] <;> rfl) | (simp [*, errW_none, errW_some] <;> rfl), by repeat (first | (with_reducible first | exact HB.out | apply below_alloc | apply pw_below_drewN | apply below_drew1 | refine below_set ?_ GE113.out) | exact HB.out)⟩
      · replace c15 := Bool.eq_false_iff.mpr c15
        subst c15
        have H1 : (causal_letter.l0 kj3 t115 t116 0 l0_3 (l0_3.length : Int) 0) = some r := by rw [if_neg (show ¬ (false = true) by decide)] at H; exact H
        clear H
        have H := H1
        clear H1
        have H' := Aside0.mk H
        clear H
        have hcz16_0 : wc.cell? ⟨gb113, 0, none⟩ = some (.int .i64 a0_0) := (blk_cell BK113.out 0).trans rfl
        have hcz16_1 : wc.cell? ⟨gb113, 1, none⟩ = some (.int .i64 a0_1) := (blk_cell BK113.out 1).trans rfl
        have hcz16_2 : wc.cell? ⟨gb113, 2, none⟩ = some (.string a0_2) := (blk_cell BK113.out 2).trans rfl
        have hcz16_3 : wc.cell? ⟨gb113, 3, none⟩ = some (.slice A0_3 l0_3.length c0_3) := (blk_cell BK113.out 3).trans rfl
        have hfz16_0 := blk_frozen BK113.out 0
        have hfz16_1 := blk_frozen BK113.out 1
        have hfz16_2 := blk_frozen BK113.out 2
        have hfz16_3 := blk_frozen BK113.out 3
        go_wp2
        go_loopg [6, 36] kj3 (fun kq v6 v36 w' => ∃ (x6_2 : Int) (x36_2 : Int), v6 = .int .u8 x6_2 ∧ v36 = .int .i64 x36_2 ∧ Aside0 (causal_letter.l0 kq t115 t116 x6_2 l0_3 (l0_3.length : Int) x36_2 = some r) ∧ Aside0 (kq ≤ kj3) ∧ Aside0 (w'.heap[gb113]? = some (.cells #[.int .i64 a0_0, .int .i64 a0_1, .string a0_2, (.slice A0_3 l0_3.length c0_3)] 24 (0, 0))) ∧ Aside0 (Below w.heap.size w w'))
        case atStart => exact ⟨(0), (0), (by first | rfl | (simp; done) | (simp [*]; done)), (by first | rfl | (simp; done) | (simp [*]; done)), H', ⟨Nat.le_refl _⟩, ⟨by (with_reducible repeat (first | refine blk_drewN ?_ _ | refine blk_drew ?_ | refine blk_alloc ?_ _)); exact BK113.out⟩, ⟨by repeat (first | (with_reducible first | exact HB.out | apply below_alloc | apply pw_below_drewN | apply below_drew1 | refine below_set ?_ GE113.out) | exact HB.out)⟩⟩
        case round =>
          clear H'
          try clear c1
          try clear p2
          try clear c9
          try clear c10
          try clear c10b0
          try clear c10b1
          try clear c10b2
          try clear c13
          try clear c15
          try clear hcz12_0
          try clear hcz12_1
          try clear hcz12_2
          try clear hcz12_3
          try clear hcz14_0
          try clear hcz14_1
          try clear hcz14_2
          try clear hcz14_3
          try clear hcz16_0
          try clear hcz16_1
          try clear hcz16_2
          try clear hcz16_3
          try clear hcz6_0
          try clear hcz6_1
          try clear hcz6_2
          try clear hcz6_3
          try clear hfz12_0
          try clear hfz12_1
          try clear hfz12_2
          try clear hfz12_3
          try clear hfz14_0
          try clear hfz14_1
          try clear hfz14_2
          try clear hfz14_3
          try clear hfz16_0
          try clear hfz16_1
          try clear hfz16_2
          try clear hfz16_3
          try clear hfz6_0
          try clear hfz6_1
          try clear hfz6_2
          try clear hfz6_3
          try clear p2
          obtain ⟨x6_2, x36_2, rfl, rfl, HA, HK2, BK113, HB⟩ := hrel
          cases gk with
          | zero => exact absurd HA.out (by simp [causal_letter.l0])
          | succ k2 =>
            have H := HA.out
            clear HA
            simp only [causal_letter.l0] at H
            by_cases c17 : x36_2 < (l0_3.length : Int)
            · rw [if_pos c17] at H
              have c17b0 : decide (x36_2 < (l0_3.length : Int)) = true := decide_eq_true c17
              clear c17
              by_cases c18 : 0 ≤ x36_2
              · rw [if_pos c18] at H
                have c18b0 : decide (0 ≤ x36_2) = true := decide_eq_true c18
                clear c18
                by_cases c19 : x36_2 < (l0_3.length : Int)
                · rw [if_pos c19] at H
                  have c19b0 : decide (x36_2 < (l0_3.length : Int)) = true := decide_eq_true c19
                  clear c19
                  replace H := Option.bind_eq_some_iff.mp H
                  obtain ⟨t121, A200, H⟩ := H
                  replace H : (if t121 = 0 then (some 0) else (if x36_2 < (t115.size : Int) then (if (bt t115 x36_2) = 120 then (if t121 = 99 then (causal_letter.j2 k2 t115 t116 x6_2 x36_2 t121 l0_3 (l0_3.length : Int) x36_2 false) else (if x6_2 = 0 then (causal_letter.j2 k2 t115 t116 x6_2 x36_2 t121 l0_3 (l0_3.length : Int) x36_2 true) else (causal_letter.j2 k2 t115 t116 x6_2 x36_2 t121 l0_3 (l0_3.length : Int) x36_2 (x6_2 == t121)))) else (causal_letter.j2 k2 t115 t116 x6_2 x36_2 t121 l0_3 (l0_3.length : Int) x36_2 false)) else (none))) = some r := H
                  have A20 := Aside0.mk A200
                  clear A200
                  by_cases c21 : t121 = 0
                  · rw [if_pos c21] at H
                    have c21b0 : (t121 == 0) = true := beq_iff_eq.mpr c21
                    have c21b1 : (t121 != 0) = false := bne_eq_false_iff_eq.mpr c21
                    clear c21
                    obtain rfl := Option.some.inj H
                    have p119 : 0 ≤ (x36_2 : Int) := of_decide_eq_true (by first | (with_reducible assumption) | assumption)
                    have q119 : x36_2 < (l0_3.length : Int) := of_decide_eq_true (by first | (with_reducible assumption) | assumption)
                    obtain ⟨ad119, A119_3, c119_3, e119, hx119_0, hx119_1, hx119_2, hx119_3, hl119_3, hi119_3⟩ := at_T24 HR0_3.out x36_2 p119 q119
                    cases e119
                    replace hx119_0 := (HB.out.cell (World.block_lt_of_cell? w _ hx119_0)).trans hx119_0
                    replace hx119_1 := (HB.out.cell (World.block_lt_of_cell? w _ hx119_1)).trans hx119_1
                    replace hx119_2 := (HB.out.cell (World.block_lt_of_cell? w _ hx119_2)).trans hx119_2
                    replace hx119_3 := (HB.out.cell (World.block_lt_of_cell? w _ hx119_3)).trans hx119_3
                    have HR119_3 := Aside0.mk hi119_3
                    have HC119_3 := Aside0.mk hl119_3
                    clear hi119_3 hl119_3
                    replace p119 := eq_true p119
                    replace q119 := eq_true q119
                    go_wp2_with (first | ((with_reducible refine gate_dst (N := 8) rfl ?_); (try (refine gate_guard (by rfl) ?_; dsimp only)); refine box_event ?hg (N := 8) ?hd (cs := #[.int .i64 0, .int .i64 0, .string (⟨#[]⟩ : ByteArray), .slice none 0 0]) (t := 24) ?hr ?_; (case hd => rfl); (case hg => rfl); (case hr => first | (go_simp; done) | (go_simp; rfl)); intro gb120 hg w22 hbox hb; have n0_ := Aside0.mk (blk_below (g := gb113) (o := .cells #[.int .i64 a0_0, .int .i64 a0_1, .string a0_2, .slice (some ad119) l0_3.length c0_3] 24 (0, 0)) (by (with_reducible repeat (first | refine blk_drewN ?_ _ | refine blk_drew ?_ | refine blk_alloc ?_ _)); exact BK113.out) hb); have n1_ := Aside0.mk (below_step (by repeat (first | (with_reducible first | exact HB.out | apply below_alloc | apply pw_below_drewN | apply below_drew1 | refine below_set ?_ GE113.out) | exact HB.out)) hb); have n2_ := Aside0.mk (hbox); have n3_ := Aside0.mk ((by rw [hg]; exact (below_size (by repeat (first | (with_reducible first | exact HB.out | apply below_alloc | apply pw_below_drewN | apply below_drew1 | refine below_set ?_ GE113.out) | exact HB.out))) : w.heap.size ≤ gb120)); have n4_ := Aside0.mk ((by rw [hg]; exact (below_size (by repeat (first | (with_reducible first | exact HB.out | apply below_alloc | apply pw_below_drewN | apply below_drew1 | refine below_set ?_ GE113.out) | exact HB.out))) : w.heap.size ≤ gb120)); have n5_ := Aside0.mk ((by rw [hg]; exact Nat.ne_of_lt (blk_lt (g := gb113) (o := .cells #[.int .i64 a0_0, .int .i64 a0_1, .string a0_2, .slice (some ad119) l0_3.length c0_3] 24 (0, 0)) (by (with_reducible repeat (first | refine blk_drewN ?_ _ | refine blk_drew ?_ | refine blk_alloc ?_ _)); exact BK113.out)) : gb113 ≠ gb120)); have n6_ := Aside0.mk ((by rw [hg]; exact Nat.ne_of_gt (blk_lt (g := gb113) (o := .cells #[.int .i64 a0_0, .int .i64 a0_1, .string a0_2, .slice (some ad119) l0_3.length c0_3] 24 (0, 0)) (by (with_reducible repeat (first | refine blk_drewN ?_ _ | refine blk_drew ?_ | refine blk_alloc ?_ _)); exact BK113.out)) : gb120 ≠ gb113)); clear BK113; clear HB; have BK113 := n0_; have HB := n1_; have BK120 := n2_; have GW120 := n3_; have GE120 := n4_; have NB113_120 := n5_; have NB120_113 := n6_; clear n0_ n1_ n2_ n3_ n4_ n5_ n6_; clear hb hbox hg; have hnb23 := NB120_113.out; have hnc23 := NB113_120.out; have hcz24_0 : w22.cell? ⟨gb120, 0, none⟩ = some (.int .i64 0) := (blk_cell BK120.out 0).trans rfl; have hcz24_1 : w22.cell? ⟨gb120, 1, none⟩ = some (.int .i64 0) := (blk_cell BK120.out 1).trans rfl; have hcz24_2 : w22.cell? ⟨gb120, 2, none⟩ = some (.string (⟨#[]⟩ : ByteArray)) := (blk_cell BK120.out 2).trans rfl; have hcz24_3 : w22.cell? ⟨gb120, 3, none⟩ = some (.slice none 0 0) := (blk_cell BK120.out 3).trans rfl; have hfz24_0 := blk_frozen BK120.out 0; have hfz24_1 := blk_frozen BK120.out 1; have hfz24_2 := blk_frozen BK120.out 2; have hfz24_3 := blk_frozen BK120.out 3) | ((with_reducible refine gate_callee (f := 130) rfl ?_); refine goesL_ (some 42) rfl rfl Tryz.func130 (by kernel_rfl) rfl #[.agg #[.int .i64 ((rd_T24 l0_3 x36_2).f0), .int .i64 ((rd_T24 l0_3 x36_2).f1), .string ((rd_T24 l0_3 x36_2).f2), .slice A119_3 ((rd_T24 l0_3 x36_2).f3).length c119_3]] rfl (by (try simp only [List.map_toArray, List.map_cons, List.map_nil]); first | done | rfl | (simp only [List.length_drop, List.length_take]; rfl)) ?_; (with_reducible refine (ih k2 (by have := HJ3.out; have := HK2.out; omega) ((rd_T24 l0_3 x36_2).f0) ((rd_T24 l0_3 x36_2).f1) ((rd_T24 l0_3 x36_2).f2) _ _ ((rd_T24 l0_3 x36_2).f3) t121 _ ?side1 ?side2 A20.out).mono ?_); (case side1 => exact Kd.C_below HR119_3.out (by repeat (first | (with_reducible first | exact HB.out | apply below_alloc | apply pw_below_drewN | apply below_drew1 | refine below_set ?_ GE113.out | refine below_set ?_ GE120.out) | exact HB.out))); (case side2 => exact HC119_3.out); rintro e w25 ⟨rfl, hb⟩; refine ⟨_, rfl, ?_⟩; have n0_ := Aside0.mk (blk_below (g := gb113) (o := .cells #[.int .i64 a0_0, .int .i64 a0_1, .string a0_2, .slice (some ad119) l0_3.length c0_3] 24 (0, 0)) (by (with_reducible repeat (first | refine blk_drewN ?_ _ | refine blk_drew ?_ | refine blk_alloc ?_ _)); refine blk_far ?_ NB113_120.out _; (with_reducible repeat (first | refine blk_drewN ?_ _ | refine blk_drew ?_ | refine blk_alloc ?_ _)); refine blk_far ?_ NB113_120.out _; (with_reducible repeat (first | refine blk_drewN ?_ _ | refine blk_drew ?_ | refine blk_alloc ?_ _)); refine blk_far ?_ NB113_120.out _; (with_reducible repeat (first | refine blk_drewN ?_ _ | refine blk_drew ?_ | refine blk_alloc ?_ _)); refine blk_far ?_ NB113_120.out _; (with_reducible repeat (first | refine blk_drewN ?_ _ | refine blk_drew ?_ | refine blk_alloc ?_ _)); exact BK113.out) hb); have n1_ := Aside0.mk (blk_below (g := gb120) (o := .cells #[.int .i64 ((rd_T24 l0_3 x36_2).f0), .int .i64 ((rd_T24 l0_3 x36_2).f1), .string ((rd_T24 l0_3 x36_2).f2), .slice A119_3 ((rd_T24 l0_3 x36_2).f3).length c119_3] 24 (0, 0)) (by (with_reducible repeat (first | refine blk_drewN ?_ _ | refine blk_drew ?_ | refine blk_alloc ?_ _)); refine blk_put (cs := #[.int .i64 ((rd_T24 l0_3 x36_2).f0), .int .i64 ((rd_T24 l0_3 x36_2).f1), .string ((rd_T24 l0_3 x36_2).f2), .slice none 0 0]) ?_ 3 _ rfl; (with_reducible repeat (first | refine blk_drewN ?_ _ | refine blk_drew ?_ | refine blk_alloc ?_ _)); refine blk_put (cs := #[.int .i64 ((rd_T24 l0_3 x36_2).f0), .int .i64 ((rd_T24 l0_3 x36_2).f1), .string (⟨#[]⟩ : ByteArray), .slice none 0 0]) ?_ 2 _ rfl; (with_reducible repeat (first | refine blk_drewN ?_ _ | refine blk_drew ?_ | refine blk_alloc ?_ _)); refine blk_put (cs := #[.int .i64 ((rd_T24 l0_3 x36_2).f0), .int .i64 0, .string (⟨#[]⟩ : ByteArray), .slice none 0 0]) ?_ 1 _ rfl; (with_reducible repeat (first | refine blk_drewN ?_ _ | refine blk_drew ?_ | refine blk_alloc ?_ _)); refine blk_put (cs := #[.int .i64 0, .int .i64 0, .string (⟨#[]⟩ : ByteArray), .slice none 0 0]) ?_ 0 _ rfl; (with_reducible repeat (first | refine blk_drewN ?_ _ | refine blk_drew ?_ | refine blk_alloc ?_ _)); exact BK120.out) hb); have n2_ := Aside0.mk (below_step (by repeat (first | (with_reducible first | exact HB.out | apply below_alloc | apply pw_below_drewN | apply below_drew1 | refine below_set ?_ GE113.out | refine below_set ?_ GE120.out) | exact HB.out)) hb); clear BK113; clear BK120; clear HB; have BK113 := n0_; have BK120 := n1_; have HB := n2_; clear n0_ n1_ n2_; (try clear hb); (try clear hb2); (try clear hk); (try clear hi)))
                    go_ret
                    exact ⟨by first | rfl | (simp [errW_none, errW_some] <;> rfl) | (simp [*, errW_none, errW_some] <;> rfl), by repeat (first | (with_reducible first | exact HB.out | apply below_alloc | apply pw_below_drewN | apply below_drew1 | refine below_set ?_ GE113.out | refine below_set ?_ GE120.out) | exact HB.out)⟩
                  · rw [if_neg c21] at H
                    have c21b0 : (t121 == 0) = false := beq_eq_false_iff_ne.mpr c21
                    have c21b1 : (t121 != 0) = true := bne_iff_ne.mpr c21
                    have HC26 := Aside0.mk H
                    clear H
                    have p119 : 0 ≤ (x36_2 : Int) := of_decide_eq_true (by first | (with_reducible assumption) | assumption)
                    have q119 : x36_2 < (l0_3.length : Int) := of_decide_eq_true (by first | (with_reducible assumption) | assumption)
                    obtain ⟨ad119, A119_3, c119_3, e119, hx119_0, hx119_1, hx119_2, hx119_3, hl119_3, hi119_3⟩ := at_T24 HR0_3.out x36_2 p119 q119
                    cases e119
                    replace hx119_0 := (HB.out.cell (World.block_lt_of_cell? w _ hx119_0)).trans hx119_0
                    replace hx119_1 := (HB.out.cell (World.block_lt_of_cell? w _ hx119_1)).trans hx119_1
                    replace hx119_2 := (HB.out.cell (World.block_lt_of_cell? w _ hx119_2)).trans hx119_2
                    replace hx119_3 := (HB.out.cell (World.block_lt_of_cell? w _ hx119_3)).trans hx119_3
                    have HR119_3 := Aside0.mk hi119_3
                    have HC119_3 := Aside0.mk hl119_3
                    clear hi119_3 hl119_3
                    replace p119 := eq_true p119
                    replace q119 := eq_true q119
                    go_upto_region 11 with (first | ((with_reducible refine gate_dst (N := 8) rfl ?_); (try (refine gate_guard (by rfl) ?_; dsimp only)); refine box_event ?hg (N := 8) ?hd (cs := #[.int .i64 0, .int .i64 0, .string (⟨#[]⟩ : ByteArray), .slice none 0 0]) (t := 24) ?hr ?_; (case hd => rfl); (case hg => rfl); (case hr => first | (go_simp; done) | (go_simp; rfl)); intro gb120 hg w27 hbox hb; have n0_ := Aside0.mk (blk_below (g := gb113) (o := .cells #[.int .i64 a0_0, .int .i64 a0_1, .string a0_2, .slice (some ad119) l0_3.length c0_3] 24 (0, 0)) (by (with_reducible repeat (first | refine blk_drewN ?_ _ | refine blk_drew ?_ | refine blk_alloc ?_ _)); exact BK113.out) hb); have n1_ := Aside0.mk (below_step (by repeat (first | (with_reducible first | exact HB.out | apply below_alloc | apply pw_below_drewN | apply below_drew1 | refine below_set ?_ GE113.out) | exact HB.out)) hb); have n2_ := Aside0.mk (hbox); have n3_ := Aside0.mk ((by rw [hg]; exact (below_size (by repeat (first | (with_reducible first | exact HB.out | apply below_alloc | apply pw_below_drewN | apply below_drew1 | refine below_set ?_ GE113.out) | exact HB.out))) : w.heap.size ≤ gb120)); have n4_ := Aside0.mk ((by rw [hg]; exact (below_size (by repeat (first | (with_reducible first | exact HB.out | apply below_alloc | apply pw_below_drewN | apply below_drew1 | refine below_set ?_ GE113.out) | exact HB.out))) : w.heap.size ≤ gb120)); have n5_ := Aside0.mk ((by rw [hg]; exact Nat.ne_of_lt (blk_lt (g := gb113) (o := .cells #[.int .i64 a0_0, .int .i64 a0_1, .string a0_2, .slice (some ad119) l0_3.length c0_3] 24 (0, 0)) (by (with_reducible repeat (first | refine blk_drewN ?_ _ | refine blk_drew ?_ | refine blk_alloc ?_ _)); exact BK113.out)) : gb113 ≠ gb120)); have n6_ := Aside0.mk ((by rw [hg]; exact Nat.ne_of_gt (blk_lt (g := gb113) (o := .cells #[.int .i64 a0_0, .int .i64 a0_1, .string a0_2, .slice (some ad119) l0_3.length c0_3] 24 (0, 0)) (by (with_reducible repeat (first | refine blk_drewN ?_ _ | refine blk_drew ?_ | refine blk_alloc ?_ _)); exact BK113.out)) : gb120 ≠ gb113)); clear BK113; clear HB; have BK113 := n0_; have HB := n1_; have BK120 := n2_; have GW120 := n3_; have GE120 := n4_; have NB113_120 := n5_; have NB120_113 := n6_; clear n0_ n1_ n2_ n3_ n4_ n5_ n6_; clear hb hbox hg; have hnb28 := NB120_113.out; have hnc28 := NB113_120.out; have hcz29_0 : w27.cell? ⟨gb120, 0, none⟩ = some (.int .i64 0) := (blk_cell BK120.out 0).trans rfl; have hcz29_1 : w27.cell? ⟨gb120, 1, none⟩ = some (.int .i64 0) := (blk_cell BK120.out 1).trans rfl; have hcz29_2 : w27.cell? ⟨gb120, 2, none⟩ = some (.string (⟨#[]⟩ : ByteArray)) := (blk_cell BK120.out 2).trans rfl; have hcz29_3 : w27.cell? ⟨gb120, 3, none⟩ = some (.slice none 0 0) := (blk_cell BK120.out 3).trans rfl; have hfz29_0 := blk_frozen BK120.out 0; have hfz29_1 := blk_frozen BK120.out 1; have hfz29_2 := blk_frozen BK120.out 2; have hfz29_3 := blk_frozen BK120.out 3) | ((with_reducible refine gate_callee (f := 130) rfl ?_); refine goesL_ (some 42) rfl rfl Tryz.func130 (by kernel_rfl) rfl #[.agg #[.int .i64 ((rd_T24 l0_3 x36_2).f0), .int .i64 ((rd_T24 l0_3 x36_2).f1), .string ((rd_T24 l0_3 x36_2).f2), .slice A119_3 ((rd_T24 l0_3 x36_2).f3).length c119_3]] rfl (by (try simp only [List.map_toArray, List.map_cons, List.map_nil]); first | done | rfl | (simp only [List.length_drop, List.length_take]; rfl)) ?_; (with_reducible refine (ih k2 (by have := HJ3.out; have := HK2.out; omega) ((rd_T24 l0_3 x36_2).f0) ((rd_T24 l0_3 x36_2).f1) ((rd_T24 l0_3 x36_2).f2) _ _ ((rd_T24 l0_3 x36_2).f3) t121 _ ?side1 ?side2 A20.out).mono ?_); (case side1 => exact Kd.C_below HR119_3.out (by repeat (first | (with_reducible first | exact HB.out | apply below_alloc | apply pw_below_drewN | apply below_drew1 | refine below_set ?_ GE113.out | refine below_set ?_ GE120.out) | exact HB.out))); (case side2 => exact HC119_3.out); rintro e w30 ⟨rfl, hb⟩; refine ⟨_, rfl, ?_⟩; have n0_ := Aside0.mk (blk_below (g := gb113) (o := .cells #[.int .i64 a0_0, .int .i64 a0_1, .string a0_2, .slice (some ad119) l0_3.length c0_3] 24 (0, 0)) (by (with_reducible repeat (first | refine blk_drewN ?_ _ | refine blk_drew ?_ | refine blk_alloc ?_ _)); refine blk_far ?_ NB113_120.out _; (with_reducible repeat (first | refine blk_drewN ?_ _ | refine blk_drew ?_ | refine blk_alloc ?_ _)); refine blk_far ?_ NB113_120.out _; (with_reducible repeat (first | refine blk_drewN ?_ _ | refine blk_drew ?_ | refine blk_alloc ?_ _)); refine blk_far ?_ NB113_120.out _; (with_reducible repeat (first | refine blk_drewN ?_ _ | refine blk_drew ?_ | refine blk_alloc ?_ _)); refine blk_far ?_ NB113_120.out _; (with_reducible repeat (first | refine blk_drewN ?_ _ | refine blk_drew ?_ | refine blk_alloc ?_ _)); exact BK113.out) hb); have n1_ := Aside0.mk (blk_below (g := gb120) (o := .cells #[.int .i64 ((rd_T24 l0_3 x36_2).f0), .int .i64 ((rd_T24 l0_3 x36_2).f1), .string ((rd_T24 l0_3 x36_2).f2), .slice A119_3 ((rd_T24 l0_3 x36_2).f3).length c119_3] 24 (0, 0)) (by (with_reducible repeat (first | refine blk_drewN ?_ _ | refine blk_drew ?_ | refine blk_alloc ?_ _)); refine blk_put (cs := #[.int .i64 ((rd_T24 l0_3 x36_2).f0), .int .i64 ((rd_T24 l0_3 x36_2).f1), .string ((rd_T24 l0_3 x36_2).f2), .slice none 0 0]) ?_ 3 _ rfl; (with_reducible repeat (first | refine blk_drewN ?_ _ | refine blk_drew ?_ | refine blk_alloc ?_ _)); refine blk_put (cs := #[.int .i64 ((rd_T24 l0_3 x36_2).f0), .int .i64 ((rd_T24 l0_3 x36_2).f1), .string (⟨#[]⟩ : ByteArray), .slice none 0 0]) ?_ 2 _ rfl; (with_reducible repeat (first | refine blk_drewN ?_ _ | refine blk_drew ?_ | refine blk_alloc ?_ _)); refine blk_put (cs := #[.int .i64 ((rd_T24 l0_3 x36_2).f0), .int .i64 0, .string (⟨#[]⟩ : ByteArray), .slice none 0 0]) ?_ 1 _ rfl; (with_reducible repeat (first | refine blk_drewN ?_ _ | refine blk_drew ?_ | refine blk_alloc ?_ _)); refine blk_put (cs := #[.int .i64 0, .int .i64 0, .string (⟨#[]⟩ : ByteArray), .slice none 0 0]) ?_ 0 _ rfl; (with_reducible repeat (first | refine blk_drewN ?_ _ | refine blk_drew ?_ | refine blk_alloc ?_ _)); exact BK120.out) hb); have n2_ := Aside0.mk (below_step (by repeat (first | (with_reducible first | exact HB.out | apply below_alloc | apply pw_below_drewN | apply below_drew1 | refine below_set ?_ GE113.out | refine below_set ?_ GE120.out) | exact HB.out)) hb); clear BK113; clear BK120; clear HB; have BK113 := n0_; have BK120 := n1_; have HB := n2_; clear n0_ n1_ n2_; (try clear hb); (try clear hb2); (try clear hk); (try clear hi)))
                    (try simp only [Act.put, List.setIfInBounds_toArray, List.set_cons_zero, List.set_cons_succ])
                    go_cut [46] (fun v46 wc => ∃ (kq : Nat) (x46_25 : Bool), v46 = .bool x46_25 ∧ Aside0 (causal_letter.j2 kq t115 t116 x6_2 x36_2 t121 l0_3 (l0_3.length : Int) x36_2 x46_25 = some r) ∧ Aside0 (kq ≤ k2) ∧ Aside0 (wc.heap[gb113]? = some (.cells #[.int .i64 a0_0, .int .i64 a0_1, .string a0_2, (.slice (some ad119) l0_3.length c0_3)] 24 (0, 0))) ∧ Aside0 (wc.heap[gb120]? = some (.cells #[.int .i64 ((rd_T24 l0_3 x36_2).f0), .int .i64 ((rd_T24 l0_3 x36_2).f1), .string ((rd_T24 l0_3 x36_2).f2), (.slice A119_3 ((rd_T24 l0_3 x36_2).f3).length c119_3)] 24 (0, 0))) ∧ Aside0 (Below w.heap.size w wc))
                    case first =>
                      have H := HC26.out
                      clear HC26
                      by_cases c31 : x36_2 < (t115.size : Int)
                      · rw [if_pos c31] at H
                        have c31b0 : decide (x36_2 < (t115.size : Int)) = true := decide_eq_true c31
                        clear c31
                        (first | rw [c31b0] | (simp only [i64_w, i32_w]; rw [c31b0]) | skip)
                        by_cases c33 : (bt t115 x36_2) = 120
                        · rw [if_pos c33] at H
                          have c33b0 : ((bt t115 x36_2) == 120) = true := beq_iff_eq.mpr c33
                          have c33b1 : ((bt t115 x36_2) != 120) = false := bne_eq_false_iff_eq.mpr c33
                          clear c33
                          by_cases c34 : t121 = 99
                          · rw [if_pos c34] at H
                            have c34b0 : (t121 == 99) = true := beq_iff_eq.mpr c34
                            have c34b1 : (t121 != 99) = false := bne_eq_false_iff_eq.mpr c34
                            clear c34
                            have H' := Aside0.mk H
                            clear H
                            have p32 : 0 ≤ (x36_2 : Int) := of_decide_eq_true (by first | (with_reducible assumption) | assumption)
                            have q32 : x36_2 < (t115.size : Int) := of_decide_eq_true (by first | (with_reducible assumption) | assumption)
                            have hx32 := bt_at t115 x36_2
                            replace p32 := eq_true p32
                            replace q32 := eq_true q32
                            go_wp2
                            go_meet
                            case rel => exact ⟨_, (false), (by first | rfl | (simp; done) | (simp [*]; done)), H', ⟨by have := HJ3.out; have := HK2.out; first | omega | exact Nat.le_refl _⟩, ⟨by (with_reducible repeat (first | refine blk_drewN ?_ _ | refine blk_drew ?_ | refine blk_alloc ?_ _)); exact BK113.out⟩, ⟨by (with_reducible repeat (first | refine blk_drewN ?_ _ | refine blk_drew ?_ | refine blk_alloc ?_ _)); exact BK120.out⟩, ⟨by repeat (first | (with_reducible first | exact HB.out | apply below_alloc | apply pw_below_drewN | apply below_drew1 | refine below_set ?_ GE113.out | refine below_set ?_ GE120.out) | exact HB.out)⟩⟩
                          · rw [if_neg c34] at H
                            have c34b0 : (t121 == 99) = false := beq_eq_false_iff_ne.mpr c34
                            have c34b1 : (t121 != 99) = true := bne_iff_ne.mpr c34
                            by_cases c35 : x6_2 = 0
                            · rw [if_pos c35] at H
                              have c35b0 : (x6_2 == 0) = true := beq_iff_eq.mpr c35
                              have c35b1 : (x6_2 != 0) = false := bne_eq_false_iff_eq.mpr c35
                              clear c35
                              have H' := Aside0.mk H
                              clear H
                              have p32 : 0 ≤ (x36_2 : Int) := of_decide_eq_true (by first | (with_reducible assumption) | assumption)
                              have q32 : x36_2 < (t115.size : Int) := of_decide_eq_true (by first | (with_reducible assumption) | assumption)
                              have hx32 := bt_at t115 x36_2
                              replace p32 := eq_true p32
                              replace q32 := eq_true q32
                              go_wp2
                              go_meet
                              case rel => exact ⟨_, (true), (by first | rfl | (simp; done) | (simp [*]; done)), H', ⟨by have := HJ3.out; have := HK2.out; first | omega | exact Nat.le_refl _⟩, ⟨by (with_reducible repeat (first | refine blk_drewN ?_ _ | refine blk_drew ?_ | refine blk_alloc ?_ _)); exact BK113.out⟩, ⟨by (with_reducible repeat (first | refine blk_drewN ?_ _ | refine blk_drew ?_ | refine blk_alloc ?_ _)); exact BK120.out⟩, ⟨by repeat (first | (with_reducible first | exact HB.out | apply below_alloc | apply pw_below_drewN | apply below_drew1 | refine below_set ?_ GE113.out | refine below_set ?_ GE120.out) | exact HB.out)⟩⟩
                            · rw [if_neg c35] at H
                              have c35b0 : (x6_2 == 0) = false := beq_eq_false_iff_ne.mpr c35
                              have c35b1 : (x6_2 != 0) = true := bne_iff_ne.mpr c35
                              have H' := Aside0.mk H
                              clear H
                              have p32 : 0 ≤ (x36_2 : Int) := of_decide_eq_true (by first | (with_reducible assumption) | assumption)
                              have q32 : x36_2 < (t115.size : Int) := of_decide_eq_true (by first | (with_reducible assumption) | assumption)
                              have hx32 := bt_at t115 x36_2
                              replace p32 := eq_true p32
                              replace q32 := eq_true q32
                              go_wp2
                              go_meet
                              case rel => exact ⟨_, ((x6_2 == t121)), (by first | rfl | (simp; done) | (simp [*]; done)), H', ⟨by have := HJ3.out; have := HK2.out; first | omega | exact Nat.le_refl _⟩, ⟨by (with_reducible repeat (first | refine blk_drewN ?_ _ | refine blk_drew ?_ | refine blk_alloc ?_ _)); exact BK113.out⟩, ⟨by (with_reducible repeat (first | refine blk_drewN ?_ _ | refine blk_drew ?_ | refine blk_alloc ?_ _)); exact BK120.out⟩, ⟨by repeat (first | (with_reducible first | exact HB.out | apply below_alloc | apply pw_below_drewN | apply below_drew1 | refine below_set ?_ GE113.out | refine below_set ?_ GE120.out) | exact HB.out)⟩⟩
                        · rw [if_neg c33] at H
                          have c33b0 : ((bt t115 x36_2) == 120) = false := beq_eq_false_iff_ne.mpr c33
                          have c33b1 : ((bt t115 x36_2) != 120) = true := bne_iff_ne.mpr c33
                          have H' := Aside0.mk H
                          clear H
                          have p32 : 0 ≤ (x36_2 : Int) := of_decide_eq_true (by first | (with_reducible assumption) | assumption)
                          have q32 : x36_2 < (t115.size : Int) := of_decide_eq_true (by first | (with_reducible assumption) | assumption)
                          have hx32 := bt_at t115 x36_2
                          replace p32 := eq_true p32
                          replace q32 := eq_true q32
                          go_wp2
                          go_meet
                          case rel => exact ⟨_, (false), (by first | rfl | (simp; done) | (simp [*]; done)), H', ⟨by have := HJ3.out; have := HK2.out; first | omega | exact Nat.le_refl _⟩, ⟨by (with_reducible repeat (first | refine blk_drewN ?_ _ | refine blk_drew ?_ | refine blk_alloc ?_ _)); exact BK113.out⟩, ⟨by (with_reducible repeat (first | refine blk_drewN ?_ _ | refine blk_drew ?_ | refine blk_alloc ?_ _)); exact BK120.out⟩, ⟨by repeat (first | (with_reducible first | exact HB.out | apply below_alloc | apply pw_below_drewN | apply below_drew1 | refine below_set ?_ GE113.out | refine below_set ?_ GE120.out) | exact HB.out)⟩⟩
                      · rw [if_neg c31] at H
                        exact absurd H (by simp)
                    case rest =>
                      clear HC26
                      try clear c1
                      try clear p1
                      try clear q1
                      try clear hx1
                      try clear c2
                      try clear p2
                      try clear c3
                      try clear p3
                      try clear q3
                      try clear hx3
                      try clear c9
                      try clear c10
                      try clear c10b0
                      try clear c10b1
                      try clear c10b2
                      try clear c11
                      try clear p11
                      try clear q11
                      try clear hx11
                      try clear c13
                      try clear c15
                      try clear c17
                      try clear c17b0
                      try clear c18
                      try clear c18b0
                      try clear c19
                      try clear c19b0
                      try clear c21
                      try clear c21b0
                      try clear c21b1
                      try clear c23
                      try clear c28
                      try clear c31
                      try clear c31b0
                      try clear p32
                      try clear q32
                      try clear hx32
                      try clear c33
                      try clear c33b0
                      try clear c33b1
                      try clear c34
                      try clear c34b0
                      try clear c34b1
                      try clear c35
                      try clear c35b0
                      try clear c35b1
                      try clear hcz12_0
                      try clear hcz12_1
                      try clear hcz12_2
                      try clear hcz12_3
                      try clear hcz14_0
                      try clear hcz14_1
                      try clear hcz14_2
                      try clear hcz14_3
                      try clear hcz16_0
                      try clear hcz16_1
                      try clear hcz16_2
                      try clear hcz16_3
                      try clear hcz24_0
                      try clear hcz24_1
                      try clear hcz24_2
                      try clear hcz24_3
                      try clear hcz29_0
                      try clear hcz29_1
                      try clear hcz29_2
                      try clear hcz29_3
                      try clear hcz6_0
                      try clear hcz6_1
                      try clear hcz6_2
                      try clear hcz6_3
                      try clear hfz12_0
                      try clear hfz12_1
                      try clear hfz12_2
                      try clear hfz12_3
                      try clear hfz14_0
                      try clear hfz14_1
                      try clear hfz14_2
                      try clear hfz14_3
                      try clear hfz16_0
                      try clear hfz16_1
                      try clear hfz16_2
                      try clear hfz16_3
                      try clear hfz24_0
                      try clear hfz24_1
                      try clear hfz24_2
                      try clear hfz24_3
                      try clear hfz29_0
                      try clear hfz29_1
                      try clear hfz29_2
                      try clear hfz29_3
                      try clear hfz6_0
                      try clear hfz6_1
                      try clear hfz6_2
                      try clear hfz6_3
                      try clear hx119_0
                      try clear hx119_1
                      try clear hx119_2
                      try clear hx119_3
                      try clear p119
                      try clear p2
                      try clear p32
                      try clear q119
                      try clear q32
                      obtain ⟨kq, x46_25, rfl, HA, HJ25, BK113, BK120, HB⟩ := hcut
                      cases kq with
                      | zero => exact absurd HA.out (by simp [causal_letter.j2])
                      | succ kj25 =>
                        have H := HA.out
                        clear HA
                        simp only [causal_letter.j2] at H
                        by_cases c36 : x46_25 = true
                        · subst c36
                          have H1 : (causal_letter.l0 kj25 t115 t116 t121 l0_3 (l0_3.length : Int) (wrap64 (x36_2 + 1))) = some r := by rw [if_pos rfl] at H; exact H
                          clear H
                          have H := H1
                          clear H1
                          have H' := Aside0.mk H
                          clear H
                          go_wp2
                          go_roundg kj25
                          case measure => have := HJ3.out; have := HK2.out; have := HJ25.out; omega
                          case rel => exact ⟨(t121), (wrap64 (x36_2 + 1)), (by first | rfl | (simp; done) | (simp [*]; done)), (by first | rfl | (simp; done) | (simp [*]; done)), H', ⟨by have := HJ3.out; have := HK2.out; have := HJ25.out; omega⟩, ⟨by (with_reducible repeat (first | refine blk_drewN ?_ _ | refine blk_drew ?_ | refine blk_alloc ?_ _)); exact BK113.out⟩, ⟨by repeat (first | (with_reducible first | exact HB.out | apply below_alloc | apply pw_below_drewN | apply below_drew1 | refine below_set ?_ GE113.out | refine below_set ?_ GE120.out) | exact HB.out)⟩⟩
                        · replace c36 := Bool.eq_false_iff.mpr c36
                          subst c36
                          have H1 : (if 0 ≤ x36_2 then (if x36_2 < (t115.size : Int) then (if (bt t115 x36_2) = t121 then (causal_letter.l0 kj25 t115 t116 x6_2 l0_3 (l0_3.length : Int) (wrap64 (x36_2 + 1))) else (some 0)) else (none)) else (none)) = some r := by rw [if_neg (show ¬ (false = true) by decide)] at H; exact H
                          clear H
                          have H := H1
                          clear H1
                          by_cases c37 : 0 ≤ x36_2
                          · rw [if_pos c37] at H
                            have c37b0 : decide (0 ≤ x36_2) = true := decide_eq_true c37
                            clear c37
                            by_cases c38 : x36_2 < (t115.size : Int)
                            · rw [if_pos c38] at H
                              have c38b0 : decide (x36_2 < (t115.size : Int)) = true := decide_eq_true c38
                              clear c38
                              by_cases c40 : (bt t115 x36_2) = t121
                              · rw [if_pos c40] at H
                                have c40b0 : ((bt t115 x36_2) == t121) = true := beq_iff_eq.mpr c40
                                have c40b1 : ((bt t115 x36_2) != t121) = false := bne_eq_false_iff_eq.mpr c40
                                clear c40
                                have H' := Aside0.mk H
                                clear H
                                have p39 : 0 ≤ (x36_2 : Int) := of_decide_eq_true (by first | (with_reducible assumption) | assumption)
                                have q39 : x36_2 < (t115.size : Int) := of_decide_eq_true (by first | (with_reducible assumption) | assumption)
                                have hx39 := bt_at t115 x36_2
                                replace p39 := eq_true p39
                                replace q39 := eq_true q39
                                go_wp2
                                go_roundg kj25
                                case measure => have := HJ3.out; have := HK2.out; have := HJ25.out; omega
                                case rel => exact ⟨(x6_2), (wrap64 (x36_2 + 1)), (by first | rfl | (simp; done) | (simp [*]; done)), (by first | rfl | (simp; done) | (simp [*]; done)), H', ⟨by have := HJ3.out; have := HK2.out; have := HJ25.out; omega⟩, ⟨by (with_reducible repeat (first | refine blk_drewN ?_ _ | refine blk_drew ?_ | refine blk_alloc ?_ _)); exact BK113.out⟩, ⟨by repeat (first | (with_reducible first | exact HB.out | apply below_alloc | apply pw_below_drewN | apply below_drew1 | refine below_set ?_ GE113.out | refine below_set ?_ GE120.out) | exact HB.out)⟩⟩
                              · rw [if_neg c40] at H
                                have c40b0 : ((bt t115 x36_2) == t121) = false := beq_eq_false_iff_ne.mpr c40
                                have c40b1 : ((bt t115 x36_2) != t121) = true := bne_iff_ne.mpr c40
                                obtain rfl := Option.some.inj H
                                have p39 : 0 ≤ (x36_2 : Int) := of_decide_eq_true (by first | (with_reducible assumption) | assumption)
                                have q39 : x36_2 < (t115.size : Int) := of_decide_eq_true (by first | (with_reducible assumption) | assumption)
                                have hx39 := bt_at t115 x36_2
                                replace p39 := eq_true p39
                                replace q39 := eq_true q39
                                go_wp2
                                go_ret
                                exact ⟨by first | rfl | (simp [errW_none, errW_some] <;> rfl) | (simp [*, errW_none, errW_some] <;> rfl), by repeat (first | (with_reducible first | exact HB.out | apply below_alloc | apply pw_below_drewN | apply below_drew1 | refine below_set ?_ GE113.out | refine below_set ?_ GE120.out) | exact HB.out)⟩
                            · rw [if_neg c38] at H
                              exact absurd H (by simp)
                          · rw [if_neg c37] at H
                            exact absurd H (by simp)
                · rw [if_neg c19] at H
                  exact absurd H (by simp)
              · rw [if_neg c18] at H
                exact absurd H (by simp)
            · rw [if_neg c17] at H
              have c17b0 : decide (x36_2 < (l0_3.length : Int)) = false := decide_eq_false c17
              clear c17
              by_cases c41 : t116.toList = ([120] : List UInt8)
              · rw [if_pos c41] at H
                have c41b0 : (t116.toList == ([120] : List UInt8)) = true := beq_iff_eq.mpr c41
                have c41b1 : (t116.toList != ([120] : List UInt8)) = false := bne_eq_false_iff_eq.mpr c41
                clear c41
                obtain rfl := Option.some.inj H
                go_wp2
                go_ret
                exact ⟨by first | rfl | (simp [errW_none, errW_some] <;> rfl) | (simp [*, errW_none, errW_some] <;> rfl), by repeat (first | (with_reducible first | exact HB.out | apply below_alloc | apply pw_below_drewN | apply below_drew1 | refine below_set ?_ GE113.out) | exact HB.out)⟩
              · rw [if_neg c41] at H
                have c41b0 : (t116.toList == ([120] : List UInt8)) = false := beq_eq_false_iff_ne.mpr c41
                have c41b1 : (t116.toList != ([120] : List UInt8)) = true := bne_iff_ne.mpr c41
                by_cases c42 : 0 < (t116.size : Int)
                · rw [if_pos c42] at H
                  have c42b0 : decide (0 < (t116.size : Int)) = true := decide_eq_true c42
                  have c42b1 : decide (0 < t116.size) = true := decide_eq_true (by omega)
                  clear c42
                  obtain rfl := Option.some.inj H
                  have p43 : 0 ≤ (0 : Int) := (by omega)
                  have q43 : 0 < t116.size := (by have : (0 : Int) < (t116.size : Int) := of_decide_eq_true (by first | (with_reducible assumption) | assumption); omega)
                  have hx43 : ∀ h : 0 < t116.size, ((t116[0]'h).toNat : Int) = bt t116 0 := bt_at t116 0
                  clear p43
                  have qi43 : (0 < (t116.size : Int)) = True := eq_true (of_decide_eq_true (by first | (with_reducible assumption) | assumption))
                  replace q43 := eq_true q43
                  go_wp2
                  go_ret
                  exact ⟨by first | rfl | (simp [errW_none, errW_some] <;> rfl) | (simp [*, errW_none, errW_some] <;> rfl), by repeat (first | (with_reducible first | exact HB.out | apply below_alloc | apply pw_below_drewN | apply below_drew1 | refine below_set ?_ GE113.out) | exact HB.out)⟩
                · rw [if_neg c42] at H
                  exact absurd H (by simp)

end Go.Proofs.YtniajhmbdbgmgaaGreatDoor.Q

namespace Go.Proofs.YtniajhmbdbgmgaaGreatDoor.Q
open Go.RowKit Go.Proofs.YtniajhmbdbgmgaaGreatDoorW.PrintWords Go.Proofs.YtniajhmbdbgmgaaGreatDoorW.PrintLast Go.Proofs.YtniajhmbdbgmgaaGreatDoorW.PrintMore
attribute [local go_sem] max2_int min2_int max_two min_two max_three min_three max_four min_four   -- for this text's walks alone
set_option linter.unusedVariables false
set_option linter.unusedSimpArgs false

/-! ### causal_Type: function 77 -/
def causal_Type.f (k : Nat) (a0_0 : Int) (a0_1 : Int) (a0_2 : ByteArray) (l0_3 : List (S24)) : Option (Int × Bool) := (causal_small.f a0_0 a0_1 a0_2 l0_3).bind fun t123 => (if t123 = true then ((causal_letter.f k a0_0 a0_1 a0_2 l0_3).bind fun t124 => (if t124 = 0 then (some (0, false)) else ((strings_IndexByte.f (⟨#[110, 98, 100, 63, 99]⟩ : ByteArray) t124).bind fun t125 => (some (t125, true))))) else (some (0, false)))
set_option maxHeartbeats 8000000 in
set_option maxRecDepth 100000 in
theorem causal_Type.calls (k : Nat) (a0_0 : Int) (a0_1 : Int) (a0_2 : ByteArray) (A0_3 : Option Addr) (c0_3 : Nat) (l0_3 : List (S24)) (r1 : Int) (r2 : Bool) (w : World) (hr0_3 : Kd.C k24 w A0_3 l0_3.length l0_3) (hc0_3 : l0_3.length ≤ c0_3) (h : causal_Type.f k a0_0 a0_1 a0_2 l0_3 = some (r1, r2)) :
    Calls Tryz.prog 77 #[.agg #[.int .i64 a0_0, .int .i64 a0_1, .string a0_2, .slice A0_3 l0_3.length c0_3]] w fun e w' => e = .returned (.tuple #[.int .i64 r1, .bool r2]) ∧ Below w.heap.size w w' := by
  have hu24 := Tryz.underlying24
  have HR0_3 := Aside0.mk hr0_3
  have HC0_3 := Aside0.mk hc0_3
  clear hr0_3 hc0_3
  have HB := Aside0.mk (Below.refl w.heap.size w)
  have H : ((causal_small.f a0_0 a0_1 a0_2 l0_3).bind fun t123 => (if t123 = true then ((causal_letter.f k a0_0 a0_1 a0_2 l0_3).bind fun t124 => (if t124 = 0 then (some (0, false)) else ((strings_IndexByte.f (⟨#[110, 98, 100, 63, 99]⟩ : ByteArray) t124).bind fun t125 => (some (t125, true))))) else (some (0, false)))) = some (r1, r2) := h
  clear h
  replace H := Option.bind_eq_some_iff.mp H
  obtain ⟨t123, A20, H⟩ := H
  replace H : (if t123 = true then ((causal_letter.f k a0_0 a0_1 a0_2 l0_3).bind fun t124 => (if t124 = 0 then (some (0, false)) else ((strings_IndexByte.f (⟨#[110, 98, 100, 63, 99]⟩ : ByteArray) t124).bind fun t125 => (some (t125, true))))) else (some (0, false))) = some (r1, r2) := H
  have A2 := Aside0.mk A20
  clear A20
  by_cases c3 : t123 = true
  · subst c3
    have H1 : ((causal_letter.f k a0_0 a0_1 a0_2 l0_3).bind fun t124 => (if t124 = 0 then (some (0, false)) else ((strings_IndexByte.f (⟨#[110, 98, 100, 63, 99]⟩ : ByteArray) t124).bind fun t125 => (some (t125, true))))) = some (r1, r2) := by rw [if_pos rfl] at H; exact H
    clear H
    have H := H1
    clear H1
    replace H := Option.bind_eq_some_iff.mp H
    obtain ⟨t124, A40, H⟩ := H
    replace H : (if t124 = 0 then (some (0, false)) else ((strings_IndexByte.f (⟨#[110, 98, 100, 63, 99]⟩ : ByteArray) t124).bind fun t125 => (some (t125, true)))) = some (r1, r2) := H
    have A4 := Aside0.mk A40
    clear A40
    by_cases c5 : t124 = 0
    · rw [if_pos c5] at H
      have c5b0 : (t124 == 0) = true := beq_iff_eq.mpr c5
      have c5b1 : (t124 != 0) = false := bne_eq_false_iff_eq.mpr c5
      clear c5
      simp only [Option.some.injEq, Prod.mk.injEq] at H
      obtain ⟨rfl, rfl⟩ := H
      go_enter Tryz.func77, Tryz.ntmps77
      go_wp2_with (first | ((with_reducible refine gate_dst (N := 1) rfl ?_); refine box_event ?hg (N := 1) ?hd (cs := #[.int .i64 a0_0, .int .i64 a0_1, .string a0_2, .slice A0_3 l0_3.length c0_3]) (t := 24) ?hr ?_; (case hd => rfl); (case hg => rfl); (case hr => first | (go_simp; done) | (go_simp; rfl)); intro gb122 hg w6 hbox hb; have n0_ := Aside0.mk (below_step (by repeat (first | (with_reducible first | exact HB.out | apply below_alloc | apply pw_below_drewN | apply below_drew1) | exact HB.out)) hb); have n1_ := Aside0.mk (hbox); have n2_ := Aside0.mk ((by rw [hg]; exact (below_size (by repeat (first | (with_reducible first | exact HB.out | apply below_alloc | apply pw_below_drewN | apply below_drew1) | exact HB.out))) : w.heap.size ≤ gb122)); have n3_ := Aside0.mk ((by rw [hg]; exact (below_size (by repeat (first | (with_reducible first | exact HB.out | apply below_alloc | apply pw_below_drewN | apply below_drew1) | exact HB.out))) : w.heap.size ≤ gb122)); clear HB; have HB := n0_; have BK122 := n1_; have GW122 := n2_; have GE122 := n3_; clear n0_ n1_ n2_ n3_; clear hb hbox hg; have hcz7_0 : w6.cell? ⟨gb122, 0, none⟩ = some (.int .i64 a0_0) := (blk_cell BK122.out 0).trans rfl; have hcz7_1 : w6.cell? ⟨gb122, 1, none⟩ = some (.int .i64 a0_1) := (blk_cell BK122.out 1).trans rfl; have hcz7_2 : w6.cell? ⟨gb122, 2, none⟩ = some (.string a0_2) := (blk_cell BK122.out 2).trans rfl; have hcz7_3 : w6.cell? ⟨gb122, 3, none⟩ = some (.slice A0_3 l0_3.length c0_3) := (blk_cell BK122.out 3).trans rfl; have hfz7_0 := blk_frozen BK122.out 0; have hfz7_1 := blk_frozen BK122.out 1; have hfz7_2 := blk_frozen BK122.out 2; have hfz7_3 := blk_frozen BK122.out 3) | ((with_reducible refine gate_callee (f := 129) rfl ?_); refine goesL_ (some 6) rfl rfl Tryz.func129 (by kernel_rfl) rfl #[.agg #[.int .i64 a0_0, .int .i64 a0_1, .string a0_2, .slice A0_3 l0_3.length c0_3]] rfl (by (try simp only [List.map_toArray, List.map_cons, List.map_nil]); first | done | rfl | (simp only [List.length_drop, List.length_take]; rfl)) ?_; (with_reducible refine (causal_small.calls a0_0 a0_1 a0_2 _ _ l0_3 true _ ?side1 ?side2 A2.out).mono ?_); (case side1 => repeat (first | exact (Kd.C_below HR0_3.out HB.out) | (with_reducible refine Kd.C_alloc ?_ _) | (with_reducible refine Kd.C_drewN ?_ _) | (with_reducible refine Kd.C_drew ?_))); (case side2 => exact HC0_3.out); rintro e w8 ⟨rfl, hb⟩; refine ⟨_, rfl, ?_⟩; have n0_ := Aside0.mk (blk_below (g := gb122) (o := .cells #[.int .i64 a0_0, .int .i64 a0_1, .string a0_2, .slice A0_3 l0_3.length c0_3] 24 (0, 0)) (by (with_reducible repeat (first | refine blk_drewN ?_ _ | refine blk_drew ?_ | refine blk_alloc ?_ _)); exact BK122.out) hb); have n1_ := Aside0.mk (below_step (by repeat (first | (with_reducible first | exact HB.out | apply below_alloc | apply pw_below_drewN | apply below_drew1 | refine below_set ?_ GE122.out) | exact HB.out)) hb); clear BK122; clear HB; have BK122 := n0_; have HB := n1_; clear n0_ n1_; (try clear hb); (try clear hb2); (try clear hk); (try clear hi); have hcz9_0 : w8.cell? ⟨gb122, 0, none⟩ = some (.int .i64 a0_0) := (blk_cell BK122.out 0).trans rfl; have hcz9_1 : w8.cell? ⟨gb122, 1, none⟩ = some (.int .i64 a0_1) := (blk_cell BK122.out 1).trans rfl; have hcz9_2 : w8.cell? ⟨gb122, 2, none⟩ = some (.string a0_2) := (blk_cell BK122.out 2).trans rfl; have hcz9_3 : w8.cell? ⟨gb122, 3, none⟩ = some (.slice A0_3 l0_3.length c0_3) := (blk_cell BK122.out 3).trans rfl; have hfz9_0 := blk_frozen BK122.out 0; have hfz9_1 := blk_frozen BK122.out 1; have hfz9_2 := blk_frozen BK122.out 2; have hfz9_3 := blk_frozen BK122.out 3) | ((with_reducible refine gate_callee (f := 130) rfl ?_); refine goesL_ (some 9) rfl rfl Tryz.func130 (by kernel_rfl) rfl #[.agg #[.int .i64 a0_0, .int .i64 a0_1, .string a0_2, .slice A0_3 l0_3.length c0_3]] rfl (by (try simp only [List.map_toArray, List.map_cons, List.map_nil]); first | done | rfl | (simp only [List.length_drop, List.length_take]; rfl)) ?_; (with_reducible refine (causal_letter.calls k a0_0 a0_1 a0_2 _ _ l0_3 t124 _ ?side1 ?side2 A4.out).mono ?_); (case side1 => repeat (first | exact (Kd.C_below HR0_3.out HB.out) | (with_reducible refine Kd.C_alloc ?_ _) | (with_reducible refine Kd.C_drewN ?_ _) | (with_reducible refine Kd.C_drew ?_))); (case side2 => exact HC0_3.out); rintro e w10 ⟨rfl, hb⟩; refine ⟨_, rfl, ?_⟩; have n0_ := Aside0.mk (blk_below (g := gb122) (o := .cells #[.int .i64 a0_0, .int .i64 a0_1, .string a0_2, .slice A0_3 l0_3.length c0_3] 24 (0, 0)) (by (with_reducible repeat (first | refine blk_drewN ?_ _ | refine blk_drew ?_ | refine blk_alloc ?_ _)); exact BK122.out) hb); have n1_ := Aside0.mk (below_step (by repeat (first | (with_reducible first | exact HB.out | apply below_alloc | apply pw_below_drewN | apply below_drew1 | refine below_set ?_ GE122.out) | exact HB.out)) hb); clear BK122; clear HB; have BK122 := n0_; have HB := n1_; clear n0_ n1_; (try clear hb); (try clear hb2); (try clear hk); (try clear hi)))
      go_ret2
      exact ⟨by first | rfl | (simp [errW_none, errW_some] <;> rfl) | (simp [*, errW_none, errW_some] <;> rfl), by repeat (first | (with_reducible first | exact HB.out | apply below_alloc | apply pw_below_drewN | apply below_drew1 | refine below_set ?_ GE122.out) | exact HB.out)⟩
    · rw [if_neg c5] at H
      have c5b0 : (t124 == 0) = false := beq_eq_false_iff_ne.mpr c5
      have c5b1 : (t124 != 0) = true := bne_iff_ne.mpr c5
      replace H := Option.bind_eq_some_iff.mp H
      obtain ⟨t125, A110, H⟩ := H
      replace H : (some (t125, true)) = some (r1, r2) := H
      have A11 := Aside0.mk A110
      clear A110
      simp only [Option.some.injEq, Prod.mk.injEq] at H
      obtain ⟨rfl, rfl⟩ := H
      go_enter Tryz.func77, Tryz.ntmps77
      go_wp2_with (first | ((with_reducible refine gate_dst (N := 1) rfl ?_); refine box_event ?hg (N := 1) ?hd (cs := #[.int .i64 a0_0, .int .i64 a0_1, .string a0_2, .slice A0_3 l0_3.length c0_3]) (t := 24) ?hr ?_; (case hd => rfl); (case hg => rfl); (case hr => first | (go_simp; done) | (go_simp; rfl)); intro gb122 hg w12 hbox hb; have n0_ := Aside0.mk (below_step (by repeat (first | (with_reducible first | exact HB.out | apply below_alloc | apply pw_below_drewN | apply below_drew1) | exact HB.out)) hb); have n1_ := Aside0.mk (hbox); have n2_ := Aside0.mk ((by rw [hg]; exact (below_size (by repeat (first | (with_reducible first | exact HB.out | apply below_alloc | apply pw_below_drewN | apply below_drew1) | exact HB.out))) : w.heap.size ≤ gb122)); have n3_ := Aside0.mk ((by rw [hg]; exact (below_size (by repeat (first | (with_reducible first | exact HB.out | apply below_alloc | apply pw_below_drewN | apply below_drew1) | exact HB.out))) : w.heap.size ≤ gb122)); clear HB; have HB := n0_; have BK122 := n1_; have GW122 := n2_; have GE122 := n3_; clear n0_ n1_ n2_ n3_; clear hb hbox hg; have hcz13_0 : w12.cell? ⟨gb122, 0, none⟩ = some (.int .i64 a0_0) := (blk_cell BK122.out 0).trans rfl; have hcz13_1 : w12.cell? ⟨gb122, 1, none⟩ = some (.int .i64 a0_1) := (blk_cell BK122.out 1).trans rfl; have hcz13_2 : w12.cell? ⟨gb122, 2, none⟩ = some (.string a0_2) := (blk_cell BK122.out 2).trans rfl; have hcz13_3 : w12.cell? ⟨gb122, 3, none⟩ = some (.slice A0_3 l0_3.length c0_3) := (blk_cell BK122.out 3).trans rfl; have hfz13_0 := blk_frozen BK122.out 0; have hfz13_1 := blk_frozen BK122.out 1; have hfz13_2 := blk_frozen BK122.out 2; have hfz13_3 := blk_frozen BK122.out 3) | ((with_reducible refine gate_callee (f := 129) rfl ?_); refine goesL_ (some 6) rfl rfl Tryz.func129 (by kernel_rfl) rfl #[.agg #[.int .i64 a0_0, .int .i64 a0_1, .string a0_2, .slice A0_3 l0_3.length c0_3]] rfl (by (try simp only [List.map_toArray, List.map_cons, List.map_nil]); first | done | rfl | (simp only [List.length_drop, List.length_take]; rfl)) ?_; (with_reducible refine (causal_small.calls a0_0 a0_1 a0_2 _ _ l0_3 true _ ?side1 ?side2 A2.out).mono ?_); (case side1 => repeat (first | exact (Kd.C_below HR0_3.out HB.out) | (with_reducible refine Kd.C_alloc ?_ _) | (with_reducible refine Kd.C_drewN ?_ _) | (with_reducible refine Kd.C_drew ?_))); (case side2 => exact HC0_3.out); rintro e w14 ⟨rfl, hb⟩; refine ⟨_, rfl, ?_⟩; have n0_ := Aside0.mk (blk_below (g := gb122) (o := .cells #[.int .i64 a0_0, .int .i64 a0_1, .string a0_2, .slice A0_3 l0_3.length c0_3] 24 (0, 0)) (by (with_reducible repeat (first | refine blk_drewN ?_ _ | refine blk_drew ?_ | refine blk_alloc ?_ _)); exact BK122.out) hb); have n1_ := Aside0.mk (below_step (by repeat (first | (with_reducible first | exact HB.out | apply below_alloc | apply pw_below_drewN | apply below_drew1 | refine below_set ?_ GE122.out) | exact HB.out)) hb); clear BK122; clear HB; have BK122 := n0_; have HB := n1_; clear n0_ n1_; (try clear hb); (try clear hb2); (try clear hk); (try clear hi); have hcz15_0 : w14.cell? ⟨gb122, 0, none⟩ = some (.int .i64 a0_0) := (blk_cell BK122.out 0).trans rfl; have hcz15_1 : w14.cell? ⟨gb122, 1, none⟩ = some (.int .i64 a0_1) := (blk_cell BK122.out 1).trans rfl; have hcz15_2 : w14.cell? ⟨gb122, 2, none⟩ = some (.string a0_2) := (blk_cell BK122.out 2).trans rfl; have hcz15_3 : w14.cell? ⟨gb122, 3, none⟩ = some (.slice A0_3 l0_3.length c0_3) := (blk_cell BK122.out 3).trans rfl; have hfz15_0 := blk_frozen BK122.out 0; have hfz15_1 := blk_frozen BK122.out 1; have hfz15_2 := blk_frozen BK122.out 2; have hfz15_3 := blk_frozen BK122.out 3) | ((with_reducible refine gate_callee (f := 130) rfl ?_); refine goesL_ (some 9) rfl rfl Tryz.func130 (by kernel_rfl) rfl #[.agg #[.int .i64 a0_0, .int .i64 a0_1, .string a0_2, .slice A0_3 l0_3.length c0_3]] rfl (by (try simp only [List.map_toArray, List.map_cons, List.map_nil]); first | done | rfl | (simp only [List.length_drop, List.length_take]; rfl)) ?_; (with_reducible refine (causal_letter.calls k a0_0 a0_1 a0_2 _ _ l0_3 t124 _ ?side1 ?side2 A4.out).mono ?_); (case side1 => repeat (first | exact (Kd.C_below HR0_3.out HB.out) | (with_reducible refine Kd.C_alloc ?_ _) | (with_reducible refine Kd.C_drewN ?_ _) | (with_reducible refine Kd.C_drew ?_))); (case side2 => exact HC0_3.out); rintro e w16 ⟨rfl, hb⟩; refine ⟨_, rfl, ?_⟩; have n0_ := Aside0.mk (blk_below (g := gb122) (o := .cells #[.int .i64 a0_0, .int .i64 a0_1, .string a0_2, .slice A0_3 l0_3.length c0_3] 24 (0, 0)) (by (with_reducible repeat (first | refine blk_drewN ?_ _ | refine blk_drew ?_ | refine blk_alloc ?_ _)); exact BK122.out) hb); have n1_ := Aside0.mk (below_step (by repeat (first | (with_reducible first | exact HB.out | apply below_alloc | apply pw_below_drewN | apply below_drew1 | refine below_set ?_ GE122.out) | exact HB.out)) hb); clear BK122; clear HB; have BK122 := n0_; have HB := n1_; clear n0_ n1_; (try clear hb); (try clear hb2); (try clear hk); (try clear hi)) | ((with_reducible refine gate_callee (f := 131) rfl ?_); refine goesL_ (some 13) rfl rfl Tryz.func131 (by kernel_rfl) rfl #[.string (⟨#[110, 98, 100, 63, 99]⟩ : ByteArray), .int .u8 t124] rfl (by (try simp only [List.map_toArray, List.map_cons, List.map_nil]); first | done | rfl | (simp only [List.length_drop, List.length_take]; rfl)) ?_; (with_reducible refine (strings_IndexByte.calls (⟨#[110, 98, 100, 63, 99]⟩ : ByteArray) t124 t125 _ A11.out).mono ?_); rintro e w17 ⟨rfl, hb⟩; refine ⟨_, rfl, ?_⟩; have n0_ := Aside0.mk (blk_below (g := gb122) (o := .cells #[.int .i64 a0_0, .int .i64 a0_1, .string a0_2, .slice A0_3 l0_3.length c0_3] 24 (0, 0)) (by (with_reducible repeat (first | refine blk_drewN ?_ _ | refine blk_drew ?_ | refine blk_alloc ?_ _)); exact BK122.out) hb); have n1_ := Aside0.mk (below_step (by repeat (first | (with_reducible first | exact HB.out | apply below_alloc | apply pw_below_drewN | apply below_drew1 | refine below_set ?_ GE122.out) | exact HB.out)) hb); clear BK122; clear HB; have BK122 := n0_; have HB := n1_; clear n0_ n1_; (try clear hb); (try clear hb2); (try clear hk); (try clear hi)))
      go_ret2
      exact ⟨by first | rfl | (simp [errW_none, errW_some] <;> rfl) | (simp [*, errW_none, errW_some] <;> rfl), by repeat (first | (with_reducible first | exact HB.out | apply below_alloc | apply pw_below_drewN | apply below_drew1 | refine below_set ?_ GE122.out) | exact HB.out)⟩
  · replace c3 := Bool.eq_false_iff.mpr c3
    subst c3
    have H1 : (some (0, false)) = some (r1, r2) := by rw [if_neg (show ¬ (false = true) by decide)] at H; exact H
    clear H
    have H := H1
    clear H1
    simp only [Option.some.injEq, Prod.mk.injEq] at H
    obtain ⟨rfl, rfl⟩ := H
    go_enter Tryz.func77, Tryz.ntmps77
    go_wp2_with (first | ((with_reducible refine gate_dst (N := 1) rfl ?_); refine box_event ?hg (N := 1) ?hd (cs := #[.int .i64 a0_0, .int .i64 a0_1, .string a0_2, .slice A0_3 l0_3.length c0_3]) (t := 24) ?hr ?_; (case hd => rfl); (case hg => rfl); (case hr => first | (go_simp; done) | (go_simp; rfl)); intro gb122 hg w18 hbox hb; have n0_ := Aside0.mk (below_step (by repeat (first | (with_reducible first | exact HB.out | apply below_alloc | apply pw_below_drewN | apply below_drew1) | exact HB.out)) hb); have n1_ := Aside0.mk (hbox); have n2_ := Aside0.mk ((by rw [hg]; exact (below_size (by repeat (first | (with_reducible first | exact HB.out | apply below_alloc | apply pw_below_drewN | apply below_drew1) | exact HB.out))) : w.heap.size ≤ gb122)); have n3_ := Aside0.mk ((by rw [hg]; exact (below_size (by repeat (first | (with_reducible first | exact HB.out | apply below_alloc | apply pw_below_drewN | apply below_drew1) | exact HB.out))) : w.heap.size ≤ gb122)); clear HB; have HB := n0_; have BK122 := n1_; have GW122 := n2_; have GE122 := n3_; clear n0_ n1_ n2_ n3_; clear hb hbox hg; have hcz19_0 : w18.cell? ⟨gb122, 0, none⟩ = some (.int .i64 a0_0) := (blk_cell BK122.out 0).trans rfl; have hcz19_1 : w18.cell? ⟨gb122, 1, none⟩ = some (.int .i64 a0_1) := (blk_cell BK122.out 1).trans rfl; have hcz19_2 : w18.cell? ⟨gb122, 2, none⟩ = some (.string a0_2) := (blk_cell BK122.out 2).trans rfl; have hcz19_3 : w18.cell? ⟨gb122, 3, none⟩ = some (.slice A0_3 l0_3.length c0_3) := (blk_cell BK122.out 3).trans rfl; have hfz19_0 := blk_frozen BK122.out 0; have hfz19_1 := blk_frozen BK122.out 1; have hfz19_2 := blk_frozen BK122.out 2; have hfz19_3 := blk_frozen BK122.out 3) | ((with_reducible refine gate_callee (f := 129) rfl ?_); refine goesL_ (some 6) rfl rfl Tryz.func129 (by kernel_rfl) rfl #[.agg #[.int .i64 a0_0, .int .i64 a0_1, .string a0_2, .slice A0_3 l0_3.length c0_3]] rfl (by (try simp only [List.map_toArray, List.map_cons, List.map_nil]); first | done | rfl | (simp only [List.length_drop, List.length_take]; rfl)) ?_; (with_reducible refine (causal_small.calls a0_0 a0_1 a0_2 _ _ l0_3 false _ ?side1 ?side2 A2.out).mono ?_); (case side1 => repeat (first | exact (Kd.C_below HR0_3.out HB.out) | (with_reducible refine Kd.C_alloc ?_ _) | (with_reducible refine Kd.C_drewN ?_ _) | (with_reducible refine Kd.C_drew ?_))); (case side2 => exact HC0_3.out); rintro e w20 ⟨rfl, hb⟩; refine ⟨_, rfl, ?_⟩; have n0_ := Aside0.mk (blk_below (g := gb122) (o := .cells #[.int .i64 a0_0, .int .i64 a0_1, .string a0_2, .slice A0_3 l0_3.length c0_3] 24 (0, 0)) (by (with_reducible repeat (first | refine blk_drewN ?_ _ | refine blk_drew ?_ | refine blk_alloc ?_ _)); exact BK122.out) hb); have n1_ := Aside0.mk (below_step (by repeat (first | (with_reducible first | exact HB.out | apply below_alloc | apply pw_below_drewN | apply below_drew1 | refine below_set ?_ GE122.out) | exact HB.out)) hb); clear BK122; clear HB; have BK122 := n0_; have HB := n1_; clear n0_ n1_; (try clear hb); (try clear hb2); (try clear hk); (try clear hi)))
    go_ret2
    exact ⟨by first | rfl | (simp [errW_none, errW_some] <;> rfl) | (simp [*, errW_none, errW_some] <;> rfl), by repeat (first | (with_reducible first | exact HB.out | apply below_alloc | apply pw_below_drewN | apply below_drew1 | refine below_set ?_ GE122.out) | exact HB.out)⟩

/-! ### usanceref13_left: function 147 -/
mutual
def usanceref13_left.l0 : Nat → Int → Int → Int → Int → Int → ByteArray → List (S24) → Option (Int)
  | 0, _, _, _, _, _, _, _ => none
  | k + 1, x1, x2, x7, x127000, x127001, x127002, x127003 => if x7 < (x127003.length : Int) then (if x1 ≥ 0 then (if 0 ≤ x7 then ((usanceref13_left.f k ((rd_T24 x127003 x7).f0) ((rd_T24 x127003 x7).f1) ((rd_T24 x127003 x7).f2) ((rd_T24 x127003 x7).f3) x1 (wrap64 (x2 + 1))).bind fun t128 => (usanceref13_left.l0 k t128 x2 (wrap64 (x7 + 1)) x127000 x127001 x127002 x127003)) else (none)) else (some x1)) else (some x1)
def usanceref13_left.f : Nat → Int → Int → ByteArray → List (S24) → Int → Int → Option (Int)
  | 0, _, _, _, _, _, _ => none
  | k + 1, a0_0, a0_1, a0_2, l0_3, a1, a2 => if a2 > 200 then (some (-1)) else (usanceref13_left.l0 k (wrap64 (a1 - 1)) a2 0 a0_0 a0_1 a0_2 l0_3)
end
theorem usanceref13_left.mono_l : ∀ k, (∀ y0 y1 y2 y3 y4 y5, LeO (usanceref13_left.f k y0 y1 y2 y3 y4 y5) (usanceref13_left.f (k + 1) y0 y1 y2 y3 y4 y5)) ∧ (∀ y0 y1 y2 y3 y4 y5 y6, LeO (usanceref13_left.l0 k y0 y1 y2 y3 y4 y5 y6) (usanceref13_left.l0 (k + 1) y0 y1 y2 y3 y4 y5 y6))
  | 0 => ⟨fun _ _ _ _ _ _ r h => by simp [usanceref13_left.f] at h, fun _ _ _ _ _ _ _ r h => by simp [usanceref13_left.l0] at h⟩
  | k + 1 => by
    obtain ⟨ih0, ih1⟩ := usanceref13_left.mono_l k
    refine ⟨?_, ?_⟩
    · intro y0 y1 y2 y3 y4 y5
      unfold usanceref13_left.f
      repeat' first
      | (with_reducible exact ih0 _ _ _ _ _ _)
      | (with_reducible exact ih1 _ _ _ _ _ _ _)
      | (with_reducible exact LeO.refl _)
      | (with_reducible exact LeO.none _)
      | (with_reducible refine LeO.ite ?_ ?_)
      | (with_reducible refine LeO.bind ?_ (fun _ => ?_))
      | exact ih0 _ _ _ _ _ _
      | exact ih1 _ _ _ _ _ _ _
      | exact LeO.none _
      | refine LeO.ite ?_ ?_
      | refine LeO.bind ?_ (fun _ => ?_)
    · intro y0 y1 y2 y3 y4 y5 y6
      unfold usanceref13_left.l0
      repeat' first
      | (with_reducible exact ih0 _ _ _ _ _ _)
      | (with_reducible exact ih1 _ _ _ _ _ _ _)
      | (with_reducible exact LeO.refl _)
      | (with_reducible exact LeO.none _)
      | (with_reducible refine LeO.ite ?_ ?_)
      | (with_reducible refine LeO.bind ?_ (fun _ => ?_))
      | exact ih0 _ _ _ _ _ _
      | exact ih1 _ _ _ _ _ _ _
      | exact LeO.none _
      | refine LeO.ite ?_ ?_
      | refine LeO.bind ?_ (fun _ => ?_)
theorem usanceref13_left.mono : ∀ a0 a1 a2 a3 a4 a5 k, LeO (usanceref13_left.f k a0 a1 a2 a3 a4 a5) (usanceref13_left.f (k + 1) a0 a1 a2 a3 a4 a5) := by
  intro a0 a1 a2 a3 a4 a5 k
  obtain ⟨ih0, ih1⟩ := usanceref13_left.mono_l k
  exact ih0 a0 a1 a2 a3 a4 a5
set_option maxHeartbeats 8000000 in
set_option maxRecDepth 100000 in
theorem usanceref13_left.calls (k : Nat) : ∀ (a0_0 : Int) (a0_1 : Int) (a0_2 : ByteArray) (A0_3 : Option Addr) (c0_3 : Nat) (l0_3 : List (S24)) (a1 : Int) (a2 : Int) (r : Int) (w : World) (hr0_3 : Kd.C k24 w A0_3 l0_3.length l0_3) (hc0_3 : l0_3.length ≤ c0_3) (h : usanceref13_left.f k a0_0 a0_1 a0_2 l0_3 a1 a2 = some r),
    Calls Tryz.prog 147 #[.agg #[.int .i64 a0_0, .int .i64 a0_1, .string a0_2, .slice A0_3 l0_3.length c0_3], .int .i64 a1, .int .i64 a2] w fun e w' => e = .returned (.int .i64 r) ∧ Below w.heap.size w w' := by
  induction k using Nat.strongRecOn with
  | _ k ih =>
  intro a0_0 a0_1 a0_2 A0_3 c0_3 l0_3 a1 a2 r w hr0_3 hc0_3 h
  cases k with
  | zero => exact absurd h (by simp [usanceref13_left.f])
  | succ k =>
  simp only [usanceref13_left.f] at h
  have hu24 := Tryz.underlying24
  have HR0_3 := Aside0.mk hr0_3
  have HC0_3 := Aside0.mk hc0_3
  clear hr0_3 hc0_3
  have HB := Aside0.mk (Below.refl w.heap.size w)
  have H : (if a2 > 200 then (some (-1)) else (usanceref13_left.l0 k (wrap64 (a1 - 1)) a2 0 a0_0 a0_1 a0_2 l0_3)) = some r := h
  clear h
  by_cases c4 : a2 > 200
  · rw [if_pos c4] at H
    have c4b0 : decide (200 < a2) = true := decide_eq_true c4
    clear c4
    obtain rfl := Option.some.inj H
    go_enter Tryz.func147, Tryz.ntmps147
    go_wp2_with (first | ((with_reducible refine gate_dst (N := 3) rfl ?_); refine box_event ?hg (N := 3) ?hd (cs := #[.int .i64 a0_0, .int .i64 a0_1, .string a0_2, .slice A0_3 l0_3.length c0_3]) (t := 24) ?hr ?_; (case hd => rfl); (case hg => rfl); (case hr => first | (go_simp; done) | (go_simp; rfl)); intro gb126 hg w5 hbox hb; have n0_ := Aside0.mk (below_step (by repeat (first | (with_reducible first | exact HB.out | apply below_alloc | apply pw_below_drewN | apply below_drew1) | exact HB.out)) hb); have n1_ := Aside0.mk (hbox); have n2_ := Aside0.mk ((by rw [hg]; exact (below_size (by repeat (first | (with_reducible first | exact HB.out | apply below_alloc | apply pw_below_drewN | apply below_drew1) | exact HB.out))) : w.heap.size ≤ gb126)); have n3_ := Aside0.mk ((by rw [hg]; exact (below_size (by repeat (first | (with_reducible first | exact HB.out | apply below_alloc | apply pw_below_drewN | apply below_drew1) | exact HB.out))) : w.heap.size ≤ gb126)); clear HB; have HB := n0_; have BK126 := n1_; have GW126 := n2_; have GE126 := n3_; clear n0_ n1_ n2_ n3_; clear hb hbox hg))
    go_ret
    exact ⟨by first | rfl | (simp [errW_none, errW_some] <;> rfl) | (simp [*, errW_none, errW_some] <;> rfl), by repeat (first | (with_reducible first | exact HB.out | apply below_alloc | apply pw_below_drewN | apply below_drew1 | refine below_set ?_ GE126.out) | exact HB.out)⟩
  · rw [if_neg c4] at H
    have c4b0 : decide (200 < a2) = false := decide_eq_false c4
    clear c4
    have H' := Aside0.mk H
    clear H
    go_enter Tryz.func147, Tryz.ntmps147
    go_wp2_with (first | ((with_reducible refine gate_dst (N := 3) rfl ?_); refine box_event ?hg (N := 3) ?hd (cs := #[.int .i64 a0_0, .int .i64 a0_1, .string a0_2, .slice A0_3 l0_3.length c0_3]) (t := 24) ?hr ?_; (case hd => rfl); (case hg => rfl); (case hr => first | (go_simp; done) | (go_simp; rfl)); intro gb126 hg w6 hbox hb; have n0_ := Aside0.mk (below_step (by repeat (first | (with_reducible first | exact HB.out | apply below_alloc | apply pw_below_drewN | apply below_drew1) | exact HB.out)) hb); have n1_ := Aside0.mk (hbox); have n2_ := Aside0.mk ((by rw [hg]; exact (below_size (by repeat (first | (with_reducible first | exact HB.out | apply below_alloc | apply pw_below_drewN | apply below_drew1) | exact HB.out))) : w.heap.size ≤ gb126)); have n3_ := Aside0.mk ((by rw [hg]; exact (below_size (by repeat (first | (with_reducible first | exact HB.out | apply below_alloc | apply pw_below_drewN | apply below_drew1) | exact HB.out))) : w.heap.size ≤ gb126)); clear HB; have HB := n0_; have BK126 := n1_; have GW126 := n2_; have GE126 := n3_; clear n0_ n1_ n2_ n3_; clear hb hbox hg))
    go_loopg [1, 7] k (fun kq v1 v7 w' => ∃ (x1_1 : Int) (x7_1 : Int), v1 = .int .i64 x1_1 ∧ v7 = .int .i64 x7_1 ∧ Aside0 (usanceref13_left.l0 kq x1_1 a2 x7_1 a0_0 a0_1 a0_2 l0_3 = some r) ∧ Aside0 (kq ≤ k) ∧ Aside0 (w'.heap[gb126]? = some (.cells #[.int .i64 a0_0, .int .i64 a0_1, .string a0_2, (.slice A0_3 l0_3.length c0_3)] 24 (0, 0))) ∧ Aside0 (Below w.heap.size w w'))
    case atStart => exact ⟨(wrap64 (a1 - 1)), (0), (by first | rfl | (simp; done) | (simp [*]; done)), (by first | rfl | (simp; done) | (simp [*]; done)), H', ⟨Nat.le_refl _⟩, ⟨by (with_reducible repeat (first | refine blk_drewN ?_ _ | refine blk_drew ?_ | refine blk_alloc ?_ _)); exact BK126.out⟩, ⟨by repeat (first | (with_reducible first | exact HB.out | apply below_alloc | apply pw_below_drewN | apply below_drew1 | refine below_set ?_ GE126.out) | exact HB.out)⟩⟩
    case round =>
      clear H'
      try clear c1
      try clear p2
      try clear c4
      try clear c4b0
      try clear p6
      obtain ⟨x1_1, x7_1, rfl, rfl, HA, HK1, BK126, HB⟩ := hrel
      cases gk with
      | zero => exact absurd HA.out (by simp [usanceref13_left.l0])
      | succ k1 =>
        have H := HA.out
        clear HA
        simp only [usanceref13_left.l0] at H
        by_cases c7 : x7_1 < (l0_3.length : Int)
        · rw [if_pos c7] at H
          have c7b0 : decide (x7_1 < (l0_3.length : Int)) = true := decide_eq_true c7
          clear c7
          by_cases c8 : x1_1 ≥ 0
          · rw [if_pos c8] at H
            have c8b0 : decide (0 ≤ x1_1) = true := decide_eq_true c8
            clear c8
            by_cases c9 : 0 ≤ x7_1
            · rw [if_pos c9] at H
              have c9b0 : decide (0 ≤ x7_1) = true := decide_eq_true c9
              clear c9
              replace H := Option.bind_eq_some_iff.mp H
              obtain ⟨t128, A100, H⟩ := H
              replace H : (usanceref13_left.l0 k1 t128 a2 (wrap64 (x7_1 + 1)) a0_0 a0_1 a0_2 l0_3) = some r := H
              have A10 := Aside0.mk A100
              clear A100
              have H' := Aside0.mk H
              clear H
              have hcz11_0 : wr.cell? ⟨gb126, 0, none⟩ = some (.int .i64 a0_0) := (blk_cell BK126.out 0).trans rfl
              have hcz11_1 : wr.cell? ⟨gb126, 1, none⟩ = some (.int .i64 a0_1) := (blk_cell BK126.out 1).trans rfl
              have hcz11_2 : wr.cell? ⟨gb126, 2, none⟩ = some (.string a0_2) := (blk_cell BK126.out 2).trans rfl
              have hcz11_3 : wr.cell? ⟨gb126, 3, none⟩ = some (.slice A0_3 l0_3.length c0_3) := (blk_cell BK126.out 3).trans rfl
              have hfz11_0 := blk_frozen BK126.out 0
              have hfz11_1 := blk_frozen BK126.out 1
              have hfz11_2 := blk_frozen BK126.out 2
              have hfz11_3 := blk_frozen BK126.out 3
              have p127 : 0 ≤ (x7_1 : Int) := of_decide_eq_true (by first | (with_reducible assumption) | assumption)
              have q127 : x7_1 < (l0_3.length : Int) := of_decide_eq_true (by first | (with_reducible assumption) | assumption)
              obtain ⟨ad127, A127_3, c127_3, e127, hx127_0, hx127_1, hx127_2, hx127_3, hl127_3, hi127_3⟩ := at_T24 HR0_3.out x7_1 p127 q127
              cases e127
              replace hx127_0 := (HB.out.cell (World.block_lt_of_cell? w _ hx127_0)).trans hx127_0
              replace hx127_1 := (HB.out.cell (World.block_lt_of_cell? w _ hx127_1)).trans hx127_1
              replace hx127_2 := (HB.out.cell (World.block_lt_of_cell? w _ hx127_2)).trans hx127_2
              replace hx127_3 := (HB.out.cell (World.block_lt_of_cell? w _ hx127_3)).trans hx127_3
              have HR127_3 := Aside0.mk hi127_3
              have HC127_3 := Aside0.mk hl127_3
              clear hi127_3 hl127_3
              replace p127 := eq_true p127
              replace q127 := eq_true q127
              go_wp2_with (first | ((with_reducible refine gate_callee (f := 147) rfl ?_); refine goesL_ (some 31) rfl rfl Tryz.func147 (by kernel_rfl) rfl #[.agg #[.int .i64 ((rd_T24 l0_3 x7_1).f0), .int .i64 ((rd_T24 l0_3 x7_1).f1), .string ((rd_T24 l0_3 x7_1).f2), .slice A127_3 ((rd_T24 l0_3 x7_1).f3).length c127_3], .int .i64 x1_1, .int .i64 (wrap64 (a2 + 1))] rfl (by (try simp only [List.map_toArray, List.map_cons, List.map_nil]); first | done | rfl | (simp only [List.length_drop, List.length_take]; rfl)) ?_; (with_reducible refine (ih k1 (by have := HK1.out; omega) ((rd_T24 l0_3 x7_1).f0) ((rd_T24 l0_3 x7_1).f1) ((rd_T24 l0_3 x7_1).f2) _ _ ((rd_T24 l0_3 x7_1).f3) x1_1 (wrap64 (a2 + 1)) t128 _ ?side1 ?side2 A10.out).mono ?_); (case side1 => repeat (first | exact (Kd.C_below HR127_3.out HB.out) | (with_reducible refine Kd.C_alloc ?_ _) | (with_reducible refine Kd.C_drewN ?_ _) | (with_reducible refine Kd.C_drew ?_))); (case side2 => exact HC127_3.out); rintro e w12 ⟨rfl, hb⟩; refine ⟨_, rfl, ?_⟩; have n0_ := Aside0.mk (blk_below (g := gb126) (o := .cells #[.int .i64 a0_0, .int .i64 a0_1, .string a0_2, .slice (some ad127) l0_3.length c0_3] 24 (0, 0)) (by (with_reducible repeat (first | refine blk_drewN ?_ _ | refine blk_drew ?_ | refine blk_alloc ?_ _)); exact BK126.out) hb); have n1_ := Aside0.mk (below_step (by repeat (first | (with_reducible first | exact HB.out | apply below_alloc | apply pw_below_drewN | apply below_drew1 | refine below_set ?_ GE126.out) | exact HB.out)) hb); clear BK126; clear HB; have BK126 := n0_; have HB := n1_; clear n0_ n1_; (try clear hb); (try clear hb2); (try clear hk); (try clear hi)))
              go_roundg k1
              case measure => have := HK1.out; omega
              case rel => exact ⟨(t128), (wrap64 (x7_1 + 1)), (by first | rfl | (simp; done) | (simp [*]; done)), (by first | rfl | (simp; done) | (simp [*]; done)), H', ⟨by have := HK1.out; omega⟩, ⟨by (with_reducible repeat (first | refine blk_drewN ?_ _ | refine blk_drew ?_ | refine blk_alloc ?_ _)); exact BK126.out⟩, ⟨by repeat (first | (with_reducible first | exact HB.out | apply below_alloc | apply pw_below_drewN | apply below_drew1 | refine below_set ?_ GE126.out) | exact HB.out)⟩⟩
            · rw [if_neg c9] at H
              exact absurd H (by simp)
          · rw [if_neg c8] at H
            have c8b0 : decide (0 ≤ x1_1) = false := decide_eq_false c8
            clear c8
            obtain rfl := Option.some.inj H
            have hcz13_0 : wr.cell? ⟨gb126, 0, none⟩ = some (.int .i64 a0_0) := (blk_cell BK126.out 0).trans rfl
            have hcz13_1 : wr.cell? ⟨gb126, 1, none⟩ = some (.int .i64 a0_1) := (blk_cell BK126.out 1).trans rfl
            have hcz13_2 : wr.cell? ⟨gb126, 2, none⟩ = some (.string a0_2) := (blk_cell BK126.out 2).trans rfl
            have hcz13_3 : wr.cell? ⟨gb126, 3, none⟩ = some (.slice A0_3 l0_3.length c0_3) := (blk_cell BK126.out 3).trans rfl
            have hfz13_0 := blk_frozen BK126.out 0
            have hfz13_1 := blk_frozen BK126.out 1
            have hfz13_2 := blk_frozen BK126.out 2
            have hfz13_3 := blk_frozen BK126.out 3
            go_wp2
            go_ret
            exact ⟨by first | rfl | (simp [errW_none, errW_some] <;> rfl) | (simp [*, errW_none, errW_some] <;> rfl), by repeat (first | (with_reducible first | exact HB.out | apply below_alloc | apply pw_below_drewN | apply below_drew1 | refine below_set ?_ GE126.out) | exact HB.out)⟩
        · rw [if_neg c7] at H
          have c7b0 : decide (x7_1 < (l0_3.length : Int)) = false := decide_eq_false c7
          clear c7
          obtain rfl := Option.some.inj H
          have hcz14_0 : wr.cell? ⟨gb126, 0, none⟩ = some (.int .i64 a0_0) := (blk_cell BK126.out 0).trans rfl
          have hcz14_1 : wr.cell? ⟨gb126, 1, none⟩ = some (.int .i64 a0_1) := (blk_cell BK126.out 1).trans rfl
          have hcz14_2 : wr.cell? ⟨gb126, 2, none⟩ = some (.string a0_2) := (blk_cell BK126.out 2).trans rfl
          have hcz14_3 : wr.cell? ⟨gb126, 3, none⟩ = some (.slice A0_3 l0_3.length c0_3) := (blk_cell BK126.out 3).trans rfl
          have hfz14_0 := blk_frozen BK126.out 0
          have hfz14_1 := blk_frozen BK126.out 1
          have hfz14_2 := blk_frozen BK126.out 2
          have hfz14_3 := blk_frozen BK126.out 3
          go_wp2
          go_ret
          exact ⟨by first | rfl | (simp [errW_none, errW_some] <;> rfl) | (simp [*, errW_none, errW_some] <;> rfl), by repeat (first | (with_reducible first | exact HB.out | apply below_alloc | apply pw_below_drewN | apply below_drew1 | refine below_set ?_ GE126.out) | exact HB.out)⟩

/-! ### usanceref13_Small: function 88 -/
def usanceref13_Small.f (k : Nat) (a0_0 : Int) (a0_1 : Int) (a0_2 : ByteArray) (l0_3 : List (S24)) : Option (Bool) := (usanceref13_left.f k a0_0 a0_1 a0_2 l0_3 2000 1).bind fun t130 => (some (decide (t130 ≥ 0)))
theorem usanceref13_Small.mono : ∀ a0 a1 a2 a3 k, LeO (usanceref13_Small.f k a0 a1 a2 a3) (usanceref13_Small.f (k + 1) a0 a1 a2 a3) := by
  intro a0 a1 a2 a3 k
  unfold usanceref13_Small.f
  repeat' first
      | (with_reducible exact usanceref13_left.mono _ _ _ _ _ _ _)
      | (with_reducible exact LeO.refl _)
      | (with_reducible exact LeO.none _)
      | (with_reducible refine LeO.ite ?_ ?_)
      | (with_reducible refine LeO.bind ?_ (fun _ => ?_))
      | exact usanceref13_left.mono _ _ _ _ _ _ _
      | exact LeO.none _
      | refine LeO.ite ?_ ?_
      | refine LeO.bind ?_ (fun _ => ?_)
set_option maxHeartbeats 8000000 in
set_option maxRecDepth 100000 in
theorem usanceref13_Small.calls (k : Nat) (a0_0 : Int) (a0_1 : Int) (a0_2 : ByteArray) (A0_3 : Option Addr) (c0_3 : Nat) (l0_3 : List (S24)) (r : Bool) (w : World) (hr0_3 : Kd.C k24 w A0_3 l0_3.length l0_3) (hc0_3 : l0_3.length ≤ c0_3) (h : usanceref13_Small.f k a0_0 a0_1 a0_2 l0_3 = some r) :
    Calls Tryz.prog 88 #[.agg #[.int .i64 a0_0, .int .i64 a0_1, .string a0_2, .slice A0_3 l0_3.length c0_3]] w fun e w' => e = .returned (.bool r) ∧ Below w.heap.size w w' := by
  have hu24 := Tryz.underlying24
  have HR0_3 := Aside0.mk hr0_3
  have HC0_3 := Aside0.mk hc0_3
  clear hr0_3 hc0_3
  have HB := Aside0.mk (Below.refl w.heap.size w)
  have H : ((usanceref13_left.f k a0_0 a0_1 a0_2 l0_3 2000 1).bind fun t130 => (some (decide (t130 ≥ 0)))) = some r := h
  clear h
  replace H := Option.bind_eq_some_iff.mp H
  obtain ⟨t130, A20, H⟩ := H
  replace H : (some (decide (t130 ≥ 0))) = some r := H
  have A2 := Aside0.mk A20
  clear A20
  obtain rfl := Option.some.inj H
  go_enter Tryz.func88, Tryz.ntmps88
  go_wp2_with (first | ((with_reducible refine gate_dst (N := 1) rfl ?_); refine box_event ?hg (N := 1) ?hd (cs := #[.int .i64 a0_0, .int .i64 a0_1, .string a0_2, .slice A0_3 l0_3.length c0_3]) (t := 24) ?hr ?_; (case hd => rfl); (case hg => rfl); (case hr => first | (go_simp; done) | (go_simp; rfl)); intro gb129 hg w3 hbox hb; have n0_ := Aside0.mk (below_step (by repeat (first | (with_reducible first | exact HB.out | apply below_alloc | apply pw_below_drewN | apply below_drew1) | exact HB.out)) hb); have n1_ := Aside0.mk (hbox); have n2_ := Aside0.mk ((by rw [hg]; exact (below_size (by repeat (first | (with_reducible first | exact HB.out | apply below_alloc | apply pw_below_drewN | apply below_drew1) | exact HB.out))) : w.heap.size ≤ gb129)); have n3_ := Aside0.mk ((by rw [hg]; exact (below_size (by repeat (first | (with_reducible first | exact HB.out | apply below_alloc | apply pw_below_drewN | apply below_drew1) | exact HB.out))) : w.heap.size ≤ gb129)); clear HB; have HB := n0_; have BK129 := n1_; have GW129 := n2_; have GE129 := n3_; clear n0_ n1_ n2_ n3_; clear hb hbox hg; have hcz4_0 : w3.cell? ⟨gb129, 0, none⟩ = some (.int .i64 a0_0) := (blk_cell BK129.out 0).trans rfl; have hcz4_1 : w3.cell? ⟨gb129, 1, none⟩ = some (.int .i64 a0_1) := (blk_cell BK129.out 1).trans rfl; have hcz4_2 : w3.cell? ⟨gb129, 2, none⟩ = some (.string a0_2) := (blk_cell BK129.out 2).trans rfl; have hcz4_3 : w3.cell? ⟨gb129, 3, none⟩ = some (.slice A0_3 l0_3.length c0_3) := (blk_cell BK129.out 3).trans rfl; have hfz4_0 := blk_frozen BK129.out 0; have hfz4_1 := blk_frozen BK129.out 1; have hfz4_2 := blk_frozen BK129.out 2; have hfz4_3 := blk_frozen BK129.out 3) | ((with_reducible refine gate_callee (f := 147) rfl ?_); refine goesL_ (some 4) rfl rfl Tryz.func147 (by kernel_rfl) rfl #[.agg #[.int .i64 a0_0, .int .i64 a0_1, .string a0_2, .slice A0_3 l0_3.length c0_3], .int .i64 2000, .int .i64 1] rfl (by (try simp only [List.map_toArray, List.map_cons, List.map_nil]); first | done | rfl | (simp only [List.length_drop, List.length_take]; rfl)) ?_; (with_reducible refine (usanceref13_left.calls k a0_0 a0_1 a0_2 _ _ l0_3 2000 1 t130 _ ?side1 ?side2 A2.out).mono ?_); (case side1 => repeat (first | exact (Kd.C_below HR0_3.out HB.out) | (with_reducible refine Kd.C_alloc ?_ _) | (with_reducible refine Kd.C_drewN ?_ _) | (with_reducible refine Kd.C_drew ?_))); (case side2 => exact HC0_3.out); rintro e w5 ⟨rfl, hb⟩; refine ⟨_, rfl, ?_⟩; have n0_ := Aside0.mk (blk_below (g := gb129) (o := .cells #[.int .i64 a0_0, .int .i64 a0_1, .string a0_2, .slice A0_3 l0_3.length c0_3] 24 (0, 0)) (by (with_reducible repeat (first | refine blk_drewN ?_ _ | refine blk_drew ?_ | refine blk_alloc ?_ _)); exact BK129.out) hb); have n1_ := Aside0.mk (below_step (by repeat (first | (with_reducible first | exact HB.out | apply below_alloc | apply pw_below_drewN | apply below_drew1 | refine below_set ?_ GE129.out) | exact HB.out)) hb); clear BK129; clear HB; have BK129 := n0_; have HB := n1_; clear n0_ n1_; (try clear hb); (try clear hb2); (try clear hk); (try clear hi)))
  go_ret
  exact ⟨by first | rfl | (simp [errW_none, errW_some] <;> rfl) | (simp [*, errW_none, errW_some] <;> rfl), by repeat (first | (with_reducible first | exact HB.out | apply below_alloc | apply pw_below_drewN | apply below_drew1 | refine below_set ?_ GE129.out) | exact HB.out)⟩

end Go.Proofs.YtniajhmbdbgmgaaGreatDoor.Q

/- causal.Check tells whether a term is a contract none of whose observables looks ahead. -/
namespace Go.Proofs.YtniajhmbdbgmgaaGreatDoor.Q
open Go Go.RowKit Go.Proofs Go.Proofs.YtniajhmbdbgmgaaGreatDoor Go.Shelf Go.Proofs.YtniajhmbdbgmgaaGreatDoorW.PrintWords Go.Proofs.YtniajhmbdbgmgaaGreatDoorW.PrintLast Go.Proofs.YtniajhmbdbgmgaaGreatDoorW.PrintMore
attribute [local go_sem] Oper.semAt_some

def aheadK (k : Int × Int × Int × ByteArray) : Bool := (k.2.1 == 4 || k.2.1 == 5) && decide (k.2.2.1 < 0)
def checkT (x : S24) (t : Int) (ok : Bool) : Int := if ok = true ∧ t = 4 then (if (preT 1 x).any aheadK = true then 141 else 0) else 140
def causal_Check.f (k : Nat) (a b : Int) (c : ByteArray) (l : List S24) : Option Int := (causal_Type.f k a b c l).bind fun r => some (checkT ⟨a, b, c, l⟩ r.1 r.2)
theorem core_cells {W : World} {B : Nat} {a b : Int} {s : ByteArray} {v : Value} {t : TypeId} (h : W.heap[B]? = some (.cells #[.int .i64 a, .int .i64 b, .string s, v] t (0, 0))) :
    W.cell? ⟨B, 0, none⟩ = some (.int .i64 a) ∧ W.cell? ⟨B, 1, none⟩ = some (.int .i64 b) ∧ W.cell? ⟨B, 2, none⟩ = some (.string s) ∧ W.cell? ⟨B, 3, none⟩ = some v := by
  simp [World.cell?, h]
set_option maxRecDepth 100000 in
set_option maxHeartbeats 4000000 in
theorem check_in (F : Fence) (hd : F.depth = none) (hF : ∀ f, F.fn f) (hro : F.round = none) (n : Nat) (hn : 3 ≤ n) (x : S24) (A : Option Addr) (c : Nat) (w : World) (ht : Kd.C k24 w A x.f3.length x.f3) (hc : x.f3.length ≤ c) (t : Int) (ok : Bool)
    (hty : ∀ W, Below w.heap.size w W → CallsIn F (n - 1) Tryz.prog 77 #[.agg #[.int .i64 x.f0, .int .i64 x.f1, .string x.f2, .slice A x.f3.length c]] W fun e w' => e = .returned (.tuple #[.int .i64 t, .bool ok]) ∧ Below W.heap.size W w') :
    CallsIn F n Tryz.prog 35 #[.agg #[.int .i64 x.f0, .int .i64 x.f1, .string x.f2, .slice A x.f3.length c]] w fun e w' => e = .returned (.int .i64 (checkT x t ok)) ∧ Below w.heap.size w w' := by
  have h1 : 1 ≤ n := by omega
  have hF1 := hF 35; have hF2 := hF 78; have hF3 := hF 132
  have hT := Lib.hid ht
  have hTy := Lib.hid hty
  clear ht hty
  obtain ⟨w2, ew2⟩ : ∃ w2, (w.alloc (.cells #[.int .i64 x.f0, .int .i64 x.f1, .string x.f2, .slice A x.f3.length c] 24)).alloc (.cells #[.int .i64 0] 26) = w2 := ⟨_, rfl⟩
  have s2 : w2.heap.size = w.heap.size + 1 + 1 := by rw [← ew2]; simp
  have hB2 : Below w.heap.size w w2 := by rw [← ew2]; exact ((Below.refl _ w).alloc (Nat.le_refl _) _).alloc (by simp) _
  have b1 : w2.heap[w.heap.size]? = some (.cells #[.int .i64 x.f0, .int .i64 x.f1, .string x.f2, .slice A x.f3.length c] 24 (0, 0)) := by
    rw [← ew2]; exact (Below.heap_alloc _ _ _ (by simp)).trans (World.alloc_heap_new w _)
  have b2 : Boxed w2 (w.heap.size + 1) 26 (.int .i64 0) := by
    rw [← ew2]
    have := Boxed.new (w.alloc (.cells #[.int .i64 x.f0, .int .i64 x.f1, .string x.f2, .slice A x.f3.length c] 24)) 26 (.int .i64 0)
    rwa [World.size_alloc] at this
  refine callsIn_of_wp_marks Tryz.func35 rfl hF1 ?_ hro
  simp only [Tryz.ntmps35, List.size_toArray, List.length_cons, List.length_nil, Nat.reduceAdd, Nat.reduceSub, Array.replicate_succ, Array.replicate_zero, List.push_toArray, List.append_toArray, List.nil_append, List.cons_append]
  obtain ⟨d0, d1, d2, d3⟩ := core_cells b1
  have hcall := (hTy.out w2 hB2).mono (R' := fun e W => (e = .returned (.tuple #[.int .i64 t, .bool ok]) ∧ (W.cell? ⟨w.heap.size, 0, none⟩ = some (.int .i64 x.f0) ∧ W.cell? ⟨w.heap.size, 1, none⟩ = some (.int .i64 x.f1) ∧ W.cell? ⟨w.heap.size, 2, none⟩ = some (.string x.f2) ∧ W.cell? ⟨w.heap.size, 3, none⟩ = some (.slice A x.f3.length c)) ∧
      Boxed W (w.heap.size + 1) 26 (.int .i64 0) ∧ Below w.heap.size w W ∧ w2.heap.size ≤ W.heap.size))
    (fun e W h => ⟨h.1, core_cells ((h.2.block _ (by omega)).trans b1), (h.2.block _ (by omega)).trans b2, hB2.trans (h.2.mono hB2.size), h.2.size⟩)
  clear hTy b1 b2
  by_cases hcase : ok = true ∧ t = 4
  case neg =>
    have hres : checkT x t ok = 140 := by unfold checkT; rw [if_neg hcase]
    have hR := Lib.hid hres
    clear hres
    cases ok
    · gi_wp2_with (gi_at_call 77; refine hcall.mono ?_; rintro e W ⟨rfl, ⟨g0, g1, g2, g3⟩, hbr, hBW, hsz⟩; have hcr := boxed_cell hbr; have hfr := boxed_frozen hbr)
      refine ⟨.int .i64 140, ?_, by rw [hR.out], hBW.setCell (p := ⟨w.heap.size + 1, 0, none⟩) (by simp) _⟩
      simp [results, Tryz.f35, go_sem, boxed_cell (boxed_set hbr (.int .i64 140))]
    · have t1 : (t != 4) = true := bne_iff_ne.2 (fun h => hcase ⟨rfl, h⟩)
      clear hcase
      gi_wp2_with (gi_at_call 77; refine hcall.mono ?_; rintro e W ⟨rfl, ⟨g0, g1, g2, g3⟩, hbr, hBW, hsz⟩; have hcr := boxed_cell hbr; have hfr := boxed_frozen hbr)
      refine ⟨.int .i64 140, ?_, by rw [hR.out], hBW.setCell (p := ⟨w.heap.size + 1, 0, none⟩) (by simp) _⟩
      simp [results, Tryz.f35, go_sem, boxed_cell (boxed_set hbr (.int .i64 140))]
  case pos =>
    obtain ⟨rfl, rfl⟩ := hcase
    have hres : checkT x 4 true = if (preT 1 x).any aheadK = true then 141 else 0 := rfl
    have hR := Lib.hid hres
    clear hres
    gi_wp2_with (gi_at_call 77; refine hcall.mono ?_; rintro e W ⟨rfl, ⟨g0, g1, g2, g3⟩, hbr, hBW, hsz⟩; have hcr := boxed_cell hbr; have hfr := boxed_frozen hbr)
    refine (all_in F (n - 1) hF2 hro _ _ _ _ _ _ _).mono ?_
    rintro e w' ⟨rfl, rfl⟩
    gi_wp2
    have hBW := hBW
    obtain ⟨w5, ew5⟩ : ∃ w5, W.alloc (.cells #[.int .i64 x.f0, .int .i64 x.f1, .string x.f2, .slice A x.f3.length c] 24) = w5 := ⟨_, rfl⟩
    have s5 : w5.heap.size = W.heap.size + 1 := by rw [← ew5]; simp
    have hB5 : Below w.heap.size w w5 := by rw [← ew5]; exact hBW.alloc hBW.size _
    have b5 : w5.heap[W.heap.size]? = some (.cells #[.int .i64 x.f0, .int .i64 x.f1, .string x.f2, .slice A x.f3.length c] 24 (0, 0)) := by rw [← ew5]; exact World.alloc_heap_new W _
    have b2' : Boxed w5 (w.heap.size + 1) 26 (.int .i64 0) := by rw [← ew5]; exact boxed_more hbr _
    rw [ew5]
    have hF5 : Kd.F k24 w5 (fun i => i < w5.heap.size ∧ ¬ (i = w.heap.size + 1)) A x.f3.length x.f3 :=
      Kd.F_mono (Kd.F_below (Kd.C_F k24_heap hT.out) hB5) (fun k hk => ⟨by have := hB5.size; omega, by omega⟩)
    refine wpIn_rangeFunc_ownH hro h1 (gf := 132) (lb := #[.pointer (some ⟨W.heap.size, 0, none⟩)]) rfl hF3 (enters_of Tryz.func132 (by kernel_rfl) rfl)
      (all_stops F hd (n - 1) hF3 (hF _) hro W.heap.size w5.heap.size (fun i => i = w.heap.size + 1) (fun k hk => by omega) x A c w5 b5 hF5 hc (Nat.le_refl _))
      (fun h k => h.trans k) (fun W l o o' hl h hc _ => KC.put W l o o' hl h hc) (Below.refl _ _) (fun _ => rfl)
      (fun pre W' => ((∀ y ∈ pre, aheadK y.key = false) ∧ Boxed W' (w.heap.size + 1) 26 (.int .i64 0)) ∧ (Below w.heap.size w W' ∧ w5.heap.size ≤ W'.heap.size))
      (fun k pre W' => ((k = .ret ∧ ∃ y ∈ pre, aheadK y.key = true) ∧ Boxed W' (w.heap.size + 1) 26 (.int .i64 141)) ∧ Below w.heap.size w W')
      (OwnFrom.and (OwnFrom.and (ownFrom_pure _ _) (Own.from (boxed_own _ _ _) _)) (OwnFrom.and (ownFrom_below (Nat.le_refl _) (by omega)) (fun s A B row hs hg _ => Nat.le_trans hs hg.size)))
      (fun k => OwnFrom.and (OwnFrom.and (ownFrom_pure _ _) (Own.from (boxed_own _ _ _) _)) (ownFrom_below (Nat.le_refl _) (by omega)))
      ⟨⟨by simp, b2'⟩, hB5, Nat.le_refl _⟩
      (fun y a' W' => ∃ Bx, W'.heap[Bx]? = some (.cells #[.int .i64 y.op, .int .i64 y.n, .string y.s, .slice y.A y.len y.cap] 24 (0, 0)) ∧ w5.heap.size ≤ Bx ∧ a' = { tmps := #[.agg #[.int .i64 x.f0, .int .i64 x.f1, .string x.f2, .slice A x.f3.length c], .pointer (some ⟨w.heap.size, 0, none⟩), .pointer (some ⟨w.heap.size + 1, 0, none⟩), .int .i64 4, .bool true, undef, .pointer (some ⟨Bx, 0, none⟩),
        .tuple #[.int .i64 4, .bool true], .agg #[.int .i64 x.f0, .int .i64 x.f1, .string x.f2, .slice A x.f3.length c], .tuple #[.int .i64 4, .bool true], .int .i64 4, .bool true, .bool true, .bool false, .bool false, .int .i64 4, .bool false, .bool false, .agg #[.int .i64 x.f0, .int .i64 x.f1, .string x.f2, .slice A x.f3.length c],
        .func (.func 132) #[] #[.pointer (some ⟨W.heap.size, 0, none⟩)], .int .i64 y.d, .agg #[.int .i64 y.op, .int .i64 y.n, .string y.s, .slice y.A y.len y.cap], undef, undef, undef, undef, undef, undef, undef, undef, undef, undef, undef, undef, undef], defers := [] })
      (fun y a' s A B row hs hg hrow => by
        obtain ⟨Bx, hb, hl, ha⟩ := hs
        refine ⟨Bx, (hg.block Bx (Array.getElem?_eq_some_iff.1 hb).1 (fun e => ?_)).trans hb, hl, ha⟩
        obtain ⟨_, o, ho, hcells⟩ := hrow Bx e.symm
        rw [hb] at ho; cases ho; cases hcells) ?assign ?body ?done ?stop
    case assign =>
      intro l pre y W6 K hi hK
      simp only [Item.enc]
      gi_wp2
      refine hK _ _ ((KeepsOthers.alloc _ _).from _) (KC.alloc _ _ hi.2.2) ⟨⟨hi.1.1, boxed_more hi.1.2 _⟩, hi.2.1.alloc hi.2.1.size _, Nat.le_trans hi.2.2 (by simp)⟩ ⟨W6.heap.size, World.alloc_heap_new W6 _, hi.2.2, rfl⟩
    case body =>
      rintro l pre y a' W6 _ _ ⟨⟨hp, hb⟩, hB, hs6⟩ ⟨Bx, hx, hlx, rfl⟩ _
      obtain ⟨k0, k1, k2, k3⟩ := core_cells hx
      have hc6 := boxed_cell hb
      have hf6 := boxed_frozen hb
      have HB := Lib.hid hB; have HP := Lib.hid hp; have HBx := Lib.hid hb
      clear hB hp hb hx k2 k3
      by_cases q : aheadK y.key = true
      · have q' : (y.op = 4 ∨ y.op = 5) ∧ y.n < 0 := by
          simp [aheadK, Item.key] at q
          exact ⟨q.1, of_decide_eq_true q.2⟩
        have t2 : decide (y.n < 0) = true := decide_eq_true q'.2
        have HQ := Lib.hid q
        rcases q'.1 with e | e
        · have t1 : (y.op == 4) = true := beq_iff_eq.2 e
          clear q q' e
          gi_wp2
          exact ⟨(KeepsOthers.setCell _ _ _).from _, ⟨⟨rfl, y, by simp, HQ.out⟩, boxed_set HBx.out _⟩, HB.out.setCell (p := ⟨w.heap.size + 1, 0, none⟩) (by simp) _⟩
        · have t1 : (y.op == 4) = false := beq_eq_false_iff_ne.2 (by omega)
          have t3 : (y.op == 5) = true := beq_iff_eq.2 e
          clear q q' e
          gi_wp2
          exact ⟨(KeepsOthers.setCell _ _ _).from _, ⟨⟨rfl, y, by simp, HQ.out⟩, boxed_set HBx.out _⟩, HB.out.setCell (p := ⟨w.heap.size + 1, 0, none⟩) (by simp) _⟩
      · have q0 : aheadK y.key = false := by simpa using q
        have hI : ∀ z ∈ pre ++ [y], aheadK z.key = false := by
          intro z hz
          rcases List.mem_append.1 hz with hz | hz
          · exact HP.out z hz
          · simp at hz; subst hz; exact q0
        have HI := Lib.hid hI
        have q' : ¬ ((y.op = 4 ∨ y.op = 5) ∧ y.n < 0) := by
          rintro ⟨g1, g2⟩
          simp [aheadK, Item.key] at q0
          exact of_decide_eq_false (q0 g1) g2
        clear q q0 hI
        by_cases e4 : y.op = 4
        · have t1 : (y.op == 4) = true := beq_iff_eq.2 e4
          have t2 : decide (y.n < 0) = false := decide_eq_false (fun h => q' ⟨.inl e4, h⟩)
          clear q' e4
          gi_wp2
          exact ⟨KeepsFrom.refl _ _, KC.refl _ _ _, ⟨HI.out, HBx.out⟩, HB.out, hs6⟩
        · have t1 : (y.op == 4) = false := beq_eq_false_iff_ne.2 e4
          by_cases e5 : y.op = 5
          · have t3 : (y.op == 5) = true := beq_iff_eq.2 e5
            have t2 : decide (y.n < 0) = false := decide_eq_false (fun h => q' ⟨.inr e5, h⟩)
            clear q' e4 e5
            gi_wp2
            exact ⟨KeepsFrom.refl _ _, KC.refl _ _ _, ⟨HI.out, HBx.out⟩, HB.out, hs6⟩
          · have t3 : (y.op == 5) = false := beq_eq_false_iff_ne.2 e5
            clear q' e4 e5
            gi_wp2
            exact ⟨KeepsFrom.refl _ _, KC.refl _ _ _, ⟨HI.out, HBx.out⟩, HB.out, hs6⟩
    case done =>
      rintro D ys W6 hD hS ⟨⟨hp, hb⟩, hB, hs6⟩ hK
      have hc6 := boxed_cell hb
      have hf6 := boxed_frozen hb
      have hres : checkT x 4 true = 0 := by
        rw [hR.out, if_neg]
        rw [Bool.not_eq_true, List.any_eq_false, ← hS]
        intro z hz
        obtain ⟨y, hy, rfl⟩ := List.mem_map.1 hz
        simpa using hp y hy
      gi_wp2
      have hK' := (KeepsOthers.setCell W6 ⟨w.heap.size + 1, 0, none⟩ (.int .i64 0)).same D _ hK rfl
      refine ⟨by simp, .inl ⟨_, _, rfl, run_takeDeferred hK', ?_⟩⟩
      have hc5 := cell_kept (World.cell?_setCell_same' W6 ⟨w.heap.size + 1, 0, none⟩ (.int .i64 0) (by rw [hc6]; rfl)) (grownBy_putObj' _ D (.deferred none)) (fun r e => by cases e; exact ⟨_, hK', rfl⟩)
      refine ⟨.int .i64 0, ?_, by rw [hres], (hB.setCell (p := ⟨w.heap.size + 1, 0, none⟩) (by simp) _).trans (belowK_b (w := w) (Nat.le_refl _) _ D _ _ (by have := hB5.size; omega) hK' rfl rfl)⟩
      simp [results, Tryz.f35, go_sem, hc5]
    case stop =>
      rintro D k pre W6 hD hS ⟨⟨⟨rfl, y, hy, hq⟩, hb⟩, hB⟩ hK
      have hres : checkT x 4 true = 141 := by
        rw [hR.out, if_pos]
        rw [List.any_eq_true]
        obtain ⟨r, hr⟩ := hS
        exact ⟨y.key, by rw [← hr]; exact List.mem_append_left _ (List.mem_map_of_mem hy), hq⟩
      gi_wp2
      refine ⟨by simp, .inl ⟨_, _, rfl, run_takeDeferred hK, ?_⟩⟩
      have hc5 := cell_kept (boxed_cell hb) (grownBy_putObj' _ D (.deferred none)) (fun r e => by cases e; exact ⟨_, hK, rfl⟩)
      refine ⟨.int .i64 141, ?_, by rw [hres], hB.trans (belowK_b (w := w) (Nat.le_refl _) W6 D _ _ (by have := hB5.size; omega) hK rfl rfl)⟩
      simp [results, Tryz.f35, go_sem, hc5]

theorem causal_Check.calls (k : Nat) (a0_0 : Int) (a0_1 : Int) (a0_2 : ByteArray) (A0_3 : Option Addr) (c0_3 : Nat) (l0_3 : List S24) (r : Int) (w : World) (hr0_3 : Kd.C k24 w A0_3 l0_3.length l0_3) (hc0_3 : l0_3.length ≤ c0_3) (h : causal_Check.f k a0_0 a0_1 a0_2 l0_3 = some r) :
    Calls Tryz.prog 35 #[.agg #[.int .i64 a0_0, .int .i64 a0_1, .string a0_2, .slice A0_3 l0_3.length c0_3]] w fun e w' => e = .returned (.int .i64 r) ∧ Below w.heap.size w w' := by
  unfold causal_Check.f at h
  obtain ⟨⟨t, ok⟩, ht, h⟩ := Option.bind_eq_some_iff.1 h
  obtain rfl := Option.some.inj h
  exact (callsIn_wide (n := 3)).1 (check_in Fence.wide rfl (fun _ => trivial) rfl 3 (Nat.le_refl _) ⟨a0_0, a0_1, a0_2, l0_3⟩ A0_3 c0_3 w hr0_3 hc0_3 t ok
    (fun W hW => callsIn_wide.2 (causal_Type.calls k a0_0 a0_1 a0_2 A0_3 c0_3 l0_3 t ok W (Kd.C_below hr0_3 hW) hc0_3 ht)))
end Go.Proofs.YtniajhmbdbgmgaaGreatDoor.Q

/- Layer 14 in plain Lean: the printed check of a term tells whether it is small, of the right type, and looks not ahead; any term. -/
namespace Go.Proofs.YtniajhmbdbgmgaaGreatDoor.Q
open Go Go.RowKit Go.Proofs Go.Proofs.YtniajhmbdbgmgaaGreatDoor Go.Proofs.YtniajhmbdbgmgaaGreatDoorW.PrintWords

/-! ### names and fields -/
theorem isName_some (s : ByteArray) : ∃ b, causal_isName.f s = some b := by
  unfold causal_isName.f
  by_cases h1 : s.toList = ([] : List UInt8)
  · exact ⟨_, if_pos h1⟩
  · rw [if_neg h1]
    by_cases h2 : (s.size : Int) > 24
    · exact ⟨_, if_pos h2⟩
    · rw [if_neg h2]
      have h3 : 0 < (s.size : Int) := by
        refine Classical.byContradiction fun hn => h1 ?_
        rw [Lib.toList_data]
        have : s.data.toList.length = s.size := rfl
        exact List.eq_nil_of_length_eq_zero (by omega)
      rw [if_pos h3]
      split
      · exact ⟨_, rfl⟩
      · split
        · exact ⟨_, rfl⟩
        · unfold strings_Trim.f
          rw [if_pos ⟨by omega, by decide, by decide⟩]
          exact ⟨_, rfl⟩
def nameT (s : ByteArray) : Bool := (causal_isName.f s).getD false
theorem isName_is (s : ByteArray) : causal_isName.f s = some (nameT s) := by
  obtain ⟨b, hb⟩ := isName_some s
  unfold nameT
  rw [hb]
  rfl
theorem isCur_some (s : ByteArray) : ∃ b, causal_isCur.f s = some b := by
  unfold causal_isCur.f
  by_cases h : (s.size : Int) = 3
  · rw [if_pos h]
    unfold strings_Trim.f
    rw [if_pos ⟨by omega, by decide, by decide⟩]
    exact ⟨_, rfl⟩
  · exact ⟨_, if_neg h⟩
def curT (s : ByteArray) : Bool := (causal_isCur.f s).getD false
theorem isCur_is (s : ByteArray) : causal_isCur.f s = some (curT s) := by
  obtain ⟨b, hb⟩ := isCur_some s
  unfold curT
  rw [hb]
  rfl
def inT (n a b : Int) : Bool := decide (a ≤ n) && decide (n ≤ b)
theorem within_is (n a b : Int) : causal_within.f n a b = some (inT n a b) := by
  unfold causal_within.f inT
  by_cases h : a ≤ n
  · rw [if_pos h, decide_eq_true h, Bool.true_and]
  · rw [if_neg h, decide_eq_false h, Bool.false_and]
theorem inT_iff (n a b : Int) : inT n a b = true ↔ a ≤ n ∧ n ≤ b := by simp [inT]
def emptyT (s : ByteArray) : Bool := decide (s.toList = ([] : List UInt8))
/-- Are an operation's fields right? -/
def flT (op n : Int) (s : ByteArray) : Bool :=
  if op = 4 then nameT s && inT n (-3660) 3660 else if op = 31 then nameT s && inT n 0 73048 else if op = 24 then curT s && n == 0
  else emptyT s && (if op = 1 then inT n (-1000000000000000) 1000000000000000 else if op = 2 then inT n 0 1 else if op = 3 ∨ op = 29 ∨ op = 30 then inT n 0 73048 else if op = 5 then inT n (-3660) 3660 else n == 0)
theorem ite_empty (s : ByteArray) (b : Bool) : (if s.toList = ([] : List UInt8) then some b else some false) = some (emptyT s && b) := by
  unfold emptyT
  split
  · simp [*]
  · simp [*]
theorem fields_is (k : Nat) (op n : Int) (s : ByteArray) (l : List Core) : causal_fields.f (k + 1) op n s l = some (flT op n s) := by
  unfold causal_fields.f flT
  simp only [isName_is, isCur_is, within_is, Option.bind_some, causal_fields.j0, ite_empty]
  by_cases h4 : op = 4
  · rw [if_pos h4, if_pos h4]; cases nameT s <;> simp
  · rw [if_neg h4, if_neg h4]
    by_cases h31 : op = 31
    · rw [if_pos h31, if_pos h31]; cases nameT s <;> simp
    · rw [if_neg h31, if_neg h31]
      by_cases h24 : op = 24
      · rw [if_pos h24, if_pos h24]; cases curT s <;> simp
      · rw [if_neg h24, if_neg h24]
        by_cases h1 : op = 1
        · rw [if_pos h1, if_pos h1]
        · rw [if_neg h1, if_neg h1]
          by_cases h2 : op = 2
          · rw [if_pos h2, if_pos h2]
          · rw [if_neg h2, if_neg h2]
            by_cases h3 : op = 3
            · subst h3; simp
            · rw [if_neg h3]
              by_cases h29 : op = 29
              · subst h29; simp
              · rw [if_neg h29]
                by_cases h30 : op = 30
                · subst h30; simp
                · simp only [beq_eq_false_iff_ne.2 h30, Bool.false_eq_true, if_false]
                  rw [if_neg (show ¬ (op = 3 ∨ op = 29 ∨ op = 30) by omega)]
                  by_cases h5 : op = 5
                  · rw [if_pos h5, if_pos h5]
                  · rw [if_neg h5, if_neg h5]
theorem empty_iff (s : ByteArray) : emptyT s = true ↔ s = ⟨#[]⟩ := by
  unfold emptyT
  rw [decide_eq_true_eq, Lib.toList_data]
  constructor
  · intro h
    obtain ⟨d⟩ := s
    simp only [Array.toList_eq_nil_iff] at h
    rw [h]
  · rintro rfl
    rfl
theorem emptyT_nil : emptyT ⟨#[]⟩ = true := (empty_iff _).2 rfl
theorem flOk : FlOk flT := by
  refine ⟨fun n h0 h1 => ?_, fun n h0 h1 => ?_, fun n h0 h1 => ?_, ?_, fun n s h => ?_, fun n s h => ?_, fun n s h => ?_, fun n m s t h h' => ?_, fun n s h => ?_⟩
  · simp [flT, emptyT_nil, inT_iff, h0, h1]
  · simp [flT, emptyT_nil, inT_iff, h0, h1]
  · simp [flT, emptyT_nil, inT_iff, h0, h1]
  · simp [flT, emptyT_nil]
  · simp [flT, inT_iff] at h; exact h.2
  · simp [flT, inT_iff] at h; exact h.2
  · simp [flT, inT_iff] at h; exact h.2
  · simp [flT, inT_iff] at h h'
    simp [flT, emptyT_nil, inT_iff]
    split <;> omega
  · simp [flT, inT_iff] at h
    simp [flT, emptyT_nil, inT_iff, h.2]

/-! ### the table of sorts -/
def kidsB (n : Nat) : List UInt8 := ([[], [], [], [], [], [], [110], [110, 110], [110, 110], [110, 110], [110, 110], [110, 110], [110, 110], [110, 110], [98], [98, 98], [98, 98], [100, 100], [100, 110], [100, 110], [100, 100], [100, 100], [98, 120, 120], [], [], [99], [110, 99], [99, 99], [98, 99, 99], [99], [98, 99], [99, 99]] : List (List UInt8)).getD n []
def ownB (n : Nat) : UInt8 := ([0, 110, 98, 100, 110, 100, 110, 110, 110, 110, 110, 98, 98, 98, 98, 98, 98, 98, 100, 100, 110, 110, 120, 99, 99, 99, 99, 99, 99, 99, 99, 99] : List UInt8).getD n 0
def cutOk (n : Nat) : Bool := match strings_Cut.f ⟨(sortAt (n : Int)).toArray⟩ ⟨#[62]⟩ with
  | some r => if n = 0 then !r.2.2 else r.1.data.toList == kidsB n && r.2.1.data.toList == [ownB n] && r.2.2
  | none => false
theorem cutOk_all : ((List.range 32).all cutOk) = true := by kernel_rfl
theorem cut_in (n : Nat) (h1 : 1 ≤ n) (h : n < 32) : strings_Cut.f ⟨(sortAt (n : Int)).toArray⟩ ⟨#[62]⟩ = some (⟨(kidsB n).toArray⟩, ⟨#[ownB n]⟩, true) := by
  have hc := List.all_eq_true.1 cutOk_all n (List.mem_range.2 h)
  unfold cutOk at hc
  cases hr : strings_Cut.f ⟨(sortAt (n : Int)).toArray⟩ ⟨#[62]⟩ with
  | none => rw [hr] at hc; cases hc
  | some r =>
    rw [hr] at hc
    simp only at hc
    rw [if_neg (by omega)] at hc
    simp only [Bool.and_eq_true, beq_iff_eq] at hc
    obtain ⟨⟨a⟩, ⟨b⟩, c⟩ := r
    simp only at hc
    rw [← hc.1.1, hc.2]
    have hb : b = #[ownB n] := by rw [← Array.toList_inj, hc.1.2]
    rw [hb]
theorem cut_out (op : Int) (h : op < 1 ∨ 31 < op) : ∃ a b, strings_Cut.f ⟨(sortAt op).toArray⟩ ⟨#[62]⟩ = some (a, b, false) := by
  have he : sortAt op = [] := by
    unfold sortAt
    by_cases h0 : 0 ≤ op ∧ op < 32
    · have : op = 0 := by omega
      subst this
      rfl
    · rw [if_neg h0]
  rw [he]
  exact ⟨_, _, rfl⟩

/-! ### a term's letter -/
def goL (own : Int) : List Int → List Int → Int → Int
  | k :: ks, t :: ts, x => if t = 0 then 0 else if k = 120 ∧ t ≠ 99 ∧ (x = 0 ∨ x = t) then goL own ks ts t else if k = t then goL own ks ts x else 0
  | _, _, x => if own = 120 then x else own
theorem bt_list (l : List UInt8) (j : Nat) (hj : j < l.length) : bt ⟨l.toArray⟩ (j : Int) = (l[j].toNat : Int) := by
  unfold bt
  have h : ((j : Int)).toNat < (⟨l.toArray⟩ : ByteArray).size := by simpa [ByteArray.size] using hj
  rw [dif_pos h]
  rfl
theorem letter_loop (kb : List UInt8) (ow : UInt8) (l : List Core) (ty : Core → Int) (hlen : kb.length = l.length) (hl : l.length ≤ 3) (hty : ∀ x ∈ l, ty x = 0 ∨ ty x = 110 ∨ ty x = 98 ∨ ty x = 100 ∨ ty x = 99)
    (hx : ∀ x ∈ l, ∃ K, ∀ k, K ≤ k → causal_letter.f k x.f0 x.f1 x.f2 x.f3 = some (ty x)) :
    ∀ (d j : Nat) (x : Int), j + d = l.length → ∃ K, ∀ k, K ≤ k → causal_letter.l0 k ⟨kb.toArray⟩ ⟨#[ow]⟩ x l (l.length : Int) (j : Int) =
      some (goL (ow.toNat : Int) ((kb.drop j).map (fun b => (b.toNat : Int))) ((l.drop j).map ty) x) := by
  intro d
  induction d with
  | zero =>
    intro j x hj
    refine ⟨1, fun k hk => ?_⟩
    obtain ⟨k, rfl⟩ : ∃ m, k = m + 1 := ⟨k - 1, by omega⟩
    rw [causal_letter.l0, if_neg (by omega), List.drop_of_length_le (by omega), List.drop_of_length_le (by omega)]
    simp only [List.map_nil, goL]
    by_cases ho : ow = 120
    · subst ho
      have h120 : (⟨#[120]⟩ : ByteArray).toList = ([120] : List UInt8) := by rw [Lib.toList_data]
      rw [if_pos h120, if_pos (by decide)]
    · have hn : ¬ ((⟨#[ow]⟩ : ByteArray).toList = ([120] : List UInt8)) := by
        rw [Lib.toList_data]
        intro h
        exact ho (by simpa using h)
      have hn2 : ¬ ((ow.toNat : Int) = 120) := by
        intro h
        apply ho
        have : ow.toNat = (120 : UInt8).toNat := by have e : (120 : UInt8).toNat = 120 := rfl; omega
        exact UInt8.toNat_inj.1 this
      rw [if_neg hn, if_neg hn2]
      rfl
  | succ d ih =>
    intro j x hj
    have hjl : j < l.length := by omega
    have hjk : j < kb.length := by omega
    have ekb : kb.drop j = kb[j] :: kb.drop (j + 1) := List.drop_eq_getElem_cons hjk
    have el : l.drop j = l[j] :: l.drop (j + 1) := List.drop_eq_getElem_cons hjl
    have hmem : l[j] ∈ l := List.getElem_mem hjl
    obtain ⟨K1, h1⟩ := hx _ hmem
    have hrd : rd_T24 l (j : Int) = l[j] := by
      unfold rd_T24
      rw [Int.toNat_natCast, List.getD_eq_getElem?_getD, List.getElem?_eq_getElem hjl]
      rfl
    have hbt := bt_list kb j hjk
    have hsz : ((⟨kb.toArray⟩ : ByteArray).size : Int) = kb.length := by simp [ByteArray.size]
    have hw : wrap64 ((j : Int) + 1) = ((j + 1 : Nat) : Int) := by rw [wrap_in (by omega) (by omega)]; omega
    rw [ekb, el]
    simp only [List.map_cons, goL]
    have ht := hty _ hmem
    by_cases h0 : ty l[j] = 0
    · refine ⟨K1 + 1, fun k hk => ?_⟩
      obtain ⟨k, rfl⟩ : ∃ m, k = m + 1 := ⟨k - 1, by omega⟩
      rw [causal_letter.l0, if_pos (by omega), if_pos (by omega), if_pos (by omega), hrd, h1 k (by omega), Option.bind_some, if_pos h0, if_pos h0]
    · rw [if_neg h0]
      have step : ∀ k, K1 ≤ k → causal_letter.l0 (k + 1) ⟨kb.toArray⟩ ⟨#[ow]⟩ x l (l.length : Int) (j : Int) =
          causal_letter.j2 k ⟨kb.toArray⟩ ⟨#[ow]⟩ x (j : Int) (ty l[j]) l (l.length : Int) (j : Int) (decide ((kb[j].toNat : Int) = 120 ∧ ty l[j] ≠ 99 ∧ (x = 0 ∨ x = ty l[j]))) := by
        intro k hk
        rw [causal_letter.l0, if_pos (by omega), if_pos (by omega), if_pos (by omega), hrd, h1 k hk, Option.bind_some, if_neg h0, if_pos (by rw [hsz]; omega), hbt]
        by_cases g1 : (kb[j].toNat : Int) = 120
        · rw [if_pos g1]
          by_cases g2 : ty l[j] = 99
          · rw [if_pos g2, decide_eq_false (fun h => h.2.1 g2)]
          · rw [if_neg g2]
            by_cases g3 : x = 0
            · rw [if_pos g3, decide_eq_true ⟨g1, g2, .inl g3⟩]
            · rw [if_neg g3]
              by_cases g4 : x = ty l[j]
              · rw [decide_eq_true ⟨g1, g2, .inr g4⟩, beq_iff_eq.2 g4]
              · rw [decide_eq_false (fun h => h.2.2.elim g3 g4), beq_eq_false_iff_ne.2 g4]
        · rw [if_neg g1, decide_eq_false (fun h => g1 h.1)]
      by_cases hc : (kb[j].toNat : Int) = 120 ∧ ty l[j] ≠ 99 ∧ (x = 0 ∨ x = ty l[j])
      · rw [if_pos hc]
        obtain ⟨K2, h2⟩ := ih (j + 1) (ty l[j]) (by omega)
        refine ⟨K1 + K2 + 2, fun k hk => ?_⟩
        obtain ⟨k, rfl⟩ : ∃ m, k = m + 2 := ⟨k - 2, by omega⟩
        rw [step (k + 1) (by omega), decide_eq_true hc, causal_letter.j2, if_pos rfl, hw]
        exact h2 k (by omega)
      · rw [if_neg hc]
        by_cases hk : (kb[j].toNat : Int) = ty l[j]
        · rw [if_pos hk]
          obtain ⟨K2, h2⟩ := ih (j + 1) x (by omega)
          refine ⟨K1 + K2 + 2, fun k hk2 => ?_⟩
          obtain ⟨k, rfl⟩ : ∃ m, k = m + 2 := ⟨k - 2, by omega⟩
          rw [step (k + 1) (by omega), decide_eq_false hc, causal_letter.j2, if_neg (by simp), if_pos (by omega), if_pos (by rw [hsz]; omega), hbt, if_pos hk, hw]
          exact h2 k (by omega)
        · rw [if_neg hk]
          refine ⟨K1 + 2, fun k hk2 => ?_⟩
          obtain ⟨k, rfl⟩ : ∃ m, k = m + 2 := ⟨k - 2, by omega⟩
          rw [step (k + 1) (by omega), decide_eq_false hc, causal_letter.j2, if_neg (by simp), if_pos (by omega), if_pos (by rw [hsz]; omega), hbt, if_neg hk]
def kidsI (n : Nat) : List Int := (kidsB n).map fun b => (b.toNat : Int)
def sigIs (n : Nat) : Bool := n == 0 || n == 22 || (sig (n : Int) == some (kidsI n, ((ownB n).toNat : Int)) && (kidsI n).all (fun k => k == 110 || k == 98 || k == 100 || k == 99) && ((ownB n).toNat : Int) != 120)
theorem sigIs_all : ((List.range 32).all sigIs) = true := by kernel_rfl
theorem kidsB_len : ((List.range 32).all fun n => decide ((kidsB n).length ≤ 3)) = true := by kernel_rfl
theorem goL_plain (own : Int) (ho : own ≠ 120) : ∀ (ks ts : List Int) (x : Int), (∀ k ∈ ks, k = 110 ∨ k = 98 ∨ k = 100 ∨ k = 99) → ks.length = ts.length → goL own ks ts x = if ts = ks then own else 0
  | [], [], x, _, _ => by simp [goL, ho]
  | k :: ks, t :: ts, x, hk, hl => by
    have hk0 := hk k (List.mem_cons_self ..)
    rw [goL]
    by_cases h0 : t = 0
    · rw [if_pos h0, if_neg (fun h => by have := (List.cons.inj h).1; omega)]
    · rw [if_neg h0, if_neg (fun h => by omega)]
      by_cases e : k = t
      · rw [if_pos e, goL_plain own ho ks ts x (fun z hz => hk z (List.mem_cons_of_mem _ hz)) (by simpa using hl)]
        subst e
        simp
      · rw [if_neg e, if_neg (fun h => e (List.cons.inj h).1.symm)]
theorem node_go (n : Nat) (h1 : 1 ≤ n) (h : n < 32) (ts : List Int) (hl : (kidsB n).length = ts.length) (hts : ∀ t ∈ ts, t = 0 ∨ t = 110 ∨ t = 98 ∨ t = 100 ∨ t = 99) : goL ((ownB n).toNat : Int) (kidsI n) ts 0 = nodeT (n : Int) ts := by
  by_cases h22 : n = 22
  · subst h22
    unfold nodeT
    rw [if_pos (by decide)]
    match ts, hl with
    | [a, b, c], _ =>
      have ha := hts a (by simp); have hb := hts b (by simp); have hc := hts c (by simp)
      show goL 120 [98, 120, 120] [a, b, c] 0 = _
      rcases ha with rfl | rfl | rfl | rfl | rfl <;> rcases hb with rfl | rfl | rfl | rfl | rfl <;> rcases hc with rfl | rfl | rfl | rfl | rfl <;> decide
  · have hs := List.all_eq_true.1 sigIs_all n (List.mem_range.2 h)
    unfold sigIs at hs
    rw [beq_eq_false_iff_ne.2 (show n ≠ 0 by omega), beq_eq_false_iff_ne.2 h22] at hs
    simp only [Bool.false_or, Bool.and_eq_true, beq_iff_eq, List.all_eq_true, Bool.or_eq_true, or_assoc, bne_iff_ne] at hs
    rw [goL_plain _ hs.2 _ _ _ hs.1.2 (by unfold kidsI; rw [List.length_map]; exact hl)]
    unfold nodeT
    rw [if_neg (show ¬ (n : Int) = 22 by omega), hs.1.1]
theorem nodeT_len (n : Nat) (h1 : 1 ≤ n) (h : n < 32) (ts : List Int) (hl : (kidsB n).length ≠ ts.length) : nodeT (n : Int) ts = 0 := by
  unfold nodeT
  by_cases h22 : n = 22
  · subst h22
    rw [if_pos (by decide)]
    match ts, hl with
    | [], _ => rfl
    | [_], _ => rfl
    | [_, _], _ => rfl
    | [_, _, _], hl => exact absurd rfl hl
    | _ :: _ :: _ :: _ :: _, _ => rfl
  · have hs := List.all_eq_true.1 sigIs_all n (List.mem_range.2 h)
    unfold sigIs at hs
    rw [beq_eq_false_iff_ne.2 (show n ≠ 0 by omega), beq_eq_false_iff_ne.2 h22] at hs
    simp only [Bool.false_or, Bool.and_eq_true, beq_iff_eq, List.all_eq_true, Bool.or_eq_true, or_assoc, bne_iff_ne] at hs
    rw [if_neg (show ¬ (n : Int) = 22 by omega), hs.1.1]
    simp only
    rw [if_neg]
    intro e
    apply hl
    rw [e]
    unfold kidsI
    rw [List.length_map]
theorem ty_or (x : Core) : tyT flT x = 0 ∨ tyT flT x = 110 ∨ tyT flT x = 98 ∨ tyT flT x = 100 ∨ tyT flT x = 99 := by
  by_cases h : tyT flT x = 0
  · exact .inl h
  · exact .inr (ty_own h)
/-- The printed letter is the type's. -/
theorem letter_is (x : Core) : ∃ K, ∀ k, K ≤ k → causal_letter.f k x.f0 x.f1 x.f2 x.f3 = some (tyT flT x) := by
  refine ind_core (P := fun x => ∃ K, ∀ k, K ≤ k → causal_letter.f k x.f0 x.f1 x.f2 x.f3 = some (tyT flT x)) (fun x ih => ?_) x
  have ht := tyT_eq (fl := flT) x
  by_cases ho : 1 ≤ x.f0 ∧ x.f0 ≤ 31
  · obtain ⟨n, hn⟩ : ∃ n : Nat, x.f0 = n := ⟨x.f0.toNat, by omega⟩
    have hcut := cut_in n (by omega) (by omega)
    have hk3 : (kidsB n).length ≤ 3 := by simpa using List.all_eq_true.1 kidsB_len n (List.mem_range.2 (by omega))
    have hsz : ((⟨(kidsB n).toArray⟩ : ByteArray).size : Int) = (kidsB n).length := by simp [ByteArray.size]
    by_cases hl : (kidsB n).length = x.f3.length
    · by_cases hf : flT x.f0 x.f1 x.f2 = true
      · obtain ⟨K, hK⟩ := letter_loop (kidsB n) (ownB n) x.f3 (tyT flT) hl (by omega) (fun z _ => ty_or z) ih x.f3.length 0 0 (by omega)
        refine ⟨K + 3, fun k hk => ?_⟩
        obtain ⟨k, rfl⟩ : ∃ m, k = m + 3 := ⟨k - 3, by omega⟩
        rw [causal_letter.f]
        simp only [causal_sort.f, Option.bind_some]
        rw [hn, hcut]
        simp only [Option.bind_some, if_true]
        rw [if_pos (by rw [hsz]; omega), fields_is, ← hn, hf]
        simp only [Option.bind_some, Bool.not_true, causal_letter.j0]
        have := hK (k + 1) (by omega)
        rw [List.drop_zero, List.drop_zero] at this
        rw [if_neg (by simp)]
        rw [show ((0 : Nat) : Int) = 0 from rfl] at this
        rw [this, ht, if_pos hf, hn]
        exact congrArg some (node_go n (by omega) (by omega) _ (by rw [List.length_map]; exact hl) (fun t htm => by obtain ⟨z, _, rfl⟩ := List.mem_map.1 htm; exact ty_or z))
      · have hf : flT x.f0 x.f1 x.f2 = false := by simpa using hf
        refine ⟨2, fun k hk => ?_⟩
        obtain ⟨k, rfl⟩ : ∃ m, k = m + 2 := ⟨k - 2, by omega⟩
        rw [causal_letter.f]
        simp only [causal_sort.f, Option.bind_some]
        rw [hn, hcut]
        simp only [Option.bind_some, if_true]
        rw [if_pos (by rw [hsz]; omega), fields_is, ← hn, hf]
        simp only [Option.bind_some, Bool.not_false, causal_letter.j0, if_true]
        rw [ht, if_neg (by simp [hf])]
    · refine ⟨2, fun k hk => ?_⟩
      obtain ⟨k, rfl⟩ : ∃ m, k = m + 2 := ⟨k - 2, by omega⟩
      rw [causal_letter.f]
      simp only [causal_sort.f, Option.bind_some]
      rw [hn, hcut]
      simp only [Option.bind_some, if_true]
      rw [if_neg (by rw [hsz]; omega)]
      simp only [causal_letter.j0, if_true]
      rw [ht, hn, nodeT_len n (by omega) (by omega) _ (by rw [List.length_map]; exact hl)]
      split <;> rfl
  · refine ⟨2, fun k hk => ?_⟩
    obtain ⟨k, rfl⟩ : ∃ m, k = m + 2 := ⟨k - 2, by omega⟩
    obtain ⟨a, b, hcut⟩ := cut_out x.f0 (by omega)
    rw [causal_letter.f]
    simp only [causal_sort.f, Option.bind_some]
    rw [hcut]
    simp only [Option.bind_some, Bool.false_eq_true, if_false, causal_letter.j0, if_true]
    have h0 : nodeT x.f0 (x.f3.map (tyT flT)) = 0 := by
      refine Classical.byContradiction fun hn => ho ?_
      have h22 : x.f0 ≠ 22 := by omega
      unfold nodeT at hn
      rw [if_neg h22] at hn
      cases hs : sig x.f0 with
      | none => rw [hs] at hn; exact absurd rfl hn
      | some p => have := sig_op (ks := p.1) (own := p.2) hs; omega
    rw [ht, h0]
    split <;> rfl

/-! ### the check -/
def NoAhead (op n : Int) : Prop := ¬ ((op = 4 ∨ op = 5) ∧ n < 0)
/-- A right contract. -/
structure Right (x : Core) : Prop where
  size : sizeT x ≤ 2000
  depth : depthT x ≤ 200
  ty : tyT flT x = 99
  ahead : allT NoAhead x
theorem small_iff (x : Core) : smallT x = true ↔ sizeT x ≤ 2000 ∧ depthT x ≤ 200 := by
  unfold smallT
  rw [Bool.and_eq_true, decide_eq_true_eq, preT_length, List.all_eq_true]
  have := pre_depth x 1 (by omega) (by omega)
  simp only [decide_eq_true_eq]
  rw [this]
  omega
theorem ahead_iff (x : Core) : (preT 1 x).any aheadK = false ↔ allT NoAhead x := by
  rw [← pre_all NoAhead x 1, List.any_eq_false]
  refine forall_congr' fun k => forall_congr' fun _ => ?_
  unfold aheadK NoAhead
  simp only [Bool.and_eq_true, Bool.or_eq_true, beq_iff_eq, decide_eq_true_eq]
theorem type_is (x : Core) : ∃ K, ∀ k, K ≤ k → causal_Type.f k x.f0 x.f1 x.f2 x.f3 = some (if smallT x = true ∧ tyT flT x ≠ 0 then ((if tyT flT x = 110 then 0 else if tyT flT x = 98 then 1 else if tyT flT x = 100 then 2 else 4), true) else (0, false)) := by
  obtain ⟨K, hK⟩ := letter_is x
  refine ⟨K, fun k hk => ?_⟩
  unfold causal_Type.f causal_small.f
  rw [core_eta, Option.bind_some]
  by_cases hs : smallT x = true
  · rw [if_pos hs, hK k hk, Option.bind_some]
    by_cases h0 : tyT flT x = 0
    · rw [if_pos h0, if_neg (fun h => h.2 h0)]
    · rw [if_neg h0, if_pos ⟨hs, h0⟩]
      rcases ty_own h0 with h | h | h | h <;> rw [h] <;> rfl
  · rw [if_neg hs, if_neg (fun h => hs h.1)]
theorem check_is (x : Core) : ∃ e : Int, (∃ K, ∀ k, K ≤ k → causal_Check.f k x.f0 x.f1 x.f2 x.f3 = some e) ∧ (e = 0 ↔ Right x) := by
  obtain ⟨K, hK⟩ := type_is x
  refine ⟨_, ⟨K, fun k hk => by unfold causal_Check.f; rw [hK k hk, Option.bind_some, core_eta]⟩, ?_⟩
  by_cases h : smallT x = true ∧ tyT flT x ≠ 0
  · rw [if_pos h]
    have hty := ty_own h.2
    by_cases h99 : tyT flT x = 99
    · rw [h99]
      unfold checkT
      rw [if_pos ⟨rfl, rfl⟩]
      cases ha : (preT 1 x).any aheadK with
      | true =>
        rw [if_pos rfl]
        refine ⟨fun h => absurd h (by decide), fun hr => ?_⟩
        have := (ahead_iff x).2 hr.ahead
        rw [ha] at this
        cases this
      | false =>
        rw [if_neg (by simp)]
        exact ⟨fun _ => ⟨((small_iff x).1 h.1).1, ((small_iff x).1 h.1).2, h99, (ahead_iff x).1 ha⟩, fun _ => rfl⟩
    · have : (if tyT flT x = 110 then (0 : Int) else if tyT flT x = 98 then 1 else if tyT flT x = 100 then 2 else 4) ≠ 4 := by
        rcases hty with e | e | e | e
        · rw [e]; decide
        · rw [e]; decide
        · rw [e]; decide
        · exact absurd e h99
      unfold checkT
      rw [if_neg (fun hh => this hh.2)]
      exact ⟨fun h => absurd h (by decide), fun hr => absurd hr.ty h99⟩
  · rw [if_neg h]
    refine ⟨fun h => absurd h (by simp [checkT]), fun hr => absurd ?_ h⟩
    exact ⟨(small_iff x).2 ⟨hr.size, hr.depth⟩, by rw [hr.ty]; decide⟩
end Go.Proofs.YtniajhmbdbgmgaaGreatDoor.Q
