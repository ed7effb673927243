import Derived.Test.YtniajhmbdbgmgaaGreatDoorMOptLess2
import Derived.Test.YtniajhmbdbgmgaaGreatDoorMOptLess10
import Derived.Test.YtniajhmbdbgmgaaGreatDoorMOptLess7
import Derived.Test.YtniajhmbdbgmgaaGreatDoorMOptLess8
import Derived.Test.YtniajhmbdbgmgaaGreatDoorMOptLess5
import Derived.Test.YtniajhmbdbgmgaaGreatDoorMOptLess4
namespace Go.Proofs.YtniajhmbdbgmgaaGreatDoor.Q
open Go.RowKit Go.Proofs.YtniajhmbdbgmgaaGreatDoorW.PrintWords Go.Proofs.YtniajhmbdbgmgaaGreatDoorW.PrintLast Go.Proofs.YtniajhmbdbgmgaaGreatDoorW.PrintMore
attribute [local go_sem] max2_int min2_int max_two min_two max_three min_three max_four min_four   -- for this text's walks alone
set_option linter.unusedVariables false
set_option linter.unusedSimpArgs false

/-! ### usanceref14_Horizon: function 14 -/
def usanceref14_Horizon.f (k : Nat) (a0_0 : Int) (a0_1 : Int) (a0_2 : ByteArray) (l0_3 : List (S24)) : Option (Int) := (usanceref14_Type.f k a0_0 a0_1 a0_2 l0_3).bind fun bt217 => (if bt217.2 = true then ((usanceref14_horizon.f k a0_0 a0_1 a0_2 l0_3).bind fun t219 => (some t219)) else (some 0))
set_option maxHeartbeats 8000000 in
set_option maxRecDepth 100000 in
theorem usanceref14_Horizon.calls (k : Nat) (a0_0 : Int) (a0_1 : Int) (a0_2 : ByteArray) (A0_3 : Option Addr) (c0_3 : Nat) (l0_3 : List (S24)) (r : Int) (w : World) (hr0_3 : Kd.C k24 w A0_3 l0_3.length l0_3) (hc0_3 : l0_3.length ≤ c0_3) (h : usanceref14_Horizon.f k a0_0 a0_1 a0_2 l0_3 = some r) :
    Calls Tryz.prog 14 #[.agg #[.int .i64 a0_0, .int .i64 a0_1, .string a0_2, .slice A0_3 l0_3.length c0_3]] w fun e w' => e = .returned (.int .i64 r) ∧ Below w.heap.size w w' := by
  have hu24 := Tryz.underlying24
  have HR0_3 := Aside0.mk hr0_3
  have HC0_3 := Aside0.mk hc0_3
  clear hr0_3 hc0_3
  have HB := Aside0.mk (Below.refl w.heap.size w)
  have H : ((usanceref14_Type.f k a0_0 a0_1 a0_2 l0_3).bind fun bt217 => (if bt217.2 = true then ((usanceref14_horizon.f k a0_0 a0_1 a0_2 l0_3).bind fun t219 => (some t219)) else (some 0))) = some r := h
  clear h
  replace H := Option.bind_eq_some_iff.mp H
  obtain ⟨⟨t217, t218⟩, A20, H⟩ := H
  replace H : (if t218 = true then ((usanceref14_horizon.f k a0_0 a0_1 a0_2 l0_3).bind fun t219 => (some t219)) else (some 0)) = some r := H
  have A2 := Aside0.mk A20
  clear A20
  by_cases c3 : t218 = true
  · subst c3
    have H1 : ((usanceref14_horizon.f k a0_0 a0_1 a0_2 l0_3).bind fun t219 => (some t219)) = some r := by rw [if_pos rfl] at H; exact H
    clear H
    have H := H1
    clear H1
    replace H := Option.bind_eq_some_iff.mp H
    obtain ⟨t219, A40, H⟩ := H
    replace H : (some t219) = some r := H
    have A4 := Aside0.mk A40
    clear A40
    obtain rfl := Option.some.inj H
    go_enter Tryz.func14, Tryz.ntmps14
    go_wp2_with (first | ((with_reducible refine gate_dst (N := 1) rfl ?_); refine box_event ?hg (N := 1) ?hd (cs := #[.int .i64 a0_0, .int .i64 a0_1, .string a0_2, .slice A0_3 l0_3.length c0_3]) (t := 24) ?hr ?_; (case hd => rfl); (case hg => rfl); (case hr => first | (go_simp; done) | (go_simp; rfl)); intro gb216 hg w5 hbox hb; have n0_ := Aside0.mk (below_step (by repeat (first | (with_reducible first | exact HB.out | apply below_alloc | apply pw_below_drewN | apply below_drew1) | exact HB.out)) hb); have n1_ := Aside0.mk (hbox); have n2_ := Aside0.mk ((by rw [hg]; exact (below_size (by repeat (first | (with_reducible first | exact HB.out | apply below_alloc | apply pw_below_drewN | apply below_drew1) | exact HB.out))) : w.heap.size ≤ gb216)); have n3_ := Aside0.mk ((by rw [hg]; exact (below_size (by repeat (first | (with_reducible first | exact HB.out | apply below_alloc | apply pw_below_drewN | apply below_drew1) | exact HB.out))) : w.heap.size ≤ gb216)); clear HB; have HB := n0_; have BK216 := n1_; have GW216 := n2_; have GE216 := n3_; clear n0_ n1_ n2_ n3_; clear hb hbox hg; have hcz6_0 : w5.cell? ⟨gb216, 0, none⟩ = some (.int .i64 a0_0) := (blk_cell BK216.out 0).trans rfl; have hcz6_1 : w5.cell? ⟨gb216, 1, none⟩ = some (.int .i64 a0_1) := (blk_cell BK216.out 1).trans rfl; have hcz6_2 : w5.cell? ⟨gb216, 2, none⟩ = some (.string a0_2) := (blk_cell BK216.out 2).trans rfl; have hcz6_3 : w5.cell? ⟨gb216, 3, none⟩ = some (.slice A0_3 l0_3.length c0_3) := (blk_cell BK216.out 3).trans rfl; have hfz6_0 := blk_frozen BK216.out 0; have hfz6_1 := blk_frozen BK216.out 1; have hfz6_2 := blk_frozen BK216.out 2; have hfz6_3 := blk_frozen BK216.out 3) | ((with_reducible refine gate_callee (f := 38) rfl ?_); refine goesL_ (some 7) rfl rfl Tryz.func38 (by kernel_rfl) rfl #[.agg #[.int .i64 a0_0, .int .i64 a0_1, .string a0_2, .slice A0_3 l0_3.length c0_3]] rfl (by (try simp only [List.map_toArray, List.map_cons, List.map_nil]); first | done | rfl | (simp only [List.length_drop, List.length_take]; rfl)) ?_; (with_reducible refine (usanceref14_Type.calls k a0_0 a0_1 a0_2 _ _ l0_3 t217 true _ ?side1 ?side2 A2.out).mono ?_); (case side1 => repeat (first | exact (Kd.C_below HR0_3.out HB.out) | (with_reducible refine Kd.C_alloc ?_ _) | (with_reducible refine Kd.C_drewN ?_ _) | (with_reducible refine Kd.C_drew ?_))); (case side2 => exact HC0_3.out); rintro e w7 ⟨rfl, hb⟩; refine ⟨_, rfl, ?_⟩; have n0_ := Aside0.mk (blk_below (g := gb216) (o := .cells #[.int .i64 a0_0, .int .i64 a0_1, .string a0_2, .slice A0_3 l0_3.length c0_3] 24 (0, 0)) (by (with_reducible repeat (first | refine blk_drewN ?_ _ | refine blk_drew ?_ | refine blk_alloc ?_ _)); exact BK216.out) hb); have n1_ := Aside0.mk (below_step (by repeat (first | (with_reducible first | exact HB.out | apply below_alloc | apply pw_below_drewN | apply below_drew1 | refine below_set ?_ GE216.out) | exact HB.out)) hb); clear BK216; clear HB; have BK216 := n0_; have HB := n1_; clear n0_ n1_; (try clear hb); (try clear hb2); (try clear hk); (try clear hi); have hcz8_0 : w7.cell? ⟨gb216, 0, none⟩ = some (.int .i64 a0_0) := (blk_cell BK216.out 0).trans rfl; have hcz8_1 : w7.cell? ⟨gb216, 1, none⟩ = some (.int .i64 a0_1) := (blk_cell BK216.out 1).trans rfl; have hcz8_2 : w7.cell? ⟨gb216, 2, none⟩ = some (.string a0_2) := (blk_cell BK216.out 2).trans rfl; have hcz8_3 : w7.cell? ⟨gb216, 3, none⟩ = some (.slice A0_3 l0_3.length c0_3) := (blk_cell BK216.out 3).trans rfl; have hfz8_0 := blk_frozen BK216.out 0; have hfz8_1 := blk_frozen BK216.out 1; have hfz8_2 := blk_frozen BK216.out 2; have hfz8_3 := blk_frozen BK216.out 3) | ((with_reducible refine gate_callee (f := 40) rfl ?_); refine goesL_ (some 13) rfl rfl Tryz.func40 (by kernel_rfl) rfl #[.agg #[.int .i64 a0_0, .int .i64 a0_1, .string a0_2, .slice A0_3 l0_3.length c0_3]] rfl (by (try simp only [List.map_toArray, List.map_cons, List.map_nil]); first | done | rfl | (simp only [List.length_drop, List.length_take]; rfl)) ?_; (with_reducible refine (usanceref14_horizon.calls k a0_0 a0_1 a0_2 _ _ l0_3 t219 _ ?side1 ?side2 A4.out).mono ?_); (case side1 => repeat (first | exact (Kd.C_below HR0_3.out HB.out) | (with_reducible refine Kd.C_alloc ?_ _) | (with_reducible refine Kd.C_drewN ?_ _) | (with_reducible refine Kd.C_drew ?_))); (case side2 => exact HC0_3.out); rintro e w9 ⟨rfl, hb⟩; refine ⟨_, rfl, ?_⟩; have n0_ := Aside0.mk (blk_below (g := gb216) (o := .cells #[.int .i64 a0_0, .int .i64 a0_1, .string a0_2, .slice A0_3 l0_3.length c0_3] 24 (0, 0)) (by (with_reducible repeat (first | refine blk_drewN ?_ _ | refine blk_drew ?_ | refine blk_alloc ?_ _)); exact BK216.out) hb); have n1_ := Aside0.mk (below_step (by repeat (first | (with_reducible first | exact HB.out | apply below_alloc | apply pw_below_drewN | apply below_drew1 | refine below_set ?_ GE216.out) | exact HB.out)) hb); clear BK216; clear HB; have BK216 := n0_; have HB := n1_; clear n0_ n1_; (try clear hb); (try clear hb2); (try clear hk); (try clear hi)))
    go_ret
    exact ⟨by first | rfl | (simp [errW_none, errW_some] <;> rfl) | (simp [*, errW_none, errW_some] <;> rfl), by repeat (first | (with_reducible first | exact HB.out | apply below_alloc | apply pw_below_drewN | apply below_drew1 | refine below_set ?_ GE216.out) | exact HB.out)⟩
  · replace c3 := Bool.eq_false_iff.mpr c3
    subst c3
    have H1 : (some 0) = some r := by rw [if_neg (show ¬ (false = true) by decide)] at H; exact H
    clear H
    have H := H1
    clear H1
    obtain rfl := Option.some.inj H
    go_enter Tryz.func14, Tryz.ntmps14
    go_wp2_with (first | ((with_reducible refine gate_dst (N := 1) rfl ?_); refine box_event ?hg (N := 1) ?hd (cs := #[.int .i64 a0_0, .int .i64 a0_1, .string a0_2, .slice A0_3 l0_3.length c0_3]) (t := 24) ?hr ?_; (case hd => rfl); (case hg => rfl); (case hr => first | (go_simp; done) | (go_simp; rfl)); intro gb216 hg w10 hbox hb; have n0_ := Aside0.mk (below_step (by repeat (first | (with_reducible first | exact HB.out | apply below_alloc | apply pw_below_drewN | apply below_drew1) | exact HB.out)) hb); have n1_ := Aside0.mk (hbox); have n2_ := Aside0.mk ((by rw [hg]; exact (below_size (by repeat (first | (with_reducible first | exact HB.out | apply below_alloc | apply pw_below_drewN | apply below_drew1) | exact HB.out))) : w.heap.size ≤ gb216)); have n3_ := Aside0.mk ((by rw [hg]; exact (below_size (by repeat (first | (with_reducible first | exact HB.out | apply below_alloc | apply pw_below_drewN | apply below_drew1) | exact HB.out))) : w.heap.size ≤ gb216)); clear HB; have HB := n0_; have BK216 := n1_; have GW216 := n2_; have GE216 := n3_; clear n0_ n1_ n2_ n3_; clear hb hbox hg; have hcz11_0 : w10.cell? ⟨gb216, 0, none⟩ = some (.int .i64 a0_0) := (blk_cell BK216.out 0).trans rfl; have hcz11_1 : w10.cell? ⟨gb216, 1, none⟩ = some (.int .i64 a0_1) := (blk_cell BK216.out 1).trans rfl; have hcz11_2 : w10.cell? ⟨gb216, 2, none⟩ = some (.string a0_2) := (blk_cell BK216.out 2).trans rfl; have hcz11_3 : w10.cell? ⟨gb216, 3, none⟩ = some (.slice A0_3 l0_3.length c0_3) := (blk_cell BK216.out 3).trans rfl; have hfz11_0 := blk_frozen BK216.out 0; have hfz11_1 := blk_frozen BK216.out 1; have hfz11_2 := blk_frozen BK216.out 2; have hfz11_3 := blk_frozen BK216.out 3) | ((with_reducible refine gate_callee (f := 38) rfl ?_); refine goesL_ (some 7) rfl rfl Tryz.func38 (by kernel_rfl) rfl #[.agg #[.int .i64 a0_0, .int .i64 a0_1, .string a0_2, .slice A0_3 l0_3.length c0_3]] rfl (by (try simp only [List.map_toArray, List.map_cons, List.map_nil]); first | done | rfl | (simp only [List.length_drop, List.length_take]; rfl)) ?_; (with_reducible refine (usanceref14_Type.calls k a0_0 a0_1 a0_2 _ _ l0_3 t217 false _ ?side1 ?side2 A2.out).mono ?_); (case side1 => repeat (first | exact (Kd.C_below HR0_3.out HB.out) | (with_reducible refine Kd.C_alloc ?_ _) | (with_reducible refine Kd.C_drewN ?_ _) | (with_reducible refine Kd.C_drew ?_))); (case side2 => exact HC0_3.out); rintro e w12 ⟨rfl, hb⟩; refine ⟨_, rfl, ?_⟩; have n0_ := Aside0.mk (blk_below (g := gb216) (o := .cells #[.int .i64 a0_0, .int .i64 a0_1, .string a0_2, .slice A0_3 l0_3.length c0_3] 24 (0, 0)) (by (with_reducible repeat (first | refine blk_drewN ?_ _ | refine blk_drew ?_ | refine blk_alloc ?_ _)); exact BK216.out) hb); have n1_ := Aside0.mk (below_step (by repeat (first | (with_reducible first | exact HB.out | apply below_alloc | apply pw_below_drewN | apply below_drew1 | refine below_set ?_ GE216.out) | exact HB.out)) hb); clear BK216; clear HB; have BK216 := n0_; have HB := n1_; clear n0_ n1_; (try clear hb); (try clear hb2); (try clear hk); (try clear hi)))
    go_ret
    exact ⟨by first | rfl | (simp [errW_none, errW_some] <;> rfl) | (simp [*, errW_none, errW_some] <;> rfl), by repeat (first | (with_reducible first | exact HB.out | apply below_alloc | apply pw_below_drewN | apply below_drew1 | refine below_set ?_ GE216.out) | exact HB.out)⟩

end Go.Proofs.YtniajhmbdbgmgaaGreatDoor.Q

/- Layer 14 by the document's own answer, in plain Lean: names, fields, types, the check and the horizon say what this program's own say. -/
namespace Go.Proofs.YtniajhmbdbgmgaaGreatDoor.Q
set_option linter.unusedSimpArgs false
set_option linter.unusedVariables false
open Go Go.RowKit Go.Proofs Go.Proofs.YtniajhmbdbgmgaaGreatDoor Go.Proofs.YtniajhmbdbgmgaaGreatDoorW.PrintWords

/-! ### names -/
def innerB (c : Int) : Bool := (decide (97 ≤ c) && decide (c ≤ 122)) || (decide (48 ≤ c) && decide (c ≤ 57)) || c == 95
theorem ref_inner (c : Int) : usanceref07_inner.f c = some (innerB c) := by
  unfold usanceref07_inner.f usanceref07_small.f usanceref07_digit.f innerB
  by_cases h1 : 97 ≤ c
  · rw [if_pos h1]
    by_cases h2 : c ≤ 122
    · simp [h1, h2]
    · have : ¬ c ≤ 57 := by omega
      have : 48 ≤ c := by omega
      simp [h1, h2, *]
  · rw [if_neg h1]
    by_cases h2 : 48 ≤ c
    · by_cases h3 : c ≤ 57
      · simp [h1, h2, h3]
      · simp [h1, h2, h3]
    · simp [h1, h2]
theorem dropWhile_nil (p : UInt8 → Bool) (l : List UInt8) : l.dropWhile p = [] ↔ ∀ b ∈ l, p b = true := by
  induction l with
  | nil => simp
  | cons a l ih =>
    rw [List.dropWhile_cons]
    by_cases h : p a = true
    · rw [if_pos h, ih]; simp [h]
    · rw [if_neg h]; simp [h]
theorem trim_nil (l cs : List UInt8) : Lib.trimS l cs = [] ↔ ∀ b ∈ l, cs.contains b = true := by
  unfold Lib.trimS Lib.trimLeftS Lib.trimRightS
  rw [dropWhile_nil]
  constructor
  · intro h
    have h2 : (l.reverse.dropWhile (cs.contains ·)) = [] := by
      cases hd : l.reverse.dropWhile (cs.contains ·) with
      | nil => rfl
      | cons a t =>
        have hne : l.reverse.dropWhile (cs.contains ·) ≠ [] := by rw [hd]; simp
        have := List.head_dropWhile_not (cs.contains ·) hne
        have hm : (l.reverse.dropWhile (cs.contains ·)).head hne ∈ (l.reverse.dropWhile (cs.contains ·)).reverse := List.mem_reverse.2 (List.head_mem hne)
        rw [h _ hm] at this
        cases this
    intro b hb
    exact (dropWhile_nil _ _).1 h2 b (List.mem_reverse.2 hb)
  · intro h b hb
    exact h b (List.mem_reverse.1 ((List.dropWhile_sublist _).subset (List.mem_reverse.1 hb)))
theorem inner_set : ((List.range 256).all fun n => (([97, 98, 99, 100, 101, 102, 103, 104, 105, 106, 107, 108, 109, 110, 111, 112, 113, 114, 115, 116, 117, 118, 119, 120, 121, 122, 48, 49, 50, 51, 52, 53, 54, 55, 56, 57, 95] : List UInt8).contains (UInt8.ofNat n)) == innerB (n : Int)) = true := by kernel_rfl
theorem cur_set : ((List.range 256).all fun n => (([65, 66, 67, 68, 69, 70, 71, 72, 73, 74, 75, 76, 77, 78, 79, 80, 81, 82, 83, 84, 85, 86, 87, 88, 89, 90] : List UInt8).contains (UInt8.ofNat n)) == (decide ((65 : Int) ≤ n) && decide ((n : Int) ≤ 90))) = true := by kernel_rfl
theorem of_byte (b : UInt8) : UInt8.ofNat b.toNat = b := by simp
theorem bt_nat (s : ByteArray) (j : Nat) (h : j < s.size) : bt s (j : Int) = ((s.data.toList[j]'h).toNat : Int) := by
  unfold bt
  rw [dif_pos (by simpa using h)]
  rfl
theorem all_bytes (s : ByteArray) (cs : List UInt8) (P : Int → Bool) (hP : ((List.range 256).all fun n => (cs.contains (UInt8.ofNat n)) == P (n : Int)) = true) :
    Lib.trimS s.data.toList cs = [] ↔ ∀ j, j < s.size → P (bt s (j : Int)) = true := by
  have hl : s.data.toList.length = s.size := rfl
  have hc : ∀ b : UInt8, cs.contains b = P (b.toNat : Int) := by
    intro b
    have := List.all_eq_true.1 hP b.toNat (List.mem_range.2 b.toNat_lt)
    rw [of_byte] at this
    exact beq_iff_eq.1 this
  rw [trim_nil]
  constructor
  · intro h j hj
    rw [bt_nat s j hj, ← hc]
    exact h _ (List.getElem_mem _)
  · intro h b hb
    obtain ⟨j, hj, rfl⟩ := List.getElem_of_mem hb
    have := h j (by omega)
    rw [bt_nat s j (by omega)] at this
    rw [hc]
    exact this
theorem toList_nil_iff (l : List UInt8) : ((⟨l.toArray⟩ : ByteArray).toList == ([] : List UInt8)) = decide (l = []) := by
  rw [Lib.toList_data]
  cases l <;> rfl
theorem size_zero_iff (s : ByteArray) : s.toList = ([] : List UInt8) ↔ s.size = 0 := by
  rw [Lib.toList_data]
  have hl : s.data.toList.length = s.size := rfl
  rw [← hl, List.length_eq_zero_iff]
theorem name_iff (s : ByteArray) : nameT s = true ↔ 0 < s.size ∧ s.size ≤ 24 ∧ 97 ≤ bt s 0 ∧ bt s 0 ≤ 122 ∧ ∀ j, j < s.size → innerB (bt s (j : Int)) = true := by
  have h := isName_is s
  unfold causal_isName.f at h
  by_cases h0 : s.toList = ([] : List UInt8)
  · rw [if_pos h0] at h
    rw [← Option.some.inj h]
    have := (size_zero_iff s).1 h0
    constructor
    · intro h; cases h
    · intro h; omega
  · rw [if_neg h0] at h
    have hs : s.size ≠ 0 := fun hn => h0 ((size_zero_iff s).2 hn)
    by_cases h1 : (s.size : Int) > 24
    · rw [if_pos h1] at h
      rw [← Option.some.inj h]
      constructor
      · intro h; cases h
      · intro h; omega
    · rw [if_neg h1, if_pos (by omega)] at h
      by_cases h2 : bt s 0 < 97
      · rw [if_pos h2] at h
        rw [← Option.some.inj h]
        constructor
        · intro h; cases h
        · intro h; omega
      · rw [if_neg h2] at h
        by_cases h3 : bt s 0 > 122
        · rw [if_pos h3] at h
          rw [← Option.some.inj h]
          constructor
          · intro h; cases h
          · intro h; omega
        · rw [if_neg h3] at h
          unfold strings_Trim.f at h
          rw [if_pos ⟨by omega, by decide, by decide⟩, Option.bind_some, toList_nil_iff] at h
          rw [← Option.some.inj h, decide_eq_true_eq, all_bytes s _ innerB inner_set]
          exact ⟨fun h => ⟨by omega, by omega, by omega, by omega, h⟩, fun h => h.2.2.2.2⟩
theorem span_loop (s : ByteArray) (hs : s.size ≤ 24) : ∀ (d j : Nat), j + d = s.size → ∃ r : Int, (r = s.size ↔ ∀ i, j ≤ i → i < s.size → innerB (bt s (i : Int)) = true) ∧ ∃ K, ∀ k, K ≤ k → usanceref07_span.l0 k s 0 (j : Int) = some r := by
  intro d
  induction d with
  | zero =>
    intro j hj
    refine ⟨j, ⟨fun _ i h1 h2 => by omega, fun _ => by omega⟩, 1, fun k hk => ?_⟩
    obtain ⟨k, rfl⟩ : ∃ m, k = m + 1 := ⟨k - 1, by omega⟩
    rw [usanceref07_span.l0, wrap_in (by omega) (by omega), if_neg (by omega)]
  | succ d ih =>
    intro j hj
    obtain ⟨r, hr, K, hK⟩ := ih (j + 1) (by omega)
    by_cases hb : innerB (bt s (j : Int)) = true
    · refine ⟨r, ?_, K + 1, fun k hk => ?_⟩
      · rw [hr]
        constructor
        · intro h i h1 h2
          by_cases e : i = j
          · rw [e]; exact hb
          · exact h i (by omega) h2
        · intro h i h1 h2
          exact h i (by omega) h2
      · obtain ⟨k, rfl⟩ : ∃ m, k = m + 1 := ⟨k - 1, by omega⟩
        rw [usanceref07_span.l0, wrap_in (d := 0 + (j : Int)) (by omega) (by omega), if_pos (by omega), if_pos (by omega), Int.zero_add, ref_inner, Option.bind_some, if_pos hb, wrap_in (by omega) (by omega)]
        have := hK k (by omega)
        rw [show ((j + 1 : Nat) : Int) = (j : Int) + 1 by omega] at this
        exact this
    · refine ⟨j, ⟨fun h => by omega, fun h => absurd (h j (Nat.le_refl _) (by omega)) hb⟩, 1, fun k hk => ?_⟩
      obtain ⟨k, rfl⟩ : ∃ m, k = m + 1 := ⟨k - 1, by omega⟩
      rw [usanceref07_span.l0, wrap_in (d := 0 + (j : Int)) (by omega) (by omega), if_pos (by omega), if_pos (by omega), Int.zero_add, ref_inner, Option.bind_some, if_neg hb]
theorem refName_is (s : ByteArray) : ∃ K, ∀ k, K ≤ k → usanceref07_IsName.f k s = some (nameT s) := by
  by_cases h0 : (s.size : Int) > 0
  · by_cases h1 : (s.size : Int) ≤ 24
    · by_cases h2 : bt s 0 ≥ 97 ∧ bt s 0 ≤ 122
      · obtain ⟨r, hr, K, hK⟩ := span_loop s (by omega) (s.size - 1) 1 (by omega)
        refine ⟨K, fun k hk => ?_⟩
        unfold usanceref07_IsName.f usanceref07_span.f usanceref07_small.f
        have hh := hK k hk
        rw [show (((1 : Nat)) : Int) = 1 from rfl] at hh
        rw [if_pos h0, if_pos h1, if_neg (by omega), if_pos (by omega), if_pos (by omega), if_pos h2.1, Option.bind_some, decide_eq_true h2.2, if_pos rfl, hh, Option.bind_some]
        congr 1
        rw [Bool.eq_iff_iff, beq_iff_eq, hr, name_iff]
        constructor
        · intro h
          refine ⟨by omega, by omega, h2.1, h2.2, fun j hj => ?_⟩
          by_cases e : j = 0
          · subst e
            unfold innerB
            rw [show (((0 : Nat)) : Int) = 0 from rfl, decide_eq_true h2.1, decide_eq_true h2.2]
            rfl
          · exact h j (by omega) hj
        · intro h i _ hi
          exact h.2.2.2.2 i hi
      · have hn : nameT s = false := by
          rw [Bool.eq_false_iff]
          intro h
          have := (name_iff s).1 h
          exact h2 ⟨this.2.2.1, this.2.2.2.1⟩
        refine ⟨0, fun k hk => ?_⟩
        unfold usanceref07_IsName.f usanceref07_span.f usanceref07_small.f
        rw [if_pos h0, if_pos h1, if_neg (by omega), if_pos (by omega), if_pos (by omega), hn]
        by_cases h3 : bt s 0 ≥ 97
        · rw [if_pos h3, Option.bind_some, decide_eq_false (by omega), if_neg (by simp), Option.bind_some]
          congr 1
          rw [beq_eq_false_iff_ne]
          omega
        · rw [if_neg h3, Option.bind_some, if_neg (by simp), Option.bind_some]
          congr 1
          rw [beq_eq_false_iff_ne]
          omega
    · refine ⟨0, fun k _ => ?_⟩
      unfold usanceref07_IsName.f
      rw [if_pos h0, if_neg h1]
      congr 1
      symm
      rw [Bool.eq_false_iff]
      intro h
      have := (name_iff s).1 h
      omega
  · refine ⟨0, fun k _ => ?_⟩
    unfold usanceref07_IsName.f
    rw [if_neg h0]
    congr 1
    symm
    rw [Bool.eq_false_iff]
    intro h
    have := (name_iff s).1 h
    omega
/-! ### currencies -/
def bigB (c : Int) : Bool := decide ((65 : Int) ≤ c) && decide (c ≤ 90)
theorem cur_iff (s : ByteArray) : curT s = true ↔ s.size = 3 ∧ ∀ j, j < s.size → bigB (bt s (j : Int)) = true := by
  have h := isCur_is s
  unfold causal_isCur.f at h
  by_cases h0 : (s.size : Int) = 3
  · rw [if_pos h0] at h
    unfold strings_Trim.f at h
    rw [if_pos ⟨by omega, by decide, by decide⟩, Option.bind_some, toList_nil_iff] at h
    rw [← Option.some.inj h, decide_eq_true_eq, all_bytes s _ bigB cur_set]
    exact ⟨fun h => ⟨by omega, h⟩, fun h => h.2⟩
  · rw [if_neg h0] at h
    rw [← Option.some.inj h]
    constructor
    · intro h; cases h
    · intro h; omega
theorem cur_loop (s : ByteArray) (hs : s.size = 3) : ∀ (d j : Nat), j + d = 3 → ∃ b : Bool, (b = true ↔ ∀ i, j ≤ i → i < s.size → bigB (bt s (i : Int)) = true) ∧ ∃ K, ∀ k, K ≤ k → usanceref09_IsCur.l0 k s (j : Int) = some b := by
  intro d
  induction d with
  | zero =>
    intro j hj
    refine ⟨true, ⟨fun _ i h1 h2 => by omega, fun _ => rfl⟩, 1, fun k hk => ?_⟩
    obtain ⟨k, rfl⟩ : ∃ m, k = m + 1 := ⟨k - 1, by omega⟩
    rw [usanceref09_IsCur.l0, if_neg (by omega)]
  | succ d ih =>
    intro j hj
    obtain ⟨b, hb, K, hK⟩ := ih (j + 1) (by omega)
    by_cases h1 : bt s (j : Int) < 65
    · refine ⟨false, ⟨(fun h => by cases h), fun h => ?_⟩, 1, fun k hk => ?_⟩
      · have := h j (Nat.le_refl _) (by omega)
        unfold bigB at this
        rw [decide_eq_false (by omega)] at this
        cases this
      · obtain ⟨k, rfl⟩ : ∃ m, k = m + 1 := ⟨k - 1, by omega⟩
        rw [usanceref09_IsCur.l0, if_pos (by omega), if_pos (by omega), if_pos (by omega), if_pos h1]
    · by_cases h2 : bt s (j : Int) > 90
      · refine ⟨false, ⟨(fun h => by cases h), fun h => ?_⟩, 1, fun k hk => ?_⟩
        · have := h j (Nat.le_refl _) (by omega)
          unfold bigB at this
          rw [decide_eq_false (p := bt s (j : Int) ≤ 90) (by omega), Bool.and_false] at this
          cases this
        · obtain ⟨k, rfl⟩ : ∃ m, k = m + 1 := ⟨k - 1, by omega⟩
          rw [usanceref09_IsCur.l0, if_pos (by omega), if_pos (by omega), if_pos (by omega), if_neg h1, if_pos h2]
      · refine ⟨b, ?_, K + 1, fun k hk => ?_⟩
        · rw [hb]
          constructor
          · intro h i g1 g2
            by_cases e : i = j
            · rw [e]
              unfold bigB
              rw [decide_eq_true (by omega), decide_eq_true (by omega)]
              rfl
            · exact h i (by omega) g2
          · intro h i g1 g2
            exact h i (by omega) g2
        · obtain ⟨k, rfl⟩ : ∃ m, k = m + 1 := ⟨k - 1, by omega⟩
          rw [usanceref09_IsCur.l0, if_pos (by omega), if_pos (by omega), if_pos (by omega), if_neg h1, if_neg h2, wrap_in (by omega) (by omega)]
          have := hK k (by omega)
          rw [show ((j + 1 : Nat) : Int) = (j : Int) + 1 by omega] at this
          exact this
theorem refCur_is (s : ByteArray) : ∃ K, ∀ k, K ≤ k → usanceref09_IsCur.f k s = some (curT s) := by
  by_cases h0 : (s.size : Int) = 3
  · obtain ⟨b, hb, K, hK⟩ := cur_loop s (by omega) 3 0 (by omega)
    refine ⟨K, fun k hk => ?_⟩
    unfold usanceref09_IsCur.f
    have := hK k hk
    rw [show (((0 : Nat)) : Int) = 0 from rfl] at this
    rw [if_pos h0, this]
    congr 1
    rw [Bool.eq_iff_iff, hb, cur_iff]
    exact ⟨fun h => ⟨by omega, fun j hj => h j (Nat.zero_le _) hj⟩, fun h i _ hi => h.2 i hi⟩
  · refine ⟨0, fun k _ => ?_⟩
    unfold usanceref09_IsCur.f
    rw [if_neg h0]
    congr 1
    symm
    rw [Bool.eq_false_iff]
    intro h
    have := (cur_iff s).1 h
    omega
/-! ### fields -/
theorem some_ite (c : Bool) (b : Bool) : (if c = true then some b else some false) = some (c && b) := by cases c <;> rfl
theorem dec_ite (P Q : Prop) [Decidable P] [Decidable Q] : (if P then some (decide Q) else some false) = some (decide P && decide Q) := by
  by_cases h : P
  · rw [if_pos h, decide_eq_true h, Bool.true_and]
  · rw [if_neg h, decide_eq_false h, Bool.false_and]
theorem refFields_is (op n : Int) (s : ByteArray) (l : List Core) : ∃ K, ∀ k, K ≤ k → usanceref14_fields.f k op n s l = some (flT op n s) := by
  obtain ⟨K1, h1⟩ := refName_is s
  obtain ⟨K2, h2⟩ := refCur_is s
  refine ⟨K1 + K2 + 4, fun k hk => ?_⟩
  have e1 := h1 k (by omega)
  have e2 := h2 k (by omega)
  obtain ⟨k, rfl⟩ : ∃ m, k = m + 3 := ⟨k - 3, by omega⟩
  have hd : ∀ b : Bool, (b = inT n 0 73048) → usanceref14_fields.j0 (k + 3) (nameT s) (curT s) b op n s l = some (flT op n s) := by
    rintro b rfl
    have hl : ∀ c : Bool, c = inT n (-3660) 3660 → usanceref14_fields.j1 (k + 2) (nameT s) (curT s) (inT n 0 73048) c op n s l = some (flT op n s) := by
      rintro c rfl
      rw [usanceref14_fields.j1]
      unfold flT
      by_cases g4 : op = 4
      · rw [if_pos g4, if_pos g4, some_ite]
      · rw [if_neg g4, if_neg g4]
        by_cases g31 : op = 31
        · rw [if_pos g31, if_pos g31, some_ite]
        · rw [if_neg g31, if_neg g31]
          by_cases g24 : op = 24
          · rw [if_pos g24, if_pos g24, some_ite]
          · rw [if_neg g24, if_neg g24]
            unfold emptyT
            by_cases g0 : s.toList = ([] : List UInt8)
            · rw [if_pos g0, decide_eq_true g0, Bool.true_and]
              by_cases q1 : op = 1
              · rw [if_pos q1, if_pos q1]
                exact dec_ite _ _
              · rw [if_neg q1, if_neg q1]
                by_cases q2 : op = 2
                · rw [if_pos q2, if_pos q2]
                  congr 1
                  by_cases n0 : n = 0
                  · subst n0; rfl
                  · rw [if_neg n0]
                    congr 1
                    rw [Bool.eq_iff_iff, beq_iff_eq, inT_iff]
                    omega
                · rw [if_neg q2, if_neg q2]
                  by_cases q3 : op = 3
                  · rw [if_pos q3, if_pos (.inl q3), usanceref14_fields.j2, if_pos (beq_iff_eq.2 q3)]
                  · rw [if_neg q3]
                    by_cases q29 : op = 29
                    · rw [if_pos q29, if_pos (.inr (.inl q29)), usanceref14_fields.j2, if_pos (beq_iff_eq.2 q29)]
                    · rw [if_neg q29, usanceref14_fields.j2]
                      by_cases q30 : op = 30
                      · rw [if_pos (beq_iff_eq.2 q30), if_pos (.inr (.inr q30))]
                      · rw [if_neg (by simp [q30]), if_neg (show ¬ (op = 3 ∨ op = 29 ∨ op = 30) by omega)]
                        by_cases q5 : op = 5
                        · rw [if_pos q5, if_pos q5]
                        · rw [if_neg q5, if_neg q5]
            · rw [if_neg g0, decide_eq_false g0, Bool.false_and]
    rw [usanceref14_fields.j0]
    by_cases hn : n ≥ -3660
    · rw [if_pos hn]
      exact hl _ (by unfold inT; rw [decide_eq_true hn, Bool.true_and])
    · rw [if_neg hn]
      exact hl _ (by unfold inT; rw [decide_eq_false hn, Bool.false_and])
  unfold usanceref14_fields.f
  rw [e1, Option.bind_some, e2, Option.bind_some]
  by_cases hn : n ≥ 0
  · rw [if_pos hn]
    exact hd _ (by unfold inT; rw [decide_eq_true hn, Bool.true_and])
  · rw [if_neg hn]
    exact hd _ (by unfold inT; rw [decide_eq_false hn, Bool.false_and])
end Go.Proofs.YtniajhmbdbgmgaaGreatDoor.Q

/- Layer 14 by the document's own answer, in plain Lean: types, the check and the horizon. -/
namespace Go.Proofs.YtniajhmbdbgmgaaGreatDoor.Q
set_option linter.unusedSimpArgs false
set_option linter.unusedVariables false
open Go Go.RowKit Go.Proofs Go.Proofs.YtniajhmbdbgmgaaGreatDoor Go.Proofs.YtniajhmbdbgmgaaGreatDoorW.PrintWords

/-- The number of a type, by its letter. -/
def code (t : Int) : Int := if t = 110 then 0 else if t = 98 then 1 else if t = 100 then 2 else 4
def Ty (t : Int) : Prop := t = 110 ∨ t = 98 ∨ t = 100 ∨ t = 99
theorem code_inj {a b : Int} (ha : Ty a) (hb : Ty b) (h : code a = code b) : a = b := by
  rcases ha with rfl | rfl | rfl | rfl <;> rcases hb with rfl | rfl | rfl | rfl <;> first | rfl | exact absurd h (by decide)
theorem codes_inj : ∀ {a b : List Int}, (∀ t ∈ a, Ty t) → (∀ t ∈ b, Ty t) → a.map code = b.map code → a = b
  | [], [], _, _, _ => rfl
  | [], _ :: _, _, _, h => by cases h
  | _ :: _, [], _, _, h => by cases h
  | x :: a, y :: b, ha, hb, h => by
    rw [List.map_cons, List.map_cons, List.cons.injEq] at h
    rw [code_inj (ha x (List.mem_cons_self ..)) (hb y (List.mem_cons_self ..)) h.1, codes_inj (fun t ht => ha t (List.mem_cons_of_mem _ ht)) (fun t ht => hb t (List.mem_cons_of_mem _ ht)) h.2]
/-! ### the table -/
def kidsAns (op : Int) : List Int × Int × Bool := match sig op with
  | some (ks, own) => (ks.map code, code own, true)
  | none => ([], 0, false)
theorem kids_table : ((List.range 32).all fun n => usanceref14_kids.f 12 (n : Int) == some (kidsAns (n : Int))) = true := by kernel_rfl
theorem kids_is (op : Int) : ∃ K, ∀ k, K ≤ k → usanceref14_kids.f k op = some (kidsAns op) := by
  by_cases ho : 0 ≤ op ∧ op ≤ 31
  · obtain ⟨n, rfl⟩ : ∃ n : Nat, op = n := ⟨op.toNat, by omega⟩
    have := beq_iff_eq.1 (List.all_eq_true.1 kids_table n (List.mem_range.2 (by omega)))
    exact ⟨12, fun k hk => at_rounds (g := fun k => usanceref14_kids.f k (n : Int)) (usanceref14_kids.mono _) hk this⟩
  · have hs : kidsAns op = ([], 0, false) := by
      unfold kidsAns
      cases h : sig op with
      | none => rfl
      | some p => have := sig_op (ks := p.1) (own := p.2) h; omega
    refine ⟨12, fun k hk => ?_⟩
    obtain ⟨k, rfl⟩ : ∃ m, k = m + 12 := ⟨k - 12, by omega⟩
    rw [hs]
    have hne : ∀ i : Int, 0 ≤ i → i ≤ 31 → op ≠ i := fun i h0 h1 h => ho (by omega)
    have e1 := hne 1 (by decide) (by decide); have e2 := hne 2 (by decide) (by decide); have e3 := hne 3 (by decide) (by decide); have e4 := hne 4 (by decide) (by decide); have e5 := hne 5 (by decide) (by decide); have e6 := hne 6 (by decide) (by decide); have e7 := hne 7 (by decide) (by decide); have e8 := hne 8 (by decide) (by decide)
    have e9 := hne 9 (by decide) (by decide); have e10 := hne 10 (by decide) (by decide); have e11 := hne 11 (by decide) (by decide); have e12 := hne 12 (by decide) (by decide); have e13 := hne 13 (by decide) (by decide); have e14 := hne 14 (by decide) (by decide); have e15 := hne 15 (by decide) (by decide); have e16 := hne 16 (by decide) (by decide)
    have e17 := hne 17 (by decide) (by decide); have e18 := hne 18 (by decide) (by decide); have e19 := hne 19 (by decide) (by decide); have e20 := hne 20 (by decide) (by decide); have e21 := hne 21 (by decide) (by decide); have e23 := hne 23 (by decide) (by decide); have e24 := hne 24 (by decide) (by decide); have e25 := hne 25 (by decide) (by decide)
    have e26 := hne 26 (by decide) (by decide); have e27 := hne 27 (by decide) (by decide); have e28 := hne 28 (by decide) (by decide); have e29 := hne 29 (by decide) (by decide); have e30 := hne 30 (by decide) (by decide); have e31 := hne 31 (by decide) (by decide)
    clear hne hs ho
    unfold usanceref14_kids.f
    rw [if_neg e1, beq_eq_false_iff_ne.2 e4, usanceref14_kids.j0, if_neg (by simp), if_neg e2, if_neg e3, beq_eq_false_iff_ne.2 e5, usanceref14_kids.j1, if_neg (by simp), if_neg e6, if_neg e7, if_neg e8, if_neg e9, beq_eq_false_iff_ne.2 e10,
      usanceref14_kids.j2, if_neg (by simp), if_neg e11, if_neg e12, beq_eq_false_iff_ne.2 e13, usanceref14_kids.j3, if_neg (by simp), if_neg e14, if_neg e15, beq_eq_false_iff_ne.2 e16, usanceref14_kids.j4, if_neg (by simp), if_neg e17, if_neg e18, beq_eq_false_iff_ne.2 e19,
      usanceref14_kids.j5, if_neg (by simp), if_neg e20, beq_eq_false_iff_ne.2 e21, usanceref14_kids.j6, if_neg (by simp), if_neg e23, beq_eq_false_iff_ne.2 e24, usanceref14_kids.j7, if_neg (by simp), if_neg e25, beq_eq_false_iff_ne.2 e29,
      usanceref14_kids.j8, if_neg (by simp), if_neg e26, if_neg e27, beq_eq_false_iff_ne.2 e31, usanceref14_kids.j9, if_neg (by simp), if_neg e28, if_neg e30]
/-! ### types -/
theorem rd_nat (l : List Int) (j : Nat) (h : j < l.length) : rd l (j : Int) = l[j] := by
  unfold rd
  rw [Int.toNat_natCast, List.getD_eq_getElem?_getD, List.getElem?_eq_getElem h]
  rfl
theorem l1_loop (a b : List Int) (o : Int) (hab : a.length = b.length) (hl : a.length ≤ 3) : ∀ (d j : Nat), j + d = a.length → ∃ ok : Bool, (ok = true ↔ a.drop j = b.drop j) ∧ ∃ K, ∀ k, K ≤ k → usanceref14_typed.l1 k a b o (j : Int) = some (if ok = true then o else 0, ok) := by
  intro d
  induction d with
  | zero =>
    intro j hj
    refine ⟨true, ⟨fun _ => by rw [List.drop_of_length_le (by omega), List.drop_of_length_le (by omega)], fun _ => rfl⟩, 1, fun k hk => ?_⟩
    obtain ⟨k, rfl⟩ : ∃ m, k = m + 1 := ⟨k - 1, by omega⟩
    rw [usanceref14_typed.l1, if_neg (by omega), if_pos rfl]
  | succ d ih =>
    intro j hj
    have h1 : j < a.length := by omega
    have h2 : j < b.length := by omega
    obtain ⟨ok, g, K, hK⟩ := ih (j + 1) (by omega)
    rw [List.drop_eq_getElem_cons h1, List.drop_eq_getElem_cons h2]
    by_cases e : a[j] = b[j]
    · refine ⟨ok, by rw [g, e, List.cons.injEq]; exact ⟨fun h => ⟨rfl, h⟩, fun h => h.2⟩, K + 1, fun k hk => ?_⟩
      obtain ⟨k, rfl⟩ : ∃ m, k = m + 1 := ⟨k - 1, by omega⟩
      rw [usanceref14_typed.l1, if_pos (by omega), if_pos (by omega), if_pos (by omega), rd_nat a j h1, rd_nat b j h2, if_pos e, wrap_in (by omega) (by omega)]
      have := hK k (by omega)
      rw [show ((j + 1 : Nat) : Int) = (j : Int) + 1 by omega] at this
      exact this
    · refine ⟨false, ⟨(fun h => by cases h), fun h => absurd (List.cons.inj h).1 e⟩, 1, fun k hk => ?_⟩
      obtain ⟨k, rfl⟩ : ∃ m, k = m + 1 := ⟨k - 1, by omega⟩
      rw [usanceref14_typed.l1, if_pos (by omega), if_pos (by omega), if_pos (by omega), rd_nat a j h1, rd_nat b j h2, if_neg e]
      rfl
theorem last1 (a : Int) : usanceref14_last.f [a] = some a := by
  unfold usanceref14_last.f
  rw [wrap_in (by simp) (by simp), if_neg (by simp), if_pos (by simp), if_pos (by simp)]
  rfl
theorem last2 (a b : Int) : usanceref14_last.f [a, b] = some b := by
  unfold usanceref14_last.f
  rw [wrap_in (by simp) (by simp), if_neg (by simp), if_pos (by simp), if_pos (by simp)]
  rfl
theorem last3 (a b c : Int) : usanceref14_last.f [a, b, c] = some c := by
  unfold usanceref14_last.f
  rw [wrap_in (by simp) (by simp), if_neg (by simp), if_pos (by simp), if_pos (by simp)]
  rfl
def if3 (a b c : Int) : Bool := if a = 1 then (if b = c then b != 4 else false) else false
/-- What the loop over the kids comes to behind the last one. -/
theorem typed_end (x : Core) (d0 : Int) (ts : List Int) (hx : x.f3.length = ts.length) (hl : ts.length ≤ 3) (ht : ∀ t ∈ ts, Ty t) :
    ∃ (t : Int) (ok : Bool), (ok = true ↔ nodeT x.f0 ts ≠ 0) ∧ (ok = true → t = code (nodeT x.f0 ts)) ∧ ∃ K, ∀ k, K ≤ k → usanceref14_typed.l0 k d0 (ts.map code) (ts.length : Int) x.f0 x.f1 x.f2 x.f3 = some (t, ok) := by
  by_cases h22 : x.f0 = 22
  · have hstep : ∀ k, 1 ≤ k → usanceref14_typed.l0 k d0 (ts.map code) (ts.length : Int) x.f0 x.f1 x.f2 x.f3 = ((usanceref14_last.f (ts.map code)).bind fun t187 => (if ((ts.map code).length : Int) = 3 then (if 0 < ((ts.map code).length : Int) then (if (rd (ts.map code) 0) = 1 then (if 1 < ((ts.map code).length : Int) then (if 2 < ((ts.map code).length : Int) then (if (rd (ts.map code) 1) = (rd (ts.map code) 2) then (some (t187, ((rd (ts.map code) 1) != 4))) else (some (t187, false))) else (none)) else (none)) else (some (t187, false))) else (none)) else (some (t187, false)))) := by
      intro k hk
      obtain ⟨k, rfl⟩ : ∃ m, k = m + 1 := ⟨k - 1, by omega⟩
      rw [usanceref14_typed.l0, if_neg (by omega), if_pos h22]
    rw [h22]
    match ts, hl, ht, hstep with
    | [], _, _, hstep => exact ⟨0, false, by decide, (fun h => by cases h), 1, fun k hk => by rw [← h22, hstep k hk]; rfl⟩
    | [a], _, _, hstep => exact ⟨code a, false, ⟨(fun h => by cases h), fun h => absurd rfl h⟩, (fun h => by cases h), 1, fun k hk => by rw [← h22, hstep k hk, List.map_cons, List.map_nil, last1]; simp⟩
    | [a, b], _, _, hstep => exact ⟨code b, false, ⟨(fun h => by cases h), fun h => absurd rfl h⟩, (fun h => by cases h), 1, fun k hk => by rw [← h22, hstep k hk, List.map_cons, List.map_cons, List.map_nil, last2]; simp⟩
    | [a, b, c], _, ht, hstep =>
      have ha := ht a (by simp); have hb := ht b (by simp); have hc := ht c (by simp)
      have hv : (if3 (code a) (code b) (code c) = true ↔ nodeT 22 [a, b, c] ≠ 0) ∧ (if3 (code a) (code b) (code c) = true → code c = code (nodeT 22 [a, b, c])) := by
        rcases ha with rfl | rfl | rfl | rfl <;> rcases hb with rfl | rfl | rfl | rfl <;> rcases hc with rfl | rfl | rfl | rfl <;> exact ⟨by decide, by decide⟩
      refine ⟨code c, if3 (code a) (code b) (code c), hv.1, hv.2, 1, fun k hk => ?_⟩
      rw [← h22, hstep k hk, List.map_cons, List.map_cons, List.map_cons, List.map_nil, last3, Option.bind_some]
      show (if (3 : Int) = 3 then (if (0 : Int) < 3 then (if code a = 1 then (if (1 : Int) < 3 then (if (2 : Int) < 3 then (if code b = code c then (some (code c, (code b != 4))) else (some (code c, false))) else none) else none) else (some (code c, false))) else none) else (some (code c, false))) = _
      unfold if3
      rw [if_pos rfl, if_pos (show (0 : Int) < 3 by decide)]
      by_cases p1 : code a = 1
      · rw [if_pos p1, if_pos p1, if_pos (show (1 : Int) < 3 by decide), if_pos (show (2 : Int) < 3 by decide)]
        by_cases p2 : code b = code c
        · rw [if_pos p2, if_pos p2]
        · rw [if_neg p2, if_neg p2]
      · rw [if_neg p1, if_neg p1]
    | _ :: _ :: _ :: _ :: _, hl, _, _ => exact absurd hl (by simp)
  · obtain ⟨K1, h1⟩ := kids_is x.f0
    have hstep : ∀ k, K1 ≤ k → usanceref14_typed.l0 (k + 1) d0 (ts.map code) (ts.length : Int) x.f0 x.f1 x.f2 x.f3 = (if (kidsAns x.f0).2.2 = true then (usanceref14_typed.j2 k (ts.map code) (kidsAns x.f0).1 (kidsAns x.f0).2.1 (((kidsAns x.f0).1.length : Int) != ((ts.map code).length : Int))) else (usanceref14_typed.j2 k (ts.map code) (kidsAns x.f0).1 (kidsAns x.f0).2.1 true)) := by
      intro k hk
      rw [usanceref14_typed.l0, if_neg (by omega), if_neg h22, h1 k hk, Option.bind_some]
    unfold nodeT
    rw [if_neg h22]
    cases hs : sig x.f0 with
    | none =>
      refine ⟨0, false, by simp, (fun h => by cases h), K1 + 2, fun k hk => ?_⟩
      obtain ⟨k, rfl⟩ : ∃ m, k = m + 2 := ⟨k - 2, by omega⟩
      rw [hstep (k + 1) (by omega)]
      unfold kidsAns
      rw [hs]
      simp only [Bool.false_eq_true, if_false]
      rw [usanceref14_typed.j2, if_pos rfl]
    | some p =>
      obtain ⟨ks, own⟩ := p
      simp only
      have hks := (sig_own hs).2.2
      by_cases hlen : ks.length = ts.length
      · obtain ⟨ok, g, K2, h2⟩ := l1_loop (ts.map code) (ks.map code) (code own) (by simp [hlen]) (by simpa using hl) (ts.map code).length 0 (by omega)
        rw [List.drop_zero, List.drop_zero] at g
        have g' : ok = true ↔ ts = ks := by
          rw [g]
          exact ⟨fun h => codes_inj ht (fun t h => hks t h) h, fun h => by rw [h]⟩
        have hown : own ≠ 0 := by have := (sig_own hs).1; omega
        refine ⟨if ok = true then code own else 0, ok, ?_, ?_, K1 + K2 + 2, fun k hk => ?_⟩
        · rw [g']
          constructor
          · intro h; rw [if_pos h]; exact hown
          · intro h; exact Classical.byContradiction fun hn => h (if_neg hn)
        · intro h
          rw [if_pos h, if_pos (g'.1 h)]
        · obtain ⟨k, rfl⟩ : ∃ m, k = m + 2 := ⟨k - 2, by omega⟩
          rw [hstep (k + 1) (by omega)]
          unfold kidsAns
          rw [hs]
          simp only [if_true]
          rw [usanceref14_typed.j2, if_neg (by simp [hlen])]
          exact h2 k (by omega)
      · refine ⟨0, false, ?_, (fun h => by cases h), K1 + 2, fun k hk => ?_⟩
        · constructor
          · intro h; cases h
          · intro h; exact absurd (if_neg (fun e => hlen (by rw [e]))) h
        · obtain ⟨k, rfl⟩ : ∃ m, k = m + 2 := ⟨k - 2, by omega⟩
          rw [hstep (k + 1) (by omega)]
          unfold kidsAns
          rw [hs]
          simp only [if_true]
          rw [usanceref14_typed.j2, if_pos]
          rw [List.length_map, List.length_map, bne_iff_ne]
          omega
/-- A kid stands right, as deep as it may. -/
def KidOk (d0 : Int) (z : Core) : Prop := tyT flT z ≠ 0 ∧ depthT z + (d0 + 1) ≤ 201
theorem typed_loop (x : Core) (d0 : Int) (h0 : 1 ≤ d0) (h1 : d0 ≤ 200) (hl : x.f3.length ≤ 3)
    (hx : ∀ z ∈ x.f3, ∃ (t : Int) (ok : Bool), (ok = true ↔ KidOk d0 z) ∧ (ok = true → t = code (tyT flT z)) ∧ ∃ K, ∀ k, K ≤ k → usanceref14_typed.f k z.f0 z.f1 z.f2 z.f3 (d0 + 1) = some (t, ok)) :
    ∀ (d j : Nat), j + d = x.f3.length → (∀ z ∈ x.f3.take j, KidOk d0 z) →
      ∃ (t : Int) (ok : Bool), (ok = true ↔ (∀ z ∈ x.f3, KidOk d0 z) ∧ nodeT x.f0 (x.f3.map (tyT flT)) ≠ 0) ∧ (ok = true → t = code (nodeT x.f0 (x.f3.map (tyT flT)))) ∧
        ∃ K, ∀ k, K ≤ k → usanceref14_typed.l0 k d0 (((x.f3.take j).map (tyT flT)).map code) (j : Int) x.f0 x.f1 x.f2 x.f3 = some (t, ok) := by
  intro d
  induction d with
  | zero =>
    intro j hj hk
    obtain rfl : j = x.f3.length := by omega
    rw [List.take_length] at hk ⊢
    obtain ⟨t, ok, g1, g2, K, hK⟩ := typed_end x d0 (x.f3.map (tyT flT)) (by simp) (by simpa using hl) (fun t ht => by obtain ⟨z, hz, rfl⟩ := List.mem_map.1 ht; exact ty_own (hk z hz).1)
    rw [List.length_map] at hK
    exact ⟨t, ok, by rw [g1]; exact ⟨fun h => ⟨hk, h⟩, fun h => h.2⟩, g2, K, hK⟩
  | succ d ih =>
    intro j hj hk
    have hjl : j < x.f3.length := by omega
    obtain ⟨t, ok, g1, g2, K1, hK1⟩ := hx x.f3[j] (List.getElem_mem hjl)
    have etake : x.f3.take (j + 1) = x.f3.take j ++ [x.f3[j]] := by rw [List.take_add_one, List.getElem?_eq_getElem hjl]; rfl
    by_cases hok : ok = true
    · obtain ⟨t2, ok2, q1, q2, K2, hK2⟩ := ih (j + 1) (by omega) (fun z hz => by
        rw [etake] at hz
        rcases List.mem_append.1 hz with hz | hz
        · exact hk z hz
        · rw [List.mem_singleton.1 hz]; exact g1.1 hok)
      refine ⟨t2, ok2, q1, q2, K1 + K2 + 1, fun k hk2 => ?_⟩
      obtain ⟨k, rfl⟩ : ∃ m, k = m + 1 := ⟨k - 1, by omega⟩
      rw [usanceref14_typed.l0, if_pos (by omega), if_pos (by omega), rd_kid _ _ hjl, wrap_in (d := d0 + 1) (by omega) (by omega), hK1 k (by omega), Option.bind_some, if_pos hok, if_pos (by simp only [List.length_map, List.length_take]; omega), wrap_in (by omega) (by omega)]
      have := hK2 k (by omega)
      rw [etake, List.map_append, List.map_append] at this
      rw [show ((j + 1 : Nat) : Int) = (j : Int) + 1 by omega] at this
      simp only [g2 hok]
      exact this
    · refine ⟨0, false, ⟨(fun h => by cases h), fun h => absurd (g1.2 (h.1 _ (List.getElem_mem hjl))) hok⟩, (fun h => by cases h), K1 + 1, fun k hk2 => ?_⟩
      obtain ⟨k, rfl⟩ : ∃ m, k = m + 1 := ⟨k - 1, by omega⟩
      rw [usanceref14_typed.l0, if_pos (by omega), if_pos (by omega), rd_kid _ _ hjl, wrap_in (d := d0 + 1) (by omega) (by omega), hK1 k (by omega), Option.bind_some, if_neg hok]
theorem typed_is (x : Core) : ∀ d0 : Int, 1 ≤ d0 → d0 ≤ 201 → ∃ (t : Int) (ok : Bool), (ok = true ↔ tyT flT x ≠ 0 ∧ depthT x + d0 ≤ 201) ∧ (ok = true → t = code (tyT flT x)) ∧ ∃ K, ∀ k, K ≤ k → usanceref14_typed.f k x.f0 x.f1 x.f2 x.f3 d0 = some (t, ok) := by
  refine ind_core (P := fun x => ∀ d0 : Int, 1 ≤ d0 → d0 ≤ 201 → ∃ (t : Int) (ok : Bool), (ok = true ↔ tyT flT x ≠ 0 ∧ depthT x + d0 ≤ 201) ∧ (ok = true → t = code (tyT flT x)) ∧ ∃ K, ∀ k, K ≤ k → usanceref14_typed.f k x.f0 x.f1 x.f2 x.f3 d0 = some (t, ok)) (fun x ih d0 h0 h1 => ?_) x
  obtain ⟨K1, hK1⟩ := refFields_is x.f0 x.f1 x.f2 x.f3
  have hd := depthT_eq x
  by_cases hf : flT x.f0 x.f1 x.f2 = true
  · by_cases hdd : d0 > 200
    · refine ⟨0, false, ⟨(fun h => by cases h), fun h => by omega⟩, (fun h => by cases h), K1 + 2, fun k hk => ?_⟩
      obtain ⟨k, rfl⟩ : ∃ m, k = m + 2 := ⟨k - 2, by omega⟩
      rw [usanceref14_typed.f, hK1 (k + 1) (by omega), Option.bind_some, if_pos hf, if_pos hdd, usanceref14_typed.j0, if_pos rfl]
    · by_cases hl : x.f3.length ≤ 3
      · obtain ⟨t, ok, g1, g2, K2, hK2⟩ := typed_loop x d0 h0 (by omega) hl (fun z hz => ih z hz (d0 + 1) (by omega) (by omega)) x.f3.length 0 (by omega) (by simp)
        have hty := tyT_eq (fl := flT) x
        rw [if_pos hf] at hty
        refine ⟨t, ok, ?_, ?_, K1 + K2 + 2, fun k hk => ?_⟩
        · rw [g1, hty]
          have e : (depthT x : Int) + d0 ≤ 201 ↔ ∀ z ∈ x.f3, (depthT z : Int) + (d0 + 1) ≤ 201 := by
            rw [hd]
            have := depthL_le x.f3 (200 - d0).toNat
            constructor
            · intro h z hz
              have := depthL_mem hz
              omega
            · intro h
              have := this.2 (fun z hz => by have := h z hz; omega)
              omega
          rw [e]
          constructor
          · rintro ⟨a, b⟩
            exact ⟨b, fun z hz => (a z hz).2⟩
          · rintro ⟨a, b⟩
            exact ⟨fun z hz => ⟨ty_kids (by rw [hty]; exact a) z hz, b z hz⟩, a⟩
        · intro h
          rw [hty]
          exact g2 h
        · obtain ⟨k, rfl⟩ : ∃ m, k = m + 2 := ⟨k - 2, by omega⟩
          rw [usanceref14_typed.f, hK1 (k + 1) (by omega), Option.bind_some, if_pos hf, if_neg hdd, decide_eq_false (by omega), usanceref14_typed.j0, if_neg (by simp)]
          exact hK2 k (by omega)
      · refine ⟨0, false, ⟨(fun h => by cases h), fun h => absurd (ty_len h.1) hl⟩, (fun h => by cases h), K1 + 2, fun k hk => ?_⟩
        obtain ⟨k, rfl⟩ : ∃ m, k = m + 2 := ⟨k - 2, by omega⟩
        rw [usanceref14_typed.f, hK1 (k + 1) (by omega), Option.bind_some, if_pos hf, if_neg hdd, decide_eq_true (by omega), usanceref14_typed.j0, if_pos rfl]
  · refine ⟨0, false, ⟨(fun h => by cases h), fun h => absurd ?_ h.1⟩, (fun h => by cases h), K1 + 2, fun k hk => ?_⟩
    · rw [tyT_eq, if_neg hf]
    · obtain ⟨k, rfl⟩ : ∃ m, k = m + 2 := ⟨k - 2, by omega⟩
      rw [usanceref14_typed.f, hK1 (k + 1) (by omega), Option.bind_some, if_neg hf, usanceref14_typed.j0, if_pos rfl]
/-- A term that stands right: not too great, nor too deep, and of a type. -/
def Typed (x : Core) : Prop := (sizeT x ≤ 2000 ∧ depthT x ≤ 200) ∧ tyT flT x ≠ 0
theorem refType_is (x : Core) : ∃ (t : Int) (ok : Bool), (ok = true ↔ Typed x) ∧ (ok = true → t = code (tyT flT x)) ∧ ∃ K, ∀ k, K ≤ k → usanceref14_Type.f k x.f0 x.f1 x.f2 x.f3 = some (t, ok) := by
  obtain ⟨b, hb, K1, hK1⟩ := small_is x
  obtain ⟨t, ok, g1, g2, K2, hK2⟩ := typed_is x 1 (by decide) (by decide)
  by_cases hs : b = true
  · by_cases hok : ok = true
    · refine ⟨t, true, ⟨fun _ => ⟨hb.1 hs, (g1.1 hok).1⟩, fun _ => rfl⟩, fun _ => g2 hok, K1 + K2, fun k hk => ?_⟩
      unfold usanceref14_Type.f
      rw [hK1 k (by omega), Option.bind_some, if_pos hs, hK2 k (by omega), Option.bind_some, if_pos hok]
    · refine ⟨0, false, ⟨(fun h => by cases h), fun h => absurd (g1.2 ⟨h.2, by have := h.1.2; omega⟩) hok⟩, (fun h => by cases h), K1 + K2, fun k hk => ?_⟩
      unfold usanceref14_Type.f
      rw [hK1 k (by omega), Option.bind_some, if_pos hs, hK2 k (by omega), Option.bind_some, if_neg hok]
  · refine ⟨0, false, ⟨(fun h => by cases h), fun h => absurd (hb.2 h.1) hs⟩, (fun h => by cases h), K1, fun k hk => ?_⟩
    unfold usanceref14_Type.f
    rw [hK1 k (by omega), Option.bind_some, if_neg hs]
theorem refCheck_is (x : Core) : ∃ e : Int, (e = 0 ↔ Right x) ∧ ∃ K, ∀ k, K ≤ k → usanceref14_Check.f k x.f0 x.f1 x.f2 x.f3 = some e := by
  obtain ⟨t, ok, g1, g2, K1, hK1⟩ := refType_is x
  by_cases hok : ok = true
  · have hT := g1.1 hok
    by_cases h99 : tyT flT x = 99
    · obtain ⟨b, hb, K2, hK2⟩ := ahead_is x hT.2
      have ht : t = 4 := by rw [g2 hok, h99]; rfl
      refine ⟨if b = true then 141 else 0, ?_, K1 + K2 + 1, fun k hk => ?_⟩
      · cases b
        · exact ⟨fun _ => ⟨hT.1.1, hT.1.2, h99, hb.1 rfl⟩, fun _ => rfl⟩
        · exact ⟨fun h => absurd h (by decide), fun h => absurd (hb.2 h.ahead) (by simp)⟩
      · obtain ⟨k, rfl⟩ : ∃ m, k = m + 1 := ⟨k - 1, by omega⟩
        unfold usanceref14_Check.f
        rw [hK1 (k + 1) (by omega), Option.bind_some, if_pos hok, usanceref14_Check.j0, if_neg (by simp [ht]), hK2 k (by omega), Option.bind_some]
        cases b <;> rfl
    · have ht : t ≠ 4 := by
        rw [g2 hok]
        have := ty_own hT.2
        rcases this with h | h | h | h
        · rw [h]; decide
        · rw [h]; decide
        · rw [h]; decide
        · exact absurd h h99
      refine ⟨140, ⟨fun h => absurd h (by decide), fun h => absurd h.ty h99⟩, K1 + 1, fun k hk => ?_⟩
      obtain ⟨k, rfl⟩ : ∃ m, k = m + 1 := ⟨k - 1, by omega⟩
      unfold usanceref14_Check.f
      rw [hK1 (k + 1) (by omega), Option.bind_some, if_pos hok, usanceref14_Check.j0, if_pos (bne_iff_ne.2 ht)]
  · refine ⟨140, ⟨fun h => absurd h (by decide), fun h => absurd (g1.2 ⟨⟨h.size, h.depth⟩, by rw [h.ty]; decide⟩) hok⟩, K1 + 1, fun k hk => ?_⟩
    obtain ⟨k, rfl⟩ : ∃ m, k = m + 1 := ⟨k - 1, by omega⟩
    unfold usanceref14_Check.f
    rw [hK1 (k + 1) (by omega), Option.bind_some, if_neg hok, usanceref14_Check.j0, if_pos rfl]
/-- The horizon of a right contract. -/
theorem refHorizon_is (x : Core) (hx : Right x) : ∃ h : Int, 0 ≤ h ∧ (∀ B, 0 ≤ B → (h ≤ B ↔ allT (Hor B) x)) ∧ ∃ K, ∀ k, K ≤ k → usanceref14_Horizon.f k x.f0 x.f1 x.f2 x.f3 = some h := by
  have hty : tyT flT x ≠ 0 := by rw [hx.ty]; decide
  obtain ⟨t, ok, g1, g2, K1, hK1⟩ := refType_is x
  obtain ⟨h, h0, hB, K2, hK2⟩ := horizon_is x hty
  refine ⟨h, h0, hB, K1 + K2, fun k hk => ?_⟩
  unfold usanceref14_Horizon.f
  rw [hK1 k (by omega), Option.bind_some, if_pos (g1.2 ⟨⟨hx.size, hx.depth⟩, hty⟩), hK2 k (by omega), Option.bind_some]
end Go.Proofs.YtniajhmbdbgmgaaGreatDoor.Q

/- The law OptLess: what its own code does with what the called functions answer. -/
namespace Go.Proofs.YtniajhmbdbgmgaaGreatDoor.Q
open Go Go.RowKit Go.Proofs Go.Proofs.YtniajhmbdbgmgaaGreatDoor Go.Shelf Go.Proofs.YtniajhmbdbgmgaaGreatDoorW.PrintWords Go.Proofs.YtniajhmbdbgmgaaGreatDoorW.PrintLast Go.Proofs.YtniajhmbdbgmgaaGreatDoorW.PrintMore
set_option linter.unusedSimpArgs false
set_option linter.unusedVariables false
attribute [local go_sem] World.cell?_alloc_lt

/-- Both contracts lie in their boxes. -/
structure LessI (w : World) (A : Option Addr) (c : Nat) (x : Core) (n1 : Nat) (B : Option Addr) (d : Nat) (y : Core) (W : World) : Prop where
  bel : Below w.heap.size w W
  bx : W.heap[w.heap.size]? = some (.cells #[.int .i64 x.f0, .int .i64 x.f1, .string x.f2, .slice A x.f3.length c] 24 (0, 0))
  by_ : W.heap[n1]? = some (.cells #[.int .i64 y.f0, .int .i64 y.f1, .string y.f2, .slice B y.f3.length d] 24 (0, 0))
  cx : Kd.C k24 W A x.f3.length x.f3
  cy : Kd.C k24 W B y.f3.length y.f3
section
variable {w W W' : World} {A B : Option Addr} {c d n1 : Nat} {x y : Core}
theorem LessI.below (h : LessI w A c x n1 B d y W) (hb : Below W.heap.size W W') : LessI w A c x n1 B d y W' :=
  ⟨h.bel.trans (hb.mono h.bel.size), blk_below h.bx hb, blk_below h.by_ hb, Kd.C_below h.cx hb, Kd.C_below h.cy hb⟩
theorem LessI.held (h : LessI w A c x n1 B d y W) : (W.cell? ⟨w.heap.size, 0, none⟩ = some (.int .i64 x.f0) ∧ W.cell? ⟨w.heap.size, 1, none⟩ = some (.int .i64 x.f1) ∧ W.cell? ⟨w.heap.size, 2, none⟩ = some (.string x.f2) ∧ W.cell? ⟨w.heap.size, 3, none⟩ = some (.slice A x.f3.length c)) ∧
    (W.cell? ⟨n1, 0, none⟩ = some (.int .i64 y.f0) ∧ W.cell? ⟨n1, 1, none⟩ = some (.int .i64 y.f1) ∧ W.cell? ⟨n1, 2, none⟩ = some (.string y.f2) ∧ W.cell? ⟨n1, 3, none⟩ = some (.slice B y.f3.length d)) := ⟨core_cells h.bx, core_cells h.by_⟩
end
set_option maxRecDepth 100000 in
set_option maxHeartbeats 4000000 in
theorem less_walk (x y : Core) (p e sx sy hx hy ec : Int) (A : Option Addr) (c : Nat) (w : World) (hC : Kd.C k24 w A x.f3.length x.f3) (hl : x.f3.length ≤ c)
    (hS : ∀ W, Calls Tryz.prog 10 #[] W fun q W' => q = .returned (.bool true) ∧ Below W.heap.size W W')
    (hD : ∀ W, Kd.C k24 W A x.f3.length x.f3 → Calls Tryz.prog 11 #[.agg #[.int .i64 x.f0, .int .i64 x.f1, .string x.f2, .slice A x.f3.length c], .int .i64 p] W fun q W' =>
      ∃ B d, q = .returned (.tuple #[.agg #[.int .i64 y.f0, .int .i64 y.f1, .string y.f2, .slice B y.f3.length d], .int .i64 e]) ∧ Kd.C k24 W' B y.f3.length y.f3 ∧ y.f3.length ≤ d ∧ Below W.heap.size W W')
    (he : e = 0 ∨ e = 160) (hc : ∀ W, Kd.C k24 W A x.f3.length x.f3 → Calls Tryz.prog 12 #[.agg #[.int .i64 x.f0, .int .i64 x.f1, .string x.f2, .slice A x.f3.length c]] W fun q W' => q = .returned (.int .i64 ec) ∧ Below W.heap.size W W')
    (hec : e = 160 → 0 ≤ p → p ≤ 15 → ec ≠ 0)
    (hcy : e = 0 → ∀ W B d, Kd.C k24 W B y.f3.length y.f3 → y.f3.length ≤ d → Calls Tryz.prog 12 #[.agg #[.int .i64 y.f0, .int .i64 y.f1, .string y.f2, .slice B y.f3.length d]] W fun q W' => q = .returned (.int .i64 0) ∧ Below W.heap.size W W')
    (hsx : e = 0 → ∀ W, Kd.C k24 W A x.f3.length x.f3 → Calls Tryz.prog 13 #[.agg #[.int .i64 x.f0, .int .i64 x.f1, .string x.f2, .slice A x.f3.length c]] W fun q W' => q = .returned (.int .i64 sx) ∧ Below W.heap.size W W')
    (hsy : e = 0 → ∀ W B d, Kd.C k24 W B y.f3.length y.f3 → y.f3.length ≤ d → Calls Tryz.prog 13 #[.agg #[.int .i64 y.f0, .int .i64 y.f1, .string y.f2, .slice B y.f3.length d]] W fun q W' => q = .returned (.int .i64 sy) ∧ Below W.heap.size W W')
    (hhx : e = 0 → ∀ W, Kd.C k24 W A x.f3.length x.f3 → Calls Tryz.prog 14 #[.agg #[.int .i64 x.f0, .int .i64 x.f1, .string x.f2, .slice A x.f3.length c]] W fun q W' => q = .returned (.int .i64 hx) ∧ Below W.heap.size W W')
    (hhy : e = 0 → ∀ W B d, Kd.C k24 W B y.f3.length y.f3 → y.f3.length ≤ d → Calls Tryz.prog 14 #[.agg #[.int .i64 y.f0, .int .i64 y.f1, .string y.f2, .slice B y.f3.length d]] W fun q W' => q = .returned (.int .i64 hy) ∧ Below W.heap.size W W')
    (hsl : e = 0 → sy ≤ sx) (hhl : e = 0 → hy ≤ hx) :
    Calls Tryz.prog 3 #[.agg #[.int .i64 x.f0, .int .i64 x.f1, .string x.f2, .slice A x.f3.length c], .int .i64 p] w fun q w' => q = .returned (.bool true) ∧ Below w.heap.size w w' := by
  obtain ⟨w1, ew1⟩ : ∃ w1, w.alloc (.cells #[.int .i64 x.f0, .int .i64 x.f1, .string x.f2, .slice A x.f3.length c] 24) = w1 := ⟨_, rfl⟩
  have HB := Lib.hid (show Below w.heap.size w w1 by rw [← ew1]; exact below_alloc (Below.refl _ _) _)
  have HX := Lib.hid (show w1.heap[w.heap.size]? = some (.cells #[.int .i64 x.f0, .int .i64 x.f1, .string x.f2, .slice A x.f3.length c] 24 (0, 0)) by rw [← ew1]; exact blk_new w _)
  have HS := Lib.hid hS; have HD := Lib.hid hD; have HCx := Lib.hid hc; have HEC := Lib.hid hec; have HE := Lib.hid he
  have HCY := Lib.hid hcy; have HSX := Lib.hid hsx; have HSY := Lib.hid hsy; have HHX := Lib.hid hhx; have HHY := Lib.hid hhy; have HSL := Lib.hid hsl; have HHL := Lib.hid hhl
  have HC := Lib.hid (Kd.C_below hC (show Below w.heap.size w w1 by rw [← ew1]; exact below_alloc (Below.refl _ _) _))
  clear hS hD hc hec he hcy hsx hsy hhx hhy hsl hhl hC
  go_enter Tryz.func3, Tryz.ntmps3
  go_wp2_with fail
  clear ew1
  refine (HS.out w1).mono ?_
  rintro q w2 ⟨rfl, hb⟩
  replace HX := Lib.hid (blk_below HX.out hb)
  replace HC := Lib.hid (Kd.C_below HC.out hb)
  replace HB := Lib.hid (HB.out.trans (hb.mono HB.out.size))
  clear hb HS
  obtain ⟨c0, c1, c2, c3⟩ := core_cells HX.out
  go_wp2_with fail
  refine (HD.out w2 HC.out).mono ?_
  rintro q w3 ⟨B, d, rfl, hC, hl3, hb⟩
  replace HX := Lib.hid (blk_below HX.out hb)
  replace HC := Lib.hid (Kd.C_below HC.out hb)
  replace HB := Lib.hid (HB.out.trans (hb.mono HB.out.size))
  have HY := Lib.hid hC
  clear hb hC c0 c1 c2 c3 HD
  obtain ⟨n1, en1⟩ : ∃ n, w3.heap.size = n := ⟨_, rfl⟩
  obtain ⟨w4, ew4⟩ : ∃ u, w3.alloc (.cells #[.int .i64 y.f0, .int .i64 y.f1, .string y.f2, .slice B y.f3.length d] 24) = u := ⟨_, rfl⟩
  have hb : Below w3.heap.size w3 w4 := by rw [← ew4]; exact below_alloc (Below.refl _ _) _
  have G1 := Lib.hid (show w4.heap[n1]? = some (.cells #[.int .i64 y.f0, .int .i64 y.f1, .string y.f2, .slice B y.f3.length d] 24 (0, 0)) by rw [← ew4, ← en1]; exact blk_new w3 _)
  replace HX := Lib.hid (blk_below HX.out hb)
  replace HC := Lib.hid (Kd.C_below HC.out hb)
  replace HY := Lib.hid (Kd.C_below HY.out hb)
  replace HB := Lib.hid (HB.out.trans (hb.mono HB.out.size))
  have HI : Hid (LessI w A c x n1 B d y w4) := Lib.hid ⟨HB.out, HX.out, G1.out, HC.out, HY.out⟩
  clear hb
  obtain ⟨c0, c1, c2, c3⟩ := core_cells HX.out
  obtain ⟨d0, d1, d2, d3⟩ := core_cells G1.out
  rcases HE.out with he | he
  · subst he
    have HCy : Hid (∀ W, _ → _) := Lib.hid (fun W h => HCY.out rfl W B d h hl3)
    have HSx : Hid (∀ W, _ → _) := Lib.hid (HSX.out rfl)
    have HSy : Hid (∀ W, _ → _) := Lib.hid (fun W h => HSY.out rfl W B d h hl3)
    have HHx : Hid (∀ W, _ → _) := Lib.hid (HHX.out rfl)
    have HHy : Hid (∀ W, _ → _) := Lib.hid (fun W h => HHY.out rfl W B d h hl3)
    have t1 : decide (sy ≤ sx) = true := decide_eq_true (HSL.out rfl)
    have t2 : decide (hy ≤ hx) = true := decide_eq_true (HHL.out rfl)
    clear HCY HSX HSY HHX HHY HSL HHL HEC HE HCx HX HC HY HB G1
    go_wp2_with fail
    clear ew4 c0 c1 c2 c3 d0 d1 d2 d3
    have HI4 := Lib.hid (HI.out.below (below_drew (Below.refl _ _)))
    refine start_ (n := 21) (S := fun w' => (w'.cell? ⟨w.heap.size, 0, none⟩ = some (.int .i64 x.f0) ∧ w'.cell? ⟨w.heap.size, 1, none⟩ = some (.int .i64 x.f1) ∧ w'.cell? ⟨w.heap.size, 2, none⟩ = some (.string x.f2) ∧ w'.cell? ⟨w.heap.size, 3, none⟩ = some (.slice A x.f3.length c)) ∧ (w'.cell? ⟨n1, 0, none⟩ = some (.int .i64 y.f0) ∧ w'.cell? ⟨n1, 1, none⟩ = some (.int .i64 y.f1) ∧ w'.cell? ⟨n1, 2, none⟩ = some (.string y.f2) ∧ w'.cell? ⟨n1, 3, none⟩ = some (.slice B y.f3.length d))) (ds := []) (bm 21 0) (by kernel_rfl) rfl (by kernel_rfl) HI4.out.held (fun hHeld => ?_)
    generalize w4.drew = w5 at HI4 hHeld ⊢
    refine pure_ (i := 0) (N := some 35) (v := ?_) (a' := ?_) (bm 21 1) rfl rfl (by kernel_rfl) (fun _ _ _ h => h) (Or.inl ⟨by rfl, ?_⟩) ?_ ?_
    rotate_left
    · intro w'
      go_simp
      with_reducible rfl
    rotate_left
    · simp only [Act.put, List.setIfInBounds_toArray, List.set_cons_zero, List.set_cons_succ, i64_w, i32_w]
      rfl
    refine pure_ (i := 1) (N := some 36) (v := ?_) (a' := ?_) (bm 21 3) rfl rfl (by kernel_rfl) (fun _ _ _ h => h) (Or.inl ⟨by rfl, ?_⟩) ?_ ?_
    rotate_left
    · intro w'
      go_simp
      with_reducible rfl
    rotate_left
    · simp only [Act.put, List.setIfInBounds_toArray, List.set_cons_zero, List.set_cons_succ, i64_w, i32_w]
      rfl
    refine take_ (i := 2) (N := some 37) (v := ?_) (a' := ?_) (bm 21 7) rfl rfl (by kernel_rfl) (fun _ _ _ h => h) (Or.inl ⟨by rfl, ?_⟩) hHeld ?_ ?_
    rotate_left
    · rintro w' ⟨⟨s0, s1, s2, s3⟩, ⟨u0, u1, u2, u3⟩⟩
      go_simp
      with_reducible rfl
    rotate_left
    · simp only [Act.put, List.setIfInBounds_toArray, List.set_cons_zero, List.set_cons_succ, i64_w, i32_w]
      rfl
    refine one_ (i := 3) (N := some 38) (bm 21 15) rfl rfl (by kernel_rfl) (by decide) (fun K hK => ?_)
    refine goes_ Tryz.func12 (by kernel_rfl) rfl #[.agg #[.int .i64 y.f0, .int .i64 y.f1, .string y.f2, .slice B y.f3.length d]] (by rfl) rfl rfl (by (try simp only [List.map_toArray, List.map_cons, List.map_nil]); first | done | rfl) ?_
    refine (HCy.out _ HI4.out.cy).mono ?_
    rintro e W5 ⟨rfl, hb5⟩
    refine ⟨_, rfl, ?_⟩
    have HI5 := Lib.hid (HI4.out.below hb5)
    clear hb5
    refine hK.out _ _ HI5.out.held (fun hHeld => ?_)
    clear hK K
    refine norm_ (a' := ?_) ?_ ?_
    rotate_left
    · show Act.put _ (some 38) _ = _
      simp only [Act.put, List.setIfInBounds_toArray, List.set_cons_zero, List.set_cons_succ, i64_w, i32_w]
      rfl
    refine pure_ (i := 4) (N := some 39) (v := ?_) (a' := ?_) (bm 21 31) rfl rfl (by kernel_rfl) (fun _ _ _ h => h) (Or.inl ⟨by rfl, ?_⟩) ?_ ?_
    rotate_left
    · intro w'
      go_simp
      with_reducible rfl
    rotate_left
    · simp only [Act.put, List.setIfInBounds_toArray, List.set_cons_zero, List.set_cons_succ, i64_w, i32_w]
      rfl
    refine pure_ (i := 5) (N := some 40) (v := ?_) (a' := ?_) (bm 21 63) rfl rfl (by kernel_rfl) (fun _ _ _ h => h) (Or.inl ⟨by rfl, ?_⟩) ?_ ?_
    rotate_left
    · intro w'
      go_simp
      with_reducible rfl
    rotate_left
    · simp only [Act.put, List.setIfInBounds_toArray, List.set_cons_zero, List.set_cons_succ, i64_w, i32_w]
      rfl
    refine pure_ (i := 6) (N := some 41) (v := ?_) (a' := ?_) (bm 21 127) rfl rfl (by kernel_rfl) (fun _ _ _ h => h) (Or.inl ⟨by rfl, ?_⟩) ?_ ?_
    rotate_left
    · intro w'
      go_simp
      with_reducible rfl
    rotate_left
    · simp only [Act.put, List.setIfInBounds_toArray, List.set_cons_zero, List.set_cons_succ, i64_w, i32_w]
      rfl
    refine take_ (i := 7) (N := some 42) (v := ?_) (a' := ?_) (bm 21 255) rfl rfl (by kernel_rfl) (fun _ _ _ h => h) (Or.inl ⟨by rfl, ?_⟩) hHeld ?_ ?_
    rotate_left
    · rintro w' ⟨⟨s0, s1, s2, s3⟩, ⟨u0, u1, u2, u3⟩⟩
      go_simp
      with_reducible rfl
    rotate_left
    · simp only [Act.put, List.setIfInBounds_toArray, List.set_cons_zero, List.set_cons_succ, i64_w, i32_w]
      rfl
    refine take_ (i := 9) (N := some 44) (v := ?_) (a' := ?_) (bm 21 767) rfl rfl (by kernel_rfl) (fun _ _ _ h => h) (Or.inl ⟨by rfl, ?_⟩) hHeld ?_ ?_
    rotate_left
    · rintro w' ⟨⟨s0, s1, s2, s3⟩, ⟨u0, u1, u2, u3⟩⟩
      go_simp
      with_reducible rfl
    rotate_left
    · simp only [Act.put, List.setIfInBounds_toArray, List.set_cons_zero, List.set_cons_succ, i64_w, i32_w]
      rfl
    refine one_ (i := 8) (N := some 43) (bm 21 1023) rfl rfl (by kernel_rfl) (by decide) (fun K hK => ?_)
    refine goes_ Tryz.func13 (by kernel_rfl) rfl #[.agg #[.int .i64 y.f0, .int .i64 y.f1, .string y.f2, .slice B y.f3.length d]] (by rfl) rfl rfl (by (try simp only [List.map_toArray, List.map_cons, List.map_nil]); first | done | rfl) ?_
    refine (HSy.out _ HI5.out.cy).mono ?_
    rintro e W6 ⟨rfl, hb6⟩
    refine ⟨_, rfl, ?_⟩
    have HI6 := Lib.hid (HI5.out.below hb6)
    clear hb6
    refine hK.out _ _ HI6.out.held (fun hHeld => ?_)
    clear hK K
    refine norm_ (a' := ?_) ?_ ?_
    rotate_left
    · show Act.put _ (some 43) _ = _
      simp only [Act.put, List.setIfInBounds_toArray, List.set_cons_zero, List.set_cons_succ, i64_w, i32_w]
      rfl
    refine one_ (i := 10) (N := some 45) (bm 21 2047) rfl rfl (by kernel_rfl) (by decide) (fun K hK => ?_)
    refine goes_ Tryz.func13 (by kernel_rfl) rfl #[.agg #[.int .i64 x.f0, .int .i64 x.f1, .string x.f2, .slice A x.f3.length c]] (by rfl) rfl rfl (by (try simp only [List.map_toArray, List.map_cons, List.map_nil]); first | done | rfl) ?_
    refine (HSx.out _ HI6.out.cx).mono ?_
    rintro e W7 ⟨rfl, hb7⟩
    refine ⟨_, rfl, ?_⟩
    have HI7 := Lib.hid (HI6.out.below hb7)
    clear hb7
    refine hK.out _ _ HI7.out.held (fun hHeld => ?_)
    clear hK K
    refine norm_ (a' := ?_) ?_ ?_
    rotate_left
    · show Act.put _ (some 45) _ = _
      simp only [Act.put, List.setIfInBounds_toArray, List.set_cons_zero, List.set_cons_succ, i64_w, i32_w]
      rfl
    refine pure_ (i := 11) (N := some 46) (v := ?_) (a' := ?_) (bm 21 4095) rfl rfl (by kernel_rfl) (fun _ _ _ h => h) (Or.inl ⟨by rfl, ?_⟩) ?_ ?_
    rotate_left
    · intro w'
      go_simp
      with_reducible rfl
    rotate_left
    · simp only [Act.put, List.setIfInBounds_toArray, List.set_cons_zero, List.set_cons_succ, i64_w, i32_w]
      rfl
    refine pure_ (i := 12) (N := some 47) (v := ?_) (a' := ?_) (bm 21 8191) rfl rfl (by kernel_rfl) (fun _ _ _ h => h) (Or.inl ⟨by rfl, ?_⟩) ?_ ?_
    rotate_left
    · intro w'
      go_simp
      with_reducible rfl
    rotate_left
    · simp only [Act.put, List.setIfInBounds_toArray, List.set_cons_zero, List.set_cons_succ, i64_w, i32_w]
      rfl
    refine pure_ (i := 13) (N := some 48) (v := ?_) (a' := ?_) (bm 21 16383) rfl rfl (by kernel_rfl) (fun _ _ _ h => h) (Or.inl ⟨by rfl, ?_⟩) ?_ ?_
    rotate_left
    · intro w'
      go_simp
      with_reducible rfl
    rotate_left
    · simp only [Act.put, List.setIfInBounds_toArray, List.set_cons_zero, List.set_cons_succ, i64_w, i32_w]
      rfl
    refine take_ (i := 14) (N := some 49) (v := ?_) (a' := ?_) (bm 21 32767) rfl rfl (by kernel_rfl) (fun _ _ _ h => h) (Or.inl ⟨by rfl, ?_⟩) hHeld ?_ ?_
    rotate_left
    · rintro w' ⟨⟨s0, s1, s2, s3⟩, ⟨u0, u1, u2, u3⟩⟩
      go_simp
      with_reducible rfl
    rotate_left
    · simp only [Act.put, List.setIfInBounds_toArray, List.set_cons_zero, List.set_cons_succ, i64_w, i32_w]
      rfl
    refine take_ (i := 16) (N := some 51) (v := ?_) (a' := ?_) (bm 21 98303) rfl rfl (by kernel_rfl) (fun _ _ _ h => h) (Or.inl ⟨by rfl, ?_⟩) hHeld ?_ ?_
    rotate_left
    · rintro w' ⟨⟨s0, s1, s2, s3⟩, ⟨u0, u1, u2, u3⟩⟩
      go_simp
      with_reducible rfl
    rotate_left
    · simp only [Act.put, List.setIfInBounds_toArray, List.set_cons_zero, List.set_cons_succ, i64_w, i32_w]
      rfl
    refine one_ (i := 15) (N := some 50) (bm 21 131071) rfl rfl (by kernel_rfl) (by decide) (fun K hK => ?_)
    refine goes_ Tryz.func14 (by kernel_rfl) rfl #[.agg #[.int .i64 y.f0, .int .i64 y.f1, .string y.f2, .slice B y.f3.length d]] (by rfl) rfl rfl (by (try simp only [List.map_toArray, List.map_cons, List.map_nil]); first | done | rfl) ?_
    refine (HHy.out _ HI7.out.cy).mono ?_
    rintro e W8 ⟨rfl, hb8⟩
    refine ⟨_, rfl, ?_⟩
    have HI8 := Lib.hid (HI7.out.below hb8)
    clear hb8
    refine hK.out _ _ HI8.out.held (fun hHeld => ?_)
    clear hK K
    refine norm_ (a' := ?_) ?_ ?_
    rotate_left
    · show Act.put _ (some 50) _ = _
      simp only [Act.put, List.setIfInBounds_toArray, List.set_cons_zero, List.set_cons_succ, i64_w, i32_w]
      rfl
    refine one_ (i := 17) (N := some 52) (bm 21 262143) rfl rfl (by kernel_rfl) (by decide) (fun K hK => ?_)
    refine goes_ Tryz.func14 (by kernel_rfl) rfl #[.agg #[.int .i64 x.f0, .int .i64 x.f1, .string x.f2, .slice A x.f3.length c]] (by rfl) rfl rfl (by (try simp only [List.map_toArray, List.map_cons, List.map_nil]); first | done | rfl) ?_
    refine (HHx.out _ HI8.out.cx).mono ?_
    rintro e W9 ⟨rfl, hb9⟩
    refine ⟨_, rfl, ?_⟩
    have HI9 := Lib.hid (HI8.out.below hb9)
    clear hb9
    refine hK.out _ _ HI9.out.held (fun hHeld => ?_)
    clear hK K
    refine norm_ (a' := ?_) ?_ ?_
    rotate_left
    · show Act.put _ (some 52) _ = _
      simp only [Act.put, List.setIfInBounds_toArray, List.set_cons_zero, List.set_cons_succ, i64_w, i32_w]
      rfl
    refine pure_ (i := 18) (N := some 53) (v := ?_) (a' := ?_) (bm 21 524287) rfl rfl (by kernel_rfl) (fun _ _ _ h => h) (Or.inl ⟨by rfl, ?_⟩) ?_ ?_
    rotate_left
    · intro w'
      go_simp
      with_reducible rfl
    rotate_left
    · simp only [Act.put, List.setIfInBounds_toArray, List.set_cons_zero, List.set_cons_succ, i64_w, i32_w]
      rfl
    refine pure_ (i := 19) (N := some 54) (v := ?_) (a' := ?_) (bm 21 1048575) rfl rfl (by kernel_rfl) (fun _ _ _ h => h) (Or.inl ⟨by rfl, ?_⟩) ?_ ?_
    rotate_left
    · intro w'
      go_simp
      with_reducible rfl
    rotate_left
    · simp only [Act.put, List.setIfInBounds_toArray, List.set_cons_zero, List.set_cons_succ, i64_w, i32_w]
      rfl
    refine pure_ (i := 20) (N := some 4) (v := ?_) (a' := ?_) (bm 21 2097151) rfl rfl (by kernel_rfl) (fun _ _ _ h => h) (Or.inl ⟨by rfl, ?_⟩) ?_ ?_
    rotate_left
    · intro w'
      go_simp
      with_reducible rfl
    rotate_left
    · simp only [Act.put, List.setIfInBounds_toArray, List.set_cons_zero, List.set_cons_succ, i64_w, i32_w]
      rfl
    refine done_ (by kernel_rfl) ?_
    clear hHeld
    go_wp2_with fail
    exact bodyPost_ret (v := .bool true) (by simp [results, Tryz.f3, go_sem]) rfl ⟨rfl, HI9.out.bel⟩

  · subst he
    clear HCY HSX HSY HHX HHY HSL HHL HE d0 d1 d2 d3
    by_cases hp0 : p < 0
    · have t1 : decide (p < 0) = true := decide_eq_true hp0
      clear hp0
      go_wp2_with fail
      refine bodyPost_ret (v := .bool true) (by simp [results, Tryz.f3, go_sem]) rfl ⟨rfl, HB.out⟩
    · have t1 : decide (p < 0) = false := decide_eq_false hp0
      by_cases hp1 : 15 < p
      · have t2 : decide (15 < p) = true := decide_eq_true hp1
        clear hp0 hp1
        go_wp2_with fail
        refine bodyPost_ret (v := .bool true) (by simp [results, Tryz.f3, go_sem]) rfl ⟨rfl, HB.out⟩
      · have t2 : decide (15 < p) = false := decide_eq_false hp1
        have t3 : (ec != 0) = true := bne_iff_ne.2 (HEC.out rfl (by omega) (by omega))
        have t4 : (ec == 0) = false := beq_eq_false_iff_ne.2 (HEC.out rfl (by omega) (by omega))
        clear hp0 hp1
        go_wp2_with fail
        clear ew4
        refine (HCx.out w4 HC.out).mono ?_
        rintro q w6 ⟨rfl, hb⟩
        go_wp2_with fail
        refine bodyPost_ret (v := .bool true) (by simp [results, Tryz.f3, go_sem]) rfl ⟨rfl, HB.out.trans (hb.mono HB.out.size)⟩
end Go.Proofs.YtniajhmbdbgmgaaGreatDoor.Q


/- The law OptLess in plain Lean: what comes of a contract is right, no greater, and looks no further. -/
namespace Go.Proofs.YtniajhmbdbgmgaaGreatDoor.Q
set_option linter.unusedSimpArgs false
set_option linter.unusedVariables false
open Go Go.RowKit Go.Proofs Go.Proofs.YtniajhmbdbgmgaaGreatDoor Go.Proofs.YtniajhmbdbgmgaaGreatDoorW.PrintWords

theorem optLess_run (x : Core) (p : Int) (A : Option Addr) (c : Nat) (w : World) (hC : Kd.C k24 w A x.f3.length x.f3) (hl : x.f3.length ≤ c) :
    Calls Tryz.prog 3 #[.agg #[.int .i64 x.f0, .int .i64 x.f1, .string x.f2, .slice A x.f3.length c], .int .i64 p] w fun q w' => q = .returned (.bool true) ∧ Below w.heap.size w w' := by
  obtain ⟨ec, hec, K2, h2⟩ := refCheck_is x
  by_cases hx : Right x ∧ 0 ≤ p ∧ p ≤ 15
  · obtain ⟨hx, hp0, hp1⟩ := hx
    obtain ⟨y, hy, K1, h1⟩ := do_yes x p hx hp0 hp1
    have hyr := came_right hy hx
    obtain ⟨ey, hey, K3, h3⟩ := refCheck_is y
    obtain rfl := hey.2 hyr
    obtain ⟨K4, h4⟩ := size_is x (right_ty hx) hx.size
    obtain ⟨K5, h5⟩ := size_is y (right_ty hyr) hyr.size
    obtain ⟨hX, hX0, hXB, K6, h6⟩ := refHorizon_is x hx
    obtain ⟨hY, hY0, hYB, K7, h7⟩ := refHorizon_is y hyr
    have hle : hY ≤ hX := (hYB hX hX0).2 (hy.all _ hor_ok ((hXB hX hX0).1 (Int.le_refl _)))
    exact less_walk x y p 0 (sizeT x) (sizeT y) hX hY ec A c w hC hl shown_run (fun W h => do_calls K1 x y 0 p (h1 _ (Nat.le_refl _)) A c W h hl) (.inl rfl)
      (fun W h => usanceref14_Check.calls K2 x.f0 x.f1 x.f2 A c x.f3 ec W h hl (h2 _ (Nat.le_refl _))) (fun h => absurd h (by decide))
      (fun _ W B d h hd => usanceref14_Check.calls K3 y.f0 y.f1 y.f2 B d y.f3 0 W h hd (h3 _ (Nat.le_refl _)))
      (fun _ W h => usanceref13_Size.calls K4 x.f0 x.f1 x.f2 A c x.f3 _ W h hl (h4 _ (Nat.le_refl _)))
      (fun _ W B d h hd => usanceref13_Size.calls K5 y.f0 y.f1 y.f2 B d y.f3 _ W h hd (h5 _ (Nat.le_refl _)))
      (fun _ W h => usanceref14_Horizon.calls K6 x.f0 x.f1 x.f2 A c x.f3 _ W h hl (h6 _ (Nat.le_refl _)))
      (fun _ W B d h hd => usanceref14_Horizon.calls K7 y.f0 y.f1 y.f2 B d y.f3 _ W h hd (h7 _ (Nat.le_refl _)))
      (fun _ => by have := hy.size; omega) (fun _ => hle)
  · obtain ⟨K1, h1⟩ := do_no x p hx
    exact less_walk x ⟨0, 0, ⟨#[]⟩, []⟩ p 160 0 0 0 0 ec A c w hC hl shown_run (fun W h => do_calls K1 x ⟨0, 0, ⟨#[]⟩, []⟩ 160 p (h1 _ (Nat.le_refl _)) A c W h hl) (.inr rfl)
      (fun W h => usanceref14_Check.calls K2 x.f0 x.f1 x.f2 A c x.f3 ec W h hl (h2 _ (Nat.le_refl _))) (fun _ hp0 hp1 he => hx ⟨hec.1 he, hp0, hp1⟩)
      (fun h => absurd h (by decide)) (fun h => absurd h (by decide)) (fun h => absurd h (by decide)) (fun h => absurd h (by decide)) (fun h => absurd h (by decide)) (fun h => absurd h (by decide)) (fun h => absurd h (by decide))
end Go.Proofs.YtniajhmbdbgmgaaGreatDoor.Q
