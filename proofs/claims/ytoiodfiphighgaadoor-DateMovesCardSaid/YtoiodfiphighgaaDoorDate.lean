/- Small functions of layer 3 (date). -/
import Derived.Test.YtoiodfiphighgaaDoorNum
import Derived.Test.YtoiodfiphighgaaDoorPDate
import Derived.Laws.Rows
import Derived.Laws.ResultCell
import Derived.RegionTactic
import Derived.KernelRfl
namespace Go.Proofs.YtoiodfiphighgaaDoor.XDate
open Go Go.RowKit Go.Proofs Go.Proofs.YtoiodfiphighgaaDoor
attribute [local go_sem] max2i min2i maxTwo minTwo

theorem leap (y : Int) (h1 : 1 ≤ y) (h2 : y ≤ 10000) (w : World) : Calls Tryd.prog 45 #[.int .i64 y] w fun e w' => e = .returned (.bool (Date.leap y)) ∧ w = w' := by
  obtain ⟨r, hr⟩ : ∃ r, Date.leap y = r := ⟨_, rfl⟩
  rw [hr]
  have Hr := Lib.hid hr
  clear hr
  by_cases c1 : y % 4 = 0
  · have c1b : (y % 4 == 0) = true := beq_iff_eq.2 c1
    by_cases c2 : y % 100 = 0
    · have c2b : (y % 100 != 0) = false := by rw [bne_eq_false_iff_eq]; exact c2
      by_cases c3 : y % 400 = 0
      · have c3b : (y % 400 == 0) = true := beq_iff_eq.2 c3
        have e1 : r = true := by rw [← Hr.out, Date.leap_iff]; omega
        clear c1 c2 c3
        subst e1
        go_enter Tryd.func45, Tryd.ntmps45
        go_wp2
        go_ret
        exact ⟨by simp, rfl⟩
      · have c3b : (y % 400 == 0) = false := beq_eq_false_iff_ne.2 c3
        have e1 : r = false := by rw [← Hr.out, Bool.eq_false_iff, Ne, Date.leap_iff]; omega
        clear c1 c2 c3
        subst e1
        go_enter Tryd.func45, Tryd.ntmps45
        go_wp2
        go_ret
        exact ⟨by simp, rfl⟩
    · have c2b : (y % 100 != 0) = true := by rw [bne_iff_ne]; exact c2
      have e1 : r = true := by rw [← Hr.out, Date.leap_iff]; omega
      clear c1 c2
      subst e1
      go_enter Tryd.func45, Tryd.ntmps45
      go_wp2
      go_ret
      exact ⟨by simp, rfl⟩
  · have c1b : (y % 4 == 0) = false := beq_eq_false_iff_ne.2 c1
    have e1 : r = false := by rw [← Hr.out, Bool.eq_false_iff, Ne, Date.leap_iff]; omega
    clear c1
    subst e1
    go_enter Tryd.func45, Tryd.ntmps45
    go_wp2
    go_ret
    exact ⟨by simp, rfl⟩

theorem days (y : Int) (h1 : 1 ≤ y) (h2 : y ≤ 10000) (w : World) : Calls Tryd.prog 38 #[.int .i64 y] w fun e w' => e = .returned (.int .i64 (365 + if Date.leap y then 1 else 0)) ∧ w = w' := by
  obtain ⟨b, hb⟩ : ∃ b, Date.leap y = b := ⟨_, rfl⟩
  have hl := fun w => leap y h1 h2 w
  rw [hb] at hl ⊢
  have HL := Lib.hid hl
  clear hl hb
  cases b
  all_goals
    go_enter Tryd.func38, Tryd.ntmps38
    go_wp2_with (go_at_call 45; refine (HL.out _).mono ?_; rintro e w' ⟨rfl, rfl⟩)
    go_ret
    exact ⟨by simp, rfl⟩

theorem ahead (y : Int) (h1 : 1 ≤ y) (h2 : y ≤ 10000) (w : World) : Calls Tryd.prog 37 #[.int .i64 y] w fun e w' => e = .returned (.int .i64 (Date.ahead y)) ∧ w = w' := by
  go_enter Tryd.func37, Tryd.ntmps37
  go_wp2
  go_ret
  refine ⟨XNum.ri ?_, rfl⟩
  show _ = Date.ahead y
  unfold Date.ahead
  simp
  omega

def lens (b : Bool) : Array Value := #[.int .i64 31, .int .i64 (if b then 29 else 28), .int .i64 31, .int .i64 30, .int .i64 31, .int .i64 30, .int .i64 31, .int .i64 31, .int .i64 30, .int .i64 31, .int .i64 30, .int .i64 31]

set_option maxHeartbeats 1000000 in
theorem lengths (y : Int) (h1 : 1 ≤ y) (h2 : y ≤ 10000) (w : World) : Calls Tryd.prog 31 #[.int .i64 y] w fun e w' => e = .returned (.agg (lens (Date.leap y))) ∧ Below w.heap.size w w' := by
  obtain ⟨b, hb⟩ : ∃ b, Date.leap y = b := ⟨_, rfl⟩
  have hl := fun w => leap y h1 h2 w
  rw [hb] at hl ⊢
  have HL := Lib.hid hl
  clear hl hb
  cases b
  all_goals
    go_enter Tryd.func31, Tryd.ntmps31
    go_wp2_with (go_at_call 45; refine (HL.out _).mono ?_; rintro e w' ⟨rfl, rfl⟩)
    refine bodyPost_ret (v := .agg (lens _)) (by simp [results, Tryd.results31, go_sem]; rfl) rfl ⟨rfl, ?_⟩
    exact ((Below.refl _ _).alloc (Nat.le_refl _) _).alloc (by simp) _

theorem lens0 (b : Bool) (w : World) : (Instr.index 43 (.agg (lens b)) (.int .i64 0)).run Tryd.prog w = .ok (.int .i64 31) w := by cases b <;> kernel_rfl
theorem lens1 (b : Bool) (w : World) : (Instr.index 43 (.agg (lens b)) (.int .i64 1)).run Tryd.prog w = .ok (.int .i64 (if b then 29 else 28)) w := by cases b <;> kernel_rfl
theorem lens2 (b : Bool) (w : World) : (Instr.index 43 (.agg (lens b)) (.int .i64 2)).run Tryd.prog w = .ok (.int .i64 31) w := by cases b <;> kernel_rfl
theorem lens3 (b : Bool) (w : World) : (Instr.index 43 (.agg (lens b)) (.int .i64 3)).run Tryd.prog w = .ok (.int .i64 30) w := by cases b <;> kernel_rfl
theorem lens4 (b : Bool) (w : World) : (Instr.index 43 (.agg (lens b)) (.int .i64 4)).run Tryd.prog w = .ok (.int .i64 31) w := by cases b <;> kernel_rfl
theorem lens5 (b : Bool) (w : World) : (Instr.index 43 (.agg (lens b)) (.int .i64 5)).run Tryd.prog w = .ok (.int .i64 30) w := by cases b <;> kernel_rfl
theorem lens6 (b : Bool) (w : World) : (Instr.index 43 (.agg (lens b)) (.int .i64 6)).run Tryd.prog w = .ok (.int .i64 31) w := by cases b <;> kernel_rfl
theorem lens7 (b : Bool) (w : World) : (Instr.index 43 (.agg (lens b)) (.int .i64 7)).run Tryd.prog w = .ok (.int .i64 31) w := by cases b <;> kernel_rfl
theorem lens8 (b : Bool) (w : World) : (Instr.index 43 (.agg (lens b)) (.int .i64 8)).run Tryd.prog w = .ok (.int .i64 30) w := by cases b <;> kernel_rfl
theorem lens9 (b : Bool) (w : World) : (Instr.index 43 (.agg (lens b)) (.int .i64 9)).run Tryd.prog w = .ok (.int .i64 31) w := by cases b <;> kernel_rfl
theorem lens10 (b : Bool) (w : World) : (Instr.index 43 (.agg (lens b)) (.int .i64 10)).run Tryd.prog w = .ok (.int .i64 30) w := by cases b <;> kernel_rfl
theorem lens11 (b : Bool) (w : World) : (Instr.index 43 (.agg (lens b)) (.int .i64 11)).run Tryd.prog w = .ok (.int .i64 31) w := by cases b <;> kernel_rfl
theorem lens_at (b : Bool) (i : Nat) (hi : i < 12) (w : World) :
    (Instr.index 43 (.agg (lens b)) (.int .i64 (i : Int))).run Tryd.prog w = .ok (.int .i64 (Date.mlen b ((i : Int) + 1))) w := by
  match i, hi with
  | 0, _ => exact lens0 b w
  | 1, _ => exact lens1 b w
  | 2, _ => exact lens2 b w
  | 3, _ => exact lens3 b w
  | 4, _ => exact lens4 b w
  | 5, _ => exact lens5 b w
  | 6, _ => exact lens6 b w
  | 7, _ => exact lens7 b w
  | 8, _ => exact lens8 b w
  | 9, _ => exact lens9 b w
  | 10, _ => exact lens10 b w
  | 11, _ => exact lens11 b w

theorem clamp (day : Int) (w : World) : Calls Tryd.prog 29 #[.int .i64 day] w fun e w' => e = .returned (.int .i64 (Date.clamp day)) ∧ w = w' := by
  go_enter Tryd.func29, Tryd.ntmps29
  go_wp2
  all_goals
    go_ret
    refine ⟨XNum.ri ?_, rfl⟩
    show _ = Date.clamp day
    unfold Date.clamp
    repeat' split
    all_goals omega
end Go.Proofs.YtoiodfiphighgaaDoor.XDate
