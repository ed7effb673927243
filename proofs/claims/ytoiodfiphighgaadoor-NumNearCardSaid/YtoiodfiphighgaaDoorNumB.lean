/- Sums and differences of layer 1 (num). -/
import Derived.Test.YtoiodfiphighgaaDoorNum
namespace Go.Proofs.YtoiodfiphighgaaDoor.XNum
open Go Go.RowKit Go.Proofs Go.Proofs.YtoiodfiphighgaaDoor

theorem add (a b : Int) (w : World) : Calls Tryd.prog 10 #[.int .i64 a, .int .i64 b] w fun e w' => e = .returned (.int .i64 (Num.add a b)) ∧ w = w' := by
  have ha := Num.clamp_le a
  have hb := Num.clamp_le b
  go_enter Tryd.func10, Tryd.ntmps10
  go_wp2_with (go_at_call 9; refine (clamp _ _).mono ?_; rintro e w' ⟨rfl, rfl⟩)
  go_ret
  exact ⟨by simp [Num.add], rfl⟩

theorem sub (a b : Int) (w : World) : Calls Tryd.prog 13 #[.int .i64 a, .int .i64 b] w fun e w' => e = .returned (.int .i64 (Num.sub a b)) ∧ w = w' := by
  have ha := Num.clamp_le a
  have hb := Num.clamp_le b
  go_enter Tryd.func13, Tryd.ntmps13
  go_wp2_with (go_at_call 9; refine (clamp _ _).mono ?_; rintro e w' ⟨rfl, rfl⟩)
  go_ret
  exact ⟨by simp [Num.sub], rfl⟩
end Go.Proofs.YtoiodfiphighgaaDoor.XNum
