/- What the statements of layer 3 look at first: a day's text, and a date's day. -/
import Derived.Test.YtoiodfiphighgaaDoorMonths
import Derived.Lib.AppendIntMem
import Derived.Lib.ItoaNum
import Derived.WalkSpells
namespace Go.Proofs.YtoiodfiphighgaaDoor.XShow3
open Go Go.RowKit Go.Proofs Go.Proofs.YtoiodfiphighgaaDoor

/-- The table of strconv, here and behind whatever a call makes. -/
def Tab (B : Nat) (w : World) : Prop := Lib.TabBelow Tryd.prog B w "internal/strconv.uint64pow10" .u64 Lib.pow10Tab

theorem itoa (n : Int) (h0 : -9223372036854775808 ≤ n) (h1 : n ≤ 9223372036854775807) (s : ByteArray) (hs : (⟨(Lib.itoa n).toArray⟩ : ByteArray) = s) (B : Nat) (w : World) (ht : Tab B w) (hB : B ≤ w.heap.size) :
    Calls Tryd.prog 44 #[.int .i64 n] w fun e w' => e = .returned (.string s) ∧ Below B w w' ∧ Tab B w' := by
  refine (Tryd.strconv_Itoa n h0 h1 w ht.here).mono ?_
  rintro e w' ⟨rfl, k, os, rfl⟩
  have hb2 := Lib.below_grow B w hB k os
  exact ⟨by rw [hs], hb2, ht.on hb2⟩

theorem two11 (B : Nat) (w : World) (ht : Tab B w) (hB : B ≤ w.heap.size) :
    Calls Tryd.prog 43 #[.int .i64 11] w fun e w' => e = .returned (.string ⟨#[49, 49]⟩) ∧ Below B w w' ∧ Tab B w' := by
  have h1 := itoa 111 (by decide) (by decide) ⟨#[49, 49, 49]⟩ (by decide +kernel) B w ht hB
  have H1 := Lib.hid h1
  clear h1 ht hB
  go_enter Tryd.func43, Tryd.ntmps43
  go_wp2_with (go_at_call 44; refine (H1.out).mono ?_; rintro e w' ⟨rfl, hb, ht'⟩)
  go_ret
  exact ⟨by simp; decide +kernel, hb, ht'⟩

theorem two15 (B : Nat) (w : World) (ht : Tab B w) (hB : B ≤ w.heap.size) :
    Calls Tryd.prog 43 #[.int .i64 15] w fun e w' => e = .returned (.string ⟨#[49, 53]⟩) ∧ Below B w w' ∧ Tab B w' := by
  have h1 := itoa 115 (by decide) (by decide) ⟨#[49, 49, 53]⟩ (by decide +kernel) B w ht hB
  have H1 := Lib.hid h1
  clear h1 ht hB
  go_enter Tryd.func43, Tryd.ntmps43
  go_wp2_with (go_at_call 44; refine (H1.out).mono ?_; rintro e w' ⟨rfl, hb, ht'⟩)
  go_ret
  exact ⟨by simp; decide +kernel, hb, ht'⟩

theorem valid1 : Date.Valid 2026 11 15 := ⟨by decide, by decide, by decide, by decide, by decide, by decide⟩
theorem valid2 : Date.Valid 2000 2 29 := ⟨by decide, by decide, by decide, by decide, by decide, by decide⟩

set_option maxHeartbeats 1000000 in
theorem show1 (w : World) (ht : Tab w.heap.size w) :
    Calls Tryd.prog 27 #[.int .i64 46339] w fun e w' => e = .returned (.tuple #[.string ⟨#[50, 48, 50, 54, 45, 49, 49, 45, 49, 53]⟩, .int .i64 0]) ∧ Below w.heap.size w w' := by
  have hp := fun w => XDate.partsC 46339 2026 11 15 valid1 (by decide) w
  have HP := Lib.hid hp
  have HT := Lib.hid ht
  clear hp ht
  go_enter Tryd.func27, Tryd.ntmps27
  go_wp2_with fail
  refine (HP.out _).mono ?_
  rintro e w1 ⟨rfl, hb1⟩
  have t1 := Lib.hid (HT.out.on hb1)
  go_wp2_with fail
  refine (itoa 2026 (by decide) (by decide) ⟨#[50, 48, 50, 54]⟩ (by decide +kernel) _ w1 t1.out hb1.size).mono ?_
  rintro e w2 ⟨rfl, hb2, t2⟩
  have hs2 := Nat.le_trans hb1.size hb2.size
  have T2 := Lib.hid t2
  clear t2
  go_wp2_with fail
  refine (two11 _ w2 T2.out hs2).mono ?_
  rintro e w3 ⟨rfl, hb3, t3⟩
  have hs3 := Nat.le_trans hs2 hb3.size
  have T3 := Lib.hid t3
  clear t3
  go_wp2_with fail
  refine (two15 _ w3 T3.out hs3).mono ?_
  rintro e w4 ⟨rfl, hb4, t4⟩
  go_wp2_with fail
  go_ret2
  exact ⟨by simp; decide +kernel, (hb1.trans hb2).trans (hb3.trans hb4)⟩

theorem shown (w : World) (ht : Tab w.heap.size w) : Calls Tryd.prog 14 #[] w fun e w' => e = .returned (.bool true) ∧ Below w.heap.size w w' := by
  have ho := fun w => XDate.ofC 2000 2 29 36583 valid2 (by decide) w
  have HO := Lib.hid ho
  have HT := Lib.hid ht
  clear ho ht
  go_enter Tryd.func14, Tryd.ntmps14
  go_wp2_with fail
  refine (show1 w HT.out).mono ?_
  rintro e w1 ⟨rfl, hb1⟩
  go_wp2_with fail
  refine (HO.out w1).mono ?_
  rintro e w2 ⟨rfl, hb2⟩
  go_wp2_with fail
  go_ret
  exact ⟨by simp, hb1.trans (hb2.mono hb1.size)⟩
end Go.Proofs.YtoiodfiphighgaaDoor.XShow3
