/- date.Of tells a date's day. -/
import Derived.Test.YtoiodfiphighgaaDoorParts
namespace Go.Proofs.YtoiodfiphighgaaDoor.XDate
open Go Go.RowKit Go.Proofs Go.Proofs.YtoiodfiphighgaaDoor

theorem lensF (y : Int) (h1 : 1 ≤ y) (h2 : y ≤ 10000) (b : Bool) (hb : Date.leap y = b) (x : Int) (hx : (if b then 29 else 28) = x) (w : World) : Calls Tryd.prog 31 #[.int .i64 y] w fun e w' =>
    e = .returned (.agg #[.int .i64 31, .int .i64 x, .int .i64 31, .int .i64 30, .int .i64 31, .int .i64 30, .int .i64 31, .int .i64 31, .int .i64 30, .int .i64 31, .int .i64 30, .int .i64 31]) ∧ Below w.heap.size w w' := by
  have := lengths y h1 h2 w
  rw [hb] at this
  subst hx
  exact this

theorem lens_cell (W : World) (b : Bool) (x : Int) (hx : (if b then 29 else 28) = x) (T : TypeId) (i : Nat) (hi : i < 12) :
    (W.alloc (.cells #[.int .i64 31, .int .i64 x, .int .i64 31, .int .i64 30, .int .i64 31, .int .i64 30, .int .i64 31, .int .i64 31, .int .i64 30, .int .i64 31, .int .i64 30, .int .i64 31] T)).cell? ⟨W.heap.size, i, none⟩ =
      some (.int .i64 (Date.mlen b ((i : Int) + 1))) := by
  subst hx
  rw [World.cell?_alloc_new]
  match i, hi with
  | 0, _ => rfl
  | 1, _ => rfl
  | 2, _ => rfl
  | 3, _ => rfl
  | 4, _ => rfl
  | 5, _ => rfl
  | 6, _ => rfl
  | 7, _ => rfl
  | 8, _ => rfl
  | 9, _ => rfl
  | 10, _ => rfl
  | 11, _ => rfl

theorem arr12 : Tryd.prog.arrayLen 43 = 12 := by kernel_rfl
theorem size8 (w : World) : (sizeOf (Tryd.prog.elem 43)).run Tryd.prog w = .ok 1 w := by kernel_rfl
theorem slice12 (B k : Nat) (hk : k < 12) (w : World) : (Instr.sliceAt 43 (.pointer (some ⟨B, 0, none⟩)) none (some (.int .i64 (k : Int))) none).run Tryd.prog w = .ok (.slice (some ⟨B, 0, none⟩) k 12) w := by
  rw [run_sliceAt_array_h (P := Tryd.prog) w 43 ⟨B, 0, none⟩ (by kernel_rfl) .i64 (k : Int) (by omega) (by rw [arr12]; omega), size8]
  simp [Result.andThen, slicedAt, arr12, Addr.add]

set_option maxHeartbeats 2000000 in
set_option maxRecDepth 100000 in
theorem of (y m d : Int) (hv : Date.Valid y m d) (w : World) :
    Calls Tryd.prog 28 #[.int .i64 y, .int .i64 m, .int .i64 d] w fun e w' => e = .returned (.tuple #[.int .i64 (Date.num y m d), .int .i64 0]) ∧ Below w.heap.size w w' := by
  obtain ⟨day, hday⟩ : ∃ day, Date.num y m d = day := ⟨_, rfl⟩
  have hr := hv.range
  have hy1 := hv.y1; have hy2 := hv.y2; have hm1 := hv.m1; have hm2 := hv.m2; have hd1 := hv.d1; have hd2 := hv.d2
  rw [hday] at hr ⊢
  have hnum : Date.ahead y + Date.cum (Date.leap y) (m - 1).toNat + d - 1 = day := hday
  have hA := fun w => ahead y (by omega) (by omega) w
  have hL := fun w => lensF y (by omega) (by omega) _ rfl _ rfl w
  have hA0 := Date.ahead_lb hy1
  have hA1 := hv.in_year.1
  rw [hday] at hA1
  obtain ⟨b, eb⟩ : ∃ b, Date.leap y = b := ⟨_, rfl⟩
  obtain ⟨A, eA⟩ : ∃ A, Date.ahead y = A := ⟨_, rfl⟩
  rw [eb] at hL hnum hd2
  rw [eA] at hA hA0 hnum hA1
  obtain ⟨x, ex⟩ : ∃ x : Int, (if b then 29 else 28) = x := ⟨_, rfl⟩
  rw [ex] at hL
  obtain ⟨r1, r2⟩ := hr
  obtain ⟨k, ek⟩ : ∃ k : Nat, m = (k : Int) + 1 := ⟨(m - 1).toNat, by omega⟩
  subst ek
  have hk : (k : Int) < 12 := by omega
  have hml := Date.mlen_le b ((k : Int) + 1)
  have HN : Hid (A + Date.cum b k + d - 1 = day) := Lib.hid (by rw [show ((k : Int) + 1 - 1).toNat = k from by omega] at hnum; exact hnum)
  obtain ⟨l, el⟩ : ∃ l, Date.mlen b ((k : Int) + 1) = l := ⟨_, rfl⟩
  rw [el] at hd2 hml
  obtain ⟨l1, l2⟩ := hml
  have HA := Lib.hid hA; have HL := Lib.hid hL; have EL := Lib.hid el; have EX := Lib.hid ex
  have c1 : decide (y < 1900) = false := decide_eq_false (by omega)
  have c2 : decide (2099 < y) = false := decide_eq_false (by omega)
  have c3 : decide ((k : Int) + 1 < 1) = false := decide_eq_false (by omega)
  have c4 : decide (12 < (k : Int) + 1) = false := decide_eq_false (by omega)
  have c5 : decide (d < 1) = false := decide_eq_false (by omega)
  have c6 : decide (l < d) = false := decide_eq_false (by omega)
  have hadd : 365 * (y - 1900) ≤ 73048 := by omega
  clear hA hL eA eb el ex hnum hday hv
  go_enter Tryd.func28, Tryd.ntmps28
  go_upto_region 4 with (go_at_call 31; refine (HL.out _).mono ?_; rintro e w1 ⟨rfl, hb1⟩)
  have hcell := lens_cell w1 b x EX.out 43
  have hbW := hb1.alloc hb1.size (.cells #[.int .i64 31, .int .i64 x, .int .i64 31, .int .i64 30, .int .i64 31, .int .i64 30, .int .i64 31, .int .i64 31, .int .i64 30, .int .i64 31, .int .i64 30, .int .i64 31] 43)
  generalize w1.alloc (.cells #[.int .i64 31, .int .i64 x, .int .i64 31, .int .i64 30, .int .i64 31, .int .i64 30, .int .i64 31, .int .i64 31, .int .i64 30, .int .i64 31, .int .i64 30, .int .i64 31] 43) = W at hcell hbW ⊢
  generalize w1.heap.size = B at hcell ⊢
  have hck := hcell k (by omega)
  have HC := Lib.hid hcell
  clear hcell
  rw [EL.out] at hck
  have hsl := fun w => slice12 B k (by omega) w
  go_wp2_with (go_at_call 37; refine (HA.out _).mono ?_; rintro e w' ⟨rfl, rfl⟩)
  go_outline
  go_loop [9, 47] (fun v9 v => ∃ i : Nat, v = .int .i64 (i : Int) ∧ i ≤ k ∧ v9 = .int .i64 (A + d - 1 + Date.cum b i)) (fun _ v => (12 - intOf v).toNat)
  case atStart => exact ⟨0, rfl, by omega, by simp [Date.cum]⟩
  case round =>
    obtain ⟨i, rfl, hi, rfl⟩ := hrel
    clear hck hsl
    by_cases hlt : i < k
    · have hci := HC.out i (by omega)
      have t1 : decide (i < k) = true := decide_eq_true hlt
      have hcs : Hid (Date.cum b (i + 1) = Date.cum b i + Date.mlen b ((i : Int) + 1)) := Lib.hid rfl
      have hc0 := Date.cum_nonneg b i
      have hck := Date.cum_mono b (i := i) (j := 12) (by omega)
      rw [Date.cum_year] at hck
      have hml := Date.mlen_le b ((i : Int) + 1)
      obtain ⟨c, ec⟩ : ∃ c, Date.cum b i = c := ⟨_, rfl⟩
      obtain ⟨l', el⟩ : ∃ l', Date.mlen b ((i : Int) + 1) = l' := ⟨_, rfl⟩
      have HCS : Hid (Date.cum b (i + 1) = c + l') := Lib.hid (by rw [hcs.out, ec, el])
      rw [ec] at hc0 hck ⊢
      rw [el] at hci hml
      have hc1 : c ≤ 366 := by cases b <;> simp at hck <;> omega
      obtain ⟨l3, l4⟩ := hml
      clear hck hcs ec el
      go_wp2
      go_round
      case rel => exact ⟨i + 1, by go_num, by omega, by rw [HCS.out]; rw [show A + d - 1 + c + l' = A + d - 1 + (c + l') from by omega]⟩
      case measure => simp [intOf]; omega
    · obtain rfl : i = k := by omega
      have t1 : decide (i < i) = false := decide_eq_false (by omega)
      go_wp2
      go_ret2
      refine ⟨?_, hbW⟩
      have := HN.out
      simp
      omega
end Go.Proofs.YtoiodfiphighgaaDoor.XDate
