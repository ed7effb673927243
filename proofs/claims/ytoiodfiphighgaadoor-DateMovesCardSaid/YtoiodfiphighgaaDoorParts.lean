/- date.Parts tells a day's date. -/
import Derived.Test.YtoiodfiphighgaaDoorDate
import Derived.LoopTactic
import Derived.Outline
import Derived.Deep.DeepCutAuto
import Derived.Deep.CutBlock
namespace Go.Proofs.YtoiodfiphighgaaDoor.XDate
open Go Go.RowKit Go.Proofs Go.Proofs.YtoiodfiphighgaaDoor

theorem partsOut (day : Int) (h : day < 0 ∨ 73048 < day) (w : World) :
    Calls Tryd.prog 23 #[.int .i64 day] w fun e w' => e = .returned (.tuple #[.int .i64 0, .int .i64 0, .int .i64 0, .int .i64 30]) ∧ w = w' := by
  by_cases c1 : day < 0
  · have c1b : decide (day < 0) = true := decide_eq_true c1
    clear h
    go_enter Tryd.func23, Tryd.ntmps23
    go_wp2
    exact bodyPost_ret (v := .tuple #[.int .i64 0, .int .i64 0, .int .i64 0, .int .i64 30]) (by simp [results, Tryd.results23]) rfl ⟨rfl, rfl⟩
  · have c1b : decide (day < 0) = false := decide_eq_false c1
    have c2b : decide (73048 < day) = true := decide_eq_true (by omega)
    clear h
    go_enter Tryd.func23, Tryd.ntmps23
    go_wp2
    exact bodyPost_ret (v := .tuple #[.int .i64 0, .int .i64 0, .int .i64 0, .int .i64 30]) (by simp [results, Tryd.results23]) rfl ⟨rfl, rfl⟩

/-- The steps of the first loop: a year is the day's, or the day lies behind it. -/
theorem year_step {y m d Y : Int} (hv : Date.Valid y m d) (hY : 1900 ≤ Y) (hYy : Y ≤ y) :
    0 ≤ Date.ahead Y ∧ Date.ahead Y ≤ 73048 ∧ (Y < y → 365 + (if Date.leap Y then 1 else 0) ≤ Date.num y m d - Date.ahead Y) ∧ (Y = y → Date.num y m d - Date.ahead Y < 365 + (if Date.leap Y then 1 else 0)) := by
  have h1 := hv.in_year
  have h2 := hv.range
  have h3 := Date.ahead_lb hY
  have h4 := Date.ahead_le hYy
  have h5 := Date.ahead_succ Y
  refine ⟨by omega, by omega, fun h => ?_, fun h => ?_⟩
  · have := Date.ahead_le (y := Y + 1) (z := y) (by omega); omega
  · subst h; omega

set_option maxHeartbeats 2000000 in
set_option maxRecDepth 100000 in
theorem parts (y m d : Int) (hv : Date.Valid y m d) (w : World) :
    Calls Tryd.prog 23 #[.int .i64 (Date.num y m d)] w fun e w' => e = .returned (.tuple #[.int .i64 y, .int .i64 m, .int .i64 d, .int .i64 0]) ∧ Below w.heap.size w w' := by
  obtain ⟨day, hday⟩ : ∃ day, Date.num y m d = day := ⟨_, rfl⟩
  have hr := hv.range
  have hst := fun Y => year_step (Y := Y) hv
  rw [hday] at hr hst ⊢
  obtain ⟨r1, r2⟩ := hr
  have HV := Lib.hid hv
  have HST := Lib.hid hst
  have hy1 := hv.y1
  have hy2 := hv.y2
  have hst0 : 1900 + day / 366 ≤ y := by
    have h1 := hv.in_year
    have h2 := Date.ahead_ub (y := y + 1) (by omega)
    omega
  have HD := Lib.hid hday
  clear hst hday hv
  have c1 : decide (day < 0) = false := decide_eq_false (by omega)
  have c2 : decide (73048 < day) = false := decide_eq_false (by omega)
  go_enter Tryd.func23, Tryd.ntmps23
  go_upto_block 0 with fail
  go_cut [8] (fun v wr => v = .int .i64 y ∧ wr = w)
  case first =>
    go_wp2_with fail
    go_loop [8] (fun v => ∃ Y : Int, v = .int .i64 Y ∧ 1900 ≤ Y ∧ Y ≤ y) (fun v => (y - intOf v).toNat)
    case atStart => exact ⟨_, rfl, by omega, hst0⟩
    case round =>
      obtain ⟨Y, rfl, hY1, hY2⟩ := hrel
      obtain ⟨a1, a2, a3, a4⟩ := HST.out Y hY1 hY2
      have hA := fun w => ahead Y (by omega) (by omega) w
      have hB := fun w => days Y (by omega) (by omega) w
      obtain ⟨A, eA⟩ : ∃ A, Date.ahead Y = A := ⟨_, rfl⟩
      obtain ⟨B, eB⟩ : ∃ B, (365 + (if Date.leap Y then 1 else 0) : Int) = B := ⟨_, rfl⟩
      rw [eA] at hA a1 a2 a3 a4
      rw [eB] at hB a3 a4
      have hB1 : B ≤ 366 ∧ 365 ≤ B := by rw [← eB]; split <;> omega
      obtain ⟨hB1, hB2⟩ := hB1
      have HA := Lib.hid hA; have HB := Lib.hid hB
      clear hA hB eA eB
      by_cases hlt : Y < y
      · have b1 := a3 hlt
        have b2 : decide (B ≤ day - A) = true := decide_eq_true b1
        clear a3 a4
        go_wp2_with (first | (go_at_call 37; refine (HA.out _).mono ?_; rintro e w' ⟨rfl, rfl⟩) | (go_at_call 38; refine (HB.out _).mono ?_; rintro e w' ⟨rfl, rfl⟩))
        go_round
        case rel => exact ⟨Y + 1, rfl, by omega, by omega⟩
        case measure => simp [intOf]; omega
      · obtain rfl : Y = y := by omega
        have b1 := a4 rfl
        have b2 : decide (B ≤ day - A) = false := decide_eq_false (by omega)
        clear a3 a4
        go_wp2_with (first | (go_at_call 37; refine (HA.out _).mono ?_; rintro e w' ⟨rfl, rfl⟩) | (go_at_call 38; refine (HB.out _).mono ?_; rintro e w' ⟨rfl, rfl⟩))
        go_meet
        case rel => exact ⟨rfl, rfl⟩
  case rest =>
    obtain ⟨rfl, rfl⟩ := hcut
    have hv := HV.out
    have hA := fun w => ahead y (by omega) (by omega) w
    have hL := fun w => lengths y (by omega) (by omega) w
    have hin := hv.in_year
    rw [HD.out] at hin
    have hA0 := Date.ahead_lb hy1
    have hm1 := hv.m1; have hm2 := hv.m2
    have hnum : Date.ahead y + Date.cum (Date.leap y) (m - 1).toNat + d - 1 = day := HD.out
    have hd1 := hv.d1; have hd2 := hv.d2
    obtain ⟨b, eb⟩ : ∃ b, Date.leap y = b := ⟨_, rfl⟩
    obtain ⟨A, eA⟩ : ∃ A, Date.ahead y = A := ⟨_, rfl⟩
    rw [eb] at hL hnum hd2
    rw [eA] at hA hin hA0 hnum
    have hAu : A ≤ day := hin.1
    have HA := Lib.hid hA; have HL := Lib.hid hL; have HN := Lib.hid hnum; have HD2 := Lib.hid hd2
    clear hA hL hin hv eb eA hnum hd2 HV HST hst0
    go_wp2_with (first | (go_at_call 37; refine (HA.out _).mono ?_; rintro e w' ⟨rfl, rfl⟩) | (go_at_call 31; refine (HL.out _).mono ?_; rintro e w' ⟨rfl, hb⟩))
    go_loop [0, 38] (fun v0 v => ∃ i : Nat, v = .int .i64 (i : Int) ∧ (i : Int) < m ∧ v0 = .int .i64 (day - A - Date.cum b i)) (fun _ v => (12 - intOf v).toNat)
    case atStart => exact ⟨0, rfl, by omega, by simp [Date.cum]⟩
    case round =>
      obtain ⟨i, rfl, hi, rfl⟩ := hrel
      have hidx := fun w => lens_at b i (by omega) w
      have hc0 := Date.cum_nonneg b i
      have hck := Date.cum_mono b (i := i) (j := (m - 1).toNat) (by omega)
      have hcs : Date.cum b (i + 1) = Date.cum b i + Date.mlen b ((i : Int) + 1) := rfl
      have hml := Date.mlen_le b ((i : Int) + 1)
      have hn := HN.out
      by_cases hlt : (i : Int) + 1 < m
      · have hck2 := Date.cum_mono b (i := i + 1) (j := (m - 1).toNat) (by omega)
        rw [hcs] at hck2
        have HCS := Lib.hid hcs
        clear hcs
        obtain ⟨c, ec⟩ : ∃ c, Date.cum b i = c := ⟨_, rfl⟩
        obtain ⟨l, el⟩ : ∃ l, Date.mlen b ((i : Int) + 1) = l := ⟨_, rfl⟩
        have HCS2 : Hid (Date.cum b (i + 1) = c + l) := Lib.hid (by rw [HCS.out, ec, el])
        rw [ec] at hc0 hck hck2 ⊢
        rw [el] at hidx hck2 hml
        have t1 : decide (day - A - c < l) = false := decide_eq_false (by omega)
        have t2 : decide ((i : Int) < 12) = true := decide_eq_true (by omega)
        have z1 : c ≤ 366 := by
          have := Date.cum_mono b (i := i) (j := 12) (by omega)
          rw [Date.cum_year, ec] at this
          cases b <;> simp at this <;> omega
        obtain ⟨l1, l2⟩ := hml
        clear hn HCS ec el hck hck2
        go_wp2
        go_round
        case rel => exact ⟨i + 1, by go_num, by omega, by rw [HCS2.out]; rw [show day - A - c - l = day - A - (c + l) from by omega]⟩
        case measure => simp [intOf]; omega
      · obtain ⟨c, ec⟩ : ∃ c, Date.cum b i = c := ⟨_, rfl⟩
        obtain ⟨l, el⟩ : ∃ l, Date.mlen b ((i : Int) + 1) = l := ⟨_, rfl⟩
        have hmi : (m - 1).toNat = i := by omega
        have hmi2 : m = (i : Int) + 1 := by omega
        have hd2 := HD2.out
        rw [hmi, ec] at hn
        rw [hmi2, el] at hd2
        rw [ec] at hc0 ⊢
        rw [el] at hidx
        have t1 : decide (day - A - c < l) = true := decide_eq_true (by omega)
        have t2 : decide ((i : Int) < 12) = true := decide_eq_true (by omega)
        have HR : Hid (day - A - c + 1 = d) := Lib.hid (by omega)
        have HM : Hid ((i : Int) + 1 = m) := Lib.hid hmi2.symm
        have z1 : day - A - c ≤ 31 := by omega
        have z2 : 0 ≤ day - A - c := by omega
        clear hn hmi hmi2 hd2 hck hcs hml ec el HN HD2 HD
        go_wp2
        refine bodyPost_ret (v := .tuple #[.int .i64 y, .int .i64 ((i : Int) + 1), .int .i64 (day - A - c + 1), .int .i64 0]) (by simp [results, Tryd.results23]) rfl ⟨?_, hb⟩
        rw [HR.out, HM.out]
end Go.Proofs.YtoiodfiphighgaaDoor.XDate
