/- The reference's calendar: day by day, month by month. -/
import Derived.Test.YtoiodfiphighgaaDoorMonths
import Derived.Test.YtoiodfiphighgaaDoorRefDiv
namespace Go.Proofs.YtoiodfiphighgaaDoor.XRef
open Go Go.RowKit Go.Proofs Go.Proofs.YtoiodfiphighgaaDoor
attribute [local go_sem] max2i min2i maxTwo minTwo

theorem leap (y : Int) (h1 : 1 ≤ y) (h2 : y ≤ 10000) (w : World) : Calls Tryd.prog 46 #[.int .i64 y] w fun e w' => e = .returned (.bool (Date.leap y)) ∧ w = w' := by
  obtain ⟨r, hr⟩ : ∃ r, Date.leap y = r := ⟨_, rfl⟩
  rw [hr]
  have Hr := Lib.hid hr
  clear hr
  by_cases c1 : y % 4 = 0
  · have c1b : (y % 4 == 0) = true := beq_iff_eq.2 c1
    by_cases c2 : y % 100 = 0
    · have c2b : (y % 100 != 0) = false := by rw [bne_eq_false_iff_eq]; exact c2
      by_cases c3 : y % 400 = 0
      · have c3b : (y % 400 == 0) = true := beq_iff_eq.2 c3
        have e1 : r = true := by rw [← Hr.out, Date.leap_iff]; omega
        clear c1 c2 c3
        subst e1
        go_enter Tryd.func46, Tryd.ntmps46
        go_wp2
        go_ret
        exact ⟨by simp, rfl⟩
      · have c3b : (y % 400 == 0) = false := beq_eq_false_iff_ne.2 c3
        have e1 : r = false := by rw [← Hr.out, Bool.eq_false_iff, Ne, Date.leap_iff]; omega
        clear c1 c2 c3
        subst e1
        go_enter Tryd.func46, Tryd.ntmps46
        go_wp2
        go_ret
        exact ⟨by simp, rfl⟩
    · have c2b : (y % 100 != 0) = true := by rw [bne_iff_ne]; exact c2
      have e1 : r = true := by rw [← Hr.out, Date.leap_iff]; omega
      clear c1 c2
      subst e1
      go_enter Tryd.func46, Tryd.ntmps46
      go_wp2
      go_ret
      exact ⟨by simp, rfl⟩
  · have c1b : (y % 4 == 0) = false := beq_eq_false_iff_ne.2 c1
    have e1 : r = false := by rw [← Hr.out, Bool.eq_false_iff, Ne, Date.leap_iff]; omega
    clear c1
    subst e1
    go_enter Tryd.func46, Tryd.ntmps46
    go_wp2
    go_ret
    exact ⟨by simp, rfl⟩

theorem lens_cell (W : World) (T : TypeId) (i : Nat) (hi : i < 12) :
    (W.alloc (.cells #[.int .i64 31, .int .i64 28, .int .i64 31, .int .i64 30, .int .i64 31, .int .i64 30, .int .i64 31, .int .i64 31, .int .i64 30, .int .i64 31, .int .i64 30, .int .i64 31] T)).cell? ⟨W.heap.size, i, none⟩ =
      some (.int .i64 (Date.mlen false ((i : Int) + 1))) := by
  rw [World.cell?_alloc_new]
  match i, hi with
  | 0, _ => rfl
  | 1, _ => rfl
  | 2, _ => rfl
  | 3, _ => rfl
  | 4, _ => rfl
  | 5, _ => rfl
  | 6, _ => rfl
  | 7, _ => rfl
  | 8, _ => rfl
  | 9, _ => rfl
  | 10, _ => rfl
  | 11, _ => rfl

set_option maxRecDepth 100000 in
theorem length (y m : Int) (h1 : 1 ≤ y) (h2 : y ≤ 10000) (hm1 : 1 ≤ m) (hm2 : m ≤ 12) (w : World) : Calls Tryd.prog 34 #[.int .i64 y, .int .i64 m] w fun e w' => e = .returned (.int .i64 (Date.mlen (Date.leap y) m)) ∧ Below w.heap.size w w' := by
  have hl := fun w => leap y h1 h2 w
  obtain ⟨b, eb⟩ : ∃ b, Date.leap y = b := ⟨_, rfl⟩
  rw [eb] at hl ⊢
  obtain ⟨k, ek⟩ : ∃ k : Nat, m = (k : Int) + 1 := ⟨(m - 1).toNat, by omega⟩
  subst ek
  have hk : (k : Int) < 12 := by omega
  obtain ⟨r, er⟩ : ∃ r, Date.mlen b ((k : Int) + 1) = r := ⟨_, rfl⟩
  have HL := Lib.hid hl
  have hc := lens_cell w 43 k (by omega)
  have hB := (Below.refl w.heap.size w).alloc (Nat.le_refl _) (.cells #[.int .i64 31, .int .i64 28, .int .i64 31, .int .i64 30, .int .i64 31, .int .i64 30, .int .i64 31, .int .i64 31, .int .i64 30, .int .i64 31, .int .i64 30, .int .i64 31] 43)
  rw [er]
  have HR := Lib.hid er
  clear hl eb er
  by_cases c : (k : Int) + 1 = 2 ∧ b = true
  · obtain ⟨c1, rfl⟩ := c
    have t1 : ((k : Int) + 1 == 2) = true := beq_iff_eq.2 c1
    have hr : Hid (r = 29) := Lib.hid (by rw [← HR.out, c1]; rfl)
    clear c1 hc
    go_enter Tryd.func34, Tryd.ntmps34
    go_wp2_with fail
    generalize w.alloc (.cells #[.int .i64 31, .int .i64 28, .int .i64 31, .int .i64 30, .int .i64 31, .int .i64 30, .int .i64 31, .int .i64 31, .int .i64 30, .int .i64 31, .int .i64 30, .int .i64 31] 43) = W at hB ⊢
    refine (HL.out _).mono ?_
    rintro e w' ⟨rfl, rfl⟩
    go_wp2_with fail
    go_ret
    exact ⟨by rw [hr.out]; rfl, hB⟩
  · have hr : Date.mlen false ((k : Int) + 1) = r := by
      rw [← HR.out]
      unfold Date.mlen
      cases b
      · rfl
      · rw [if_neg (fun h => c ⟨h, rfl⟩), if_neg (fun h => c ⟨h, rfl⟩)]
    rw [hr] at hc
    have t1 : (((k : Int) + 1 == 2) && b) = false := by
      cases b
      · simp
      · simp at c ⊢; omega
    clear c hr
    cases hq : ((k : Int) + 1 == 2) <;> cases b
    all_goals first | (rw [hq] at t1; cases t1; done) | skip
    all_goals
      clear t1
      go_enter Tryd.func34, Tryd.ntmps34
      go_wp2_with fail
      generalize w.alloc (.cells #[.int .i64 31, .int .i64 28, .int .i64 31, .int .i64 30, .int .i64 31, .int .i64 30, .int .i64 31, .int .i64 31, .int .i64 30, .int .i64 31, .int .i64 30, .int .i64 31] 43) = W at hB hc ⊢
      obtain ⟨B, hBe⟩ : ∃ B, w.heap.size = B := ⟨_, rfl⟩
      rw [hBe] at hB hc ⊢
      refine (HL.out _).mono ?_
      rintro e w' ⟨rfl, rfl⟩
      go_wp2_with fail
      go_ret
      exact ⟨by simp, by rw [hBe]; exact hB⟩

theorem pos_step {y m d Y M : Int} (hv : Date.Valid y m d) (hY : 1900 ≤ Y) (hM1 : 1 ≤ M) (_hM2 : M ≤ 12) (hle : 12 * Y + M ≤ 12 * y + m) :
    0 ≤ Date.num y m d - Date.ahead Y - Date.cum (Date.leap Y) (M - 1).toNat ∧ Date.num y m d - Date.ahead Y - Date.cum (Date.leap Y) (M - 1).toNat ≤ 73048 ∧
    (12 * Y + M < 12 * y + m → Date.mlen (Date.leap Y) M ≤ Date.num y m d - Date.ahead Y - Date.cum (Date.leap Y) (M - 1).toNat) ∧
    (12 * Y + M = 12 * y + m → Y = y ∧ M = m ∧ Date.num y m d - Date.ahead Y - Date.cum (Date.leap Y) (M - 1).toNat + 1 = d ∧ Date.num y m d - Date.ahead Y - Date.cum (Date.leap Y) (M - 1).toNat < Date.mlen (Date.leap Y) M) := by
  have r := hv.range
  have h1 := hv.in_year
  have h3 := Date.ahead_lb hY
  have c0 := Date.cum_nonneg (Date.leap Y) (M - 1).toNat
  have c1 := Date.toNat_succ (b := Date.leap Y) hM1
  have c2 := Date.cum_mono (Date.leap Y) (i := M.toNat) (j := 12) (by omega)
  have c3 := Date.cum_year (Date.leap Y)
  have c4 := Date.ahead_succ Y
  have c5 := Date.mlen_le (Date.leap Y) M
  have k1 := hv.m1; have k2 := hv.m2; have k3 := hv.d1; have k4 := hv.d2
  by_cases hlt : Y < y
  · have h4 := Date.ahead_le (y := Y + 1) (z := y) (by omega)
    refine ⟨by omega, by omega, fun _ => by omega, fun h => by omega⟩
  · obtain rfl : Y = y := by omega
    have e : Date.num Y m d = Date.ahead Y + Date.cum (Date.leap Y) (m - 1).toNat + d - 1 := rfl
    by_cases hm : M < m
    · have c6 := Date.cum_mono (Date.leap Y) (i := M.toNat) (j := (m - 1).toNat) (by omega)
      refine ⟨by omega, by omega, fun _ => by omega, fun h => by omega⟩
    · obtain rfl : M = m := by omega
      refine ⟨by omega, by omega, fun h => by omega, fun _ => ⟨rfl, rfl, by omega, by omega⟩⟩

theorem pos_next {Y M : Int} (hM1 : 1 ≤ M) (_h : M < 12) : Date.cum (Date.leap Y) (M + 1 - 1).toNat = Date.cum (Date.leap Y) (M - 1).toNat + Date.mlen (Date.leap Y) M := by
  rw [show M + 1 - 1 = M from by omega]
  exact Date.toNat_succ hM1
theorem pos_wrap {Y : Int} : Date.ahead (Y + 1) + Date.cum (Date.leap (Y + 1)) ((1 : Int) - 1).toNat = Date.ahead Y + Date.cum (Date.leap Y) ((12 : Int) - 1).toNat + Date.mlen (Date.leap Y) 12 := by
  have h := Date.toNat_succ (b := Date.leap Y) (m := 12) (by omega)
  have h2 := Date.cum_year (Date.leap Y)
  have h3 := Date.ahead_succ Y
  rw [show (12 : Int).toNat = 12 from rfl] at h
  have : Date.cum (Date.leap (Y + 1)) ((1 : Int) - 1).toNat = 0 := rfl
  omega

set_option maxHeartbeats 2000000 in
set_option maxRecDepth 100000 in
theorem parts (y m d D : Int) (hv : Date.Valid y m d) (hD : Date.num y m d = D) (w : World) :
    Calls Tryd.prog 32 #[.int .i64 D] w fun e w' => e = .returned (.tuple #[.int .i64 y, .int .i64 m, .int .i64 d, .int .i64 0]) ∧ Below w.heap.size w w' := by
  have hr := hv.range
  rw [hD] at hr
  obtain ⟨r1, r2⟩ := hr
  have c1 : decide (D < 0) = false := decide_eq_false (by omega)
  have c2 : decide (73048 < D) = false := decide_eq_false (by omega)
  have HV := Lib.hid hv
  have HD := Lib.hid hD
  clear hv hD
  have hpos := fun Y M => pos_step (Y := Y) (M := M) HV.out
  rw [HD.out] at hpos
  have HP := Lib.hid hpos
  have k1 := HV.out.y1; have k2 := HV.out.y2; have k3 := HV.out.m1; have k4 := HV.out.m2
  clear hpos
  go_enter Tryd.func32, Tryd.ntmps32
  go_wp2_with fail
  go_loopw [0, 6, 7] (fun v0 v6 v7 wr => ∃ Y M : Int, v6 = .int .i64 Y ∧ v7 = .int .i64 M ∧ 1900 ≤ Y ∧ 1 ≤ M ∧ M ≤ 12 ∧ 12 * Y + M ≤ 12 * y + m ∧ v0 = .int .i64 (D - Date.ahead Y - Date.cum (Date.leap Y) (M - 1).toNat) ∧ Below w.heap.size w wr) (fun _ v6 v7 _ => (12 * y + m - (12 * intOf v6 + intOf v7)).toNat)
  case atStart => exact ⟨1900, 1, rfl, rfl, by omega, by omega, by omega, by omega, by rw [Date.ahead_1900]; simp [Date.cum], Below.refl _ _⟩
  case round =>
    obtain ⟨Y, M, rfl, rfl, hY, hM1, hM2, hle, rfl, hb⟩ := hrel
    obtain ⟨s1, s2, s3, s4⟩ := HP.out Y M hY hM1 hM2 hle
    have hl := fun w => length Y M (by omega) (by omega) hM1 hM2 w
    have hnx : Hid (M < 12 → D - Date.ahead Y - Date.cum (Date.leap Y) (M - 1).toNat - Date.mlen (Date.leap Y) M = D - Date.ahead Y - Date.cum (Date.leap Y) (M + 1 - 1).toNat) := Lib.hid (fun h => by rw [pos_next hM1 h]; omega)
    have hwp : Hid (M = 12 → D - Date.ahead Y - Date.cum (Date.leap Y) (M - 1).toNat - Date.mlen (Date.leap Y) M = D - Date.ahead (Y + 1) - Date.cum (Date.leap (Y + 1)) ((1 : Int) - 1).toNat) := Lib.hid (fun h => by subst h; have := pos_wrap (Y := Y); omega)
    obtain ⟨r, er⟩ : ∃ r, D - Date.ahead Y - Date.cum (Date.leap Y) (M - 1).toNat = r := ⟨_, rfl⟩
    obtain ⟨l, el⟩ : ∃ l, Date.mlen (Date.leap Y) M = l := ⟨_, rfl⟩
    have hlb := Date.mlen_le (Date.leap Y) M
    rw [er, el] at s3 s4 hnx hwp
    rw [er] at s1 s2 ⊢
    rw [el] at hl hlb
    obtain ⟨l1, l2⟩ := hlb
    have HL := Lib.hid hl
    clear hl er el
    by_cases hlt : 12 * Y + M < 12 * y + m
    · have t1 : decide (l ≤ r) = true := decide_eq_true (s3 hlt)
      clear s3 s4
      by_cases h12 : M = 12
      · subst h12
        have h2 := hwp.out rfl
        have H2 := Lib.hid h2
        clear h2 hnx hwp
        go_wp2_with fail
        refine (HL.out _).mono ?_
        rintro e w1 ⟨rfl, hb1⟩
        go_wp2_with fail
        refine (HL.out _).mono ?_
        rintro e w2 ⟨rfl, hb2⟩
        go_wp2_with fail
        go_roundw
        case rel => exact ⟨Y + 1, 1, rfl, rfl, by omega, by omega, by omega, by omega, by rw [H2.out], (hb.trans (hb1.mono hb.size)).trans (hb2.mono (Nat.le_trans hb.size hb1.size))⟩
        case measure => simp [intOf]; omega
      · have t2 : (M + 1 == 13) = false := beq_eq_false_iff_ne.2 (by omega)
        have h2 := hnx.out (by omega)
        have H2 := Lib.hid h2
        have hM3 : M < 12 := by omega
        clear h2 hnx hwp h12
        go_wp2_with fail
        refine (HL.out _).mono ?_
        rintro e w1 ⟨rfl, hb1⟩
        go_wp2_with fail
        refine (HL.out _).mono ?_
        rintro e w2 ⟨rfl, hb2⟩
        go_wp2_with fail
        go_roundw
        case rel => exact ⟨Y, M + 1, rfl, rfl, by omega, by omega, by omega, by omega, by rw [H2.out], (hb.trans (hb1.mono hb.size)).trans (hb2.mono (Nat.le_trans hb.size hb1.size))⟩
        case measure => simp [intOf]; omega
    · obtain ⟨rfl, rfl, hd, hlr⟩ := s4 (by omega)
      have t1 : decide (l ≤ r) = false := decide_eq_false (by omega)
      subst hd
      clear s3 s4 hnx hwp hlt
      go_wp2_with fail
      refine (HL.out _).mono ?_
      rintro e w1 ⟨rfl, hb1⟩
      go_wp2_with fail
      exact bodyPost_ret (v := .tuple #[.int .i64 Y, .int .i64 M, .int .i64 (r + 1), .int .i64 0]) (by simp [results, Tryd.results32, go_sem]) rfl ⟨rfl, hb.trans (hb1.mono hb.size)⟩

set_option maxHeartbeats 2000000 in
set_option maxRecDepth 100000 in
theorem of (y m d D : Int) (hv : Date.Valid y m d) (hD : Date.num y m d = D) (w : World) :
    Calls Tryd.prog 33 #[.int .i64 y, .int .i64 m, .int .i64 d] w fun e w' => e = .returned (.tuple #[.int .i64 D, .int .i64 0]) ∧ Below w.heap.size w w' := by
  have k1 := hv.y1; have k2 := hv.y2; have k3 := hv.m1; have k4 := hv.m2; have k5 := hv.d1; have k6 := hv.d2
  have c1 : decide (y < 1900) = false := decide_eq_false (by omega)
  have c2 : decide (2099 < y) = false := decide_eq_false (by omega)
  have c3 : decide (m < 1) = false := decide_eq_false (by omega)
  have c4 : decide (12 < m) = false := decide_eq_false (by omega)
  have c5 : decide (d < 1) = false := decide_eq_false (by omega)
  have hl := fun w => length y m (by omega) (by omega) k3 k4 w
  obtain ⟨l, el⟩ : ∃ l, Date.mlen (Date.leap y) m = l := ⟨_, rfl⟩
  rw [el] at hl k6
  have hlb : l ≤ 31 := by rw [← el]; exact (Date.mlen_le _ _).2
  have c6 : decide (l < d) = false := decide_eq_false (by omega)
  have HL := Lib.hid hl
  have HV := Lib.hid hv
  have HD := Lib.hid hD
  clear hv hD hl el
  go_enter Tryd.func33, Tryd.ntmps33
  go_wp2_with fail
  refine (HL.out _).mono ?_
  rintro e w1 ⟨rfl, hb1⟩
  go_wp2_with fail
  go_loop [8, 9] (fun v8 v9 => ∃ Y : Int, v9 = .int .i64 Y ∧ 1900 ≤ Y ∧ Y ≤ y ∧ v8 = .int .i64 (Date.ahead Y)) (fun _ v9 => (y - intOf v9).toNat)
  case atStart => exact ⟨1900, rfl, by omega, by omega, by rw [Date.ahead_1900]⟩
  case round =>
    obtain ⟨Y, rfl, hY1, hY2, rfl⟩ := hrel
    have ha := Date.ahead_lb hY1
    have hb := Date.ahead_ub hY1
    by_cases hlt : Y < y
    · have t1 : decide (Y < y) = true := decide_eq_true hlt
      have hp := fun w => leap Y (by omega) (by omega) w
      have hs := Date.ahead_succ Y
      obtain ⟨b, eb⟩ : ∃ b, Date.leap Y = b := ⟨_, rfl⟩
      rw [eb] at hp hs
      obtain ⟨A, eA⟩ : ∃ A, Date.ahead Y = A := ⟨_, rfl⟩
      rw [eA] at hs ha hb ⊢
      have HPp := Lib.hid hp
      have HS := Lib.hid hs
      clear hp hs eb eA
      cases b
      all_goals
        go_wp2_with fail
        refine (HPp.out _).mono ?_
        rintro e w' ⟨rfl, rfl⟩
        go_wp2_with fail
        go_round
        case rel => exact ⟨Y + 1, rfl, by omega, by omega, by rw [HS.out]; simp⟩
        case measure => simp [intOf]; omega
    · have t1 : decide (Y < y) = false := decide_eq_false hlt
      obtain rfl : Y = y := by omega
      clear hlt
      have hn : Date.ahead Y + Date.cum (Date.leap Y) (m - 1).toNat + d - 1 = D := HD.out
      obtain ⟨A, eA⟩ : ∃ A, Date.ahead Y = A := ⟨_, rfl⟩
      have hl2 := fun M h1 h2 w => length Y M (by omega) (by omega) h1 h2 w
      obtain ⟨b, eb⟩ : ∃ b, Date.leap Y = b := ⟨_, rfl⟩
      rw [eA] at ha hb hn ⊢
      rw [eb] at hn hl2
      have HN := Lib.hid hn; have HL2 := Lib.hid hl2
      clear hn hl2 eA eb HV HD
      go_wp2_with fail
      go_loopw [8, 11] (fun v8 v11 wr => ∃ M : Int, v11 = .int .i64 M ∧ 1 ≤ M ∧ M ≤ m ∧ v8 = .int .i64 (A + Date.cum b (M - 1).toNat) ∧ Below w.heap.size w wr) (fun _ v11 _ => (m - intOf v11).toNat)
      case atStart => exact ⟨1, rfl, by omega, by omega, by simp [Date.cum], hb1⟩
      case round =>
        obtain ⟨M, rfl, hM1, hM2, rfl, hbw⟩ := hrel
        have hc0 := Date.cum_nonneg b (M - 1).toNat
        have hc1 := Date.cum_mono b (i := (M - 1).toNat) (j := 12) (by omega)
        have hc2 : Date.cum b 12 ≤ 366 := by rw [Date.cum_year]; cases b <;> simp
        by_cases hlt : M < m
        · have t1 : decide (M < m) = true := decide_eq_true hlt
          have hl3 := fun w => HL2.out M hM1 (by omega) w
          have hs : Hid (Date.cum b (M + 1 - 1).toNat = Date.cum b (M - 1).toNat + Date.mlen b M) := Lib.hid (by rw [show M + 1 - 1 = M from by omega]; exact Date.toNat_succ hM1)
          have hlb := Date.mlen_le b M
          obtain ⟨c, ec⟩ : ∃ c, Date.cum b (M - 1).toNat = c := ⟨_, rfl⟩
          obtain ⟨l', el⟩ : ∃ l', Date.mlen b M = l' := ⟨_, rfl⟩
          rw [ec] at hs hc0 hc1 ⊢
          rw [el] at hs hl3 hlb
          obtain ⟨lb1, lb2⟩ := hlb
          have hc3 : c ≤ 366 := by omega
          have HL3 := Lib.hid hl3
          clear hl3 ec el hc1 hc2
          go_wp2_with fail
          refine (HL3.out _).mono ?_
          rintro e w2 ⟨rfl, hb2⟩
          go_wp2_with fail
          go_roundw
          case rel => exact ⟨M + 1, rfl, by omega, by omega, by rw [hs.out]; simp; omega, hbw.trans (hb2.mono hbw.size)⟩
          case measure => simp [intOf]; omega
        · have t1 : decide (M < m) = false := decide_eq_false hlt
          obtain rfl : M = m := by omega
          obtain ⟨c, ec⟩ : ∃ c, Date.cum b (M - 1).toNat = c := ⟨_, rfl⟩
          have hn := HN.out
          rw [ec] at hc0 hc1 hn ⊢
          have hc3 : c ≤ 366 := by omega
          have H3 := Lib.hid hn
          clear hlt hc1 hc2 ec hn
          go_wp2_with fail
          go_ret2
          exact ⟨by have := H3.out; simp; omega, hbw⟩
end Go.Proofs.YtoiodfiphighgaaDoor.XRef
