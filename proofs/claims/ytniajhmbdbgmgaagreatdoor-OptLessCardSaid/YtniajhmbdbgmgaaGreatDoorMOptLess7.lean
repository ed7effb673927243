import Derived.Test.YtniajhmbdbgmgaaGreatDoorMOptLess5
import Derived.Test.YtniajhmbdbgmgaaGreatDoorMOptLess4
import Derived.Deep.LoopGhost
import Derived.Test.YtniajhmbdbgmgaaGreatDoorMOptLess6
import Derived.Test.YtniajhmbdbgmgaaGreatDoorMOptLess2
/- opt.fold: a constant of constants. -/
namespace Go.Proofs.YtniajhmbdbgmgaaGreatDoor.Q
open Go Go.RowKit Go.Proofs Go.Proofs.YtniajhmbdbgmgaaGreatDoor Go.Shelf Go.Proofs.YtniajhmbdbgmgaaGreatDoorW.PrintWords Go.Proofs.YtniajhmbdbgmgaaGreatDoorW.PrintLast Go.Proofs.YtniajhmbdbgmgaaGreatDoorW.PrintMore
set_option linter.unusedSimpArgs false
attribute [local go_sem] World.cell?_alloc_lt

theorem whole_is (a : Int) (w : World) : Calls Tryz.prog 143 #[.int .i64 a] w fun e w' => e = .returned (.int .i64 (Int.tdiv (Num.clamp a) 1000000)) ∧ w = w' := by
  have hc := Num.clamp_le a
  obtain ⟨c, ec⟩ : ∃ c, Num.clamp a = c := ⟨_, rfl⟩
  have hx := fun w => XNum.clamp a w
  rw [ec] at hx hc ⊢
  have HX := Lib.hid hx
  clear hx ec
  go_enter Tryz.func143, Tryz.ntmps143
  go_wp2_with fail
  refine (HX.out w).mono ?_
  rintro e w' ⟨rfl, rfl⟩
  go_wp2_with fail
  go_ret
  exact ⟨rfl, rfl⟩

/-- What the first two kids say. -/
def argF (l : List Core) (i : Nat) : Int := match l[i]? with
  | some k => k.f1
  | none => 0
/-- What the switch answers, by what the first two kids say. -/
noncomputable def foldS (x : Core) (a b : Int) : Core × Bool :=
  if x.f0 = 6 then (numC (Num.neg a), true) else if x.f0 = 14 then (boolC (a == 0), true)
  else if 6 ≤ x.f0 ∧ x.f0 ≤ 21 ∧ x.f0 ≠ 15 ∧ x.f0 ≠ 16 then (foldV ymd x.f0 a b, true) else (x, false)
/-- What fold answers. -/
noncomputable def foldX (x : Core) : Core × Bool := if x.f3.length ≤ 2 ∧ x.f3.all constT = true then foldS x (argF x.f3 0) (argF x.f3 1) else (x, false)

/-- What holds all along fold. -/
structure GInv (w : World) (A : Option Addr) (c : Nat) (x : Core) (a b : Int) (W : World) : Prop where
  d : DInv w A c x W
  n : W.heap[w.heap.size + 1 + 1]? = some (.cells #[.int .i64 a, .int .i64 b] 186 (0, 0))
theorem GInv.below {w W W' : World} {A : Option Addr} {c : Nat} {x : Core} {a b : Int} (h : GInv w A c x a b W) (hb : Below W.heap.size W W') : GInv w A c x a b W' := ⟨h.d.below hb, blk_below h.n hb⟩
theorem GInv.alloc {w W : World} {A : Option Addr} {c : Nat} {x : Core} {a b : Int} (h : GInv w A c x a b W) (o : Obj) : GInv w A c x a b (W.alloc o) := h.below (below_alloc (Below.refl _ _) o)

set_option maxRecDepth 100000 in
set_option maxHeartbeats 4000000 in
theorem fold_is (x : Core) (P : Nat → Prop) (A : Option Addr) (c : Nat) (w : World) (hV : Kd.V k24 24 w w.heap.size P (.slice A x.f3.length c) x.f3) :
    Calls Tryz.prog 81 #[.agg #[.int .i64 x.f0, .int .i64 x.f1, .string x.f2, .slice A x.f3.length c]] w fun q w' =>
      ∃ v : Value, q = .returned (.tuple #[.agg #[.int .i64 (foldX x).1.f0, .int .i64 (foldX x).1.f1, .string (foldX x).1.f2, v], .bool (foldX x).2]) ∧ Kd.V k24 24 w' w.heap.size (fun k => P k ∨ w.heap.size ≤ k) v (foldX x).1.f3 ∧ Below w.heap.size w w' := by
  obtain ⟨r, er⟩ : ∃ r, foldX x = r := ⟨_, rfl⟩
  rw [er]
  have hmax := Kd.F_max (Kd.V_at hV).2.2
  have hF := Lib.hid (Kd.V_at hV).2.2
  have HV := Lib.hid hV; have ER := Lib.hid er
  clear hV er
  go_enter Tryz.func81, Tryz.ntmps81
  go_wp2
  obtain ⟨w2, ew2⟩ : ∃ w2, (((w.alloc (.cells #[.int .i64 x.f0, .int .i64 x.f1, .string x.f2, .slice A x.f3.length c] 24)).alloc (.cells #[.int .i64 0, .int .i64 0, .string ⟨#[]⟩, .slice none 0 0] 24)).alloc (.cells #[.int .i64 0, .int .i64 0] 186)) = w2 := ⟨_, rfl⟩
  have hG : GInv w A c x (argF (x.f3.take 0) 0) (argF (x.f3.take 0) 1) w2 := by
    rw [← ew2]
    refine ⟨(DInv.new w A c x).below (below_alloc (Below.refl _ _) _), ?_⟩
    have := World.alloc_heap_new ((w.alloc (.cells #[.int .i64 x.f0, .int .i64 x.f1, .string x.f2, .slice A x.f3.length c] 24)).alloc (.cells #[.int .i64 0, .int .i64 0, .string ⟨#[]⟩, .slice none 0 0] 24)) (.cells #[.int .i64 0, .int .i64 0] 186)
    simpa [argF] using this
  rw [ew2]
  have HG := Lib.hid hG
  clear hG ew2
  go_loopw [15] (fun i wr => ∃ j : Nat, j ≤ x.f3.length ∧ j ≤ 2 ∧ i = .int .i64 j ∧ Hid (GInv w A c x (argF (x.f3.take j) 0) (argF (x.f3.take j) 1) wr) ∧ Hid ((x.f3.take j).all constT = true)) (fun i _ => x.f3.length - (intOf i).toNat)
  case atStart => exact ⟨0, Nat.zero_le _, by omega, rfl, HG, Lib.hid (by simp)⟩
  case round =>
    obtain ⟨j, hj, hj2, rfl, hI, hall⟩ := hrel
    clear HG
    have hs := blk_lt hI.out.n
    have hs0 : w.heap.size < wr.heap.size := by omega
    have hs1 : w.heap.size + 1 < wr.heap.size := by omega
    obtain ⟨p0, p1, p2, p3⟩ := core_cells hI.out.d.b0
    obtain ⟨q0, q1, q2, q3⟩ := core_cells hI.out.d.b1
    have i0 := blk_frozen hI.out.d.b1 0; have i1 := blk_frozen hI.out.d.b1 1; have i2 := blk_frozen hI.out.d.b1 2; have i3 := blk_frozen hI.out.d.b1 3
    by_cases hlt : j < x.f3.length
    · have t1 : decide (j < x.f3.length) = true := decide_eq_true hlt
      obtain ⟨ad, A3, c3, hA, d0, d1, d2, d3, hl3, hF3⟩ := kid_at hF.out j hlt
      obtain ⟨kd, ekd⟩ : ∃ kd, x.f3[j] = kd := ⟨_, rfl⟩
      subst hA
      rw [ekd] at d0 d1 d2 d3
      have mv : ∀ {p : Addr} {v : Value}, w.cell? p = some v → wr.cell? p = some v := fun hp => (hI.out.d.bel.cell (World.block_lt_of_cell? w _ hp)).trans hp
      replace d0 := mv d0
      replace d1 := mv d1
      replace d2 := mv d2
      replace d3 := mv d3
      have htake : x.f3.take (j + 1) = x.f3.take j ++ [kd] := by rw [List.take_add_one, List.getElem?_eq_getElem hlt, ekd]; rfl
      have hmem : kd ∈ x.f3 := by rw [← ekd]; exact List.getElem_mem hlt
      have HT := Lib.hid htake; have HM := Lib.hid hmem
      clear mv hl3 hF3 htake hmem ekd
      have no : (¬ (x.f3.length ≤ 2 ∧ x.f3.all constT = true)) → r = (x, false) := fun hn => by rw [← ER.out, foldX, if_neg hn]
      have NO := Lib.hid no
      clear no
      by_cases hj3 : j = 2
      · have t2 : decide ((1 : Int) < (j : Int)) = true := decide_eq_true (by omega)
        have hr := NO.out (fun hn => by omega)
        subst hr
        clear NO ER hj3
        go_wp2
        refine bodyPost_ret (v := .tuple #[.agg #[.int .i64 x.f0, .int .i64 x.f1, .string x.f2, .slice (some ad) x.f3.length c], .bool false]) (by simp [results, Tryz.f81, go_sem, q0, q1, q2, q3, hs1]) rfl ?_
        exact ⟨_, rfl, Kd.V_mono (Kd.V_alloc (V_put4 (Kd.V_step (Kd.V_bound HV.out) (fun k hk _ => hI.out.d.bel.block k hk.2)) (fun k hk => by have := hk.2; omega) _ _ _ _) _) (fun k hk => .inl hk.1), below_alloc (below_put4 hI.out.d.bel (by omega) _ _ _ _) _⟩
      · have t2 : decide ((1 : Int) < (j : Int)) = false := decide_eq_false (by omega)
        have hj4 : j < 2 := by omega
        have t3 : decide (j < 2) = true := decide_eq_true hj4
        have hcell : wr.cell? ⟨w.heap.size + 1 + 1, j, none⟩ = some (.int .i64 0) := by
          rw [blk_cell hI.out.n]
          have hl2 : (x.f3.take j).length = j := by simp; omega
          have z : ∀ i, j ≤ i → argF (x.f3.take j) i = 0 := fun i hi => by
            unfold argF
            rw [List.getElem?_eq_none (by omega)]
          match j, hj4, z with
          | 0, _, z => rw [z 0 (by omega)]; rfl
          | 1, _, z => rw [z 1 (by omega)]; rfl
        have hfr := blk_frozen hI.out.n j
        by_cases hc : constT kd = true
        · have hN : GInv w (some ad) c x (argF (x.f3.take (j + 1)) 0) (argF (x.f3.take (j + 1)) 1) ((wr.setCell ⟨w.heap.size + 1 + 1, j, none⟩ (.int .i64 kd.f1)).alloc (.cells #[.int .i64 kd.f0, .int .i64 kd.f1, .string kd.f2, .slice A3 kd.f3.length c3] 24)) := by
            have h1 := hI.out
            refine GInv.alloc ⟨⟨h1.d.bel.setCell (p := ⟨w.heap.size + 1 + 1, j, none⟩) (by simp; omega) _, blk_far h1.d.b0 (by simp; omega) _, blk_far h1.d.b1 (by simp) _⟩, ?_⟩ _
            have h2 := blk_set h1.n j (.int .i64 kd.f1)
            rw [h2, HT.out]
            have hl2 : (x.f3.take j).length = j := by simp; omega
            match j, hj4, hl2 with
            | 0, _, _ => simp [argF]
            | 1, _, hl2 =>
              have e0 : argF (x.f3.take 1 ++ [kd]) 0 = argF (x.f3.take 1) 0 := by unfold argF; rw [List.getElem?_append_left (by omega)]
              have e1 : argF (x.f3.take 1 ++ [kd]) 1 = kd.f1 := by unfold argF; rw [List.getElem?_append_right (by omega), hl2]; rfl
              rw [e0, e1]
              rfl
          have hA2 : (x.f3.take (j + 1)).all constT = true := by rw [HT.out, List.all_append, hall.out]; simp [hc]
          have HN := Lib.hid hN; have HA := Lib.hid hA2
          have h3 : kd.f0 = 1 ∨ kd.f0 = 2 ∨ kd.f0 = 3 := by simpa [constT, or_assoc] using hc
          clear NO hc hN hA2 ER
          rcases h3 with h3 | h3 | h3
          · have u1 : (kd.f0 != 1) = false := bne_eq_false_iff_eq.2 h3
            clear h3
            go_wp2
            go_roundw
            case rel => exact ⟨j + 1, hlt, by omega, by go_num, HN, HA⟩
            case measure => simp [intOf]; omega
          · have u1 : (kd.f0 != 1) = true := bne_iff_ne.2 (by omega)
            have u2 : (kd.f0 != 2) = false := bne_eq_false_iff_eq.2 h3
            clear h3
            go_wp2
            go_roundw
            case rel => exact ⟨j + 1, hlt, by omega, by go_num, HN, HA⟩
            case measure => simp [intOf]; omega
          · have u1 : (kd.f0 != 1) = true := bne_iff_ne.2 (by omega)
            have u2 : (kd.f0 != 2) = true := bne_iff_ne.2 (by omega)
            have u3 : (kd.f0 != 3) = false := bne_eq_false_iff_eq.2 h3
            clear h3
            go_wp2
            go_roundw
            case rel => exact ⟨j + 1, hlt, by omega, by go_num, HN, HA⟩
            case measure => simp [intOf]; omega
        · have hr := NO.out (fun hn => hc (List.all_eq_true.1 hn.2 kd HM.out))
          subst hr
          have h3 : kd.f0 ≠ 1 ∧ kd.f0 ≠ 2 ∧ kd.f0 ≠ 3 := by simpa [constT, not_or, and_assoc] using hc
          have u1 : (kd.f0 != 1) = true := bne_iff_ne.2 h3.1
          have u2 : (kd.f0 != 2) = true := bne_iff_ne.2 h3.2.1
          have u3 : (kd.f0 != 3) = true := bne_iff_ne.2 h3.2.2
          clear NO ER hc h3
          go_wp2
          refine bodyPost_ret (v := .tuple #[.agg #[.int .i64 x.f0, .int .i64 x.f1, .string x.f2, .slice (some ad) x.f3.length c], .bool false]) (by simp [results, Tryz.f81, go_sem, q0, q1, q2, q3, hs1]) rfl ?_
          exact ⟨_, rfl, Kd.V_mono (Kd.V_alloc (V_put4 (Kd.V_step (Kd.V_bound HV.out) (fun k hk _ => hI.out.d.bel.block k hk.2)) (fun k hk => by have := hk.2; omega) _ _ _ _) _) (fun k hk => .inl hk.1), below_alloc (below_put4 hI.out.d.bel (by omega) _ _ _ _) _⟩
    · obtain rfl : j = x.f3.length := by omega
      have t1 : decide (x.f3.length < x.f3.length) = false := decide_eq_false (by omega)
      have hr : foldS x (argF x.f3 0) (argF x.f3 1) = r := by
        have := ER.out
        have ha := hall.out
        rw [List.take_length] at ha
        rwa [foldX, if_pos ⟨hj2, ha⟩] at this
      have hI2 : GInv w A c x (argF x.f3 0) (argF x.f3 1) wr := by
        have := hI.out
        rwa [List.take_length] at this
      obtain ⟨a, ea⟩ : ∃ a, argF x.f3 0 = a := ⟨_, rfl⟩
      obtain ⟨b, eb⟩ : ∃ b, argF x.f3 1 = b := ⟨_, rfl⟩
      rw [ea, eb] at hr hI2
      have HR := Lib.hid hr; have HI := Lib.hid hI2
      clear hr hI2 ER hall hlt ea eb hI p0 p1 p2 p3 q0 q1 q2 q3 i0 i1 i2 i3
      go_wp2
      clear t1
      have HI5 := Lib.hid (HI.out.below (below_drew (Below.refl _ _)))
      refine start_ (n := 6) (S := fun w' => w'.cell? ⟨w.heap.size + 1 + 1, 0, none⟩ = some (.int .i64 a) ∧ w'.cell? ⟨w.heap.size + 1 + 1, 1, none⟩ = some (.int .i64 b)) (ds := []) (bm 6 0) (by kernel_rfl) rfl (by kernel_rfl) ⟨(blk_cell HI5.out.n 0).trans rfl, (blk_cell HI5.out.n 1).trans rfl⟩ (fun hHeld => ?_)
      generalize wr.drew = w5 at HI5 hHeld ⊢
      refine pure_ (i := 0) (N := some 43) (v := ?_) (a' := ?_) (bm 6 1) rfl rfl (by kernel_rfl) (fun _ _ _ h => h) (Or.inl ⟨by rfl, ?_⟩) ?_ ?_
      rotate_left
      · intro w'
        go_simp
        with_reducible rfl
      rotate_left
      · simp only [Act.put, List.setIfInBounds_toArray, List.set_cons_zero, List.set_cons_succ, i64_w, i32_w]
        rfl
      refine take_ (i := 1) (N := some 44) (v := ?_) (a' := ?_) (bm 6 3) rfl rfl (by kernel_rfl) (fun _ _ _ h => h) (Or.inl ⟨by rfl, ?_⟩) hHeld ?_ ?_
      rotate_left
      · rintro w' ⟨s0, s1⟩
        go_simp
        with_reducible rfl
      rotate_left
      · simp only [Act.put, List.setIfInBounds_toArray, List.set_cons_zero, List.set_cons_succ, i64_w, i32_w]
        rfl
      refine pure_ (i := 2) (N := some 45) (v := ?_) (a' := ?_) (bm 6 7) rfl rfl (by kernel_rfl) (fun _ _ _ h => h) (Or.inl ⟨by rfl, ?_⟩) ?_ ?_
      rotate_left
      · intro w'
        go_simp
        with_reducible rfl
      rotate_left
      · simp only [Act.put, List.setIfInBounds_toArray, List.set_cons_zero, List.set_cons_succ, i64_w, i32_w]
        rfl
      refine take_ (i := 3) (N := some 46) (v := ?_) (a' := ?_) (bm 6 15) rfl rfl (by kernel_rfl) (fun _ _ _ h => h) (Or.inl ⟨by rfl, ?_⟩) hHeld ?_ ?_
      rotate_left
      · rintro w' ⟨s0, s1⟩
        go_simp
        with_reducible rfl
      rotate_left
      · simp only [Act.put, List.setIfInBounds_toArray, List.set_cons_zero, List.set_cons_succ, i64_w, i32_w]
        rfl
      refine pure_ (i := 4) (N := some 7) (v := ?_) (a' := ?_) (bm 6 31) rfl rfl (by kernel_rfl) (fun _ _ _ h => h) (Or.inl ⟨by rfl, ?_⟩) ?_ ?_
      rotate_left
      · intro w'
        go_simp
        with_reducible rfl
      rotate_left
      · simp only [Act.put, List.setIfInBounds_toArray, List.set_cons_zero, List.set_cons_succ, i64_w, i32_w]
        rfl
      refine pure_ (i := 5) (N := some 8) (v := ?_) (a' := ?_) (bm 6 63) rfl rfl (by kernel_rfl) (fun _ _ _ h => h) (Or.inl ⟨by rfl, ?_⟩) ?_ ?_
      rotate_left
      · intro w'
        go_simp
        with_reducible rfl
      rotate_left
      · simp only [Act.put, List.setIfInBounds_toArray, List.set_cons_zero, List.set_cons_succ, i64_w, i32_w]
        rfl
      refine done_ (by kernel_rfl) ?_
      clear hHeld HI
      obtain ⟨p0, p1, p2, p3⟩ := core_cells HI5.out.d.b0
      have hs := blk_lt HI5.out.n
      by_cases hop : x.f0 = 6
      · have t6 : (x.f0 == 6) = true := beq_iff_eq.2 hop
        obtain ⟨v, ev⟩ : ∃ v : Int, Num.neg a = v := ⟨_, rfl⟩
        have hk : ∀ W, Calls Tryz.prog 134 #[.int .i64 v] W fun e w' => e = .returned (.tuple #[.agg #[.int .i64 1, .int .i64 v, .string ⟨#[]⟩, .slice none 0 0], .bool true]) ∧ w' = W.alloc (.cells #[.int .i64 1, .int .i64 v, .string ⟨#[]⟩, .slice none 0 0] 24) := fun W => number_is v W
        have hc0 : ∀ W, Calls Tryz.prog 91 #[.int .i64 a] W fun e w' => e = .returned (.int .i64 v) ∧ Below W.heap.size W w' := fun W => by refine (XNum.neg a W).mono ?_; rintro e w' ⟨rfl, rfl⟩; exact ⟨by first | rfl | rw [ev], Below.refl _ _⟩
        have hr : r = (⟨1, v, ⟨#[]⟩, []⟩, true) := by rw [← HR.out]; unfold foldS; rw [if_pos hop]; rw [← ev]; rfl
        subst hr
        have HK := Lib.hid hk
        have HC0 := Lib.hid hc0
        clear hk HR hop hc0
        clear ev
        go_wp2_with fail
        refine (HC0.out _).mono ?_
        rintro e w0_ ⟨rfl, hb0⟩
        have HJ0 := Lib.hid (HI5.out.below hb0)
        clear hb0
        go_wp2_with fail
        refine (HK.out _).mono ?_
        rintro e w9 ⟨rfl, ew9⟩
        have H9 := Lib.hid (HJ0.out.below (W' := w9) (by rw [ew9]; exact below_alloc (Below.refl _ _) _))
        clear ew9 t6
        obtain ⟨q0, q1, q2, q3⟩ := core_cells H9.out.d.b1
        have i0 := blk_frozen H9.out.d.b1 0; have i1 := blk_frozen H9.out.d.b1 1; have i2 := blk_frozen H9.out.d.b1 2; have i3 := blk_frozen H9.out.d.b1 3
        have hs9 : w.heap.size + 1 < w9.heap.size := blk_lt H9.out.d.b1
        go_wp2
        refine bodyPost_ret (v := .tuple #[.agg #[.int .i64 1, .int .i64 v, .string ⟨#[]⟩, .slice none 0 0], .bool true]) (by simp [results, Tryz.f81, go_sem, q0, q1, q2, q3, hs9]) rfl ?_
        exact ⟨_, rfl, Kd.V_nil _ _ _ _ _, below_put4 H9.out.d.bel (by omega) _ _ _ _⟩
      have ne6 := hop
      clear hop
      by_cases hop : x.f0 = 7
      · have t6 : (x.f0 == 6) = false := beq_eq_false_iff_ne.2 (by omega)
        have t7 : (x.f0 == 7) = true := beq_iff_eq.2 hop
        obtain ⟨v, ev⟩ : ∃ v : Int, Num.add a b = v := ⟨_, rfl⟩
        have hk : ∀ W, Calls Tryz.prog 134 #[.int .i64 v] W fun e w' => e = .returned (.tuple #[.agg #[.int .i64 1, .int .i64 v, .string ⟨#[]⟩, .slice none 0 0], .bool true]) ∧ w' = W.alloc (.cells #[.int .i64 1, .int .i64 v, .string ⟨#[]⟩, .slice none 0 0] 24) := fun W => number_is v W
        have hc0 : ∀ W, Calls Tryz.prog 138 #[.int .i64 a, .int .i64 b] W fun e w' => e = .returned (.int .i64 v) ∧ Below W.heap.size W w' := fun W => by refine (XNum.add a b W).mono ?_; rintro e w' ⟨rfl, rfl⟩; exact ⟨by first | rfl | rw [ev], Below.refl _ _⟩
        have hr : r = (⟨1, v, ⟨#[]⟩, []⟩, true) := by rw [← HR.out]; unfold foldS; rw [if_neg (by omega), if_neg (by omega), if_pos ⟨by omega, by omega, by omega, by omega⟩, foldV]; rw [if_pos hop]; rw [← ev]; rfl
        subst hr
        have HK := Lib.hid hk
        have HC0 := Lib.hid hc0
        clear hk HR hop hc0
        clear ev
        go_wp2_with fail
        refine (HC0.out _).mono ?_
        rintro e w0_ ⟨rfl, hb0⟩
        have HJ0 := Lib.hid (HI5.out.below hb0)
        clear hb0
        go_wp2_with fail
        refine (HK.out _).mono ?_
        rintro e w9 ⟨rfl, ew9⟩
        have H9 := Lib.hid (HJ0.out.below (W' := w9) (by rw [ew9]; exact below_alloc (Below.refl _ _) _))
        clear ew9 t6 t7
        obtain ⟨q0, q1, q2, q3⟩ := core_cells H9.out.d.b1
        have i0 := blk_frozen H9.out.d.b1 0; have i1 := blk_frozen H9.out.d.b1 1; have i2 := blk_frozen H9.out.d.b1 2; have i3 := blk_frozen H9.out.d.b1 3
        have hs9 : w.heap.size + 1 < w9.heap.size := blk_lt H9.out.d.b1
        go_wp2
        refine bodyPost_ret (v := .tuple #[.agg #[.int .i64 1, .int .i64 v, .string ⟨#[]⟩, .slice none 0 0], .bool true]) (by simp [results, Tryz.f81, go_sem, q0, q1, q2, q3, hs9]) rfl ?_
        exact ⟨_, rfl, Kd.V_nil _ _ _ _ _, below_put4 H9.out.d.bel (by omega) _ _ _ _⟩
      have ne7 := hop
      clear hop
      by_cases hop : x.f0 = 8
      · have t6 : (x.f0 == 6) = false := beq_eq_false_iff_ne.2 (by omega)
        have t7 : (x.f0 == 7) = false := beq_eq_false_iff_ne.2 (by omega)
        have t8 : (x.f0 == 8) = true := beq_iff_eq.2 hop
        obtain ⟨v, ev⟩ : ∃ v : Int, Num.sub a b = v := ⟨_, rfl⟩
        have hk : ∀ W, Calls Tryz.prog 134 #[.int .i64 v] W fun e w' => e = .returned (.tuple #[.agg #[.int .i64 1, .int .i64 v, .string ⟨#[]⟩, .slice none 0 0], .bool true]) ∧ w' = W.alloc (.cells #[.int .i64 1, .int .i64 v, .string ⟨#[]⟩, .slice none 0 0] 24) := fun W => number_is v W
        have hc0 : ∀ W, Calls Tryz.prog 139 #[.int .i64 a, .int .i64 b] W fun e w' => e = .returned (.int .i64 v) ∧ Below W.heap.size W w' := fun W => by refine (XNum.sub a b W).mono ?_; rintro e w' ⟨rfl, rfl⟩; exact ⟨by first | rfl | rw [ev], Below.refl _ _⟩
        have hr : r = (⟨1, v, ⟨#[]⟩, []⟩, true) := by rw [← HR.out]; unfold foldS; rw [if_neg (by omega), if_neg (by omega), if_pos ⟨by omega, by omega, by omega, by omega⟩, foldV]; rw [if_neg (by omega)]; rw [if_pos hop]; rw [← ev]; rfl
        subst hr
        have HK := Lib.hid hk
        have HC0 := Lib.hid hc0
        clear hk HR hop hc0
        clear ev
        go_wp2_with fail
        refine (HC0.out _).mono ?_
        rintro e w0_ ⟨rfl, hb0⟩
        have HJ0 := Lib.hid (HI5.out.below hb0)
        clear hb0
        go_wp2_with fail
        refine (HK.out _).mono ?_
        rintro e w9 ⟨rfl, ew9⟩
        have H9 := Lib.hid (HJ0.out.below (W' := w9) (by rw [ew9]; exact below_alloc (Below.refl _ _) _))
        clear ew9 t6 t7 t8
        obtain ⟨q0, q1, q2, q3⟩ := core_cells H9.out.d.b1
        have i0 := blk_frozen H9.out.d.b1 0; have i1 := blk_frozen H9.out.d.b1 1; have i2 := blk_frozen H9.out.d.b1 2; have i3 := blk_frozen H9.out.d.b1 3
        have hs9 : w.heap.size + 1 < w9.heap.size := blk_lt H9.out.d.b1
        go_wp2
        refine bodyPost_ret (v := .tuple #[.agg #[.int .i64 1, .int .i64 v, .string ⟨#[]⟩, .slice none 0 0], .bool true]) (by simp [results, Tryz.f81, go_sem, q0, q1, q2, q3, hs9]) rfl ?_
        exact ⟨_, rfl, Kd.V_nil _ _ _ _ _, below_put4 H9.out.d.bel (by omega) _ _ _ _⟩
      have ne8 := hop
      clear hop
      by_cases hop : x.f0 = 9
      · have t6 : (x.f0 == 6) = false := beq_eq_false_iff_ne.2 (by omega)
        have t7 : (x.f0 == 7) = false := beq_eq_false_iff_ne.2 (by omega)
        have t8 : (x.f0 == 8) = false := beq_eq_false_iff_ne.2 (by omega)
        have t9 : (x.f0 == 9) = true := beq_iff_eq.2 hop
        obtain ⟨v, ev⟩ : ∃ v : Int, Num.mul a b = v := ⟨_, rfl⟩
        have hk : ∀ W, Calls Tryz.prog 134 #[.int .i64 v] W fun e w' => e = .returned (.tuple #[.agg #[.int .i64 1, .int .i64 v, .string ⟨#[]⟩, .slice none 0 0], .bool true]) ∧ w' = W.alloc (.cells #[.int .i64 1, .int .i64 v, .string ⟨#[]⟩, .slice none 0 0] 24) := fun W => number_is v W
        have hc0 : ∀ W, Calls Tryz.prog 93 #[.int .i64 a, .int .i64 b] W fun e w' => e = .returned (.int .i64 v) ∧ Below W.heap.size W w' := fun W => by refine (XNum.mul a b W).mono ?_; rintro e w' ⟨rfl, h⟩; exact ⟨by first | rfl | rw [ev], below_of_dr h⟩
        have hr : r = (⟨1, v, ⟨#[]⟩, []⟩, true) := by rw [← HR.out]; unfold foldS; rw [if_neg (by omega), if_neg (by omega), if_pos ⟨by omega, by omega, by omega, by omega⟩, foldV]; rw [if_neg (by omega)]; rw [if_neg (by omega)]; rw [if_pos hop]; rw [← ev]; rfl
        subst hr
        have HK := Lib.hid hk
        have HC0 := Lib.hid hc0
        clear hk HR hop hc0
        clear ev
        go_wp2_with fail
        refine (HC0.out _).mono ?_
        rintro e w0_ ⟨rfl, hb0⟩
        have HJ0 := Lib.hid (HI5.out.below hb0)
        clear hb0
        go_wp2_with fail
        refine (HK.out _).mono ?_
        rintro e w9 ⟨rfl, ew9⟩
        have H9 := Lib.hid (HJ0.out.below (W' := w9) (by rw [ew9]; exact below_alloc (Below.refl _ _) _))
        clear ew9 t6 t7 t8 t9
        obtain ⟨q0, q1, q2, q3⟩ := core_cells H9.out.d.b1
        have i0 := blk_frozen H9.out.d.b1 0; have i1 := blk_frozen H9.out.d.b1 1; have i2 := blk_frozen H9.out.d.b1 2; have i3 := blk_frozen H9.out.d.b1 3
        have hs9 : w.heap.size + 1 < w9.heap.size := blk_lt H9.out.d.b1
        go_wp2
        refine bodyPost_ret (v := .tuple #[.agg #[.int .i64 1, .int .i64 v, .string ⟨#[]⟩, .slice none 0 0], .bool true]) (by simp [results, Tryz.f81, go_sem, q0, q1, q2, q3, hs9]) rfl ?_
        exact ⟨_, rfl, Kd.V_nil _ _ _ _ _, below_put4 H9.out.d.bel (by omega) _ _ _ _⟩
      have ne9 := hop
      clear hop
      by_cases hop : x.f0 = 10
      · have t6 : (x.f0 == 6) = false := beq_eq_false_iff_ne.2 (by omega)
        have t7 : (x.f0 == 7) = false := beq_eq_false_iff_ne.2 (by omega)
        have t8 : (x.f0 == 8) = false := beq_eq_false_iff_ne.2 (by omega)
        have t9 : (x.f0 == 9) = false := beq_eq_false_iff_ne.2 (by omega)
        have t10 : (x.f0 == 10) = true := beq_iff_eq.2 hop
        obtain ⟨v, ev⟩ : ∃ v : Int, Num.div a b = v := ⟨_, rfl⟩
        have hk : ∀ W, Calls Tryz.prog 134 #[.int .i64 v] W fun e w' => e = .returned (.tuple #[.agg #[.int .i64 1, .int .i64 v, .string ⟨#[]⟩, .slice none 0 0], .bool true]) ∧ w' = W.alloc (.cells #[.int .i64 1, .int .i64 v, .string ⟨#[]⟩, .slice none 0 0] 24) := fun W => number_is v W
        have hc0 : ∀ W, Calls Tryz.prog 140 #[.int .i64 a, .int .i64 b] W fun e w' => e = .returned (.int .i64 v) ∧ Below W.heap.size W w' := fun W => by refine (XNum.div a b W).mono ?_; rintro e w' ⟨rfl, h⟩; exact ⟨by first | rfl | rw [ev], below_of_dr h⟩
        have hr : r = (⟨1, v, ⟨#[]⟩, []⟩, true) := by rw [← HR.out]; unfold foldS; rw [if_neg (by omega), if_neg (by omega), if_pos ⟨by omega, by omega, by omega, by omega⟩, foldV]; rw [if_neg (by omega)]; rw [if_neg (by omega)]; rw [if_neg (by omega)]; rw [if_pos hop]; rw [← ev]; rfl
        subst hr
        have HK := Lib.hid hk
        have HC0 := Lib.hid hc0
        clear hk HR hop hc0
        clear ev
        go_wp2_with fail
        refine (HC0.out _).mono ?_
        rintro e w0_ ⟨rfl, hb0⟩
        have HJ0 := Lib.hid (HI5.out.below hb0)
        clear hb0
        go_wp2_with fail
        refine (HK.out _).mono ?_
        rintro e w9 ⟨rfl, ew9⟩
        have H9 := Lib.hid (HJ0.out.below (W' := w9) (by rw [ew9]; exact below_alloc (Below.refl _ _) _))
        clear ew9 t6 t7 t8 t9 t10
        obtain ⟨q0, q1, q2, q3⟩ := core_cells H9.out.d.b1
        have i0 := blk_frozen H9.out.d.b1 0; have i1 := blk_frozen H9.out.d.b1 1; have i2 := blk_frozen H9.out.d.b1 2; have i3 := blk_frozen H9.out.d.b1 3
        have hs9 : w.heap.size + 1 < w9.heap.size := blk_lt H9.out.d.b1
        go_wp2
        refine bodyPost_ret (v := .tuple #[.agg #[.int .i64 1, .int .i64 v, .string ⟨#[]⟩, .slice none 0 0], .bool true]) (by simp [results, Tryz.f81, go_sem, q0, q1, q2, q3, hs9]) rfl ?_
        exact ⟨_, rfl, Kd.V_nil _ _ _ _ _, below_put4 H9.out.d.bel (by omega) _ _ _ _⟩
      have ne10 := hop
      clear hop
      by_cases hop : x.f0 = 20
      · have t6 : (x.f0 == 6) = false := beq_eq_false_iff_ne.2 (by omega)
        have t7 : (x.f0 == 7) = false := beq_eq_false_iff_ne.2 (by omega)
        have t8 : (x.f0 == 8) = false := beq_eq_false_iff_ne.2 (by omega)
        have t9 : (x.f0 == 9) = false := beq_eq_false_iff_ne.2 (by omega)
        have t10 : (x.f0 == 10) = false := beq_eq_false_iff_ne.2 (by omega)
        have t20 : (x.f0 == 20) = true := beq_iff_eq.2 hop
        obtain ⟨v, ev⟩ : ∃ v : Int, Date.years a b = v := ⟨_, rfl⟩
        have hk : ∀ W, Calls Tryz.prog 134 #[.int .i64 v] W fun e w' => e = .returned (.tuple #[.agg #[.int .i64 1, .int .i64 v, .string ⟨#[]⟩, .slice none 0 0], .bool true]) ∧ w' = W.alloc (.cells #[.int .i64 1, .int .i64 v, .string ⟨#[]⟩, .slice none 0 0] 24) := fun W => number_is v W
        have hc0 : ∀ W, Calls Tryz.prog 141 #[.int .i64 a, .int .i64 b] W fun e w' => e = .returned (.int .i64 v) ∧ Below W.heap.size W w' := fun W => by refine (XDate.years a b W).mono ?_; rintro e w' ⟨rfl, h⟩; exact ⟨by first | rfl | rw [ev], below_of_dr h⟩
        have hr : r = (⟨1, v, ⟨#[]⟩, []⟩, true) := by rw [← HR.out]; unfold foldS; rw [if_neg (by omega), if_neg (by omega), if_pos ⟨by omega, by omega, by omega, by omega⟩, foldV]; rw [if_neg (by omega)]; rw [if_neg (by omega)]; rw [if_neg (by omega)]; rw [if_neg (by omega)]; rw [if_neg (by omega)]; rw [if_neg (by omega)]; rw [if_neg (by omega)]; rw [if_neg (by omega)]; rw [if_neg (by omega)]; rw [if_pos hop]; rw [← ev]; rfl
        subst hr
        have HK := Lib.hid hk
        have HC0 := Lib.hid hc0
        clear hk HR hop hc0
        clear ev
        go_wp2_with fail
        refine (HC0.out _).mono ?_
        rintro e w0_ ⟨rfl, hb0⟩
        have HJ0 := Lib.hid (HI5.out.below hb0)
        clear hb0
        go_wp2_with fail
        refine (HK.out _).mono ?_
        rintro e w9 ⟨rfl, ew9⟩
        have H9 := Lib.hid (HJ0.out.below (W' := w9) (by rw [ew9]; exact below_alloc (Below.refl _ _) _))
        clear ew9 t6 t7 t8 t9 t10 t20
        obtain ⟨q0, q1, q2, q3⟩ := core_cells H9.out.d.b1
        have i0 := blk_frozen H9.out.d.b1 0; have i1 := blk_frozen H9.out.d.b1 1; have i2 := blk_frozen H9.out.d.b1 2; have i3 := blk_frozen H9.out.d.b1 3
        have hs9 : w.heap.size + 1 < w9.heap.size := blk_lt H9.out.d.b1
        go_wp2
        refine bodyPost_ret (v := .tuple #[.agg #[.int .i64 1, .int .i64 v, .string ⟨#[]⟩, .slice none 0 0], .bool true]) (by simp [results, Tryz.f81, go_sem, q0, q1, q2, q3, hs9]) rfl ?_
        exact ⟨_, rfl, Kd.V_nil _ _ _ _ _, below_put4 H9.out.d.bel (by omega) _ _ _ _⟩
      have ne20 := hop
      clear hop
      by_cases hop : x.f0 = 21
      · have t6 : (x.f0 == 6) = false := beq_eq_false_iff_ne.2 (by omega)
        have t7 : (x.f0 == 7) = false := beq_eq_false_iff_ne.2 (by omega)
        have t8 : (x.f0 == 8) = false := beq_eq_false_iff_ne.2 (by omega)
        have t9 : (x.f0 == 9) = false := beq_eq_false_iff_ne.2 (by omega)
        have t10 : (x.f0 == 10) = false := beq_eq_false_iff_ne.2 (by omega)
        have t20 : (x.f0 == 20) = false := beq_eq_false_iff_ne.2 (by omega)
        have t21 : (x.f0 == 21) = true := beq_iff_eq.2 hop
        obtain ⟨v, ev⟩ : ∃ v : Int, Date.years30 (ymd a).y (ymd a).m (ymd a).d (ymd b).y (ymd b).m (ymd b).d = v := ⟨_, rfl⟩
        have hk : ∀ W, Calls Tryz.prog 134 #[.int .i64 v] W fun e w' => e = .returned (.tuple #[.agg #[.int .i64 1, .int .i64 v, .string ⟨#[]⟩, .slice none 0 0], .bool true]) ∧ w' = W.alloc (.cells #[.int .i64 1, .int .i64 v, .string ⟨#[]⟩, .slice none 0 0] 24) := fun W => number_is v W
        have hc0 : ∀ W, Calls Tryz.prog 142 #[.int .i64 a, .int .i64 b] W fun e w' => e = .returned (.int .i64 v) ∧ Below W.heap.size W w' := fun W => by refine (XDate.years30 a b _ _ _ _ _ _ (ymd_valid a) (ymd_num a) (ymd_valid b) (ymd_num b) W).mono ?_; rintro e w' ⟨rfl, h⟩; exact ⟨by first | rfl | rw [ev], h⟩
        have hr : r = (⟨1, v, ⟨#[]⟩, []⟩, true) := by rw [← HR.out]; unfold foldS; rw [if_neg (by omega), if_neg (by omega), if_pos ⟨by omega, by omega, by omega, by omega⟩, foldV]; rw [if_neg (by omega)]; rw [if_neg (by omega)]; rw [if_neg (by omega)]; rw [if_neg (by omega)]; rw [if_neg (by omega)]; rw [if_neg (by omega)]; rw [if_neg (by omega)]; rw [if_neg (by omega)]; rw [if_neg (by omega)]; rw [if_neg (by omega)]; rw [← ev]; rfl
        subst hr
        have HK := Lib.hid hk
        have HC0 := Lib.hid hc0
        clear hk HR hop hc0
        clear ev
        go_wp2_with fail
        refine (HC0.out _).mono ?_
        rintro e w0_ ⟨rfl, hb0⟩
        have HJ0 := Lib.hid (HI5.out.below hb0)
        clear hb0
        go_wp2_with fail
        refine (HK.out _).mono ?_
        rintro e w9 ⟨rfl, ew9⟩
        have H9 := Lib.hid (HJ0.out.below (W' := w9) (by rw [ew9]; exact below_alloc (Below.refl _ _) _))
        clear ew9 t6 t7 t8 t9 t10 t20 t21
        obtain ⟨q0, q1, q2, q3⟩ := core_cells H9.out.d.b1
        have i0 := blk_frozen H9.out.d.b1 0; have i1 := blk_frozen H9.out.d.b1 1; have i2 := blk_frozen H9.out.d.b1 2; have i3 := blk_frozen H9.out.d.b1 3
        have hs9 : w.heap.size + 1 < w9.heap.size := blk_lt H9.out.d.b1
        go_wp2
        refine bodyPost_ret (v := .tuple #[.agg #[.int .i64 1, .int .i64 v, .string ⟨#[]⟩, .slice none 0 0], .bool true]) (by simp [results, Tryz.f81, go_sem, q0, q1, q2, q3, hs9]) rfl ?_
        exact ⟨_, rfl, Kd.V_nil _ _ _ _ _, below_put4 H9.out.d.bel (by omega) _ _ _ _⟩
      have ne21 := hop
      clear hop
      by_cases hop : x.f0 = 14
      · have t6 : (x.f0 == 6) = false := beq_eq_false_iff_ne.2 (by omega)
        have t7 : (x.f0 == 7) = false := beq_eq_false_iff_ne.2 (by omega)
        have t8 : (x.f0 == 8) = false := beq_eq_false_iff_ne.2 (by omega)
        have t9 : (x.f0 == 9) = false := beq_eq_false_iff_ne.2 (by omega)
        have t10 : (x.f0 == 10) = false := beq_eq_false_iff_ne.2 (by omega)
        have t20 : (x.f0 == 20) = false := beq_eq_false_iff_ne.2 (by omega)
        have t21 : (x.f0 == 21) = false := beq_eq_false_iff_ne.2 (by omega)
        have t14 : (x.f0 == 14) = true := beq_iff_eq.2 hop
        obtain ⟨v, ev⟩ : ∃ v : Int, (if (a == 0) = true then 1 else 0) = v := ⟨_, rfl⟩
        have hk : ∀ W, Calls Tryz.prog 135 #[.bool (a == 0)] W fun e w' => e = .returned (.tuple #[.agg #[.int .i64 2, .int .i64 v, .string ⟨#[]⟩, .slice none 0 0], .bool true]) ∧ w' = W.alloc (.cells #[.int .i64 2, .int .i64 v, .string ⟨#[]⟩, .slice none 0 0] 24) := fun W => by rw [← ev]; exact is_is _ W
        have hr : r = (⟨2, v, ⟨#[]⟩, []⟩, true) := by rw [← HR.out]; unfold foldS; rw [if_neg (by omega), if_pos hop]; rw [← ev]; rfl
        subst hr
        have HK := Lib.hid hk
        clear hk HR hop
        clear ev
        go_wp2_with fail
        refine (HK.out _).mono ?_
        rintro e w9 ⟨rfl, ew9⟩
        have H9 := Lib.hid (HI5.out.below (W' := w9) (by rw [ew9]; exact below_alloc (Below.refl _ _) _))
        clear ew9 t6 t7 t8 t9 t10 t20 t21 t14
        obtain ⟨q0, q1, q2, q3⟩ := core_cells H9.out.d.b1
        have i0 := blk_frozen H9.out.d.b1 0; have i1 := blk_frozen H9.out.d.b1 1; have i2 := blk_frozen H9.out.d.b1 2; have i3 := blk_frozen H9.out.d.b1 3
        have hs9 : w.heap.size + 1 < w9.heap.size := blk_lt H9.out.d.b1
        go_wp2
        refine bodyPost_ret (v := .tuple #[.agg #[.int .i64 2, .int .i64 v, .string ⟨#[]⟩, .slice none 0 0], .bool true]) (by simp [results, Tryz.f81, go_sem, q0, q1, q2, q3, hs9]) rfl ?_
        exact ⟨_, rfl, Kd.V_nil _ _ _ _ _, below_put4 H9.out.d.bel (by omega) _ _ _ _⟩
      have ne14 := hop
      clear hop
      by_cases hop : x.f0 = 11
      · have t6 : (x.f0 == 6) = false := beq_eq_false_iff_ne.2 (by omega)
        have t7 : (x.f0 == 7) = false := beq_eq_false_iff_ne.2 (by omega)
        have t8 : (x.f0 == 8) = false := beq_eq_false_iff_ne.2 (by omega)
        have t9 : (x.f0 == 9) = false := beq_eq_false_iff_ne.2 (by omega)
        have t10 : (x.f0 == 10) = false := beq_eq_false_iff_ne.2 (by omega)
        have t20 : (x.f0 == 20) = false := beq_eq_false_iff_ne.2 (by omega)
        have t21 : (x.f0 == 21) = false := beq_eq_false_iff_ne.2 (by omega)
        have t14 : (x.f0 == 14) = false := beq_eq_false_iff_ne.2 (by omega)
        have t11 : (x.f0 == 11) = true := beq_iff_eq.2 hop
        obtain ⟨v, ev⟩ : ∃ v : Int, (if (decide (a < b)) = true then 1 else 0) = v := ⟨_, rfl⟩
        have hk : ∀ W, Calls Tryz.prog 135 #[.bool (decide (a < b))] W fun e w' => e = .returned (.tuple #[.agg #[.int .i64 2, .int .i64 v, .string ⟨#[]⟩, .slice none 0 0], .bool true]) ∧ w' = W.alloc (.cells #[.int .i64 2, .int .i64 v, .string ⟨#[]⟩, .slice none 0 0] 24) := fun W => by rw [← ev]; exact is_is _ W
        have hr : r = (⟨2, v, ⟨#[]⟩, []⟩, true) := by rw [← HR.out]; unfold foldS; rw [if_neg (by omega), if_neg (by omega), if_pos ⟨by omega, by omega, by omega, by omega⟩, foldV]; rw [if_neg (by omega)]; rw [if_neg (by omega)]; rw [if_neg (by omega)]; rw [if_neg (by omega)]; rw [if_pos (Or.inl hop)]; rw [← ev]; rfl
        subst hr
        have HK := Lib.hid hk
        clear hk HR hop
        clear ev
        go_wp2_with fail
        refine (HK.out _).mono ?_
        rintro e w9 ⟨rfl, ew9⟩
        have H9 := Lib.hid (HI5.out.below (W' := w9) (by rw [ew9]; exact below_alloc (Below.refl _ _) _))
        clear ew9 t6 t7 t8 t9 t10 t20 t21 t14 t11
        obtain ⟨q0, q1, q2, q3⟩ := core_cells H9.out.d.b1
        have i0 := blk_frozen H9.out.d.b1 0; have i1 := blk_frozen H9.out.d.b1 1; have i2 := blk_frozen H9.out.d.b1 2; have i3 := blk_frozen H9.out.d.b1 3
        have hs9 : w.heap.size + 1 < w9.heap.size := blk_lt H9.out.d.b1
        go_wp2
        refine bodyPost_ret (v := .tuple #[.agg #[.int .i64 2, .int .i64 v, .string ⟨#[]⟩, .slice none 0 0], .bool true]) (by simp [results, Tryz.f81, go_sem, q0, q1, q2, q3, hs9]) rfl ?_
        exact ⟨_, rfl, Kd.V_nil _ _ _ _ _, below_put4 H9.out.d.bel (by omega) _ _ _ _⟩
      have ne11 := hop
      clear hop
      by_cases hop : x.f0 = 17
      · have t6 : (x.f0 == 6) = false := beq_eq_false_iff_ne.2 (by omega)
        have t7 : (x.f0 == 7) = false := beq_eq_false_iff_ne.2 (by omega)
        have t8 : (x.f0 == 8) = false := beq_eq_false_iff_ne.2 (by omega)
        have t9 : (x.f0 == 9) = false := beq_eq_false_iff_ne.2 (by omega)
        have t10 : (x.f0 == 10) = false := beq_eq_false_iff_ne.2 (by omega)
        have t20 : (x.f0 == 20) = false := beq_eq_false_iff_ne.2 (by omega)
        have t21 : (x.f0 == 21) = false := beq_eq_false_iff_ne.2 (by omega)
        have t14 : (x.f0 == 14) = false := beq_eq_false_iff_ne.2 (by omega)
        have t11 : (x.f0 == 11) = false := beq_eq_false_iff_ne.2 (by omega)
        have t17 : (x.f0 == 17) = true := beq_iff_eq.2 hop
        obtain ⟨v, ev⟩ : ∃ v : Int, (if (decide (a < b)) = true then 1 else 0) = v := ⟨_, rfl⟩
        have hk : ∀ W, Calls Tryz.prog 135 #[.bool (decide (a < b))] W fun e w' => e = .returned (.tuple #[.agg #[.int .i64 2, .int .i64 v, .string ⟨#[]⟩, .slice none 0 0], .bool true]) ∧ w' = W.alloc (.cells #[.int .i64 2, .int .i64 v, .string ⟨#[]⟩, .slice none 0 0] 24) := fun W => by rw [← ev]; exact is_is _ W
        have hr : r = (⟨2, v, ⟨#[]⟩, []⟩, true) := by rw [← HR.out]; unfold foldS; rw [if_neg (by omega), if_neg (by omega), if_pos ⟨by omega, by omega, by omega, by omega⟩, foldV]; rw [if_neg (by omega)]; rw [if_neg (by omega)]; rw [if_neg (by omega)]; rw [if_neg (by omega)]; rw [if_pos (Or.inr hop)]; rw [← ev]; rfl
        subst hr
        have HK := Lib.hid hk
        clear hk HR hop
        clear ev
        go_wp2_with fail
        refine (HK.out _).mono ?_
        rintro e w9 ⟨rfl, ew9⟩
        have H9 := Lib.hid (HI5.out.below (W' := w9) (by rw [ew9]; exact below_alloc (Below.refl _ _) _))
        clear ew9 t6 t7 t8 t9 t10 t20 t21 t14 t11 t17
        obtain ⟨q0, q1, q2, q3⟩ := core_cells H9.out.d.b1
        have i0 := blk_frozen H9.out.d.b1 0; have i1 := blk_frozen H9.out.d.b1 1; have i2 := blk_frozen H9.out.d.b1 2; have i3 := blk_frozen H9.out.d.b1 3
        have hs9 : w.heap.size + 1 < w9.heap.size := blk_lt H9.out.d.b1
        go_wp2
        refine bodyPost_ret (v := .tuple #[.agg #[.int .i64 2, .int .i64 v, .string ⟨#[]⟩, .slice none 0 0], .bool true]) (by simp [results, Tryz.f81, go_sem, q0, q1, q2, q3, hs9]) rfl ?_
        exact ⟨_, rfl, Kd.V_nil _ _ _ _ _, below_put4 H9.out.d.bel (by omega) _ _ _ _⟩
      have ne17 := hop
      clear hop
      by_cases hop : x.f0 = 12
      · have t6 : (x.f0 == 6) = false := beq_eq_false_iff_ne.2 (by omega)
        have t7 : (x.f0 == 7) = false := beq_eq_false_iff_ne.2 (by omega)
        have t8 : (x.f0 == 8) = false := beq_eq_false_iff_ne.2 (by omega)
        have t9 : (x.f0 == 9) = false := beq_eq_false_iff_ne.2 (by omega)
        have t10 : (x.f0 == 10) = false := beq_eq_false_iff_ne.2 (by omega)
        have t20 : (x.f0 == 20) = false := beq_eq_false_iff_ne.2 (by omega)
        have t21 : (x.f0 == 21) = false := beq_eq_false_iff_ne.2 (by omega)
        have t14 : (x.f0 == 14) = false := beq_eq_false_iff_ne.2 (by omega)
        have t11 : (x.f0 == 11) = false := beq_eq_false_iff_ne.2 (by omega)
        have t17 : (x.f0 == 17) = false := beq_eq_false_iff_ne.2 (by omega)
        have t12 : (x.f0 == 12) = true := beq_iff_eq.2 hop
        obtain ⟨v, ev⟩ : ∃ v : Int, (if (decide (a ≤ b)) = true then 1 else 0) = v := ⟨_, rfl⟩
        have hk : ∀ W, Calls Tryz.prog 135 #[.bool (decide (a ≤ b))] W fun e w' => e = .returned (.tuple #[.agg #[.int .i64 2, .int .i64 v, .string ⟨#[]⟩, .slice none 0 0], .bool true]) ∧ w' = W.alloc (.cells #[.int .i64 2, .int .i64 v, .string ⟨#[]⟩, .slice none 0 0] 24) := fun W => by rw [← ev]; exact is_is _ W
        have hr : r = (⟨2, v, ⟨#[]⟩, []⟩, true) := by rw [← HR.out]; unfold foldS; rw [if_neg (by omega), if_neg (by omega), if_pos ⟨by omega, by omega, by omega, by omega⟩, foldV]; rw [if_neg (by omega)]; rw [if_neg (by omega)]; rw [if_neg (by omega)]; rw [if_neg (by omega)]; rw [if_neg (by omega)]; rw [if_pos hop]; rw [← ev]; rfl
        subst hr
        have HK := Lib.hid hk
        clear hk HR hop
        clear ev
        go_wp2_with fail
        refine (HK.out _).mono ?_
        rintro e w9 ⟨rfl, ew9⟩
        have H9 := Lib.hid (HI5.out.below (W' := w9) (by rw [ew9]; exact below_alloc (Below.refl _ _) _))
        clear ew9 t6 t7 t8 t9 t10 t20 t21 t14 t11 t17 t12
        obtain ⟨q0, q1, q2, q3⟩ := core_cells H9.out.d.b1
        have i0 := blk_frozen H9.out.d.b1 0; have i1 := blk_frozen H9.out.d.b1 1; have i2 := blk_frozen H9.out.d.b1 2; have i3 := blk_frozen H9.out.d.b1 3
        have hs9 : w.heap.size + 1 < w9.heap.size := blk_lt H9.out.d.b1
        go_wp2
        refine bodyPost_ret (v := .tuple #[.agg #[.int .i64 2, .int .i64 v, .string ⟨#[]⟩, .slice none 0 0], .bool true]) (by simp [results, Tryz.f81, go_sem, q0, q1, q2, q3, hs9]) rfl ?_
        exact ⟨_, rfl, Kd.V_nil _ _ _ _ _, below_put4 H9.out.d.bel (by omega) _ _ _ _⟩
      have ne12 := hop
      clear hop
      by_cases hop : x.f0 = 13
      · have t6 : (x.f0 == 6) = false := beq_eq_false_iff_ne.2 (by omega)
        have t7 : (x.f0 == 7) = false := beq_eq_false_iff_ne.2 (by omega)
        have t8 : (x.f0 == 8) = false := beq_eq_false_iff_ne.2 (by omega)
        have t9 : (x.f0 == 9) = false := beq_eq_false_iff_ne.2 (by omega)
        have t10 : (x.f0 == 10) = false := beq_eq_false_iff_ne.2 (by omega)
        have t20 : (x.f0 == 20) = false := beq_eq_false_iff_ne.2 (by omega)
        have t21 : (x.f0 == 21) = false := beq_eq_false_iff_ne.2 (by omega)
        have t14 : (x.f0 == 14) = false := beq_eq_false_iff_ne.2 (by omega)
        have t11 : (x.f0 == 11) = false := beq_eq_false_iff_ne.2 (by omega)
        have t17 : (x.f0 == 17) = false := beq_eq_false_iff_ne.2 (by omega)
        have t12 : (x.f0 == 12) = false := beq_eq_false_iff_ne.2 (by omega)
        have t13 : (x.f0 == 13) = true := beq_iff_eq.2 hop
        obtain ⟨v, ev⟩ : ∃ v : Int, (if (a == b) = true then 1 else 0) = v := ⟨_, rfl⟩
        have hk : ∀ W, Calls Tryz.prog 135 #[.bool (a == b)] W fun e w' => e = .returned (.tuple #[.agg #[.int .i64 2, .int .i64 v, .string ⟨#[]⟩, .slice none 0 0], .bool true]) ∧ w' = W.alloc (.cells #[.int .i64 2, .int .i64 v, .string ⟨#[]⟩, .slice none 0 0] 24) := fun W => by rw [← ev]; exact is_is _ W
        have hr : r = (⟨2, v, ⟨#[]⟩, []⟩, true) := by rw [← HR.out]; unfold foldS; rw [if_neg (by omega), if_neg (by omega), if_pos ⟨by omega, by omega, by omega, by omega⟩, foldV]; rw [if_neg (by omega)]; rw [if_neg (by omega)]; rw [if_neg (by omega)]; rw [if_neg (by omega)]; rw [if_neg (by omega)]; rw [if_neg (by omega)]; rw [if_pos hop]; rw [← ev]; rfl
        subst hr
        have HK := Lib.hid hk
        clear hk HR hop
        clear ev
        go_wp2_with fail
        refine (HK.out _).mono ?_
        rintro e w9 ⟨rfl, ew9⟩
        have H9 := Lib.hid (HI5.out.below (W' := w9) (by rw [ew9]; exact below_alloc (Below.refl _ _) _))
        clear ew9 t6 t7 t8 t9 t10 t20 t21 t14 t11 t17 t12 t13
        obtain ⟨q0, q1, q2, q3⟩ := core_cells H9.out.d.b1
        have i0 := blk_frozen H9.out.d.b1 0; have i1 := blk_frozen H9.out.d.b1 1; have i2 := blk_frozen H9.out.d.b1 2; have i3 := blk_frozen H9.out.d.b1 3
        have hs9 : w.heap.size + 1 < w9.heap.size := blk_lt H9.out.d.b1
        go_wp2
        refine bodyPost_ret (v := .tuple #[.agg #[.int .i64 2, .int .i64 v, .string ⟨#[]⟩, .slice none 0 0], .bool true]) (by simp [results, Tryz.f81, go_sem, q0, q1, q2, q3, hs9]) rfl ?_
        exact ⟨_, rfl, Kd.V_nil _ _ _ _ _, below_put4 H9.out.d.bel (by omega) _ _ _ _⟩
      have ne13 := hop
      clear hop
      by_cases hop : x.f0 = 18
      · have t6 : (x.f0 == 6) = false := beq_eq_false_iff_ne.2 (by omega)
        have t7 : (x.f0 == 7) = false := beq_eq_false_iff_ne.2 (by omega)
        have t8 : (x.f0 == 8) = false := beq_eq_false_iff_ne.2 (by omega)
        have t9 : (x.f0 == 9) = false := beq_eq_false_iff_ne.2 (by omega)
        have t10 : (x.f0 == 10) = false := beq_eq_false_iff_ne.2 (by omega)
        have t20 : (x.f0 == 20) = false := beq_eq_false_iff_ne.2 (by omega)
        have t21 : (x.f0 == 21) = false := beq_eq_false_iff_ne.2 (by omega)
        have t14 : (x.f0 == 14) = false := beq_eq_false_iff_ne.2 (by omega)
        have t11 : (x.f0 == 11) = false := beq_eq_false_iff_ne.2 (by omega)
        have t17 : (x.f0 == 17) = false := beq_eq_false_iff_ne.2 (by omega)
        have t12 : (x.f0 == 12) = false := beq_eq_false_iff_ne.2 (by omega)
        have t13 : (x.f0 == 13) = false := beq_eq_false_iff_ne.2 (by omega)
        have t18 : (x.f0 == 18) = true := beq_iff_eq.2 hop
        obtain ⟨v, ev⟩ : ∃ v : Int, Date.plus a (Int.tdiv (Num.clamp b) 1000000) = v := ⟨_, rfl⟩
        have hk : ∀ W, Calls Tryz.prog 137 #[.int .i64 v] W fun e w' => e = .returned (.tuple #[.agg #[.int .i64 3, .int .i64 v, .string ⟨#[]⟩, .slice none 0 0], .bool true]) ∧ w' = W.alloc (.cells #[.int .i64 3, .int .i64 v, .string ⟨#[]⟩, .slice none 0 0] 24) := fun W => day_is v W
        have hc0 : ∀ W, Calls Tryz.prog 143 #[.int .i64 b] W fun e w' => e = .returned (.int .i64 (Int.tdiv (Num.clamp b) 1000000)) ∧ Below W.heap.size W w' := fun W => by refine (whole_is b W).mono ?_; rintro e w' ⟨rfl, rfl⟩; exact ⟨by first | rfl | rw [ev], Below.refl _ _⟩
        have hc1 : ∀ W, Calls Tryz.prog 124 #[.int .i64 a, .int .i64 (Int.tdiv (Num.clamp b) 1000000)] W fun e w' => e = .returned (.int .i64 v) ∧ Below W.heap.size W w' := fun W => by refine (XDate.plus a _ W).mono ?_; rintro e w' ⟨rfl, rfl⟩; exact ⟨by first | rfl | rw [ev], Below.refl _ _⟩
        have hr : r = (⟨3, v, ⟨#[]⟩, []⟩, true) := by rw [← HR.out]; unfold foldS; rw [if_neg (by omega), if_neg (by omega), if_pos ⟨by omega, by omega, by omega, by omega⟩, foldV]; rw [if_neg (by omega)]; rw [if_neg (by omega)]; rw [if_neg (by omega)]; rw [if_neg (by omega)]; rw [if_neg (by omega)]; rw [if_neg (by omega)]; rw [if_neg (by omega)]; rw [if_pos hop]; rw [← ev]; rfl
        subst hr
        have HK := Lib.hid hk
        have HC0 := Lib.hid hc0
        have HC1 := Lib.hid hc1
        clear hk HR hop hc0 hc1
        clear ev
        go_wp2_with fail
        refine (HC0.out _).mono ?_
        rintro e w0_ ⟨rfl, hb0⟩
        have HJ0 := Lib.hid (HI5.out.below hb0)
        clear hb0
        go_wp2_with fail
        refine (HC1.out _).mono ?_
        rintro e w1_ ⟨rfl, hb1⟩
        have HJ1 := Lib.hid (HJ0.out.below hb1)
        clear hb1
        go_wp2_with fail
        refine (HK.out _).mono ?_
        rintro e w9 ⟨rfl, ew9⟩
        have H9 := Lib.hid (HJ1.out.below (W' := w9) (by rw [ew9]; exact below_alloc (Below.refl _ _) _))
        clear ew9 t6 t7 t8 t9 t10 t20 t21 t14 t11 t17 t12 t13 t18
        obtain ⟨q0, q1, q2, q3⟩ := core_cells H9.out.d.b1
        have i0 := blk_frozen H9.out.d.b1 0; have i1 := blk_frozen H9.out.d.b1 1; have i2 := blk_frozen H9.out.d.b1 2; have i3 := blk_frozen H9.out.d.b1 3
        have hs9 : w.heap.size + 1 < w9.heap.size := blk_lt H9.out.d.b1
        go_wp2
        refine bodyPost_ret (v := .tuple #[.agg #[.int .i64 3, .int .i64 v, .string ⟨#[]⟩, .slice none 0 0], .bool true]) (by simp [results, Tryz.f81, go_sem, q0, q1, q2, q3, hs9]) rfl ?_
        exact ⟨_, rfl, Kd.V_nil _ _ _ _ _, below_put4 H9.out.d.bel (by omega) _ _ _ _⟩
      have ne18 := hop
      clear hop
      by_cases hop : x.f0 = 19
      · have t6 : (x.f0 == 6) = false := beq_eq_false_iff_ne.2 (by omega)
        have t7 : (x.f0 == 7) = false := beq_eq_false_iff_ne.2 (by omega)
        have t8 : (x.f0 == 8) = false := beq_eq_false_iff_ne.2 (by omega)
        have t9 : (x.f0 == 9) = false := beq_eq_false_iff_ne.2 (by omega)
        have t10 : (x.f0 == 10) = false := beq_eq_false_iff_ne.2 (by omega)
        have t20 : (x.f0 == 20) = false := beq_eq_false_iff_ne.2 (by omega)
        have t21 : (x.f0 == 21) = false := beq_eq_false_iff_ne.2 (by omega)
        have t14 : (x.f0 == 14) = false := beq_eq_false_iff_ne.2 (by omega)
        have t11 : (x.f0 == 11) = false := beq_eq_false_iff_ne.2 (by omega)
        have t17 : (x.f0 == 17) = false := beq_eq_false_iff_ne.2 (by omega)
        have t12 : (x.f0 == 12) = false := beq_eq_false_iff_ne.2 (by omega)
        have t13 : (x.f0 == 13) = false := beq_eq_false_iff_ne.2 (by omega)
        have t18 : (x.f0 == 18) = false := beq_eq_false_iff_ne.2 (by omega)
        have t19 : (x.f0 == 19) = true := beq_iff_eq.2 hop
        obtain ⟨v, ev⟩ : ∃ v : Int, Date.monthsOf (ymd a).y (ymd a).m (ymd a).d (Int.tdiv (Num.clamp b) 1000000) = v := ⟨_, rfl⟩
        have hk : ∀ W, Calls Tryz.prog 137 #[.int .i64 v] W fun e w' => e = .returned (.tuple #[.agg #[.int .i64 3, .int .i64 v, .string ⟨#[]⟩, .slice none 0 0], .bool true]) ∧ w' = W.alloc (.cells #[.int .i64 3, .int .i64 v, .string ⟨#[]⟩, .slice none 0 0] 24) := fun W => day_is v W
        have hc0 : ∀ W, Calls Tryz.prog 143 #[.int .i64 b] W fun e w' => e = .returned (.int .i64 (Int.tdiv (Num.clamp b) 1000000)) ∧ Below W.heap.size W w' := fun W => by refine (whole_is b W).mono ?_; rintro e w' ⟨rfl, rfl⟩; exact ⟨by first | rfl | rw [ev], Below.refl _ _⟩
        have hc1 : ∀ W, Calls Tryz.prog 144 #[.int .i64 a, .int .i64 (Int.tdiv (Num.clamp b) 1000000)] W fun e w' => e = .returned (.int .i64 v) ∧ Below W.heap.size W w' := fun W => by refine (XDate.months a _ _ _ _ (ymd_valid a) (ymd_num a) W).mono ?_; rintro e w' ⟨rfl, h⟩; exact ⟨by first | rfl | rw [ev], h⟩
        have hr : r = (⟨3, v, ⟨#[]⟩, []⟩, true) := by rw [← HR.out]; unfold foldS; rw [if_neg (by omega), if_neg (by omega), if_pos ⟨by omega, by omega, by omega, by omega⟩, foldV]; rw [if_neg (by omega)]; rw [if_neg (by omega)]; rw [if_neg (by omega)]; rw [if_neg (by omega)]; rw [if_neg (by omega)]; rw [if_neg (by omega)]; rw [if_neg (by omega)]; rw [if_neg (by omega)]; rw [if_pos hop]; rw [← ev]; rfl
        subst hr
        have HK := Lib.hid hk
        have HC0 := Lib.hid hc0
        have HC1 := Lib.hid hc1
        clear hk HR hop hc0 hc1
        clear ev
        go_wp2_with fail
        refine (HC0.out _).mono ?_
        rintro e w0_ ⟨rfl, hb0⟩
        have HJ0 := Lib.hid (HI5.out.below hb0)
        clear hb0
        go_wp2_with fail
        refine (HC1.out _).mono ?_
        rintro e w1_ ⟨rfl, hb1⟩
        have HJ1 := Lib.hid (HJ0.out.below hb1)
        clear hb1
        go_wp2_with fail
        refine (HK.out _).mono ?_
        rintro e w9 ⟨rfl, ew9⟩
        have H9 := Lib.hid (HJ1.out.below (W' := w9) (by rw [ew9]; exact below_alloc (Below.refl _ _) _))
        clear ew9 t6 t7 t8 t9 t10 t20 t21 t14 t11 t17 t12 t13 t18 t19
        obtain ⟨q0, q1, q2, q3⟩ := core_cells H9.out.d.b1
        have i0 := blk_frozen H9.out.d.b1 0; have i1 := blk_frozen H9.out.d.b1 1; have i2 := blk_frozen H9.out.d.b1 2; have i3 := blk_frozen H9.out.d.b1 3
        have hs9 : w.heap.size + 1 < w9.heap.size := blk_lt H9.out.d.b1
        go_wp2
        refine bodyPost_ret (v := .tuple #[.agg #[.int .i64 3, .int .i64 v, .string ⟨#[]⟩, .slice none 0 0], .bool true]) (by simp [results, Tryz.f81, go_sem, q0, q1, q2, q3, hs9]) rfl ?_
        exact ⟨_, rfl, Kd.V_nil _ _ _ _ _, below_put4 H9.out.d.bel (by omega) _ _ _ _⟩
      have ne19 := hop
      clear hop
      have t6 : (x.f0 == 6) = false := beq_eq_false_iff_ne.2 (by omega)
      have t7 : (x.f0 == 7) = false := beq_eq_false_iff_ne.2 (by omega)
      have t8 : (x.f0 == 8) = false := beq_eq_false_iff_ne.2 (by omega)
      have t9 : (x.f0 == 9) = false := beq_eq_false_iff_ne.2 (by omega)
      have t10 : (x.f0 == 10) = false := beq_eq_false_iff_ne.2 (by omega)
      have t20 : (x.f0 == 20) = false := beq_eq_false_iff_ne.2 (by omega)
      have t21 : (x.f0 == 21) = false := beq_eq_false_iff_ne.2 (by omega)
      have t14 : (x.f0 == 14) = false := beq_eq_false_iff_ne.2 (by omega)
      have t11 : (x.f0 == 11) = false := beq_eq_false_iff_ne.2 (by omega)
      have t17 : (x.f0 == 17) = false := beq_eq_false_iff_ne.2 (by omega)
      have t12 : (x.f0 == 12) = false := beq_eq_false_iff_ne.2 (by omega)
      have t13 : (x.f0 == 13) = false := beq_eq_false_iff_ne.2 (by omega)
      have t18 : (x.f0 == 18) = false := beq_eq_false_iff_ne.2 (by omega)
      have t19 : (x.f0 == 19) = false := beq_eq_false_iff_ne.2 (by omega)
      have hr : r = (x, false) := by rw [← HR.out]; unfold foldS; rw [if_neg (by omega), if_neg (by omega), if_neg (fun h => by omega)]
      subst hr
      have H9 := HI5
      clear HR ne6 ne7 ne8 ne9 ne10 ne20 ne21 ne14 ne11 ne17 ne12 ne13 ne18 ne19
      obtain ⟨q0, q1, q2, q3⟩ := core_cells H9.out.d.b1
      have i0 := blk_frozen H9.out.d.b1 0; have i1 := blk_frozen H9.out.d.b1 1; have i2 := blk_frozen H9.out.d.b1 2; have i3 := blk_frozen H9.out.d.b1 3
      have hs9 : w.heap.size + 1 < w5.heap.size := blk_lt H9.out.d.b1
      go_wp2
      refine bodyPost_ret (v := .tuple #[.agg #[.int .i64 x.f0, .int .i64 x.f1, .string x.f2, .slice A x.f3.length c], .bool false]) (by simp [results, Tryz.f81, go_sem, q0, q1, q2, q3, hs9]) rfl ?_
      exact ⟨_, rfl, Kd.V_mono (V_put4 (Kd.V_step (Kd.V_bound HV.out) (fun k hk _ => H9.out.d.bel.block k hk.2)) (fun k hk => by have := hk.2; omega) _ _ _ _) (fun k hk => .inl hk.1), below_put4 H9.out.d.bel (by omega) _ _ _ _⟩
end Go.Proofs.YtniajhmbdbgmgaaGreatDoor.Q

/- The rules of layer 16, each as what it owes. -/
namespace Go.Proofs.YtniajhmbdbgmgaaGreatDoor.Q
open Go Go.RowKit Go.Proofs Go.Proofs.YtniajhmbdbgmgaaGreatDoor Go.Shelf Go.Proofs.YtniajhmbdbgmgaaGreatDoorW.PrintWords Go.Proofs.YtniajhmbdbgmgaaGreatDoorW.PrintLast Go.Proofs.YtniajhmbdbgmgaaGreatDoorW.PrintMore

theorem idle_ru : Ru 83 idleF := by
  intro x y ok P A c w hV h
  unfold idleF at h
  split at h
  case h_1 a b hl => exact idle_is x a b y ok hl P A c w hV (Option.some.inj h)
  case h_2 hno =>
    simp only [Option.some.injEq, Prod.mk.injEq] at h
    obtain ⟨rfl, rfl⟩ := h
    refine idle_else x (fun hlen => ?_) P A c w hV
    match hl : x.f3 with
    | [a, b] => exact hno a b hl
    | [] => rw [hl] at hlen; cases hlen
    | [_] => rw [hl] at hlen; cases hlen
    | _ :: _ :: _ :: _ => rw [hl] at hlen; simp at hlen
theorem fold_ru : Ru 81 (foldC ymd) := by
  intro x y ok P A c w hV h
  have hx : foldX x = (y, ok) := by
    unfold foldC at h
    by_cases hc : 6 ≤ x.f0 ∧ x.f0 ≤ 21 ∧ x.f0 ≠ 15 ∧ x.f0 ≠ 16
    · rw [if_pos hc] at h
      by_cases hu : x.f0 = 6 ∨ x.f0 = 14
      · rw [if_pos hu] at h
        match hl : x.f3, h with
        | [a], h =>
          have h := Option.some.inj h
          unfold foldX
          rw [hl]
          by_cases hk : constT a = true
          · rw [if_pos hk] at h
            rw [if_pos ⟨by simp, by simp [hk]⟩, ← h]
            unfold foldS
            rcases hu with hu | hu
            · rw [if_pos hu, if_pos hu]; rfl
            · rw [if_neg (by omega), if_pos hu, if_neg (by omega)]; rfl
          · rw [if_neg hk] at h
            rw [if_neg (fun hn => hk (by simpa using hn.2)), h]
      · rw [if_neg hu] at h
        match hl : x.f3, h with
        | [a, b], h =>
          have h := Option.some.inj h
          unfold foldX
          rw [hl]
          by_cases hk : constT a = true ∧ constT b = true
          · rw [if_pos hk] at h
            rw [if_pos ⟨by simp, by simp [hk]⟩, ← h]
            unfold foldS
            rw [if_neg (fun h => hu (.inl h)), if_neg (fun h => hu (.inr h)), if_pos hc]
            rfl
          · rw [if_neg hk] at h
            rw [if_neg (fun hn => hk (by simpa using hn.2)), h]
    · rw [if_neg hc] at h
      have h := Option.some.inj h
      unfold foldX foldS
      rw [if_neg (show ¬ x.f0 = 6 by omega), if_neg (show ¬ x.f0 = 14 by omega), if_neg hc, h]
      split <;> rfl
  have := fold_is x P A c w hV
  rw [hx] at this
  exact this
end Go.Proofs.YtniajhmbdbgmgaaGreatDoor.Q

/- The rules of layer 16: the list that opt.rules makes. -/
namespace Go.Proofs.YtniajhmbdbgmgaaGreatDoor.Q
open Go Go.RowKit Go.Proofs Go.Proofs.YtniajhmbdbgmgaaGreatDoor Go.Shelf Go.Proofs.YtniajhmbdbgmgaaGreatDoorW.PrintWords Go.Proofs.YtniajhmbdbgmgaaGreatDoorW.PrintLast Go.Proofs.YtniajhmbdbgmgaaGreatDoorW.PrintMore

noncomputable def ruleM : List RuleM := [⟨1, 81, foldC ymd⟩, ⟨2, 82, twiceC⟩, ⟨2, 83, idleF⟩, ⟨2, 84, settledC⟩, ⟨2, 85, laterC⟩, ⟨4, 86, chosenC⟩, ⟨4, 87, neverC⟩]
theorem rules_ok : ∀ r ∈ ruleM, Ent r.f ∧ Ru r.f r.g := by
  intro r hr
  simp only [ruleM, List.mem_cons, List.not_mem_nil, or_false] at hr
  rcases hr with rfl | rfl | rfl | rfl | rfl | rfl | rfl
  · exact ⟨enters_ Tryz.func81 (by kernel_rfl) rfl, fold_ru⟩
  · exact ⟨enters_ Tryz.func82 (by kernel_rfl) rfl, twice_ru⟩
  · exact ⟨enters_ Tryz.func83 (by kernel_rfl) rfl, idle_ru⟩
  · exact ⟨enters_ Tryz.func84 (by kernel_rfl) rfl, settled_ru⟩
  · exact ⟨enters_ Tryz.func85 (by kernel_rfl) rfl, later_ru⟩
  · exact ⟨enters_ Tryz.func86 (by kernel_rfl) rfl, chosen_ru⟩
  · exact ⟨enters_ Tryz.func87 (by kernel_rfl) rfl, never_ru⟩
def ruleCells : Array Value := #[.int .i64 1, .func (.func 81) #[] #[], .int .i64 2, .func (.func 82) #[] #[], .int .i64 2, .func (.func 83) #[] #[], .int .i64 2, .func (.func 84) #[] #[], .int .i64 2, .func (.func 85) #[] #[], .int .i64 4, .func (.func 86) #[] #[], .int .i64 4, .func (.func 87) #[] #[]]
theorem rules_is (w : World) : Calls Tryz.prog 37 #[] w fun e w' => e = .returned (.slice (some ⟨w.heap.size, 0, none⟩) 7 7) ∧ w' = w.alloc (.cells ruleCells 149) := by
  go_enter Tryz.func37, Tryz.ntmps37
  go_wp2
  go_ret
  exact ⟨rfl, rfl⟩
theorem rules_at (w : World) : RulesAt (w.alloc (.cells ruleCells 149)) w.heap.size ruleM := by
  refine ⟨by simp, fun j r hj => ?_⟩
  have hb := World.alloc_heap_new w (.cells ruleCells 149)
  rw [blk_cell hb, blk_cell hb]
  match j, hj with
  | 0, hj => cases hj; exact ⟨rfl, rfl⟩
  | 1, hj => cases hj; exact ⟨rfl, rfl⟩
  | 2, hj => cases hj; exact ⟨rfl, rfl⟩
  | 3, hj => cases hj; exact ⟨rfl, rfl⟩
  | 4, hj => cases hj; exact ⟨rfl, rfl⟩
  | 5, hj => cases hj; exact ⟨rfl, rfl⟩
  | 6, hj => cases hj; exact ⟨rfl, rfl⟩
  | j + 7, hj => simp [ruleM] at hj
end Go.Proofs.YtniajhmbdbgmgaaGreatDoor.Q

/- opt.Do: the passes over a contract; what it answers in the print's form. -/
namespace Go.Proofs.YtniajhmbdbgmgaaGreatDoor.Q
open Go Go.RowKit Go.Proofs Go.Proofs.YtniajhmbdbgmgaaGreatDoor Go.Shelf Go.Proofs.YtniajhmbdbgmgaaGreatDoorW.PrintWords Go.Proofs.YtniajhmbdbgmgaaGreatDoorW.PrintLast Go.Proofs.YtniajhmbdbgmgaaGreatDoorW.PrintMore
set_option linter.unusedSimpArgs false
attribute [local go_sem] World.cell?_alloc_lt

theorem loop_mono (L : List (Int × Rule)) (passes : Int) : ∀ (k : Nat) (x : Core), LeO (loopF band L passes k x) (loopF band L passes (k + 1) x) := by
  intro k
  induction k with
  | zero => intro x; exact LeO.none _
  | succ k ih =>
    intro x
    rw [loopF, loopF]
    exact LeO.ite (LeO.refl _) (LeO.bind (LeO.refl _) (fun y => LeO.ite (ih y.1) (LeO.refl _)))
theorem mapM_mono {f g : Core → Option Core} (h : ∀ x, LeO (f x) (g x)) : ∀ l : List Core, LeO (l.mapM f) (l.mapM g)
  | [] => by simp only [List.mapM_nil]; exact LeO.refl _
  | x :: l => by
    rw [List.mapM_cons, List.mapM_cons]
    exact LeO.bind (h x) (fun y => LeO.bind (mapM_mono h l) (fun _ => LeO.refl _))
theorem rewrite_mono (L : List (Int × Rule)) (passes : Int) : ∀ (k : Nat) (x : Core), LeO (rewriteF band L passes k x) (rewriteF band L passes (k + 1) x) := by
  intro k
  induction k with
  | zero => intro x; exact LeO.none _
  | succ k ih =>
    intro x
    rw [rewriteF, rewriteF]
    exact LeO.ite (LeO.bind (mapM_mono ih _) (fun l => loop_mono L passes k _)) (LeO.refl _)

noncomputable def opt_Do.f (k : Nat) (a b : Int) (c : ByteArray) (l : List Core) (passes : Int) : Option (Int × Int × ByteArray × List Core × Int) :=
  (causal_Check.f k a b c l).bind fun e => if e = 0 ∧ 0 ≤ passes ∧ passes ≤ 15 then (rewriteF band (ruleC ymd) passes k ⟨a, b, c, l⟩).map fun y => (y.f0, y.f1, y.f2, y.f3, 0) else some (0, 0, ⟨#[]⟩, [], 160)
set_option maxRecDepth 100000 in
set_option maxHeartbeats 4000000 in
theorem do_is (k : Nat) (x : Core) (passes : Int) (P : Nat → Prop) (A : Option Addr) (c : Nat) (w : World) (e : Int) (r : Core × Int) (hV : Kd.V k24 24 w w.heap.size P (.slice A x.f3.length c) x.f3)
    (hC : ∀ W, Below w.heap.size w W → Calls Tryz.prog 35 #[.agg #[.int .i64 x.f0, .int .i64 x.f1, .string x.f2, .slice A x.f3.length c]] W fun q W' => q = .returned (.int .i64 e) ∧ Below W.heap.size W W')
    (h : (if e = 0 ∧ 0 ≤ passes ∧ passes ≤ 15 then (rewriteF band (ruleC ymd) passes k x).map fun y => (y, (0 : Int)) else some (⟨0, 0, ⟨#[]⟩, []⟩, 160)) = some r) :
    Calls Tryz.prog 11 #[.agg #[.int .i64 x.f0, .int .i64 x.f1, .string x.f2, .slice A x.f3.length c], .int .i64 passes] w fun q w' =>
      ∃ v : Value, q = .returned (.tuple #[.agg #[.int .i64 r.1.f0, .int .i64 r.1.f1, .string r.1.f2, v], .int .i64 r.2]) ∧ Kd.V k24 24 w' w.heap.size (fun k => P k ∨ w.heap.size ≤ k) v r.1.f3 ∧ Below w.heap.size w w' := by
  obtain ⟨w2, ew2⟩ : ∃ w2, ((w.alloc (.cells #[.int .i64 x.f0, .int .i64 x.f1, .string x.f2, .slice A x.f3.length c] 24)).alloc (.cells #[.int .i64 0, .int .i64 0, .string ⟨#[]⟩, .slice none 0 0] 24)) = w2 := ⟨_, rfl⟩
  have hD2 : DInv w A c x w2 := by
    rw [← ew2]
    refine ⟨below_alloc (below_alloc (Below.refl _ _) _) _, (Below.heap_alloc _ _ _ (by simp)).trans (World.alloc_heap_new w _), ?_⟩
    rw [← World.size_alloc]; exact World.alloc_heap_new _ _
  obtain ⟨d0, d1, d2, d3⟩ := core_cells hD2.b0
  have hcall := hC w2 hD2.bel
  have HC := Lib.hid hcall; have HV := Lib.hid hV; have H := Lib.hid h; have HD2 := Lib.hid hD2
  clear hC hcall hV h hD2
  go_enter Tryz.func11, Tryz.ntmps11
  go_wp2_with fail
  clear ew2 d0 d1 d2 d3
  refine HC.out.mono ?_
  rintro q w3 ⟨rfl, hb3⟩
  have HD := Lib.hid (HD2.out.below hb3)
  clear hb3
  obtain ⟨d0, d1, d2, d3⟩ := core_cells HD.out.b0
  obtain ⟨f0, f1, f2, f3⟩ := core_cells HD.out.b1
  have i0 := blk_frozen HD.out.b1 0; have i1 := blk_frozen HD.out.b1 1; have i2 := blk_frozen HD.out.b1 2; have i3 := blk_frozen HD.out.b1 3
  have hs3 : w.heap.size + 1 < w3.heap.size := blk_lt HD.out.b1
  by_cases he : e = 0
  case neg =>
    have t1 : (e != 0) = true := bne_iff_ne.2 he
    have hr := H.out
    rw [if_neg (fun h => he h.1)] at hr
    have hr := (Option.some.inj hr).symm
    subst hr
    clear H
    go_wp2
    refine bodyPost_ret (v := .tuple #[.agg #[.int .i64 0, .int .i64 0, .string ⟨#[]⟩, .slice none 0 0], .int .i64 160]) (by simp [results, Tryz.f11, go_sem, f0, f1, f2, f3, hs3]) rfl ?_
    exact ⟨_, rfl, Kd.V_nil _ _ _ _ _, below_put4 HD.out.bel (by omega) _ _ _ _⟩
  have t1 : (e != 0) = false := bne_eq_false_iff_eq.2 he
  by_cases hp : passes < 0
  · have t2 : decide (passes < 0) = true := decide_eq_true hp
    have hr := H.out
    rw [if_neg (fun h => by omega)] at hr
    have hr := (Option.some.inj hr).symm
    subst hr
    clear H
    go_wp2
    refine bodyPost_ret (v := .tuple #[.agg #[.int .i64 0, .int .i64 0, .string ⟨#[]⟩, .slice none 0 0], .int .i64 160]) (by simp [results, Tryz.f11, go_sem, f0, f1, f2, f3, hs3]) rfl ?_
    exact ⟨_, rfl, Kd.V_nil _ _ _ _ _, below_put4 HD.out.bel (by omega) _ _ _ _⟩
  have t2 : decide (passes < 0) = false := decide_eq_false hp
  by_cases hq : 15 < passes
  · have t3 : decide (15 < passes) = true := decide_eq_true hq
    have hr := H.out
    rw [if_neg (fun h => by omega)] at hr
    have hr := (Option.some.inj hr).symm
    subst hr
    clear H
    go_wp2
    refine bodyPost_ret (v := .tuple #[.agg #[.int .i64 0, .int .i64 0, .string ⟨#[]⟩, .slice none 0 0], .int .i64 160]) (by simp [results, Tryz.f11, go_sem, f0, f1, f2, f3, hs3]) rfl ?_
    exact ⟨_, rfl, Kd.V_nil _ _ _ _ _, below_put4 HD.out.bel (by omega) _ _ _ _⟩
  have t3 : decide (15 < passes) = false := decide_eq_false hq
  have hr := H.out
  rw [if_pos ⟨he, by omega, by omega⟩] at hr
  obtain ⟨z, hz, hr⟩ := Option.map_eq_some_iff.1 hr
  subst hr
  have hz := Lib.hid hz
  clear H f0 f1 f2 f3 i0 i1 i2 i3 he hp hq
  go_wp2
  clear t1 t2 t3 d0 d1 d2 d3
  refine start_ (n := 6) (S := fun w' => w'.cell? ⟨w.heap.size, 0, none⟩ = some (.int .i64 x.f0) ∧ w'.cell? ⟨w.heap.size, 1, none⟩ = some (.int .i64 x.f1) ∧ w'.cell? ⟨w.heap.size, 2, none⟩ = some (.string x.f2) ∧ w'.cell? ⟨w.heap.size, 3, none⟩ = some (.slice A x.f3.length c)) (ds := [4]) (bm 6 0) (by kernel_rfl) rfl (by kernel_rfl) (core_cells (blk_drew HD.out.b0)) (fun hHeld => ?_)
  have HE := Lib.hid HD.out.drew
  generalize w3.drew = w4 at HE hHeld ⊢
  refine take_ (i := 0) (N := some 18) (v := ?_) (a' := ?_) (bm 6 1) rfl rfl (by kernel_rfl) (fun _ _ _ h => h) (Or.inl ⟨by rfl, ?_⟩) hHeld ?_ ?_
  rotate_left
  · rintro w' ⟨s0, s1, s2, s3⟩
    go_simp
    with_reducible rfl
  rotate_left
  · simp only [Act.put, List.setIfInBounds_toArray, List.set_cons_zero, List.set_cons_succ, i64_w, i32_w]
    rfl
  refine pure_ (i := 1) (N := some 19) (v := ?_) (a' := ?_) (bm 6 3) rfl rfl (by kernel_rfl) (fun _ _ _ h => h) (Or.inl ⟨by rfl, ?_⟩) ?_ ?_
  rotate_left
  · intro w'
    go_simp
    with_reducible rfl
  rotate_left
  · simp only [Act.put, List.setIfInBounds_toArray, List.set_cons_zero, List.set_cons_succ, i64_w, i32_w]
    rfl
  refine one_ (i := 2) (N := some 20) (bm 6 7) rfl rfl (by kernel_rfl) (by decide) (fun K hK => ?_)
  refine goes_ Tryz.func37 (by kernel_rfl) rfl #[] (by rfl) rfl rfl (by (try simp only [List.map_toArray, List.map_cons, List.map_nil]); first | done | rfl) ?_
  refine (rules_is w4).mono ?_
  rintro e w5 ⟨rfl, hw5⟩
  refine ⟨_, rfl, ?_⟩
  have hr5 := rules_at w4
  rw [← hw5] at hr5
  have hb5 : Below w4.heap.size w4 w5 := by rw [hw5]; exact below_alloc (Below.refl _ _) _
  have HD5 := Lib.hid (HE.out.below hb5)
  have HR5 := Lib.hid hr5
  obtain ⟨Br, eBr⟩ : ∃ Br, w4.heap.size = Br := ⟨_, rfl⟩
  rw [eBr] at HR5 ⊢
  clear hr5 hb5 hw5
  refine hK.out _ _ (core_cells HD5.out.b0) (fun hHeld => ?_)
  clear hK K
  refine norm_ (a' := ?_) ?_ ?_
  rotate_left
  · show Act.put _ (some 20) _ = _
    simp only [Act.put, List.setIfInBounds_toArray, List.set_cons_zero, List.set_cons_succ, i64_w, i32_w]
    rfl
  refine one_ (i := 3) (N := some 21) (bm 6 15) rfl rfl (by kernel_rfl) (by decide) (fun K hK => ?_)
  refine goes_ Tryz.func36 (by kernel_rfl) rfl #[.agg #[.int .i64 x.f0, .int .i64 x.f1, .string x.f2, .slice A x.f3.length c], .int .i64 passes, .slice (some ⟨Br, 0, none⟩) 7 7] (by rfl) rfl rfl (by (try simp only [List.map_toArray, List.map_cons, List.map_nil]); first | done | rfl) ?_
  refine (rewrite_is ruleM rules_ok (by decide) Br 7 passes k x z (fun k => P k ∧ k < w.heap.size) A c w5 HR5.out (Kd.V_step (Kd.V_bound HV.out) (fun k hk _ => HD5.out.bel.block k hk.2)) hz.out).mono ?_
  rintro e w6 ⟨v6, rfl, hv6, hb6⟩
  refine ⟨_, rfl, ?_⟩
  obtain ⟨A6, c6, rfl⟩ := Kd.V_slice hv6
  have HD6 := Lib.hid (HD5.out.below hb6)
  have HV6 := Lib.hid hv6
  clear hv6 hb6
  refine hK.out _ _ (core_cells HD6.out.b0) (fun hHeld => ?_)
  clear hK K
  refine norm_ (a' := ?_) ?_ ?_
  rotate_left
  · show Act.put _ (some 21) _ = _
    simp only [Act.put, List.setIfInBounds_toArray, List.set_cons_zero, List.set_cons_succ, i64_w, i32_w]
    rfl
  obtain ⟨f0, f1, f2, f3⟩ := core_cells HD6.out.b1
  have i0 := blk_frozen HD6.out.b1 0; have i1 := blk_frozen HD6.out.b1 1; have i2 := blk_frozen HD6.out.b1 2; have i3 := blk_frozen HD6.out.b1 3
  have hs6 : w.heap.size + 1 < w6.heap.size := blk_lt HD6.out.b1
  refine last_ (i := 4) (N := none) (bm 6 31) rfl rfl (by kernel_rfl) (by decide) (fun K hK => ?_)
  refine skip_ (w1 := ?_) (by rfl) rfl ?_ ?_
  rotate_left
  · go_simp
    rfl
  refine hK.out _ _ ?_
  clear hK K
  refine pure_ (i := 5) (N := some 5) (v := ?_) (a' := ?_) (bm 6 63) rfl rfl (by kernel_rfl) (fun _ _ _ h => h) (Or.inl ⟨by rfl, ?_⟩) ?_ ?_
  rotate_left
  · intro w'
    go_simp
    with_reducible rfl
  rotate_left
  · simp only [Act.put, List.setIfInBounds_toArray, List.set_cons_zero, List.set_cons_succ, i64_w, i32_w]
    rfl
  refine done_ (by kernel_rfl) ?_

  go_wp2
  refine bodyPost_ret (v := .tuple #[.agg #[.int .i64 z.f0, .int .i64 z.f1, .string z.f2, .slice A6 z.f3.length c6], .int .i64 0]) (by simp [results, Tryz.f11, go_sem, f0, f1, f2, f3, hs6]) rfl ?_
  have hle := HD5.out.bel.size
  have hlt5 := blk_lt HD5.out.b1
  refine ⟨_, rfl, Kd.V_mono (V_put4 HV6.out (fun k hk => ?_) _ _ _ _) (fun k hk => ?_), below_put4 HD6.out.bel (by omega) _ _ _ _⟩
  · rcases hk with hk | hk <;> omega
  · rcases hk with hk | hk
    · exact .inl hk.1
    · exact .inr (by omega)

theorem opt_Do.calls (k : Nat) (a0_0 : Int) (a0_1 : Int) (a0_2 : ByteArray) (P0_3_ : Nat → Prop) (A0_3 : Option Addr) (c0_3 : Nat) (l0_3 : List Core) (a1 : Int) (r1 : Int) (r2 : Int) (r3 : ByteArray) (r4 : List Core) (r5 : Int) (w : World)
    (hs0_3 : Kd.V k24 24 w w.heap.size (fun k_ => P0_3_ k_) (.slice A0_3 l0_3.length c0_3) l0_3) (h : opt_Do.f k a0_0 a0_1 a0_2 l0_3 a1 = some (r1, r2, r3, r4, r5)) :
    Calls Tryz.prog 11 #[.agg #[.int .i64 a0_0, .int .i64 a0_1, .string a0_2, .slice A0_3 l0_3.length c0_3], .int .i64 a1] w fun e w' =>
      ∃ v3_ : Value, e = .returned (.tuple #[.agg #[.int .i64 r1, .int .i64 r2, .string r3, v3_], .int .i64 r5]) ∧ Kd.V k24 24 w' w.heap.size (fun k_ => (P0_3_ k_ ∨ w.heap.size ≤ k_)) v3_ r4 ∧ Below w.heap.size w w' := by
  unfold opt_Do.f at h
  obtain ⟨e, he, h⟩ := Option.bind_eq_some_iff.1 h
  have hF := (Kd.V_at hs0_3).2.2
  refine do_is k ⟨a0_0, a0_1, a0_2, l0_3⟩ a1 P0_3_ A0_3 c0_3 w e (⟨r1, r2, r3, r4⟩, r5) hs0_3 (fun W hW => causal_Check.calls k a0_0 a0_1 a0_2 A0_3 c0_3 l0_3 e W (Kd.F_now (Kd.F_below hF hW)) (Kd.V_at hs0_3).2.1 he) ?_
  by_cases hc : e = 0 ∧ 0 ≤ a1 ∧ a1 ≤ 15
  · rw [if_pos hc] at h ⊢
    obtain ⟨y, hy, h⟩ := Option.map_eq_some_iff.1 h
    rw [hy]
    simp only [Prod.mk.injEq] at h
    obtain ⟨rfl, rfl, rfl, rfl, rfl⟩ := h
    simp only [Option.map_some]
    rw [core_eta]
  · rw [if_neg hc] at h ⊢
    simp only [Option.some.injEq, Prod.mk.injEq] at h
    obtain ⟨rfl, rfl, rfl, rfl, rfl⟩ := h
    rfl
end Go.Proofs.YtniajhmbdbgmgaaGreatDoor.Q


/- The probe of layer 16: what its own code does with what opt.Do answers. -/
namespace Go.Proofs.YtniajhmbdbgmgaaGreatDoor.Q
open Go Go.RowKit Go.Proofs Go.Proofs.YtniajhmbdbgmgaaGreatDoor Go.Shelf Go.Proofs.YtniajhmbdbgmgaaGreatDoorW.PrintWords Go.Proofs.YtniajhmbdbgmgaaGreatDoorW.PrintLast Go.Proofs.YtniajhmbdbgmgaaGreatDoorW.PrintMore
set_option linter.unusedSimpArgs false
attribute [local go_sem] World.cell?_alloc_lt

set_option maxRecDepth 100000 in
set_option maxHeartbeats 4000000 in
theorem shown_walk (w : World) (hcall : ∀ W : World, W.heap[w.heap.size]? = some (.cells #[.int .i64 1, .int .i64 400000, .string ⟨#[]⟩, .slice none 0 0, .int .i64 1, .int .i64 600000, .string ⟨#[]⟩, .slice none 0 0] 24 (0, 0)) →
      W.heap[w.heap.size + 1]? = some (.cells #[.int .i64 7, .int .i64 0, .string ⟨#[]⟩, .slice (some ⟨w.heap.size, 0, none⟩) 2 2, .int .i64 24, .int .i64 0, .string ⟨#[69, 85, 82]⟩, .slice none 0 0] 24 (0, 0)) →
      Calls Tryz.prog 11 #[.agg #[.int .i64 26, .int .i64 0, .string ⟨#[]⟩, .slice (some ⟨w.heap.size + 1, 0, none⟩) 2 2], .int .i64 3] W fun e W' => ∃ A c, e = .returned (.tuple #[.agg #[.int .i64 24, .int .i64 0, .string ⟨#[69, 85, 82]⟩, .slice A 0 c], .int .i64 0]) ∧ Below W.heap.size W W') :
    Calls Tryz.prog 10 #[] w fun e w' => e = .returned (.bool true) ∧ Below w.heap.size w w' := by
  have HC := Lib.hid hcall
  clear hcall
  go_enter Tryz.func10, Tryz.ntmps10
  go_wp2_with fail
  refine (HC.out _ (blk_alloc (blk_alloc (blk_new w _) _) _) (blk_alloc (by rw [← World.size_alloc]; exact blk_new _ _) _)).mono ?_
  rintro q w2 ⟨A, c, rfl, hb⟩
  have HB := Lib.hid ((below_alloc (below_alloc (below_alloc (Below.refl w.heap.size w) _) _) _).trans (hb.mono (by simp only [World.size_alloc]; omega)))
  clear hb HC
  go_wp2_with fail
  exact bodyPost_ret (v := .bool true) (by simp [results, Tryz.f10, go_sem]) rfl ⟨rfl, below_alloc HB.out _⟩
end Go.Proofs.YtniajhmbdbgmgaaGreatDoor.Q

/- opt.Do in plain Lean: what it answers for right contracts, and what the probe of layer 16 comes to. -/
namespace Go.Proofs.YtniajhmbdbgmgaaGreatDoor.Q
open Go Go.RowKit Go.Proofs Go.Proofs.YtniajhmbdbgmgaaGreatDoor Go.Proofs.YtniajhmbdbgmgaaGreatDoorW.PrintWords

theorem noAhead_ok : POk NoAhead := ⟨fun n _ _ h => by have := h.1; omega, fun n _ _ h => by have := h.1; omega, fun n _ _ h => by have := h.1; omega, fun h => by have := h.1; omega⟩
theorem rules_here : ∀ r ∈ ruleC ymd, Does flT r.2 := rules_do flOk (fun a => (ymd_valid a).d1) (fun P _ n m h1 h2 => by split <;> assumption)
theorem came_right {p : Int} {x y : Core} (h : Came band (ruleC ymd) flT p x y) (hx : Right x) : Right y := by
  have := h.size; have := h.depth; have := hx.size; have := hx.depth
  exact ⟨by omega, by omega, by rw [h.ty]; exact hx.ty, h.all _ noAhead_ok hx.ahead⟩
theorem right_ty {x : Core} (h : Right x) : tyT flT x ≠ 0 := by rw [h.ty]; decide
theorem do_of (x y : Core) (p : Int) (hx : Right x) (h0 : 0 ≤ p) (h1 : p ≤ 15) (h : ∃ K, ∀ k, K ≤ k → rewriteF band (ruleC ymd) p k x = some y) :
    ∃ K, ∀ k, K ≤ k → opt_Do.f k x.f0 x.f1 x.f2 x.f3 p = some (y.f0, y.f1, y.f2, y.f3, 0) := by
  obtain ⟨e, ⟨K1, hK1⟩, he⟩ := check_is x
  obtain ⟨K2, hK2⟩ := h
  have he := he.2 hx
  subst he
  refine ⟨K1 + K2, fun k hk => ?_⟩
  unfold opt_Do.f
  rw [hK1 k (by omega), Option.bind_some, if_pos ⟨rfl, h0, h1⟩, core_eta, hK2 k (by omega)]
  rfl
theorem do_yes (x : Core) (p : Int) (hx : Right x) (h0 : 0 ≤ p) (h1 : p ≤ 15) : ∃ y, Came band (ruleC ymd) flT p x y ∧ ∃ K, ∀ k, K ≤ k → opt_Do.f k x.f0 x.f1 x.f2 x.f3 p = some (y.f0, y.f1, y.f2, y.f3, 0) := by
  obtain ⟨y, hy, h⟩ := rewrite_comes (band := band) (passes := p) rules_here x (right_ty hx)
  exact ⟨y, hy, do_of x y p hx h0 h1 h⟩
theorem do_no (x : Core) (p : Int) (h : ¬ (Right x ∧ 0 ≤ p ∧ p ≤ 15)) : ∃ K, ∀ k, K ≤ k → opt_Do.f k x.f0 x.f1 x.f2 x.f3 p = some (0, 0, ⟨#[]⟩, [], 160) := by
  obtain ⟨e, ⟨K, hK⟩, he⟩ := check_is x
  refine ⟨K, fun k hk => ?_⟩
  unfold opt_Do.f
  rw [hK k hk, Option.bind_some, if_neg (fun hn => h ⟨he.1 hn.1, hn.2⟩)]
/-! ### the probe -/
def probeX : Core := ⟨26, 0, ⟨#[]⟩, [⟨7, 0, ⟨#[]⟩, [⟨1, 400000, ⟨#[]⟩, []⟩, ⟨1, 600000, ⟨#[]⟩, []⟩]⟩, ⟨24, 0, ⟨#[69, 85, 82]⟩, []⟩]⟩
theorem probe_right : Right probeX := ⟨by decide, by decide, by kernel_rfl, by simp [probeX, allT, allL, NoAhead]⟩
theorem probe_rewrite : rewriteF band (ruleC ymd) 3 6 probeX = some ⟨24, 0, ⟨#[69, 85, 82]⟩, []⟩ := by kernel_rfl
theorem probe_do : ∃ k, opt_Do.f k 26 0 ⟨#[]⟩ probeX.f3 3 = some (24, 0, ⟨#[69, 85, 82]⟩, [], 0) := by
  obtain ⟨K, hK⟩ := do_of probeX ⟨24, 0, ⟨#[69, 85, 82]⟩, []⟩ 3 probe_right (by decide) (by decide) ⟨6, fun k hk => at_rounds (g := fun k => rewriteF band (ruleC ymd) 3 k probeX) (fun k => rewrite_mono _ _ k _) hk probe_rewrite⟩
  exact ⟨K, hK K (Nat.le_refl _)⟩

/-- The probe of layer 16 answers true. -/
theorem shown_run (w : World) : Calls Tryz.prog 10 #[] w fun e w' => e = .returned (.bool true) ∧ Below w.heap.size w w' := by
  obtain ⟨k, hk⟩ := probe_do
  refine shown_walk w (fun W h1 h2 => ?_)
  have f1 := built2 (P := fun _ => False) (a := ⟨1, 400000, ⟨#[]⟩, []⟩) (b := ⟨1, 600000, ⟨#[]⟩, []⟩) h1 (Nat.le_refl 0) (Kd.F_nil _ _ _) (Nat.le_refl 0) (Kd.F_nil _ _ _)
  have f2 := built2 (P := fun k => False ∨ k = w.heap.size) (a := ⟨7, 0, ⟨#[]⟩, [⟨1, 400000, ⟨#[]⟩, []⟩, ⟨1, 600000, ⟨#[]⟩, []⟩]⟩) (b := ⟨24, 0, ⟨#[69, 85, 82]⟩, []⟩) h2 (Nat.le_refl 2) f1 (Nat.le_refl 0) (Kd.F_nil _ _ _)
  refine (opt_Do.calls k 26 0 ⟨#[]⟩ _ (some ⟨w.heap.size + 1, 0, none⟩) 2 probeX.f3 3 24 0 ⟨#[69, 85, 82]⟩ [] 0 W (Kd.V_mk (Nat.le_refl 2) f2) hk).mono ?_
  rintro e W' ⟨v, rfl, hv, hb⟩
  obtain ⟨A, c, rfl⟩ := Kd.V_slice hv
  exact ⟨A, c, rfl, hb⟩
/-- opt.Do by rows that are only read. -/
theorem do_calls (k : Nat) (x y : Core) (e p : Int) (h : opt_Do.f k x.f0 x.f1 x.f2 x.f3 p = some (y.f0, y.f1, y.f2, y.f3, e)) (A : Option Addr) (c : Nat) (W : World) (hC : Kd.C k24 W A x.f3.length x.f3) (hl : x.f3.length ≤ c) :
    Calls Tryz.prog 11 #[.agg #[.int .i64 x.f0, .int .i64 x.f1, .string x.f2, .slice A x.f3.length c], .int .i64 p] W fun q W' =>
      ∃ B d, q = .returned (.tuple #[.agg #[.int .i64 y.f0, .int .i64 y.f1, .string y.f2, .slice B y.f3.length d], .int .i64 e]) ∧ Kd.C k24 W' B y.f3.length y.f3 ∧ y.f3.length ≤ d ∧ Below W.heap.size W W' := by
  refine (opt_Do.calls k x.f0 x.f1 x.f2 _ A c x.f3 p y.f0 y.f1 y.f2 y.f3 e W (Kd.V_mk hl (Kd.C_F k24_heap hC)) h).mono ?_
  rintro q W' ⟨v, rfl, hv, hb⟩
  obtain ⟨B, d, rfl⟩ := Kd.V_slice hv
  exact ⟨B, d, rfl, Kd.F_now (Kd.V_at hv).2.2, (Kd.V_at hv).2.1, hb⟩
end Go.Proofs.YtniajhmbdbgmgaaGreatDoor.Q

namespace Go.Proofs.YtniajhmbdbgmgaaGreatDoor.Q
open Go.RowKit Go.Proofs.YtniajhmbdbgmgaaGreatDoorW.PrintWords Go.Proofs.YtniajhmbdbgmgaaGreatDoorW.PrintLast Go.Proofs.YtniajhmbdbgmgaaGreatDoorW.PrintMore
attribute [local go_sem] max2_int min2_int max_two min_two max_three min_three max_four min_four   -- for this text's walks alone
set_option linter.unusedVariables false
set_option linter.unusedSimpArgs false

/-! ### usanceref14_ahead: function 39 -/
mutual
def usanceref14_ahead.j0 : Nat → Bool → Int → Int → ByteArray → List (S24) → Option (Bool)
  | 0, _, _, _, _, _ => none
  | k + 1, x17, x204000, x204001, x204002, x204003 => if x17 = true then (some true) else (usanceref14_ahead.l0 k 0 x204000 x204001 x204002 x204003)
def usanceref14_ahead.l0 : Nat → Int → Int → Int → ByteArray → List (S24) → Option (Bool)
  | 0, _, _, _, _, _ => none
  | k + 1, x3, x204000, x204001, x204002, x204003 => if x3 < (x204003.length : Int) then (if 0 ≤ x3 then ((usanceref14_ahead.f k ((rd_T24 x204003 x3).f0) ((rd_T24 x204003 x3).f1) ((rd_T24 x204003 x3).f2) ((rd_T24 x204003 x3).f3)).bind fun t205 => (if t205 = true then (some true) else (usanceref14_ahead.l0 k (wrap64 (x3 + 1)) x204000 x204001 x204002 x204003))) else (none)) else (some false)
def usanceref14_ahead.f : Nat → Int → Int → ByteArray → List (S24) → Option (Bool)
  | 0, _, _, _, _ => none
  | k + 1, a0_0, a0_1, a0_2, l0_3 => if a0_0 = 4 then (usanceref14_ahead.j0 k (decide (a0_1 < 0)) a0_0 a0_1 a0_2 l0_3) else (if a0_0 = 5 then (usanceref14_ahead.j0 k (decide (a0_1 < 0)) a0_0 a0_1 a0_2 l0_3) else (usanceref14_ahead.j0 k false a0_0 a0_1 a0_2 l0_3))
end
theorem usanceref14_ahead.mono_l : ∀ k, (∀ y0 y1 y2 y3, LeO (usanceref14_ahead.f k y0 y1 y2 y3) (usanceref14_ahead.f (k + 1) y0 y1 y2 y3)) ∧ (∀ y0 y1 y2 y3 y4, LeO (usanceref14_ahead.j0 k y0 y1 y2 y3 y4) (usanceref14_ahead.j0 (k + 1) y0 y1 y2 y3 y4)) ∧ (∀ y0 y1 y2 y3 y4, LeO (usanceref14_ahead.l0 k y0 y1 y2 y3 y4) (usanceref14_ahead.l0 (k + 1) y0 y1 y2 y3 y4))
  | 0 => ⟨fun _ _ _ _ r h => by simp [usanceref14_ahead.f] at h, fun _ _ _ _ _ r h => by simp [usanceref14_ahead.j0] at h, fun _ _ _ _ _ r h => by simp [usanceref14_ahead.l0] at h⟩
  | k + 1 => by
    obtain ⟨ih0, ih1, ih2⟩ := usanceref14_ahead.mono_l k
    refine ⟨?_, ?_, ?_⟩
    · intro y0 y1 y2 y3
      unfold usanceref14_ahead.f
      repeat' first
      | (with_reducible exact ih0 _ _ _ _)
      | (with_reducible exact ih1 _ _ _ _ _)
      | (with_reducible exact ih2 _ _ _ _ _)
      | (with_reducible exact LeO.refl _)
      | (with_reducible exact LeO.none _)
      | (with_reducible refine LeO.ite ?_ ?_)
      | (with_reducible refine LeO.bind ?_ (fun _ => ?_))
      | exact ih0 _ _ _ _
      | exact ih1 _ _ _ _ _
      | exact ih2 _ _ _ _ _
      | exact LeO.none _
      | refine LeO.ite ?_ ?_
      | refine LeO.bind ?_ (fun _ => ?_)
    · intro y0 y1 y2 y3 y4
      unfold usanceref14_ahead.j0
      repeat' first
      | (with_reducible exact ih0 _ _ _ _)
      | (with_reducible exact ih1 _ _ _ _ _)
      | (with_reducible exact ih2 _ _ _ _ _)
      | (with_reducible exact LeO.refl _)
      | (with_reducible exact LeO.none _)
      | (with_reducible refine LeO.ite ?_ ?_)
      | (with_reducible refine LeO.bind ?_ (fun _ => ?_))
      | exact ih0 _ _ _ _
      | exact ih1 _ _ _ _ _
      | exact ih2 _ _ _ _ _
      | exact LeO.none _
      | refine LeO.ite ?_ ?_
      | refine LeO.bind ?_ (fun _ => ?_)
    · intro y0 y1 y2 y3 y4
      unfold usanceref14_ahead.l0
      repeat' first
      | (with_reducible exact ih0 _ _ _ _)
      | (with_reducible exact ih1 _ _ _ _ _)
      | (with_reducible exact ih2 _ _ _ _ _)
      | (with_reducible exact LeO.refl _)
      | (with_reducible exact LeO.none _)
      | (with_reducible refine LeO.ite ?_ ?_)
      | (with_reducible refine LeO.bind ?_ (fun _ => ?_))
      | exact ih0 _ _ _ _
      | exact ih1 _ _ _ _ _
      | exact ih2 _ _ _ _ _
      | exact LeO.none _
      | refine LeO.ite ?_ ?_
      | refine LeO.bind ?_ (fun _ => ?_)
theorem usanceref14_ahead.mono : ∀ a0 a1 a2 a3 k, LeO (usanceref14_ahead.f k a0 a1 a2 a3) (usanceref14_ahead.f (k + 1) a0 a1 a2 a3) := by
  intro a0 a1 a2 a3 k
  obtain ⟨ih0, ih1, ih2⟩ := usanceref14_ahead.mono_l k
  exact ih0 a0 a1 a2 a3
set_option maxHeartbeats 8000000 in
set_option maxRecDepth 100000 in
theorem usanceref14_ahead.calls (k : Nat) : ∀ (a0_0 : Int) (a0_1 : Int) (a0_2 : ByteArray) (A0_3 : Option Addr) (c0_3 : Nat) (l0_3 : List (S24)) (r : Bool) (w : World) (hr0_3 : Kd.C k24 w A0_3 l0_3.length l0_3) (hc0_3 : l0_3.length ≤ c0_3) (h : usanceref14_ahead.f k a0_0 a0_1 a0_2 l0_3 = some r),
    Calls Tryz.prog 39 #[.agg #[.int .i64 a0_0, .int .i64 a0_1, .string a0_2, .slice A0_3 l0_3.length c0_3]] w fun e w' => e = .returned (.bool r) ∧ Below w.heap.size w w' := by
  induction k using Nat.strongRecOn with
  | _ k ih =>
  intro a0_0 a0_1 a0_2 A0_3 c0_3 l0_3 r w hr0_3 hc0_3 h
  cases k with
  | zero => exact absurd h (by simp [usanceref14_ahead.f])
  | succ k =>
  simp only [usanceref14_ahead.f] at h
  have hu24 := Tryz.underlying24
  have HR0_3 := Aside0.mk hr0_3
  have HC0_3 := Aside0.mk hc0_3
  clear hr0_3 hc0_3
  have HB := Aside0.mk (Below.refl w.heap.size w)
  have H : (if a0_0 = 4 then (usanceref14_ahead.j0 k (decide (a0_1 < 0)) a0_0 a0_1 a0_2 l0_3) else (if a0_0 = 5 then (usanceref14_ahead.j0 k (decide (a0_1 < 0)) a0_0 a0_1 a0_2 l0_3) else (usanceref14_ahead.j0 k false a0_0 a0_1 a0_2 l0_3))) = some r := h
  clear h
  have HC2 := Aside0.mk H
  clear H
  go_enter Tryz.func39, Tryz.ntmps39
  go_upto_region 1 with (first | ((with_reducible refine gate_dst (N := 1) rfl ?_); refine box_event ?hg (N := 1) ?hd (cs := #[.int .i64 a0_0, .int .i64 a0_1, .string a0_2, .slice A0_3 l0_3.length c0_3]) (t := 24) ?hr ?_; (case hd => rfl); (case hg => rfl); (case hr => first | (go_simp; done) | (go_simp; rfl)); intro gb203 hg w3 hbox hb; have n0_ := Aside0.mk (below_step (by repeat (first | (with_reducible first | exact HB.out | apply below_alloc | apply pw_below_drewN | apply below_drew1) | exact HB.out)) hb); have n1_ := Aside0.mk (hbox); have n2_ := Aside0.mk ((by rw [hg]; exact (below_size (by repeat (first | (with_reducible first | exact HB.out | apply below_alloc | apply pw_below_drewN | apply below_drew1) | exact HB.out))) : w.heap.size ≤ gb203)); have n3_ := Aside0.mk ((by rw [hg]; exact (below_size (by repeat (first | (with_reducible first | exact HB.out | apply below_alloc | apply pw_below_drewN | apply below_drew1) | exact HB.out))) : w.heap.size ≤ gb203)); clear HB; have HB := n0_; have BK203 := n1_; have GW203 := n2_; have GE203 := n3_; clear n0_ n1_ n2_ n3_; clear hb hbox hg))
  (try simp only [Act.put, List.setIfInBounds_toArray, List.set_cons_zero, List.set_cons_succ])
  go_cut [17] (fun v17 wc => ∃ (kq : Nat) (x17_1 : Bool), v17 = .bool x17_1 ∧ Aside0 (usanceref14_ahead.j0 kq x17_1 a0_0 a0_1 a0_2 l0_3 = some r) ∧ Aside0 (kq ≤ k) ∧ Aside0 (wc.heap[gb203]? = some (.cells #[.int .i64 a0_0, .int .i64 a0_1, .string a0_2, (.slice A0_3 l0_3.length c0_3)] 24 (0, 0))) ∧ Aside0 (Below w.heap.size w wc))
  case first =>
    have H := HC2.out
    clear HC2
    by_cases c4 : a0_0 = 4
    · rw [if_pos c4] at H
      have c4b0 : (a0_0 == 4) = true := beq_iff_eq.mpr c4
      have c4b1 : (a0_0 != 4) = false := bne_eq_false_iff_eq.mpr c4
      clear c4
      (first | rw [c4b0] | (simp only [i64_w, i32_w]; rw [c4b0]) | skip)
      have H' := Aside0.mk H
      clear H
      have hcz5_0 : w3.cell? ⟨gb203, 0, none⟩ = some (.int .i64 a0_0) := (blk_cell BK203.out 0).trans rfl
      have hcz5_1 : w3.cell? ⟨gb203, 1, none⟩ = some (.int .i64 a0_1) := (blk_cell BK203.out 1).trans rfl
      have hcz5_2 : w3.cell? ⟨gb203, 2, none⟩ = some (.string a0_2) := (blk_cell BK203.out 2).trans rfl
      have hcz5_3 : w3.cell? ⟨gb203, 3, none⟩ = some (.slice A0_3 l0_3.length c0_3) := (blk_cell BK203.out 3).trans rfl
      have hfz5_0 := blk_frozen BK203.out 0
      have hfz5_1 := blk_frozen BK203.out 1
      have hfz5_2 := blk_frozen BK203.out 2
      have hfz5_3 := blk_frozen BK203.out 3
      go_wp2
      go_meet
      case rel => exact ⟨_, (decide (a0_1 < 0)), (by first | rfl | (simp; done) | (simp [*]; done)), H', ⟨by first | omega | exact Nat.le_refl _⟩, ⟨by (with_reducible repeat (first | refine blk_drewN ?_ _ | refine blk_drew ?_ | refine blk_alloc ?_ _)); exact BK203.out⟩, ⟨by repeat (first | (with_reducible first | exact HB.out | apply below_alloc | apply pw_below_drewN | apply below_drew1 | refine below_set ?_ GE203.out) | exact HB.out)⟩⟩
    · rw [if_neg c4] at H
      have c4b0 : (a0_0 == 4) = false := beq_eq_false_iff_ne.mpr c4
      have c4b1 : (a0_0 != 4) = true := bne_iff_ne.mpr c4
      (first | rw [c4b0] | (simp only [i64_w, i32_w]; rw [c4b0]) | skip)
      by_cases c6 : a0_0 = 5
      · rw [if_pos c6] at H
        have c6b0 : (a0_0 == 5) = true := beq_iff_eq.mpr c6
        have c6b1 : (a0_0 != 5) = false := bne_eq_false_iff_eq.mpr c6
        clear c6
        have H' := Aside0.mk H
        clear H
        have hcz7_0 : w3.cell? ⟨gb203, 0, none⟩ = some (.int .i64 a0_0) := (blk_cell BK203.out 0).trans rfl
        have hcz7_1 : w3.cell? ⟨gb203, 1, none⟩ = some (.int .i64 a0_1) := (blk_cell BK203.out 1).trans rfl
        have hcz7_2 : w3.cell? ⟨gb203, 2, none⟩ = some (.string a0_2) := (blk_cell BK203.out 2).trans rfl
        have hcz7_3 : w3.cell? ⟨gb203, 3, none⟩ = some (.slice A0_3 l0_3.length c0_3) := (blk_cell BK203.out 3).trans rfl
        have hfz7_0 := blk_frozen BK203.out 0
        have hfz7_1 := blk_frozen BK203.out 1
        have hfz7_2 := blk_frozen BK203.out 2
        have hfz7_3 := blk_frozen BK203.out 3
        go_wp2
        go_meet
        case rel => exact ⟨_, (decide (a0_1 < 0)), (by first | rfl | (simp; done) | (simp [*]; done)), H', ⟨by first | omega | exact Nat.le_refl _⟩, ⟨by (with_reducible repeat (first | refine blk_drewN ?_ _ | refine blk_drew ?_ | refine blk_alloc ?_ _)); exact BK203.out⟩, ⟨by repeat (first | (with_reducible first | exact HB.out | apply below_alloc | apply pw_below_drewN | apply below_drew1 | refine below_set ?_ GE203.out) | exact HB.out)⟩⟩
      · rw [if_neg c6] at H
        have c6b0 : (a0_0 == 5) = false := beq_eq_false_iff_ne.mpr c6
        have c6b1 : (a0_0 != 5) = true := bne_iff_ne.mpr c6
        have H' := Aside0.mk H
        clear H
        have hcz8_0 : w3.cell? ⟨gb203, 0, none⟩ = some (.int .i64 a0_0) := (blk_cell BK203.out 0).trans rfl
        have hcz8_1 : w3.cell? ⟨gb203, 1, none⟩ = some (.int .i64 a0_1) := (blk_cell BK203.out 1).trans rfl
        have hcz8_2 : w3.cell? ⟨gb203, 2, none⟩ = some (.string a0_2) := (blk_cell BK203.out 2).trans rfl
        have hcz8_3 : w3.cell? ⟨gb203, 3, none⟩ = some (.slice A0_3 l0_3.length c0_3) := (blk_cell BK203.out 3).trans rfl
        have hfz8_0 := blk_frozen BK203.out 0
        have hfz8_1 := blk_frozen BK203.out 1
        have hfz8_2 := blk_frozen BK203.out 2
        have hfz8_3 := blk_frozen BK203.out 3
        go_wp2
        go_meet
        case rel => exact ⟨_, (false), (by first | rfl | (simp; done) | (simp [*]; done)), H', ⟨by first | omega | exact Nat.le_refl _⟩, ⟨by (with_reducible repeat (first | refine blk_drewN ?_ _ | refine blk_drew ?_ | refine blk_alloc ?_ _)); exact BK203.out⟩, ⟨by repeat (first | (with_reducible first | exact HB.out | apply below_alloc | apply pw_below_drewN | apply below_drew1 | refine below_set ?_ GE203.out) | exact HB.out)⟩⟩
  case rest =>
    clear HC2
    try clear p2
    try clear c3
    try clear c4
    try clear c4b0
    try clear c4b1
    try clear c6
    try clear c6b0
    try clear c6b1
    try clear hcz5_0
    try clear hcz5_1
    try clear hcz5_2
    try clear hcz5_3
    try clear hcz7_0
    try clear hcz7_1
    try clear hcz7_2
    try clear hcz7_3
    try clear hcz8_0
    try clear hcz8_1
    try clear hcz8_2
    try clear hcz8_3
    try clear hfz5_0
    try clear hfz5_1
    try clear hfz5_2
    try clear hfz5_3
    try clear hfz7_0
    try clear hfz7_1
    try clear hfz7_2
    try clear hfz7_3
    try clear hfz8_0
    try clear hfz8_1
    try clear hfz8_2
    try clear hfz8_3
    obtain ⟨kq, x17_1, rfl, HA, HJ1, BK203, HB⟩ := hcut
    cases kq with
    | zero => exact absurd HA.out (by simp [usanceref14_ahead.j0])
    | succ kj1 =>
      have H := HA.out
      clear HA
      simp only [usanceref14_ahead.j0] at H
      by_cases c9 : x17_1 = true
      · subst c9
        have H1 : (some true) = some r := by rw [if_pos rfl] at H; exact H
        clear H
        have H := H1
        clear H1
        obtain rfl := Option.some.inj H
        go_wp2
        go_ret
        exact ⟨by first | rfl | (simp [errW_none, errW_some] <;> rfl) | (simp [*, errW_none, errW_some] <;> rfl), by repeat (first | (with_reducible first | exact HB.out | apply below_alloc | apply pw_below_drewN | apply below_drew1 | refine below_set ?_ GE203.out) | exact HB.out)⟩
      · replace c9 := Bool.eq_false_iff.mpr c9
        subst c9
        have H1 : (usanceref14_ahead.l0 kj1 0 a0_0 a0_1 a0_2 l0_3) = some r := by rw [if_neg (show ¬ (false = true) by decide)] at H; exact H
        clear H
        have H := H1
        clear H1
        have H' := Aside0.mk H
        clear H
        go_wp2
        go_loopg [3] kj1 (fun kq v3 w' => ∃ (x3_2 : Int), v3 = .int .i64 x3_2 ∧ Aside0 (usanceref14_ahead.l0 kq x3_2 a0_0 a0_1 a0_2 l0_3 = some r) ∧ Aside0 (kq ≤ kj1) ∧ Aside0 (w'.heap[gb203]? = some (.cells #[.int .i64 a0_0, .int .i64 a0_1, .string a0_2, (.slice A0_3 l0_3.length c0_3)] 24 (0, 0))) ∧ Aside0 (Below w.heap.size w w'))
        case atStart => exact ⟨(0), (by first | rfl | (simp; done) | (simp [*]; done)), H', ⟨Nat.le_refl _⟩, ⟨by (with_reducible repeat (first | refine blk_drewN ?_ _ | refine blk_drew ?_ | refine blk_alloc ?_ _)); exact BK203.out⟩, ⟨by repeat (first | (with_reducible first | exact HB.out | apply below_alloc | apply pw_below_drewN | apply below_drew1 | refine below_set ?_ GE203.out) | exact HB.out)⟩⟩
        case round =>
          clear H'
          try clear p2
          try clear c3
          try clear c4
          try clear c4b0
          try clear c4b1
          try clear c6
          try clear c6b0
          try clear c6b1
          try clear c9
          try clear hcz5_0
          try clear hcz5_1
          try clear hcz5_2
          try clear hcz5_3
          try clear hcz7_0
          try clear hcz7_1
          try clear hcz7_2
          try clear hcz7_3
          try clear hcz8_0
          try clear hcz8_1
          try clear hcz8_2
          try clear hcz8_3
          try clear hfz5_0
          try clear hfz5_1
          try clear hfz5_2
          try clear hfz5_3
          try clear hfz7_0
          try clear hfz7_1
          try clear hfz7_2
          try clear hfz7_3
          try clear hfz8_0
          try clear hfz8_1
          try clear hfz8_2
          try clear hfz8_3
          try clear p2
          obtain ⟨x3_2, rfl, HA, HK2, BK203, HB⟩ := hrel
          cases gk with
          | zero => exact absurd HA.out (by simp [usanceref14_ahead.l0])
          | succ k2 =>
            have H := HA.out
            clear HA
            simp only [usanceref14_ahead.l0] at H
            by_cases c10 : x3_2 < (l0_3.length : Int)
            · rw [if_pos c10] at H
              have c10b0 : decide (x3_2 < (l0_3.length : Int)) = true := decide_eq_true c10
              clear c10
              by_cases c11 : 0 ≤ x3_2
              · rw [if_pos c11] at H
                have c11b0 : decide (0 ≤ x3_2) = true := decide_eq_true c11
                clear c11
                replace H := Option.bind_eq_some_iff.mp H
                obtain ⟨t205, A120, H⟩ := H
                replace H : (if t205 = true then (some true) else (usanceref14_ahead.l0 k2 (wrap64 (x3_2 + 1)) a0_0 a0_1 a0_2 l0_3)) = some r := H
                have A12 := Aside0.mk A120
                clear A120
                by_cases c13 : t205 = true
                · subst c13
                  have H1 : (some true) = some r := by rw [if_pos rfl] at H; exact H
                  clear H
                  have H := H1
                  clear H1
                  obtain rfl := Option.some.inj H
                  have hcz14_0 : wr.cell? ⟨gb203, 0, none⟩ = some (.int .i64 a0_0) := (blk_cell BK203.out 0).trans rfl
                  have hcz14_1 : wr.cell? ⟨gb203, 1, none⟩ = some (.int .i64 a0_1) := (blk_cell BK203.out 1).trans rfl
                  have hcz14_2 : wr.cell? ⟨gb203, 2, none⟩ = some (.string a0_2) := (blk_cell BK203.out 2).trans rfl
                  have hcz14_3 : wr.cell? ⟨gb203, 3, none⟩ = some (.slice A0_3 l0_3.length c0_3) := (blk_cell BK203.out 3).trans rfl
                  have hfz14_0 := blk_frozen BK203.out 0
                  have hfz14_1 := blk_frozen BK203.out 1
                  have hfz14_2 := blk_frozen BK203.out 2
                  have hfz14_3 := blk_frozen BK203.out 3
                  have p204 : 0 ≤ (x3_2 : Int) := of_decide_eq_true (by first | (with_reducible assumption) | assumption)
                  have q204 : x3_2 < (l0_3.length : Int) := of_decide_eq_true (by first | (with_reducible assumption) | assumption)
                  obtain ⟨ad204, A204_3, c204_3, e204, hx204_0, hx204_1, hx204_2, hx204_3, hl204_3, hi204_3⟩ := at_T24 HR0_3.out x3_2 p204 q204
                  cases e204
                  replace hx204_0 := (HB.out.cell (World.block_lt_of_cell? w _ hx204_0)).trans hx204_0
                  replace hx204_1 := (HB.out.cell (World.block_lt_of_cell? w _ hx204_1)).trans hx204_1
                  replace hx204_2 := (HB.out.cell (World.block_lt_of_cell? w _ hx204_2)).trans hx204_2
                  replace hx204_3 := (HB.out.cell (World.block_lt_of_cell? w _ hx204_3)).trans hx204_3
                  have HR204_3 := Aside0.mk hi204_3
                  have HC204_3 := Aside0.mk hl204_3
                  clear hi204_3 hl204_3
                  replace p204 := eq_true p204
                  replace q204 := eq_true q204
                  go_wp2_with (first | ((with_reducible refine gate_callee (f := 39) rfl ?_); refine goesL_ (some 30) rfl rfl Tryz.func39 (by kernel_rfl) rfl #[.agg #[.int .i64 ((rd_T24 l0_3 x3_2).f0), .int .i64 ((rd_T24 l0_3 x3_2).f1), .string ((rd_T24 l0_3 x3_2).f2), .slice A204_3 ((rd_T24 l0_3 x3_2).f3).length c204_3]] rfl (by (try simp only [List.map_toArray, List.map_cons, List.map_nil]); first | done | rfl | (simp only [List.length_drop, List.length_take]; rfl)) ?_; (with_reducible refine (ih k2 (by have := HJ1.out; have := HK2.out; omega) ((rd_T24 l0_3 x3_2).f0) ((rd_T24 l0_3 x3_2).f1) ((rd_T24 l0_3 x3_2).f2) _ _ ((rd_T24 l0_3 x3_2).f3) true _ ?side1 ?side2 A12.out).mono ?_); (case side1 => repeat (first | exact (Kd.C_below HR204_3.out HB.out) | (with_reducible refine Kd.C_alloc ?_ _) | (with_reducible refine Kd.C_drewN ?_ _) | (with_reducible refine Kd.C_drew ?_))); (case side2 => exact HC204_3.out); rintro e w15 ⟨rfl, hb⟩; refine ⟨_, rfl, ?_⟩; have n0_ := Aside0.mk (blk_below (g := gb203) (o := .cells #[.int .i64 a0_0, .int .i64 a0_1, .string a0_2, .slice (some ad204) l0_3.length c0_3] 24 (0, 0)) (by (with_reducible repeat (first | refine blk_drewN ?_ _ | refine blk_drew ?_ | refine blk_alloc ?_ _)); exact BK203.out) hb); have n1_ := Aside0.mk (below_step (by repeat (first | (with_reducible first | exact HB.out | apply below_alloc | apply pw_below_drewN | apply below_drew1 | refine below_set ?_ GE203.out) | exact HB.out)) hb); clear BK203; clear HB; have BK203 := n0_; have HB := n1_; clear n0_ n1_; (try clear hb); (try clear hb2); (try clear hk); (try clear hi)))
                  go_ret
                  exact ⟨by first | rfl | (simp [errW_none, errW_some] <;> rfl) | (simp [*, errW_none, errW_some] <;> rfl), by repeat (first | (with_reducible first | exact HB.out | apply below_alloc | apply pw_below_drewN | apply below_drew1 | refine below_set ?_ GE203.out) | exact HB.out)⟩
                · replace c13 := Bool.eq_false_iff.mpr c13
                  subst c13
                  have H1 : (usanceref14_ahead.l0 k2 (wrap64 (x3_2 + 1)) a0_0 a0_1 a0_2 l0_3) = some r := by rw [if_neg (show ¬ (false = true) by decide)] at H; exact H
                  clear H
                  have H := H1
                  clear H1
                  have H' := Aside0.mk H
                  clear H
                  have hcz16_0 : wr.cell? ⟨gb203, 0, none⟩ = some (.int .i64 a0_0) := (blk_cell BK203.out 0).trans rfl
                  have hcz16_1 : wr.cell? ⟨gb203, 1, none⟩ = some (.int .i64 a0_1) := (blk_cell BK203.out 1).trans rfl
                  have hcz16_2 : wr.cell? ⟨gb203, 2, none⟩ = some (.string a0_2) := (blk_cell BK203.out 2).trans rfl
                  have hcz16_3 : wr.cell? ⟨gb203, 3, none⟩ = some (.slice A0_3 l0_3.length c0_3) := (blk_cell BK203.out 3).trans rfl
                  have hfz16_0 := blk_frozen BK203.out 0
                  have hfz16_1 := blk_frozen BK203.out 1
                  have hfz16_2 := blk_frozen BK203.out 2
                  have hfz16_3 := blk_frozen BK203.out 3
                  have p204 : 0 ≤ (x3_2 : Int) := of_decide_eq_true (by first | (with_reducible assumption) | assumption)
                  have q204 : x3_2 < (l0_3.length : Int) := of_decide_eq_true (by first | (with_reducible assumption) | assumption)
                  obtain ⟨ad204, A204_3, c204_3, e204, hx204_0, hx204_1, hx204_2, hx204_3, hl204_3, hi204_3⟩ := at_T24 HR0_3.out x3_2 p204 q204
                  cases e204
                  replace hx204_0 := (HB.out.cell (World.block_lt_of_cell? w _ hx204_0)).trans hx204_0
                  replace hx204_1 := (HB.out.cell (World.block_lt_of_cell? w _ hx204_1)).trans hx204_1
                  replace hx204_2 := (HB.out.cell (World.block_lt_of_cell? w _ hx204_2)).trans hx204_2
                  replace hx204_3 := (HB.out.cell (World.block_lt_of_cell? w _ hx204_3)).trans hx204_3
                  have HR204_3 := Aside0.mk hi204_3
                  have HC204_3 := Aside0.mk hl204_3
                  clear hi204_3 hl204_3
                  replace p204 := eq_true p204
                  replace q204 := eq_true q204
                  go_wp2_with (first | ((with_reducible refine gate_callee (f := 39) rfl ?_); refine goesL_ (some 30) rfl rfl Tryz.func39 (by kernel_rfl) rfl #[.agg #[.int .i64 ((rd_T24 l0_3 x3_2).f0), .int .i64 ((rd_T24 l0_3 x3_2).f1), .string ((rd_T24 l0_3 x3_2).f2), .slice A204_3 ((rd_T24 l0_3 x3_2).f3).length c204_3]] rfl (by (try simp only [List.map_toArray, List.map_cons, List.map_nil]); first | done | rfl | (simp only [List.length_drop, List.length_take]; rfl)) ?_; (with_reducible refine (ih k2 (by have := HJ1.out; have := HK2.out; omega) ((rd_T24 l0_3 x3_2).f0) ((rd_T24 l0_3 x3_2).f1) ((rd_T24 l0_3 x3_2).f2) _ _ ((rd_T24 l0_3 x3_2).f3) false _ ?side1 ?side2 A12.out).mono ?_); (case side1 => repeat (first | exact (Kd.C_below HR204_3.out HB.out) | (with_reducible refine Kd.C_alloc ?_ _) | (with_reducible refine Kd.C_drewN ?_ _) | (with_reducible refine Kd.C_drew ?_))); (case side2 => exact HC204_3.out); rintro e w17 ⟨rfl, hb⟩; refine ⟨_, rfl, ?_⟩; have n0_ := Aside0.mk (blk_below (g := gb203) (o := .cells #[.int .i64 a0_0, .int .i64 a0_1, .string a0_2, .slice (some ad204) l0_3.length c0_3] 24 (0, 0)) (by (with_reducible repeat (first | refine blk_drewN ?_ _ | refine blk_drew ?_ | refine blk_alloc ?_ _)); exact BK203.out) hb); have n1_ := Aside0.mk (below_step (by repeat (first | (with_reducible first | exact HB.out | apply below_alloc | apply pw_below_drewN | apply below_drew1 | refine below_set ?_ GE203.out) | exact HB.out)) hb); clear BK203; clear HB; have BK203 := n0_; have HB := n1_; clear n0_ n1_; (try clear hb); (try clear hb2); (try clear hk); (try clear hi)))
                  go_roundg k2
                  case measure => have := HJ1.out; have := HK2.out; omega
                  case rel => exact ⟨(wrap64 (x3_2 + 1)), (by first | rfl | (simp; done) | (simp [*]; done)), H', ⟨by have := HJ1.out; have := HK2.out; omega⟩, ⟨by (with_reducible repeat (first | refine blk_drewN ?_ _ | refine blk_drew ?_ | refine blk_alloc ?_ _)); exact BK203.out⟩, ⟨by repeat (first | (with_reducible first | exact HB.out | apply below_alloc | apply pw_below_drewN | apply below_drew1 | refine below_set ?_ GE203.out) | exact HB.out)⟩⟩
              · rw [if_neg c11] at H
                exact absurd H (by simp)
            · rw [if_neg c10] at H
              have c10b0 : decide (x3_2 < (l0_3.length : Int)) = false := decide_eq_false c10
              clear c10
              obtain rfl := Option.some.inj H
              have hcz18_0 : wr.cell? ⟨gb203, 0, none⟩ = some (.int .i64 a0_0) := (blk_cell BK203.out 0).trans rfl
              have hcz18_1 : wr.cell? ⟨gb203, 1, none⟩ = some (.int .i64 a0_1) := (blk_cell BK203.out 1).trans rfl
              have hcz18_2 : wr.cell? ⟨gb203, 2, none⟩ = some (.string a0_2) := (blk_cell BK203.out 2).trans rfl
              have hcz18_3 : wr.cell? ⟨gb203, 3, none⟩ = some (.slice A0_3 l0_3.length c0_3) := (blk_cell BK203.out 3).trans rfl
              have hfz18_0 := blk_frozen BK203.out 0
              have hfz18_1 := blk_frozen BK203.out 1
              have hfz18_2 := blk_frozen BK203.out 2
              have hfz18_3 := blk_frozen BK203.out 3
              go_wp2
              go_ret
              exact ⟨by first | rfl | (simp [errW_none, errW_some] <;> rfl) | (simp [*, errW_none, errW_some] <;> rfl), by repeat (first | (with_reducible first | exact HB.out | apply below_alloc | apply pw_below_drewN | apply below_drew1 | refine below_set ?_ GE203.out) | exact HB.out)⟩

end Go.Proofs.YtniajhmbdbgmgaaGreatDoor.Q

namespace Go.Proofs.YtniajhmbdbgmgaaGreatDoor.Q
open Go.RowKit Go.Proofs.YtniajhmbdbgmgaaGreatDoorW.PrintWords Go.Proofs.YtniajhmbdbgmgaaGreatDoorW.PrintLast Go.Proofs.YtniajhmbdbgmgaaGreatDoorW.PrintMore
attribute [local go_sem] max2_int min2_int max_two min_two max_three min_three max_four min_four   -- for this text's walks alone
set_option linter.unusedVariables false
set_option linter.unusedSimpArgs false

/-! ### usanceref13_Size: function 13 -/
mutual
def usanceref13_Size.l0 : Nat → Int → Int → Int → Int → ByteArray → List (S24) → Option (Int)
  | 0, _, _, _, _, _, _ => none
  | k + 1, x3, x4, x211000, x211001, x211002, x211003 => if x4 < (x211003.length : Int) then (if 0 ≤ x4 then ((usanceref13_Size.f k ((rd_T24 x211003 x4).f0) ((rd_T24 x211003 x4).f1) ((rd_T24 x211003 x4).f2) ((rd_T24 x211003 x4).f3)).bind fun t212 => (usanceref13_Size.l0 k (wrap64 (x3 + t212)) (wrap64 (x4 + 1)) x211000 x211001 x211002 x211003)) else (none)) else (some x3)
def usanceref13_Size.f : Nat → Int → Int → ByteArray → List (S24) → Option (Int)
  | 0, _, _, _, _ => none
  | k + 1, a0_0, a0_1, a0_2, l0_3 => usanceref13_Size.l0 k 1 0 a0_0 a0_1 a0_2 l0_3
end
theorem usanceref13_Size.mono_l : ∀ k, (∀ y0 y1 y2 y3, LeO (usanceref13_Size.f k y0 y1 y2 y3) (usanceref13_Size.f (k + 1) y0 y1 y2 y3)) ∧ (∀ y0 y1 y2 y3 y4 y5, LeO (usanceref13_Size.l0 k y0 y1 y2 y3 y4 y5) (usanceref13_Size.l0 (k + 1) y0 y1 y2 y3 y4 y5))
  | 0 => ⟨fun _ _ _ _ r h => by simp [usanceref13_Size.f] at h, fun _ _ _ _ _ _ r h => by simp [usanceref13_Size.l0] at h⟩
  | k + 1 => by
    obtain ⟨ih0, ih1⟩ := usanceref13_Size.mono_l k
    refine ⟨?_, ?_⟩
    · intro y0 y1 y2 y3
      unfold usanceref13_Size.f
      repeat' first
      | (with_reducible exact ih0 _ _ _ _)
      | (with_reducible exact ih1 _ _ _ _ _ _)
      | (with_reducible exact LeO.refl _)
      | (with_reducible exact LeO.none _)
      | (with_reducible refine LeO.ite ?_ ?_)
      | (with_reducible refine LeO.bind ?_ (fun _ => ?_))
      | exact ih0 _ _ _ _
      | exact ih1 _ _ _ _ _ _
      | exact LeO.none _
      | refine LeO.ite ?_ ?_
      | refine LeO.bind ?_ (fun _ => ?_)
    · intro y0 y1 y2 y3 y4 y5
      unfold usanceref13_Size.l0
      repeat' first
      | (with_reducible exact ih0 _ _ _ _)
      | (with_reducible exact ih1 _ _ _ _ _ _)
      | (with_reducible exact LeO.refl _)
      | (with_reducible exact LeO.none _)
      | (with_reducible refine LeO.ite ?_ ?_)
      | (with_reducible refine LeO.bind ?_ (fun _ => ?_))
      | exact ih0 _ _ _ _
      | exact ih1 _ _ _ _ _ _
      | exact LeO.none _
      | refine LeO.ite ?_ ?_
      | refine LeO.bind ?_ (fun _ => ?_)
set_option maxHeartbeats 8000000 in
set_option maxRecDepth 100000 in
theorem usanceref13_Size.calls (k : Nat) : ∀ (a0_0 : Int) (a0_1 : Int) (a0_2 : ByteArray) (A0_3 : Option Addr) (c0_3 : Nat) (l0_3 : List (S24)) (r : Int) (w : World) (hr0_3 : Kd.C k24 w A0_3 l0_3.length l0_3) (hc0_3 : l0_3.length ≤ c0_3) (h : usanceref13_Size.f k a0_0 a0_1 a0_2 l0_3 = some r),
    Calls Tryz.prog 13 #[.agg #[.int .i64 a0_0, .int .i64 a0_1, .string a0_2, .slice A0_3 l0_3.length c0_3]] w fun e w' => e = .returned (.int .i64 r) ∧ Below w.heap.size w w' := by
  induction k using Nat.strongRecOn with
  | _ k ih =>
  intro a0_0 a0_1 a0_2 A0_3 c0_3 l0_3 r w hr0_3 hc0_3 h
  cases k with
  | zero => exact absurd h (by simp [usanceref13_Size.f])
  | succ k =>
  simp only [usanceref13_Size.f] at h
  have hu24 := Tryz.underlying24
  have HR0_3 := Aside0.mk hr0_3
  have HC0_3 := Aside0.mk hc0_3
  clear hr0_3 hc0_3
  have HB := Aside0.mk (Below.refl w.heap.size w)
  have H : (usanceref13_Size.l0 k 1 0 a0_0 a0_1 a0_2 l0_3) = some r := h
  clear h
  have H' := Aside0.mk H
  clear H
  go_enter Tryz.func13, Tryz.ntmps13
  go_wp2_with (first | ((with_reducible refine gate_dst (N := 1) rfl ?_); refine box_event ?hg (N := 1) ?hd (cs := #[.int .i64 a0_0, .int .i64 a0_1, .string a0_2, .slice A0_3 l0_3.length c0_3]) (t := 24) ?hr ?_; (case hd => rfl); (case hg => rfl); (case hr => first | (go_simp; done) | (go_simp; rfl)); intro gb210 hg w2 hbox hb; have n0_ := Aside0.mk (below_step (by repeat (first | (with_reducible first | exact HB.out | apply below_alloc | apply pw_below_drewN | apply below_drew1) | exact HB.out)) hb); have n1_ := Aside0.mk (hbox); have n2_ := Aside0.mk ((by rw [hg]; exact (below_size (by repeat (first | (with_reducible first | exact HB.out | apply below_alloc | apply pw_below_drewN | apply below_drew1) | exact HB.out))) : w.heap.size ≤ gb210)); have n3_ := Aside0.mk ((by rw [hg]; exact (below_size (by repeat (first | (with_reducible first | exact HB.out | apply below_alloc | apply pw_below_drewN | apply below_drew1) | exact HB.out))) : w.heap.size ≤ gb210)); clear HB; have HB := n0_; have BK210 := n1_; have GW210 := n2_; have GE210 := n3_; clear n0_ n1_ n2_ n3_; clear hb hbox hg))
  go_loopg [3, 4] k (fun kq v3 v4 w' => ∃ (x3_1 : Int) (x4_1 : Int), v3 = .int .i64 x3_1 ∧ v4 = .int .i64 x4_1 ∧ Aside0 (usanceref13_Size.l0 kq x3_1 x4_1 a0_0 a0_1 a0_2 l0_3 = some r) ∧ Aside0 (kq ≤ k) ∧ Aside0 (w'.heap[gb210]? = some (.cells #[.int .i64 a0_0, .int .i64 a0_1, .string a0_2, (.slice A0_3 l0_3.length c0_3)] 24 (0, 0))) ∧ Aside0 (Below w.heap.size w w'))
  case atStart => exact ⟨(1), (0), (by first | rfl | (simp; done) | (simp [*]; done)), (by first | rfl | (simp; done) | (simp [*]; done)), H', ⟨Nat.le_refl _⟩, ⟨by (with_reducible repeat (first | refine blk_drewN ?_ _ | refine blk_drew ?_ | refine blk_alloc ?_ _)); exact BK210.out⟩, ⟨by repeat (first | (with_reducible first | exact HB.out | apply below_alloc | apply pw_below_drewN | apply below_drew1 | refine below_set ?_ GE210.out) | exact HB.out)⟩⟩
  case round =>
    clear H'
    try clear c1
    try clear p2
    obtain ⟨x3_1, x4_1, rfl, rfl, HA, HK1, BK210, HB⟩ := hrel
    cases gk with
    | zero => exact absurd HA.out (by simp [usanceref13_Size.l0])
    | succ k1 =>
      have H := HA.out
      clear HA
      simp only [usanceref13_Size.l0] at H
      by_cases c3 : x4_1 < (l0_3.length : Int)
      · rw [if_pos c3] at H
        have c3b0 : decide (x4_1 < (l0_3.length : Int)) = true := decide_eq_true c3
        clear c3
        by_cases c4 : 0 ≤ x4_1
        · rw [if_pos c4] at H
          have c4b0 : decide (0 ≤ x4_1) = true := decide_eq_true c4
          clear c4
          replace H := Option.bind_eq_some_iff.mp H
          obtain ⟨t212, A50, H⟩ := H
          replace H : (usanceref13_Size.l0 k1 (wrap64 (x3_1 + t212)) (wrap64 (x4_1 + 1)) a0_0 a0_1 a0_2 l0_3) = some r := H
          have A5 := Aside0.mk A50
          clear A50
          have H' := Aside0.mk H
          clear H
          have hcz6_0 : wr.cell? ⟨gb210, 0, none⟩ = some (.int .i64 a0_0) := (blk_cell BK210.out 0).trans rfl
          have hcz6_1 : wr.cell? ⟨gb210, 1, none⟩ = some (.int .i64 a0_1) := (blk_cell BK210.out 1).trans rfl
          have hcz6_2 : wr.cell? ⟨gb210, 2, none⟩ = some (.string a0_2) := (blk_cell BK210.out 2).trans rfl
          have hcz6_3 : wr.cell? ⟨gb210, 3, none⟩ = some (.slice A0_3 l0_3.length c0_3) := (blk_cell BK210.out 3).trans rfl
          have hfz6_0 := blk_frozen BK210.out 0
          have hfz6_1 := blk_frozen BK210.out 1
          have hfz6_2 := blk_frozen BK210.out 2
          have hfz6_3 := blk_frozen BK210.out 3
          have p211 : 0 ≤ (x4_1 : Int) := of_decide_eq_true (by first | (with_reducible assumption) | assumption)
          have q211 : x4_1 < (l0_3.length : Int) := of_decide_eq_true (by first | (with_reducible assumption) | assumption)
          obtain ⟨ad211, A211_3, c211_3, e211, hx211_0, hx211_1, hx211_2, hx211_3, hl211_3, hi211_3⟩ := at_T24 HR0_3.out x4_1 p211 q211
          cases e211
          replace hx211_0 := (HB.out.cell (World.block_lt_of_cell? w _ hx211_0)).trans hx211_0
          replace hx211_1 := (HB.out.cell (World.block_lt_of_cell? w _ hx211_1)).trans hx211_1
          replace hx211_2 := (HB.out.cell (World.block_lt_of_cell? w _ hx211_2)).trans hx211_2
          replace hx211_3 := (HB.out.cell (World.block_lt_of_cell? w _ hx211_3)).trans hx211_3
          have HR211_3 := Aside0.mk hi211_3
          have HC211_3 := Aside0.mk hl211_3
          clear hi211_3 hl211_3
          replace p211 := eq_true p211
          replace q211 := eq_true q211
          go_wp2_with (first | ((with_reducible refine gate_callee (f := 13) rfl ?_); refine goesL_ (some 18) rfl rfl Tryz.func13 (by kernel_rfl) rfl #[.agg #[.int .i64 ((rd_T24 l0_3 x4_1).f0), .int .i64 ((rd_T24 l0_3 x4_1).f1), .string ((rd_T24 l0_3 x4_1).f2), .slice A211_3 ((rd_T24 l0_3 x4_1).f3).length c211_3]] rfl (by (try simp only [List.map_toArray, List.map_cons, List.map_nil]); first | done | rfl | (simp only [List.length_drop, List.length_take]; rfl)) ?_; (with_reducible refine (ih k1 (by have := HK1.out; omega) ((rd_T24 l0_3 x4_1).f0) ((rd_T24 l0_3 x4_1).f1) ((rd_T24 l0_3 x4_1).f2) _ _ ((rd_T24 l0_3 x4_1).f3) t212 _ ?side1 ?side2 A5.out).mono ?_); (case side1 => repeat (first | exact (Kd.C_below HR211_3.out HB.out) | (with_reducible refine Kd.C_alloc ?_ _) | (with_reducible refine Kd.C_drewN ?_ _) | (with_reducible refine Kd.C_drew ?_))); (case side2 => exact HC211_3.out); rintro e w7 ⟨rfl, hb⟩; refine ⟨_, rfl, ?_⟩; have n0_ := Aside0.mk (blk_below (g := gb210) (o := .cells #[.int .i64 a0_0, .int .i64 a0_1, .string a0_2, .slice (some ad211) l0_3.length c0_3] 24 (0, 0)) (by (with_reducible repeat (first | refine blk_drewN ?_ _ | refine blk_drew ?_ | refine blk_alloc ?_ _)); exact BK210.out) hb); have n1_ := Aside0.mk (below_step (by repeat (first | (with_reducible first | exact HB.out | apply below_alloc | apply pw_below_drewN | apply below_drew1 | refine below_set ?_ GE210.out) | exact HB.out)) hb); clear BK210; clear HB; have BK210 := n0_; have HB := n1_; clear n0_ n1_; (try clear hb); (try clear hb2); (try clear hk); (try clear hi)))
          go_roundg k1
          case measure => have := HK1.out; omega
          case rel => exact ⟨(wrap64 (x3_1 + t212)), (wrap64 (x4_1 + 1)), (by first | rfl | (simp; done) | (simp [*]; done)), (by first | rfl | (simp; done) | (simp [*]; done)), H', ⟨by have := HK1.out; omega⟩, ⟨by (with_reducible repeat (first | refine blk_drewN ?_ _ | refine blk_drew ?_ | refine blk_alloc ?_ _)); exact BK210.out⟩, ⟨by repeat (first | (with_reducible first | exact HB.out | apply below_alloc | apply pw_below_drewN | apply below_drew1 | refine below_set ?_ GE210.out) | exact HB.out)⟩⟩
        · rw [if_neg c4] at H
          exact absurd H (by simp)
      · rw [if_neg c3] at H
        have c3b0 : decide (x4_1 < (l0_3.length : Int)) = false := decide_eq_false c3
        clear c3
        obtain rfl := Option.some.inj H
        have hcz8_0 : wr.cell? ⟨gb210, 0, none⟩ = some (.int .i64 a0_0) := (blk_cell BK210.out 0).trans rfl
        have hcz8_1 : wr.cell? ⟨gb210, 1, none⟩ = some (.int .i64 a0_1) := (blk_cell BK210.out 1).trans rfl
        have hcz8_2 : wr.cell? ⟨gb210, 2, none⟩ = some (.string a0_2) := (blk_cell BK210.out 2).trans rfl
        have hcz8_3 : wr.cell? ⟨gb210, 3, none⟩ = some (.slice A0_3 l0_3.length c0_3) := (blk_cell BK210.out 3).trans rfl
        have hfz8_0 := blk_frozen BK210.out 0
        have hfz8_1 := blk_frozen BK210.out 1
        have hfz8_2 := blk_frozen BK210.out 2
        have hfz8_3 := blk_frozen BK210.out 3
        go_wp2
        go_ret
        exact ⟨by first | rfl | (simp [errW_none, errW_some] <;> rfl) | (simp [*, errW_none, errW_some] <;> rfl), by repeat (first | (with_reducible first | exact HB.out | apply below_alloc | apply pw_below_drewN | apply below_drew1 | refine below_set ?_ GE210.out) | exact HB.out)⟩

end Go.Proofs.YtniajhmbdbgmgaaGreatDoor.Q

namespace Go.Proofs.YtniajhmbdbgmgaaGreatDoor.Q
open Go.RowKit Go.Proofs.YtniajhmbdbgmgaaGreatDoorW.PrintWords Go.Proofs.YtniajhmbdbgmgaaGreatDoorW.PrintLast Go.Proofs.YtniajhmbdbgmgaaGreatDoorW.PrintMore
attribute [local go_sem] max2_int min2_int max_two min_two max_three min_three max_four min_four   -- for this text's walks alone
set_option linter.unusedVariables false
set_option linter.unusedSimpArgs false

/-! ### usanceref14_horizon: function 40 -/
mutual
def usanceref14_horizon.j0 : Nat → Int → Bool → Int → Int → ByteArray → List (S24) → Option (Int)
  | 0, _, _, _, _, _, _ => none
  | k + 1, x3, x17, x214000, x214001, x214002, x214003 => if x17 = true then (usanceref14_horizon.j1 k x214001 x214000 x214001 x214002 x214003) else (usanceref14_horizon.j1 k x3 x214000 x214001 x214002 x214003)
def usanceref14_horizon.j1 : Nat → Int → Int → Int → ByteArray → List (S24) → Option (Int)
  | 0, _, _, _, _, _ => none
  | k + 1, x3, x214000, x214001, x214002, x214003 => usanceref14_horizon.l0 k x3 0 x214000 x214001 x214002 x214003
def usanceref14_horizon.l0 : Nat → Int → Int → Int → Int → ByteArray → List (S24) → Option (Int)
  | 0, _, _, _, _, _, _ => none
  | k + 1, x3, x4, x214000, x214001, x214002, x214003 => if x4 < (x214003.length : Int) then (if 0 ≤ x4 then ((usanceref14_horizon.f k ((rd_T24 x214003 x4).f0) ((rd_T24 x214003 x4).f1) ((rd_T24 x214003 x4).f2) ((rd_T24 x214003 x4).f3)).bind fun t215 => (usanceref14_horizon.l0 k (mx x3 t215) (wrap64 (x4 + 1)) x214000 x214001 x214002 x214003)) else (none)) else (some x3)
def usanceref14_horizon.f : Nat → Int → Int → ByteArray → List (S24) → Option (Int)
  | 0, _, _, _, _ => none
  | k + 1, a0_0, a0_1, a0_2, l0_3 => if a0_0 = 29 then (usanceref14_horizon.j0 k 0 true a0_0 a0_1 a0_2 l0_3) else (if a0_0 = 30 then (usanceref14_horizon.j0 k 0 true a0_0 a0_1 a0_2 l0_3) else (usanceref14_horizon.j0 k 0 (a0_0 == 31) a0_0 a0_1 a0_2 l0_3))
end
theorem usanceref14_horizon.mono_l : ∀ k, (∀ y0 y1 y2 y3, LeO (usanceref14_horizon.f k y0 y1 y2 y3) (usanceref14_horizon.f (k + 1) y0 y1 y2 y3)) ∧ (∀ y0 y1 y2 y3 y4 y5, LeO (usanceref14_horizon.j0 k y0 y1 y2 y3 y4 y5) (usanceref14_horizon.j0 (k + 1) y0 y1 y2 y3 y4 y5)) ∧ (∀ y0 y1 y2 y3 y4, LeO (usanceref14_horizon.j1 k y0 y1 y2 y3 y4) (usanceref14_horizon.j1 (k + 1) y0 y1 y2 y3 y4)) ∧ (∀ y0 y1 y2 y3 y4 y5, LeO (usanceref14_horizon.l0 k y0 y1 y2 y3 y4 y5) (usanceref14_horizon.l0 (k + 1) y0 y1 y2 y3 y4 y5))
  | 0 => ⟨fun _ _ _ _ r h => by simp [usanceref14_horizon.f] at h, fun _ _ _ _ _ _ r h => by simp [usanceref14_horizon.j0] at h, fun _ _ _ _ _ r h => by simp [usanceref14_horizon.j1] at h, fun _ _ _ _ _ _ r h => by simp [usanceref14_horizon.l0] at h⟩
  | k + 1 => by
    obtain ⟨ih0, ih1, ih2, ih3⟩ := usanceref14_horizon.mono_l k
    refine ⟨?_, ?_, ?_, ?_⟩
    · intro y0 y1 y2 y3
      unfold usanceref14_horizon.f
      repeat' first
      | (with_reducible exact ih0 _ _ _ _)
      | (with_reducible exact ih1 _ _ _ _ _ _)
      | (with_reducible exact ih2 _ _ _ _ _)
      | (with_reducible exact ih3 _ _ _ _ _ _)
      | (with_reducible exact LeO.refl _)
      | (with_reducible exact LeO.none _)
      | (with_reducible refine LeO.ite ?_ ?_)
      | (with_reducible refine LeO.bind ?_ (fun _ => ?_))
      | exact ih0 _ _ _ _
      | exact ih1 _ _ _ _ _ _
      | exact ih2 _ _ _ _ _
      | exact ih3 _ _ _ _ _ _
      | exact LeO.none _
      | refine LeO.ite ?_ ?_
      | refine LeO.bind ?_ (fun _ => ?_)
    · intro y0 y1 y2 y3 y4 y5
      unfold usanceref14_horizon.j0
      repeat' first
      | (with_reducible exact ih0 _ _ _ _)
      | (with_reducible exact ih1 _ _ _ _ _ _)
      | (with_reducible exact ih2 _ _ _ _ _)
      | (with_reducible exact ih3 _ _ _ _ _ _)
      | (with_reducible exact LeO.refl _)
      | (with_reducible exact LeO.none _)
      | (with_reducible refine LeO.ite ?_ ?_)
      | (with_reducible refine LeO.bind ?_ (fun _ => ?_))
      | exact ih0 _ _ _ _
      | exact ih1 _ _ _ _ _ _
      | exact ih2 _ _ _ _ _
      | exact ih3 _ _ _ _ _ _
      | exact LeO.none _
      | refine LeO.ite ?_ ?_
      | refine LeO.bind ?_ (fun _ => ?_)
    · intro y0 y1 y2 y3 y4
      unfold usanceref14_horizon.j1
      repeat' first
      | (with_reducible exact ih0 _ _ _ _)
      | (with_reducible exact ih1 _ _ _ _ _ _)
      | (with_reducible exact ih2 _ _ _ _ _)
      | (with_reducible exact ih3 _ _ _ _ _ _)
      | (with_reducible exact LeO.refl _)
      | (with_reducible exact LeO.none _)
      | (with_reducible refine LeO.ite ?_ ?_)
      | (with_reducible refine LeO.bind ?_ (fun _ => ?_))
      | exact ih0 _ _ _ _
      | exact ih1 _ _ _ _ _ _
      | exact ih2 _ _ _ _ _
      | exact ih3 _ _ _ _ _ _
      | exact LeO.none _
      | refine LeO.ite ?_ ?_
      | refine LeO.bind ?_ (fun _ => ?_)
    · intro y0 y1 y2 y3 y4 y5
      unfold usanceref14_horizon.l0
      repeat' first
      | (with_reducible exact ih0 _ _ _ _)
      | (with_reducible exact ih1 _ _ _ _ _ _)
      | (with_reducible exact ih2 _ _ _ _ _)
      | (with_reducible exact ih3 _ _ _ _ _ _)
      | (with_reducible exact LeO.refl _)
      | (with_reducible exact LeO.none _)
      | (with_reducible refine LeO.ite ?_ ?_)
      | (with_reducible refine LeO.bind ?_ (fun _ => ?_))
      | exact ih0 _ _ _ _
      | exact ih1 _ _ _ _ _ _
      | exact ih2 _ _ _ _ _
      | exact ih3 _ _ _ _ _ _
      | exact LeO.none _
      | refine LeO.ite ?_ ?_
      | refine LeO.bind ?_ (fun _ => ?_)
set_option maxHeartbeats 8000000 in
set_option maxRecDepth 100000 in
theorem usanceref14_horizon.calls (k : Nat) : ∀ (a0_0 : Int) (a0_1 : Int) (a0_2 : ByteArray) (A0_3 : Option Addr) (c0_3 : Nat) (l0_3 : List (S24)) (r : Int) (w : World) (hr0_3 : Kd.C k24 w A0_3 l0_3.length l0_3) (hc0_3 : l0_3.length ≤ c0_3) (h : usanceref14_horizon.f k a0_0 a0_1 a0_2 l0_3 = some r),
    Calls Tryz.prog 40 #[.agg #[.int .i64 a0_0, .int .i64 a0_1, .string a0_2, .slice A0_3 l0_3.length c0_3]] w fun e w' => e = .returned (.int .i64 r) ∧ Below w.heap.size w w' := by
  induction k using Nat.strongRecOn with
  | _ k ih =>
  intro a0_0 a0_1 a0_2 A0_3 c0_3 l0_3 r w hr0_3 hc0_3 h
  cases k with
  | zero => exact absurd h (by simp [usanceref14_horizon.f])
  | succ k =>
  simp only [usanceref14_horizon.f] at h
  have hu24 := Tryz.underlying24
  have HR0_3 := Aside0.mk hr0_3
  have HC0_3 := Aside0.mk hc0_3
  clear hr0_3 hc0_3
  have HB := Aside0.mk (Below.refl w.heap.size w)
  have H : (if a0_0 = 29 then (usanceref14_horizon.j0 k 0 true a0_0 a0_1 a0_2 l0_3) else (if a0_0 = 30 then (usanceref14_horizon.j0 k 0 true a0_0 a0_1 a0_2 l0_3) else (usanceref14_horizon.j0 k 0 (a0_0 == 31) a0_0 a0_1 a0_2 l0_3))) = some r := h
  clear h
  have HC2 := Aside0.mk H
  clear H
  go_enter Tryz.func40, Tryz.ntmps40
  go_upto_region 2 with (first | ((with_reducible refine gate_dst (N := 1) rfl ?_); refine box_event ?hg (N := 1) ?hd (cs := #[.int .i64 a0_0, .int .i64 a0_1, .string a0_2, .slice A0_3 l0_3.length c0_3]) (t := 24) ?hr ?_; (case hd => rfl); (case hg => rfl); (case hr => first | (go_simp; done) | (go_simp; rfl)); intro gb213 hg w3 hbox hb; have n0_ := Aside0.mk (below_step (by repeat (first | (with_reducible first | exact HB.out | apply below_alloc | apply pw_below_drewN | apply below_drew1) | exact HB.out)) hb); have n1_ := Aside0.mk (hbox); have n2_ := Aside0.mk ((by rw [hg]; exact (below_size (by repeat (first | (with_reducible first | exact HB.out | apply below_alloc | apply pw_below_drewN | apply below_drew1) | exact HB.out))) : w.heap.size ≤ gb213)); have n3_ := Aside0.mk ((by rw [hg]; exact (below_size (by repeat (first | (with_reducible first | exact HB.out | apply below_alloc | apply pw_below_drewN | apply below_drew1) | exact HB.out))) : w.heap.size ≤ gb213)); clear HB; have HB := n0_; have BK213 := n1_; have GW213 := n2_; have GE213 := n3_; clear n0_ n1_ n2_ n3_; clear hb hbox hg))
  (try simp only [Act.put, List.setIfInBounds_toArray, List.set_cons_zero, List.set_cons_succ])
  go_cut [17] (fun v17 wc => ∃ (kq : Nat) (x17_1 : Bool), v17 = .bool x17_1 ∧ Aside0 (usanceref14_horizon.j0 kq 0 x17_1 a0_0 a0_1 a0_2 l0_3 = some r) ∧ Aside0 (kq ≤ k) ∧ Aside0 (wc.heap[gb213]? = some (.cells #[.int .i64 a0_0, .int .i64 a0_1, .string a0_2, (.slice A0_3 l0_3.length c0_3)] 24 (0, 0))) ∧ Aside0 (Below w.heap.size w wc))
  case first =>
    have H := HC2.out
    clear HC2
    by_cases c4 : a0_0 = 29
    · rw [if_pos c4] at H
      have c4b0 : (a0_0 == 29) = true := beq_iff_eq.mpr c4
      have c4b1 : (a0_0 != 29) = false := bne_eq_false_iff_eq.mpr c4
      clear c4
      (first | rw [c4b0] | (simp only [i64_w, i32_w]; rw [c4b0]) | skip)
      have H' := Aside0.mk H
      clear H
      have hcz5_0 : w3.cell? ⟨gb213, 0, none⟩ = some (.int .i64 a0_0) := (blk_cell BK213.out 0).trans rfl
      have hcz5_1 : w3.cell? ⟨gb213, 1, none⟩ = some (.int .i64 a0_1) := (blk_cell BK213.out 1).trans rfl
      have hcz5_2 : w3.cell? ⟨gb213, 2, none⟩ = some (.string a0_2) := (blk_cell BK213.out 2).trans rfl
      have hcz5_3 : w3.cell? ⟨gb213, 3, none⟩ = some (.slice A0_3 l0_3.length c0_3) := (blk_cell BK213.out 3).trans rfl
      have hfz5_0 := blk_frozen BK213.out 0
      have hfz5_1 := blk_frozen BK213.out 1
      have hfz5_2 := blk_frozen BK213.out 2
      have hfz5_3 := blk_frozen BK213.out 3
      go_wp2
      go_meet
      case rel => exact ⟨_, (true), (by first | rfl | (simp; done) | (simp [*]; done)), H', ⟨by first | omega | exact Nat.le_refl _⟩, ⟨by (with_reducible repeat (first | refine blk_drewN ?_ _ | refine blk_drew ?_ | refine blk_alloc ?_ _)); exact BK213.out⟩, ⟨by repeat (first | (with_reducible first | exact HB.out | apply below_alloc | apply pw_below_drewN | apply below_drew1 | refine below_set ?_ GE213.out) | exact HB.out)⟩⟩
    · rw [if_neg c4] at H
      have c4b0 : (a0_0 == 29) = false := beq_eq_false_iff_ne.mpr c4
      have c4b1 : (a0_0 != 29) = true := bne_iff_ne.mpr c4
      (first | rw [c4b0] | (simp only [i64_w, i32_w]; rw [c4b0]) | skip)
      by_cases c6 : a0_0 = 30
      · rw [if_pos c6] at H
        have c6b0 : (a0_0 == 30) = true := beq_iff_eq.mpr c6
        have c6b1 : (a0_0 != 30) = false := bne_eq_false_iff_eq.mpr c6
        clear c6
        have H' := Aside0.mk H
        clear H
        have hcz7_0 : w3.cell? ⟨gb213, 0, none⟩ = some (.int .i64 a0_0) := (blk_cell BK213.out 0).trans rfl
        have hcz7_1 : w3.cell? ⟨gb213, 1, none⟩ = some (.int .i64 a0_1) := (blk_cell BK213.out 1).trans rfl
        have hcz7_2 : w3.cell? ⟨gb213, 2, none⟩ = some (.string a0_2) := (blk_cell BK213.out 2).trans rfl
        have hcz7_3 : w3.cell? ⟨gb213, 3, none⟩ = some (.slice A0_3 l0_3.length c0_3) := (blk_cell BK213.out 3).trans rfl
        have hfz7_0 := blk_frozen BK213.out 0
        have hfz7_1 := blk_frozen BK213.out 1
        have hfz7_2 := blk_frozen BK213.out 2
        have hfz7_3 := blk_frozen BK213.out 3
        go_wp2
        go_meet
        case rel => exact ⟨_, (true), (by first | rfl | (simp; done) | (simp [*]; done)), H', ⟨by first | omega | exact Nat.le_refl _⟩, ⟨by (with_reducible repeat (first | refine blk_drewN ?_ _ | refine blk_drew ?_ | refine blk_alloc ?_ _)); exact BK213.out⟩, ⟨by repeat (first | (with_reducible first | exact HB.out | apply below_alloc | apply pw_below_drewN | apply below_drew1 | refine below_set ?_ GE213.out) | exact HB.out)⟩⟩
      · rw [if_neg c6] at H
        have c6b0 : (a0_0 == 30) = false := beq_eq_false_iff_ne.mpr c6
        have c6b1 : (a0_0 != 30) = true := bne_iff_ne.mpr c6
        have H' := Aside0.mk H
        clear H
        have hcz8_0 : w3.cell? ⟨gb213, 0, none⟩ = some (.int .i64 a0_0) := (blk_cell BK213.out 0).trans rfl
        have hcz8_1 : w3.cell? ⟨gb213, 1, none⟩ = some (.int .i64 a0_1) := (blk_cell BK213.out 1).trans rfl
        have hcz8_2 : w3.cell? ⟨gb213, 2, none⟩ = some (.string a0_2) := (blk_cell BK213.out 2).trans rfl
        have hcz8_3 : w3.cell? ⟨gb213, 3, none⟩ = some (.slice A0_3 l0_3.length c0_3) := (blk_cell BK213.out 3).trans rfl
        have hfz8_0 := blk_frozen BK213.out 0
        have hfz8_1 := blk_frozen BK213.out 1
        have hfz8_2 := blk_frozen BK213.out 2
        have hfz8_3 := blk_frozen BK213.out 3
        go_wp2
        go_meet
        case rel => exact ⟨_, ((a0_0 == 31)), (by first | rfl | (simp; done) | (simp [*]; done)), H', ⟨by first | omega | exact Nat.le_refl _⟩, ⟨by (with_reducible repeat (first | refine blk_drewN ?_ _ | refine blk_drew ?_ | refine blk_alloc ?_ _)); exact BK213.out⟩, ⟨by repeat (first | (with_reducible first | exact HB.out | apply below_alloc | apply pw_below_drewN | apply below_drew1 | refine below_set ?_ GE213.out) | exact HB.out)⟩⟩
  case rest =>
    clear HC2
    try clear p2
    try clear c4
    try clear c4b0
    try clear c4b1
    try clear c6
    try clear c6b0
    try clear c6b1
    try clear hcz5_0
    try clear hcz5_1
    try clear hcz5_2
    try clear hcz5_3
    try clear hcz7_0
    try clear hcz7_1
    try clear hcz7_2
    try clear hcz7_3
    try clear hcz8_0
    try clear hcz8_1
    try clear hcz8_2
    try clear hcz8_3
    try clear hfz5_0
    try clear hfz5_1
    try clear hfz5_2
    try clear hfz5_3
    try clear hfz7_0
    try clear hfz7_1
    try clear hfz7_2
    try clear hfz7_3
    try clear hfz8_0
    try clear hfz8_1
    try clear hfz8_2
    try clear hfz8_3
    obtain ⟨kq, x17_1, rfl, HA, HJ1, BK213, HB⟩ := hcut
    cases kq with
    | zero => exact absurd HA.out (by simp [usanceref14_horizon.j0])
    | succ kj1 =>
      have H := HA.out
      clear HA
      simp only [usanceref14_horizon.j0] at H
      have HC9 := Aside0.mk H
      clear H
      go_upto_if 17 with (fail)
      go_cut [3] (fun v3 wc => ∃ (kq : Nat) (x3_8 : Int), v3 = .int .i64 x3_8 ∧ Aside0 (usanceref14_horizon.j1 kq x3_8 a0_0 a0_1 a0_2 l0_3 = some r) ∧ Aside0 (kq ≤ kj1) ∧ Aside0 (wc.heap[gb213]? = some (.cells #[.int .i64 a0_0, .int .i64 a0_1, .string a0_2, (.slice A0_3 l0_3.length c0_3)] 24 (0, 0))) ∧ Aside0 (Below w.heap.size w wc))
      case first =>
        have H := HC9.out
        clear HC9
        by_cases c10 : x17_1 = true
        · subst c10
          have H1 : (usanceref14_horizon.j1 kj1 a0_1 a0_0 a0_1 a0_2 l0_3) = some r := by rw [if_pos rfl] at H; exact H
          clear H
          have H := H1
          clear H1
          have H' := Aside0.mk H
          clear H
          have hcz11_0 : wc.cell? ⟨gb213, 0, none⟩ = some (.int .i64 a0_0) := (blk_cell BK213.out 0).trans rfl
          have hcz11_1 : wc.cell? ⟨gb213, 1, none⟩ = some (.int .i64 a0_1) := (blk_cell BK213.out 1).trans rfl
          have hcz11_2 : wc.cell? ⟨gb213, 2, none⟩ = some (.string a0_2) := (blk_cell BK213.out 2).trans rfl
          have hcz11_3 : wc.cell? ⟨gb213, 3, none⟩ = some (.slice A0_3 l0_3.length c0_3) := (blk_cell BK213.out 3).trans rfl
          have hfz11_0 := blk_frozen BK213.out 0
          have hfz11_1 := blk_frozen BK213.out 1
          have hfz11_2 := blk_frozen BK213.out 2
          have hfz11_3 := blk_frozen BK213.out 3
          go_wp2
          go_meet
          case rel => exact ⟨_, (a0_1), (by first | rfl | (simp; done) | (simp [*]; done)), H', ⟨by have := HJ1.out; first | omega | exact Nat.le_refl _⟩, ⟨by (with_reducible repeat (first | refine blk_drewN ?_ _ | refine blk_drew ?_ | refine blk_alloc ?_ _)); exact BK213.out⟩, ⟨by repeat (first | (with_reducible first | exact HB.out | apply below_alloc | apply pw_below_drewN | apply below_drew1 | refine below_set ?_ GE213.out) | exact HB.out)⟩⟩
        · replace c10 := Bool.eq_false_iff.mpr c10
          subst c10
          have H1 : (usanceref14_horizon.j1 kj1 0 a0_0 a0_1 a0_2 l0_3) = some r := by rw [if_neg (show ¬ (false = true) by decide)] at H; exact H
          clear H
          have H := H1
          clear H1
          have H' := Aside0.mk H
          clear H
          go_wp2
          go_meet
          case rel => exact ⟨_, (0), (by first | rfl | (simp; done) | (simp [*]; done)), H', ⟨by have := HJ1.out; first | omega | exact Nat.le_refl _⟩, ⟨by (with_reducible repeat (first | refine blk_drewN ?_ _ | refine blk_drew ?_ | refine blk_alloc ?_ _)); exact BK213.out⟩, ⟨by repeat (first | (with_reducible first | exact HB.out | apply below_alloc | apply pw_below_drewN | apply below_drew1 | refine below_set ?_ GE213.out) | exact HB.out)⟩⟩
      case rest =>
        clear HC9
        try clear c1
        try clear p2
        try clear c4
        try clear c4b0
        try clear c4b1
        try clear c6
        try clear c6b0
        try clear c6b1
        try clear c10
        try clear hcz11_0
        try clear hcz11_1
        try clear hcz11_2
        try clear hcz11_3
        try clear hcz5_0
        try clear hcz5_1
        try clear hcz5_2
        try clear hcz5_3
        try clear hcz7_0
        try clear hcz7_1
        try clear hcz7_2
        try clear hcz7_3
        try clear hcz8_0
        try clear hcz8_1
        try clear hcz8_2
        try clear hcz8_3
        try clear hfz11_0
        try clear hfz11_1
        try clear hfz11_2
        try clear hfz11_3
        try clear hfz5_0
        try clear hfz5_1
        try clear hfz5_2
        try clear hfz5_3
        try clear hfz7_0
        try clear hfz7_1
        try clear hfz7_2
        try clear hfz7_3
        try clear hfz8_0
        try clear hfz8_1
        try clear hfz8_2
        try clear hfz8_3
        try clear p2
        obtain ⟨kq, x3_8, rfl, HA, HJ8, BK213, HB⟩ := hcut
        cases kq with
        | zero => exact absurd HA.out (by simp [usanceref14_horizon.j1])
        | succ kj8 =>
          have H := HA.out
          clear HA
          simp only [usanceref14_horizon.j1] at H
          have H' := Aside0.mk H
          clear H
          go_wp2
          go_loopg [3, 4] kj8 (fun kq v3 v4 w' => ∃ (x3_3 : Int) (x4_3 : Int), v3 = .int .i64 x3_3 ∧ v4 = .int .i64 x4_3 ∧ Aside0 (usanceref14_horizon.l0 kq x3_3 x4_3 a0_0 a0_1 a0_2 l0_3 = some r) ∧ Aside0 (kq ≤ kj8) ∧ Aside0 (w'.heap[gb213]? = some (.cells #[.int .i64 a0_0, .int .i64 a0_1, .string a0_2, (.slice A0_3 l0_3.length c0_3)] 24 (0, 0))) ∧ Aside0 (Below w.heap.size w w'))
          case atStart => exact ⟨(x3_8), (0), (by first | rfl | (simp; done) | (simp [*]; done)), (by first | rfl | (simp; done) | (simp [*]; done)), H', ⟨Nat.le_refl _⟩, ⟨by (with_reducible repeat (first | refine blk_drewN ?_ _ | refine blk_drew ?_ | refine blk_alloc ?_ _)); exact BK213.out⟩, ⟨by repeat (first | (with_reducible first | exact HB.out | apply below_alloc | apply pw_below_drewN | apply below_drew1 | refine below_set ?_ GE213.out) | exact HB.out)⟩⟩
          case round =>
            clear H'
            try clear c1
            try clear p2
            try clear c4
            try clear c4b0
            try clear c4b1
            try clear c6
            try clear c6b0
            try clear c6b1
            try clear c10
            try clear hcz11_0
            try clear hcz11_1
            try clear hcz11_2
            try clear hcz11_3
            try clear hcz5_0
            try clear hcz5_1
            try clear hcz5_2
            try clear hcz5_3
            try clear hcz7_0
            try clear hcz7_1
            try clear hcz7_2
            try clear hcz7_3
            try clear hcz8_0
            try clear hcz8_1
            try clear hcz8_2
            try clear hcz8_3
            try clear hfz11_0
            try clear hfz11_1
            try clear hfz11_2
            try clear hfz11_3
            try clear hfz5_0
            try clear hfz5_1
            try clear hfz5_2
            try clear hfz5_3
            try clear hfz7_0
            try clear hfz7_1
            try clear hfz7_2
            try clear hfz7_3
            try clear hfz8_0
            try clear hfz8_1
            try clear hfz8_2
            try clear hfz8_3
            try clear p2
            obtain ⟨x3_3, x4_3, rfl, rfl, HA, HK3, BK213, HB⟩ := hrel
            cases gk with
            | zero => exact absurd HA.out (by simp [usanceref14_horizon.l0])
            | succ k3 =>
              have H := HA.out
              clear HA
              simp only [usanceref14_horizon.l0] at H
              by_cases c12 : x4_3 < (l0_3.length : Int)
              · rw [if_pos c12] at H
                have c12b0 : decide (x4_3 < (l0_3.length : Int)) = true := decide_eq_true c12
                clear c12
                by_cases c13 : 0 ≤ x4_3
                · rw [if_pos c13] at H
                  have c13b0 : decide (0 ≤ x4_3) = true := decide_eq_true c13
                  clear c13
                  replace H := Option.bind_eq_some_iff.mp H
                  obtain ⟨t215, A140, H⟩ := H
                  replace H : (usanceref14_horizon.l0 k3 (mx x3_3 t215) (wrap64 (x4_3 + 1)) a0_0 a0_1 a0_2 l0_3) = some r := H
                  have A14 := Aside0.mk A140
                  clear A140
                  obtain ⟨ji15, hji15⟩ : ∃ j_ : Int, (mx x3_3 t215) = j_ := ⟨_, rfl⟩
                  replace H : (usanceref14_horizon.l0 k3 ji15 (wrap64 (x4_3 + 1)) a0_0 a0_1 a0_2 l0_3) = some r := by first | (rw [hji15] at H; exact H) | (simp only [hji15] at H ⊢; exact H)
                  (try rw [hji15] at A14)
                  have hji15_ : (if x3_3 < t215 then t215 else x3_3) = ji15 := hji15
                  have H' := Aside0.mk H
                  clear H
                  have hcz16_0 : wr.cell? ⟨gb213, 0, none⟩ = some (.int .i64 a0_0) := (blk_cell BK213.out 0).trans rfl
                  have hcz16_1 : wr.cell? ⟨gb213, 1, none⟩ = some (.int .i64 a0_1) := (blk_cell BK213.out 1).trans rfl
                  have hcz16_2 : wr.cell? ⟨gb213, 2, none⟩ = some (.string a0_2) := (blk_cell BK213.out 2).trans rfl
                  have hcz16_3 : wr.cell? ⟨gb213, 3, none⟩ = some (.slice A0_3 l0_3.length c0_3) := (blk_cell BK213.out 3).trans rfl
                  have hfz16_0 := blk_frozen BK213.out 0
                  have hfz16_1 := blk_frozen BK213.out 1
                  have hfz16_2 := blk_frozen BK213.out 2
                  have hfz16_3 := blk_frozen BK213.out 3
                  have p214 : 0 ≤ (x4_3 : Int) := of_decide_eq_true (by first | (with_reducible assumption) | assumption)
                  have q214 : x4_3 < (l0_3.length : Int) := of_decide_eq_true (by first | (with_reducible assumption) | assumption)
                  obtain ⟨ad214, A214_3, c214_3, e214, hx214_0, hx214_1, hx214_2, hx214_3, hl214_3, hi214_3⟩ := at_T24 HR0_3.out x4_3 p214 q214
                  cases e214
                  replace hx214_0 := (HB.out.cell (World.block_lt_of_cell? w _ hx214_0)).trans hx214_0
                  replace hx214_1 := (HB.out.cell (World.block_lt_of_cell? w _ hx214_1)).trans hx214_1
                  replace hx214_2 := (HB.out.cell (World.block_lt_of_cell? w _ hx214_2)).trans hx214_2
                  replace hx214_3 := (HB.out.cell (World.block_lt_of_cell? w _ hx214_3)).trans hx214_3
                  have HR214_3 := Aside0.mk hi214_3
                  have HC214_3 := Aside0.mk hl214_3
                  clear hi214_3 hl214_3
                  replace p214 := eq_true p214
                  replace q214 := eq_true q214
                  go_wp2_with (first | ((with_reducible refine gate_callee (f := 40) rfl ?_); refine goesL_ (some 33) rfl rfl Tryz.func40 (by kernel_rfl) rfl #[.agg #[.int .i64 ((rd_T24 l0_3 x4_3).f0), .int .i64 ((rd_T24 l0_3 x4_3).f1), .string ((rd_T24 l0_3 x4_3).f2), .slice A214_3 ((rd_T24 l0_3 x4_3).f3).length c214_3]] rfl (by (try simp only [List.map_toArray, List.map_cons, List.map_nil]); first | done | rfl | (simp only [List.length_drop, List.length_take]; rfl)) ?_; (with_reducible refine (ih k3 (by have := HJ1.out; have := HJ8.out; have := HK3.out; omega) ((rd_T24 l0_3 x4_3).f0) ((rd_T24 l0_3 x4_3).f1) ((rd_T24 l0_3 x4_3).f2) _ _ ((rd_T24 l0_3 x4_3).f3) t215 _ ?side1 ?side2 A14.out).mono ?_); (case side1 => repeat (first | exact (Kd.C_below HR214_3.out HB.out) | (with_reducible refine Kd.C_alloc ?_ _) | (with_reducible refine Kd.C_drewN ?_ _) | (with_reducible refine Kd.C_drew ?_))); (case side2 => exact HC214_3.out); rintro e w17 ⟨rfl, hb⟩; refine ⟨_, rfl, ?_⟩; have n0_ := Aside0.mk (blk_below (g := gb213) (o := .cells #[.int .i64 a0_0, .int .i64 a0_1, .string a0_2, .slice (some ad214) l0_3.length c0_3] 24 (0, 0)) (by (with_reducible repeat (first | refine blk_drewN ?_ _ | refine blk_drew ?_ | refine blk_alloc ?_ _)); exact BK213.out) hb); have n1_ := Aside0.mk (below_step (by repeat (first | (with_reducible first | exact HB.out | apply below_alloc | apply pw_below_drewN | apply below_drew1 | refine below_set ?_ GE213.out) | exact HB.out)) hb); clear BK213; clear HB; have BK213 := n0_; have HB := n1_; clear n0_ n1_; (try clear hb); (try clear hb2); (try clear hk); (try clear hi)))
                  go_roundg k3
                  case measure => have := HJ1.out; have := HJ8.out; have := HK3.out; omega
                  case rel => exact ⟨(ji15), (wrap64 (x4_3 + 1)), (by first | rfl | (simp; done) | (simp only [← hji15] <;> (first | rfl | simp)) | (simp [*]; done)), (by first | rfl | (simp; done) | (simp [*]; done)), H', ⟨by have := HJ1.out; have := HJ8.out; have := HK3.out; omega⟩, ⟨by (with_reducible repeat (first | refine blk_drewN ?_ _ | refine blk_drew ?_ | refine blk_alloc ?_ _)); exact BK213.out⟩, ⟨by repeat (first | (with_reducible first | exact HB.out | apply below_alloc | apply pw_below_drewN | apply below_drew1 | refine below_set ?_ GE213.out) | exact HB.out)⟩⟩
                · rw [if_neg c13] at H
                  exact absurd H (by simp)
              · rw [if_neg c12] at H
                have c12b0 : decide (x4_3 < (l0_3.length : Int)) = false := decide_eq_false c12
                clear c12
                obtain rfl := Option.some.inj H
                have hcz18_0 : wr.cell? ⟨gb213, 0, none⟩ = some (.int .i64 a0_0) := (blk_cell BK213.out 0).trans rfl
                have hcz18_1 : wr.cell? ⟨gb213, 1, none⟩ = some (.int .i64 a0_1) := (blk_cell BK213.out 1).trans rfl
                have hcz18_2 : wr.cell? ⟨gb213, 2, none⟩ = some (.string a0_2) := (blk_cell BK213.out 2).trans rfl
                have hcz18_3 : wr.cell? ⟨gb213, 3, none⟩ = some (.slice A0_3 l0_3.length c0_3) := (blk_cell BK213.out 3).trans rfl
                have hfz18_0 := blk_frozen BK213.out 0
                have hfz18_1 := blk_frozen BK213.out 1
                have hfz18_2 := blk_frozen BK213.out 2
                have hfz18_3 := blk_frozen BK213.out 3
                go_wp2
                go_ret
                exact ⟨by first | rfl | (simp [errW_none, errW_some] <;> rfl) | (simp [*, errW_none, errW_some] <;> rfl), by repeat (first | (with_reducible first | exact HB.out | apply below_alloc | apply pw_below_drewN | apply below_drew1 | refine below_set ?_ GE213.out) | exact HB.out)⟩

end Go.Proofs.YtniajhmbdbgmgaaGreatDoor.Q
