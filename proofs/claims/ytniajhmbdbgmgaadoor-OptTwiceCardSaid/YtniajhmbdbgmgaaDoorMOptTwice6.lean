/- opt.fold: a constant of constants. The rules of layer 16, each as what it owes. The rules of layer 16: the list that opt.rules makes. opt.Do: the passes over a contract; what it answers in the print's form. The laws of layer 16: what their own code does with what the called functions answer. opt.Do in plain Lean: what it answers for right contracts, and what the probe of layer 16 comes to. -/
import Derived.Test.YtniajhmbdbgmgaaDoorMOptFolds3
import Derived.Deep.LoopGhost
import Derived.Test.YtniajhmbdbgmgaaDoorMOptFolds5
/- opt.fold: a constant of constants. -/
namespace Go.Proofs.YtniajhmbdbgmgaaDoor.Q
open Go Go.RowKit Go.Proofs Go.Proofs.YtniajhmbdbgmgaaDoor Go.Shelf Go.Proofs.YtniajhmbdbgmgaaDoorW.PrintWords Go.Proofs.YtniajhmbdbgmgaaDoorW.PrintLast Go.Proofs.YtniajhmbdbgmgaaDoorW.PrintMore
set_option linter.unusedSimpArgs false
attribute [local go_sem] World.cell?_alloc_lt

theorem whole_is (a : Int) (w : World) : Calls Tryd.prog 89 #[.int .i64 a] w fun e w' => e = .returned (.int .i64 (Int.tdiv (Num.clamp a) 1000000)) ∧ w = w' := by
  have hc := Num.clamp_le a
  obtain ⟨c, ec⟩ : ∃ c, Num.clamp a = c := ⟨_, rfl⟩
  have hx := fun w => XNum.clamp a w
  rw [ec] at hx hc ⊢
  have HX := Lib.hid hx
  clear hx ec
  go_enter Tryd.func89, Tryd.ntmps89
  go_wp2_with fail
  refine (HX.out w).mono ?_
  rintro e w' ⟨rfl, rfl⟩
  go_wp2_with fail
  go_ret
  exact ⟨rfl, rfl⟩

/-- What the first two kids say. -/
def argF (l : List Core) (i : Nat) : Int := match l[i]? with
  | some k => k.f1
  | none => 0
theorem argF_zero (i : Nat) : argF [] i = 0 := by simp [argF]
/-- What the switch answers, by what the first two kids say. -/
noncomputable def foldS (x : Core) (a b : Int) : Core × Bool :=
  if x.f0 = 6 then (numC (Num.neg a), true) else if x.f0 = 14 then (boolC (a == 0), true)
  else if 6 ≤ x.f0 ∧ x.f0 ≤ 21 ∧ x.f0 ≠ 15 ∧ x.f0 ≠ 16 then (foldV ymd x.f0 a b, true) else (x, false)
/-- What fold answers. -/
noncomputable def foldX (x : Core) : Core × Bool := if x.f3.length ≤ 2 ∧ x.f3.all constT = true then foldS x (argF x.f3 0) (argF x.f3 1) else (x, false)

/-- What holds all along fold. -/
structure GInv (w : World) (A : Option Addr) (c : Nat) (x : Core) (a b : Int) (W : World) : Prop where
  d : DInv w A c x W
  n : W.heap[w.heap.size + 1 + 1]? = some (.cells #[.int .i64 a, .int .i64 b] 129 (0, 0))
theorem GInv.below {w W W' : World} {A : Option Addr} {c : Nat} {x : Core} {a b : Int} (h : GInv w A c x a b W) (hb : Below W.heap.size W W') : GInv w A c x a b W' := ⟨h.d.below hb, blk_below h.n hb⟩
theorem GInv.alloc {w W : World} {A : Option Addr} {c : Nat} {x : Core} {a b : Int} (h : GInv w A c x a b W) (o : Obj) : GInv w A c x a b (W.alloc o) := h.below (below_alloc (Below.refl _ _) o)

set_option maxRecDepth 100000 in
set_option maxHeartbeats 4000000 in
theorem fold_is (x : Core) (P : Nat → Prop) (A : Option Addr) (c : Nat) (w : World) (hV : Kd.V k24 24 w w.heap.size P (.slice A x.f3.length c) x.f3) :
    Calls Tryd.prog 52 #[.agg #[.int .i64 x.f0, .int .i64 x.f1, .string x.f2, .slice A x.f3.length c]] w fun q w' =>
      ∃ v : Value, q = .returned (.tuple #[.agg #[.int .i64 (foldX x).1.f0, .int .i64 (foldX x).1.f1, .string (foldX x).1.f2, v], .bool (foldX x).2]) ∧ Kd.V k24 24 w' w.heap.size (fun k => P k ∨ w.heap.size ≤ k) v (foldX x).1.f3 ∧ Below w.heap.size w w' := by
  obtain ⟨r, er⟩ : ∃ r, foldX x = r := ⟨_, rfl⟩
  rw [er]
  have hmax := Kd.F_max (Kd.V_at hV).2.2
  have hF := Lib.hid (Kd.V_at hV).2.2
  have HV := Lib.hid hV; have ER := Lib.hid er
  clear hV er
  go_enter Tryd.func52, Tryd.ntmps52
  go_wp2
  obtain ⟨w2, ew2⟩ : ∃ w2, (((w.alloc (.cells #[.int .i64 x.f0, .int .i64 x.f1, .string x.f2, .slice A x.f3.length c] 24)).alloc (.cells #[.int .i64 0, .int .i64 0, .string ⟨#[]⟩, .slice none 0 0] 24)).alloc (.cells #[.int .i64 0, .int .i64 0] 129)) = w2 := ⟨_, rfl⟩
  have hG : GInv w A c x (argF (x.f3.take 0) 0) (argF (x.f3.take 0) 1) w2 := by
    rw [← ew2]
    refine ⟨(DInv.new w A c x).below (below_alloc (Below.refl _ _) _), ?_⟩
    have := World.alloc_heap_new ((w.alloc (.cells #[.int .i64 x.f0, .int .i64 x.f1, .string x.f2, .slice A x.f3.length c] 24)).alloc (.cells #[.int .i64 0, .int .i64 0, .string ⟨#[]⟩, .slice none 0 0] 24)) (.cells #[.int .i64 0, .int .i64 0] 129)
    simpa [argF] using this
  rw [ew2]
  have HG := Lib.hid hG
  clear hG ew2
  go_loopw [15] (fun i wr => ∃ j : Nat, j ≤ x.f3.length ∧ j ≤ 2 ∧ i = .int .i64 j ∧ Hid (GInv w A c x (argF (x.f3.take j) 0) (argF (x.f3.take j) 1) wr) ∧ Hid ((x.f3.take j).all constT = true)) (fun i _ => x.f3.length - (intOf i).toNat)
  case atStart => exact ⟨0, Nat.zero_le _, by omega, rfl, HG, Lib.hid (by simp)⟩
  case round =>
    obtain ⟨j, hj, hj2, rfl, hI, hall⟩ := hrel
    clear HG
    have hs := blk_lt hI.out.n
    have hs0 : w.heap.size < wr.heap.size := by omega
    have hs1 : w.heap.size + 1 < wr.heap.size := by omega
    obtain ⟨p0, p1, p2, p3⟩ := core_cells hI.out.d.b0
    obtain ⟨q0, q1, q2, q3⟩ := core_cells hI.out.d.b1
    have i0 := blk_frozen hI.out.d.b1 0; have i1 := blk_frozen hI.out.d.b1 1; have i2 := blk_frozen hI.out.d.b1 2; have i3 := blk_frozen hI.out.d.b1 3
    by_cases hlt : j < x.f3.length
    · have t1 : decide (j < x.f3.length) = true := decide_eq_true hlt
      obtain ⟨ad, A3, c3, hA, d0, d1, d2, d3, hl3, hF3⟩ := kid_at hF.out j hlt
      obtain ⟨kd, ekd⟩ : ∃ kd, x.f3[j] = kd := ⟨_, rfl⟩
      subst hA
      rw [ekd] at d0 d1 d2 d3
      have mv : ∀ {p : Addr} {v : Value}, w.cell? p = some v → wr.cell? p = some v := fun hp => (hI.out.d.bel.cell (World.block_lt_of_cell? w _ hp)).trans hp
      replace d0 := mv d0
      replace d1 := mv d1
      replace d2 := mv d2
      replace d3 := mv d3
      have htake : x.f3.take (j + 1) = x.f3.take j ++ [kd] := by rw [List.take_add_one, List.getElem?_eq_getElem hlt, ekd]; rfl
      have hmem : kd ∈ x.f3 := by rw [← ekd]; exact List.getElem_mem hlt
      have HT := Lib.hid htake; have HM := Lib.hid hmem
      clear mv hl3 hF3 htake hmem ekd
      have no : (¬ (x.f3.length ≤ 2 ∧ x.f3.all constT = true)) → r = (x, false) := fun hn => by rw [← ER.out, foldX, if_neg hn]
      have NO := Lib.hid no
      clear no
      by_cases hj3 : j = 2
      · have t2 : decide ((1 : Int) < (j : Int)) = true := decide_eq_true (by omega)
        have hr := NO.out (fun hn => by omega)
        subst hr
        clear NO ER hj3
        go_wp2
        refine bodyPost_ret (v := .tuple #[.agg #[.int .i64 x.f0, .int .i64 x.f1, .string x.f2, .slice (some ad) x.f3.length c], .bool false]) (by simp [results, Tryd.f52, go_sem, q0, q1, q2, q3, hs1]) rfl ?_
        exact ⟨_, rfl, Kd.V_mono (Kd.V_alloc (V_put4 (Kd.V_step (Kd.V_bound HV.out) (fun k hk _ => hI.out.d.bel.block k hk.2)) (fun k hk => by have := hk.2; omega) _ _ _ _) _) (fun k hk => .inl hk.1), below_alloc (below_put4 hI.out.d.bel (by omega) _ _ _ _) _⟩
      · have t2 : decide ((1 : Int) < (j : Int)) = false := decide_eq_false (by omega)
        have hj4 : j < 2 := by omega
        have t3 : decide (j < 2) = true := decide_eq_true hj4
        have hcell : wr.cell? ⟨w.heap.size + 1 + 1, j, none⟩ = some (.int .i64 0) := by
          rw [blk_cell hI.out.n]
          have hl2 : (x.f3.take j).length = j := by simp; omega
          have z : ∀ i, j ≤ i → argF (x.f3.take j) i = 0 := fun i hi => by
            unfold argF
            rw [List.getElem?_eq_none (by omega)]
          match j, hj4, z with
          | 0, _, z => rw [z 0 (by omega)]; rfl
          | 1, _, z => rw [z 1 (by omega)]; rfl
        have hfr := blk_frozen hI.out.n j
        by_cases hc : constT kd = true
        · have hN : GInv w (some ad) c x (argF (x.f3.take (j + 1)) 0) (argF (x.f3.take (j + 1)) 1) ((wr.setCell ⟨w.heap.size + 1 + 1, j, none⟩ (.int .i64 kd.f1)).alloc (.cells #[.int .i64 kd.f0, .int .i64 kd.f1, .string kd.f2, .slice A3 kd.f3.length c3] 24)) := by
            have h1 := hI.out
            refine GInv.alloc ⟨⟨h1.d.bel.setCell (p := ⟨w.heap.size + 1 + 1, j, none⟩) (by simp; omega) _, blk_far h1.d.b0 (by simp; omega) _, blk_far h1.d.b1 (by simp) _⟩, ?_⟩ _
            have h2 := blk_set h1.n j (.int .i64 kd.f1)
            rw [h2, HT.out]
            have hl2 : (x.f3.take j).length = j := by simp; omega
            match j, hj4, hl2 with
            | 0, _, _ => simp [argF]
            | 1, _, hl2 =>
              have e0 : argF (x.f3.take 1 ++ [kd]) 0 = argF (x.f3.take 1) 0 := by unfold argF; rw [List.getElem?_append_left (by omega)]
              have e1 : argF (x.f3.take 1 ++ [kd]) 1 = kd.f1 := by unfold argF; rw [List.getElem?_append_right (by omega), hl2]; rfl
              rw [e0, e1]
              rfl
          have hA2 : (x.f3.take (j + 1)).all constT = true := by rw [HT.out, List.all_append, hall.out]; simp [hc]
          have HN := Lib.hid hN; have HA := Lib.hid hA2
          have h3 : kd.f0 = 1 ∨ kd.f0 = 2 ∨ kd.f0 = 3 := by simpa [constT, or_assoc] using hc
          clear NO hc hN hA2 ER
          rcases h3 with h3 | h3 | h3
          · have u1 : (kd.f0 != 1) = false := bne_eq_false_iff_eq.2 h3
            clear h3
            go_wp2
            go_roundw
            case rel => exact ⟨j + 1, hlt, by omega, by go_num, HN, HA⟩
            case measure => simp [intOf]; omega
          · have u1 : (kd.f0 != 1) = true := bne_iff_ne.2 (by omega)
            have u2 : (kd.f0 != 2) = false := bne_eq_false_iff_eq.2 h3
            clear h3
            go_wp2
            go_roundw
            case rel => exact ⟨j + 1, hlt, by omega, by go_num, HN, HA⟩
            case measure => simp [intOf]; omega
          · have u1 : (kd.f0 != 1) = true := bne_iff_ne.2 (by omega)
            have u2 : (kd.f0 != 2) = true := bne_iff_ne.2 (by omega)
            have u3 : (kd.f0 != 3) = false := bne_eq_false_iff_eq.2 h3
            clear h3
            go_wp2
            go_roundw
            case rel => exact ⟨j + 1, hlt, by omega, by go_num, HN, HA⟩
            case measure => simp [intOf]; omega
        · have hr := NO.out (fun hn => hc (List.all_eq_true.1 hn.2 kd HM.out))
          subst hr
          have h3 : kd.f0 ≠ 1 ∧ kd.f0 ≠ 2 ∧ kd.f0 ≠ 3 := by simpa [constT, not_or, and_assoc] using hc
          have u1 : (kd.f0 != 1) = true := bne_iff_ne.2 h3.1
          have u2 : (kd.f0 != 2) = true := bne_iff_ne.2 h3.2.1
          have u3 : (kd.f0 != 3) = true := bne_iff_ne.2 h3.2.2
          clear NO ER hc h3
          go_wp2
          refine bodyPost_ret (v := .tuple #[.agg #[.int .i64 x.f0, .int .i64 x.f1, .string x.f2, .slice (some ad) x.f3.length c], .bool false]) (by simp [results, Tryd.f52, go_sem, q0, q1, q2, q3, hs1]) rfl ?_
          exact ⟨_, rfl, Kd.V_mono (Kd.V_alloc (V_put4 (Kd.V_step (Kd.V_bound HV.out) (fun k hk _ => hI.out.d.bel.block k hk.2)) (fun k hk => by have := hk.2; omega) _ _ _ _) _) (fun k hk => .inl hk.1), below_alloc (below_put4 hI.out.d.bel (by omega) _ _ _ _) _⟩
    · obtain rfl : j = x.f3.length := by omega
      have t1 : decide (x.f3.length < x.f3.length) = false := decide_eq_false (by omega)
      have hr : foldS x (argF x.f3 0) (argF x.f3 1) = r := by
        have := ER.out
        have ha := hall.out
        rw [List.take_length] at ha
        rwa [foldX, if_pos ⟨hj2, ha⟩] at this
      have hI2 : GInv w A c x (argF x.f3 0) (argF x.f3 1) wr := by
        have := hI.out
        rwa [List.take_length] at this
      obtain ⟨a, ea⟩ : ∃ a, argF x.f3 0 = a := ⟨_, rfl⟩
      obtain ⟨b, eb⟩ : ∃ b, argF x.f3 1 = b := ⟨_, rfl⟩
      rw [ea, eb] at hr hI2
      have HR := Lib.hid hr; have HI := Lib.hid hI2
      clear hr hI2 ER hall hlt ea eb hI p0 p1 p2 p3 q0 q1 q2 q3 i0 i1 i2 i3
      go_wp2
      clear t1
      have HI5 := Lib.hid (HI.out.below (below_drew (Below.refl _ _)))
      refine start_ (n := 6) (S := fun w' => w'.cell? ⟨w.heap.size + 1 + 1, 0, none⟩ = some (.int .i64 a) ∧ w'.cell? ⟨w.heap.size + 1 + 1, 1, none⟩ = some (.int .i64 b)) (ds := []) (bm 6 0) (by kernel_rfl) rfl (by kernel_rfl) ⟨(blk_cell HI5.out.n 0).trans rfl, (blk_cell HI5.out.n 1).trans rfl⟩ (fun hHeld => ?_)
      generalize wr.drew = w5 at HI5 hHeld ⊢
      refine pure_ (i := 0) (N := some 43) (v := ?_) (a' := ?_) (bm 6 1) rfl rfl (by kernel_rfl) (fun _ _ _ h => h) (Or.inl ⟨by rfl, ?_⟩) ?_ ?_
      rotate_left
      · intro w'
        go_simp
        with_reducible rfl
      rotate_left
      · simp only [Act.put, List.setIfInBounds_toArray, List.set_cons_zero, List.set_cons_succ, i64_w, i32_w]
        rfl
      refine take_ (i := 1) (N := some 44) (v := ?_) (a' := ?_) (bm 6 3) rfl rfl (by kernel_rfl) (fun _ _ _ h => h) (Or.inl ⟨by rfl, ?_⟩) hHeld ?_ ?_
      rotate_left
      · rintro w' ⟨s0, s1⟩
        go_simp
        with_reducible rfl
      rotate_left
      · simp only [Act.put, List.setIfInBounds_toArray, List.set_cons_zero, List.set_cons_succ, i64_w, i32_w]
        rfl
      refine pure_ (i := 2) (N := some 45) (v := ?_) (a' := ?_) (bm 6 7) rfl rfl (by kernel_rfl) (fun _ _ _ h => h) (Or.inl ⟨by rfl, ?_⟩) ?_ ?_
      rotate_left
      · intro w'
        go_simp
        with_reducible rfl
      rotate_left
      · simp only [Act.put, List.setIfInBounds_toArray, List.set_cons_zero, List.set_cons_succ, i64_w, i32_w]
        rfl
      refine take_ (i := 3) (N := some 46) (v := ?_) (a' := ?_) (bm 6 15) rfl rfl (by kernel_rfl) (fun _ _ _ h => h) (Or.inl ⟨by rfl, ?_⟩) hHeld ?_ ?_
      rotate_left
      · rintro w' ⟨s0, s1⟩
        go_simp
        with_reducible rfl
      rotate_left
      · simp only [Act.put, List.setIfInBounds_toArray, List.set_cons_zero, List.set_cons_succ, i64_w, i32_w]
        rfl
      refine pure_ (i := 4) (N := some 7) (v := ?_) (a' := ?_) (bm 6 31) rfl rfl (by kernel_rfl) (fun _ _ _ h => h) (Or.inl ⟨by rfl, ?_⟩) ?_ ?_
      rotate_left
      · intro w'
        go_simp
        with_reducible rfl
      rotate_left
      · simp only [Act.put, List.setIfInBounds_toArray, List.set_cons_zero, List.set_cons_succ, i64_w, i32_w]
        rfl
      refine pure_ (i := 5) (N := some 8) (v := ?_) (a' := ?_) (bm 6 63) rfl rfl (by kernel_rfl) (fun _ _ _ h => h) (Or.inl ⟨by rfl, ?_⟩) ?_ ?_
      rotate_left
      · intro w'
        go_simp
        with_reducible rfl
      rotate_left
      · simp only [Act.put, List.setIfInBounds_toArray, List.set_cons_zero, List.set_cons_succ, i64_w, i32_w]
        rfl
      refine done_ (by kernel_rfl) ?_
      clear hHeld HI
      obtain ⟨p0, p1, p2, p3⟩ := core_cells HI5.out.d.b0
      have hs := blk_lt HI5.out.n
      by_cases hop : x.f0 = 6
      · have t6 : (x.f0 == 6) = true := beq_iff_eq.2 hop
        obtain ⟨v, ev⟩ : ∃ v : Int, Num.neg a = v := ⟨_, rfl⟩
        have hk : ∀ W, Calls Tryd.prog 80 #[.int .i64 v] W fun e w' => e = .returned (.tuple #[.agg #[.int .i64 1, .int .i64 v, .string ⟨#[]⟩, .slice none 0 0], .bool true]) ∧ w' = W.alloc (.cells #[.int .i64 1, .int .i64 v, .string ⟨#[]⟩, .slice none 0 0] 24) := fun W => number_is v W
        have hc0 : ∀ W, Calls Tryd.prog 60 #[.int .i64 a] W fun e w' => e = .returned (.int .i64 v) ∧ Below W.heap.size W w' := fun W => by refine (XNum.neg a W).mono ?_; rintro e w' ⟨rfl, rfl⟩; exact ⟨by first | rfl | rw [ev], Below.refl _ _⟩
        have hr : r = (⟨1, v, ⟨#[]⟩, []⟩, true) := by rw [← HR.out]; unfold foldS; rw [if_pos hop]; rw [← ev]; rfl
        subst hr
        have HK := Lib.hid hk
        have HC0 := Lib.hid hc0
        clear hk HR hop hc0
        clear ev
        go_wp2_with fail
        refine (HC0.out _).mono ?_
        rintro e w0_ ⟨rfl, hb0⟩
        have HJ0 := Lib.hid (HI5.out.below hb0)
        clear hb0
        go_wp2_with fail
        refine (HK.out _).mono ?_
        rintro e w9 ⟨rfl, ew9⟩
        have H9 := Lib.hid (HJ0.out.below (W' := w9) (by rw [ew9]; exact below_alloc (Below.refl _ _) _))
        clear ew9 t6
        obtain ⟨q0, q1, q2, q3⟩ := core_cells H9.out.d.b1
        have i0 := blk_frozen H9.out.d.b1 0; have i1 := blk_frozen H9.out.d.b1 1; have i2 := blk_frozen H9.out.d.b1 2; have i3 := blk_frozen H9.out.d.b1 3
        have hs9 : w.heap.size + 1 < w9.heap.size := blk_lt H9.out.d.b1
        go_wp2
        refine bodyPost_ret (v := .tuple #[.agg #[.int .i64 1, .int .i64 v, .string ⟨#[]⟩, .slice none 0 0], .bool true]) (by simp [results, Tryd.f52, go_sem, q0, q1, q2, q3, hs9]) rfl ?_
        exact ⟨_, rfl, Kd.V_nil _ _ _ _ _, below_put4 H9.out.d.bel (by omega) _ _ _ _⟩
      have ne6 := hop
      clear hop
      by_cases hop : x.f0 = 7
      · have t6 : (x.f0 == 6) = false := beq_eq_false_iff_ne.2 (by omega)
        have t7 : (x.f0 == 7) = true := beq_iff_eq.2 hop
        obtain ⟨v, ev⟩ : ∃ v : Int, Num.add a b = v := ⟨_, rfl⟩
        have hk : ∀ W, Calls Tryd.prog 80 #[.int .i64 v] W fun e w' => e = .returned (.tuple #[.agg #[.int .i64 1, .int .i64 v, .string ⟨#[]⟩, .slice none 0 0], .bool true]) ∧ w' = W.alloc (.cells #[.int .i64 1, .int .i64 v, .string ⟨#[]⟩, .slice none 0 0] 24) := fun W => number_is v W
        have hc0 : ∀ W, Calls Tryd.prog 84 #[.int .i64 a, .int .i64 b] W fun e w' => e = .returned (.int .i64 v) ∧ Below W.heap.size W w' := fun W => by refine (XNum.add a b W).mono ?_; rintro e w' ⟨rfl, rfl⟩; exact ⟨by first | rfl | rw [ev], Below.refl _ _⟩
        have hr : r = (⟨1, v, ⟨#[]⟩, []⟩, true) := by rw [← HR.out]; unfold foldS; rw [if_neg (by omega), if_neg (by omega), if_pos ⟨by omega, by omega, by omega, by omega⟩, foldV]; rw [if_pos hop]; rw [← ev]; rfl
        subst hr
        have HK := Lib.hid hk
        have HC0 := Lib.hid hc0
        clear hk HR hop hc0
        clear ev
        go_wp2_with fail
        refine (HC0.out _).mono ?_
        rintro e w0_ ⟨rfl, hb0⟩
        have HJ0 := Lib.hid (HI5.out.below hb0)
        clear hb0
        go_wp2_with fail
        refine (HK.out _).mono ?_
        rintro e w9 ⟨rfl, ew9⟩
        have H9 := Lib.hid (HJ0.out.below (W' := w9) (by rw [ew9]; exact below_alloc (Below.refl _ _) _))
        clear ew9 t6 t7
        obtain ⟨q0, q1, q2, q3⟩ := core_cells H9.out.d.b1
        have i0 := blk_frozen H9.out.d.b1 0; have i1 := blk_frozen H9.out.d.b1 1; have i2 := blk_frozen H9.out.d.b1 2; have i3 := blk_frozen H9.out.d.b1 3
        have hs9 : w.heap.size + 1 < w9.heap.size := blk_lt H9.out.d.b1
        go_wp2
        refine bodyPost_ret (v := .tuple #[.agg #[.int .i64 1, .int .i64 v, .string ⟨#[]⟩, .slice none 0 0], .bool true]) (by simp [results, Tryd.f52, go_sem, q0, q1, q2, q3, hs9]) rfl ?_
        exact ⟨_, rfl, Kd.V_nil _ _ _ _ _, below_put4 H9.out.d.bel (by omega) _ _ _ _⟩
      have ne7 := hop
      clear hop
      by_cases hop : x.f0 = 8
      · have t6 : (x.f0 == 6) = false := beq_eq_false_iff_ne.2 (by omega)
        have t7 : (x.f0 == 7) = false := beq_eq_false_iff_ne.2 (by omega)
        have t8 : (x.f0 == 8) = true := beq_iff_eq.2 hop
        obtain ⟨v, ev⟩ : ∃ v : Int, Num.sub a b = v := ⟨_, rfl⟩
        have hk : ∀ W, Calls Tryd.prog 80 #[.int .i64 v] W fun e w' => e = .returned (.tuple #[.agg #[.int .i64 1, .int .i64 v, .string ⟨#[]⟩, .slice none 0 0], .bool true]) ∧ w' = W.alloc (.cells #[.int .i64 1, .int .i64 v, .string ⟨#[]⟩, .slice none 0 0] 24) := fun W => number_is v W
        have hc0 : ∀ W, Calls Tryd.prog 85 #[.int .i64 a, .int .i64 b] W fun e w' => e = .returned (.int .i64 v) ∧ Below W.heap.size W w' := fun W => by refine (XNum.sub a b W).mono ?_; rintro e w' ⟨rfl, rfl⟩; exact ⟨by first | rfl | rw [ev], Below.refl _ _⟩
        have hr : r = (⟨1, v, ⟨#[]⟩, []⟩, true) := by rw [← HR.out]; unfold foldS; rw [if_neg (by omega), if_neg (by omega), if_pos ⟨by omega, by omega, by omega, by omega⟩, foldV]; rw [if_neg (by omega)]; rw [if_pos hop]; rw [← ev]; rfl
        subst hr
        have HK := Lib.hid hk
        have HC0 := Lib.hid hc0
        clear hk HR hop hc0
        clear ev
        go_wp2_with fail
        refine (HC0.out _).mono ?_
        rintro e w0_ ⟨rfl, hb0⟩
        have HJ0 := Lib.hid (HI5.out.below hb0)
        clear hb0
        go_wp2_with fail
        refine (HK.out _).mono ?_
        rintro e w9 ⟨rfl, ew9⟩
        have H9 := Lib.hid (HJ0.out.below (W' := w9) (by rw [ew9]; exact below_alloc (Below.refl _ _) _))
        clear ew9 t6 t7 t8
        obtain ⟨q0, q1, q2, q3⟩ := core_cells H9.out.d.b1
        have i0 := blk_frozen H9.out.d.b1 0; have i1 := blk_frozen H9.out.d.b1 1; have i2 := blk_frozen H9.out.d.b1 2; have i3 := blk_frozen H9.out.d.b1 3
        have hs9 : w.heap.size + 1 < w9.heap.size := blk_lt H9.out.d.b1
        go_wp2
        refine bodyPost_ret (v := .tuple #[.agg #[.int .i64 1, .int .i64 v, .string ⟨#[]⟩, .slice none 0 0], .bool true]) (by simp [results, Tryd.f52, go_sem, q0, q1, q2, q3, hs9]) rfl ?_
        exact ⟨_, rfl, Kd.V_nil _ _ _ _ _, below_put4 H9.out.d.bel (by omega) _ _ _ _⟩
      have ne8 := hop
      clear hop
      by_cases hop : x.f0 = 9
      · have t6 : (x.f0 == 6) = false := beq_eq_false_iff_ne.2 (by omega)
        have t7 : (x.f0 == 7) = false := beq_eq_false_iff_ne.2 (by omega)
        have t8 : (x.f0 == 8) = false := beq_eq_false_iff_ne.2 (by omega)
        have t9 : (x.f0 == 9) = true := beq_iff_eq.2 hop
        obtain ⟨v, ev⟩ : ∃ v : Int, Num.mul a b = v := ⟨_, rfl⟩
        have hk : ∀ W, Calls Tryd.prog 80 #[.int .i64 v] W fun e w' => e = .returned (.tuple #[.agg #[.int .i64 1, .int .i64 v, .string ⟨#[]⟩, .slice none 0 0], .bool true]) ∧ w' = W.alloc (.cells #[.int .i64 1, .int .i64 v, .string ⟨#[]⟩, .slice none 0 0] 24) := fun W => number_is v W
        have hc0 : ∀ W, Calls Tryd.prog 62 #[.int .i64 a, .int .i64 b] W fun e w' => e = .returned (.int .i64 v) ∧ Below W.heap.size W w' := fun W => by refine (XNum.mul a b W).mono ?_; rintro e w' ⟨rfl, h⟩; exact ⟨by first | rfl | rw [ev], below_of_dr h⟩
        have hr : r = (⟨1, v, ⟨#[]⟩, []⟩, true) := by rw [← HR.out]; unfold foldS; rw [if_neg (by omega), if_neg (by omega), if_pos ⟨by omega, by omega, by omega, by omega⟩, foldV]; rw [if_neg (by omega)]; rw [if_neg (by omega)]; rw [if_pos hop]; rw [← ev]; rfl
        subst hr
        have HK := Lib.hid hk
        have HC0 := Lib.hid hc0
        clear hk HR hop hc0
        clear ev
        go_wp2_with fail
        refine (HC0.out _).mono ?_
        rintro e w0_ ⟨rfl, hb0⟩
        have HJ0 := Lib.hid (HI5.out.below hb0)
        clear hb0
        go_wp2_with fail
        refine (HK.out _).mono ?_
        rintro e w9 ⟨rfl, ew9⟩
        have H9 := Lib.hid (HJ0.out.below (W' := w9) (by rw [ew9]; exact below_alloc (Below.refl _ _) _))
        clear ew9 t6 t7 t8 t9
        obtain ⟨q0, q1, q2, q3⟩ := core_cells H9.out.d.b1
        have i0 := blk_frozen H9.out.d.b1 0; have i1 := blk_frozen H9.out.d.b1 1; have i2 := blk_frozen H9.out.d.b1 2; have i3 := blk_frozen H9.out.d.b1 3
        have hs9 : w.heap.size + 1 < w9.heap.size := blk_lt H9.out.d.b1
        go_wp2
        refine bodyPost_ret (v := .tuple #[.agg #[.int .i64 1, .int .i64 v, .string ⟨#[]⟩, .slice none 0 0], .bool true]) (by simp [results, Tryd.f52, go_sem, q0, q1, q2, q3, hs9]) rfl ?_
        exact ⟨_, rfl, Kd.V_nil _ _ _ _ _, below_put4 H9.out.d.bel (by omega) _ _ _ _⟩
      have ne9 := hop
      clear hop
      by_cases hop : x.f0 = 10
      · have t6 : (x.f0 == 6) = false := beq_eq_false_iff_ne.2 (by omega)
        have t7 : (x.f0 == 7) = false := beq_eq_false_iff_ne.2 (by omega)
        have t8 : (x.f0 == 8) = false := beq_eq_false_iff_ne.2 (by omega)
        have t9 : (x.f0 == 9) = false := beq_eq_false_iff_ne.2 (by omega)
        have t10 : (x.f0 == 10) = true := beq_iff_eq.2 hop
        obtain ⟨v, ev⟩ : ∃ v : Int, Num.div a b = v := ⟨_, rfl⟩
        have hk : ∀ W, Calls Tryd.prog 80 #[.int .i64 v] W fun e w' => e = .returned (.tuple #[.agg #[.int .i64 1, .int .i64 v, .string ⟨#[]⟩, .slice none 0 0], .bool true]) ∧ w' = W.alloc (.cells #[.int .i64 1, .int .i64 v, .string ⟨#[]⟩, .slice none 0 0] 24) := fun W => number_is v W
        have hc0 : ∀ W, Calls Tryd.prog 86 #[.int .i64 a, .int .i64 b] W fun e w' => e = .returned (.int .i64 v) ∧ Below W.heap.size W w' := fun W => by refine (XNum.div a b W).mono ?_; rintro e w' ⟨rfl, h⟩; exact ⟨by first | rfl | rw [ev], below_of_dr h⟩
        have hr : r = (⟨1, v, ⟨#[]⟩, []⟩, true) := by rw [← HR.out]; unfold foldS; rw [if_neg (by omega), if_neg (by omega), if_pos ⟨by omega, by omega, by omega, by omega⟩, foldV]; rw [if_neg (by omega)]; rw [if_neg (by omega)]; rw [if_neg (by omega)]; rw [if_pos hop]; rw [← ev]; rfl
        subst hr
        have HK := Lib.hid hk
        have HC0 := Lib.hid hc0
        clear hk HR hop hc0
        clear ev
        go_wp2_with fail
        refine (HC0.out _).mono ?_
        rintro e w0_ ⟨rfl, hb0⟩
        have HJ0 := Lib.hid (HI5.out.below hb0)
        clear hb0
        go_wp2_with fail
        refine (HK.out _).mono ?_
        rintro e w9 ⟨rfl, ew9⟩
        have H9 := Lib.hid (HJ0.out.below (W' := w9) (by rw [ew9]; exact below_alloc (Below.refl _ _) _))
        clear ew9 t6 t7 t8 t9 t10
        obtain ⟨q0, q1, q2, q3⟩ := core_cells H9.out.d.b1
        have i0 := blk_frozen H9.out.d.b1 0; have i1 := blk_frozen H9.out.d.b1 1; have i2 := blk_frozen H9.out.d.b1 2; have i3 := blk_frozen H9.out.d.b1 3
        have hs9 : w.heap.size + 1 < w9.heap.size := blk_lt H9.out.d.b1
        go_wp2
        refine bodyPost_ret (v := .tuple #[.agg #[.int .i64 1, .int .i64 v, .string ⟨#[]⟩, .slice none 0 0], .bool true]) (by simp [results, Tryd.f52, go_sem, q0, q1, q2, q3, hs9]) rfl ?_
        exact ⟨_, rfl, Kd.V_nil _ _ _ _ _, below_put4 H9.out.d.bel (by omega) _ _ _ _⟩
      have ne10 := hop
      clear hop
      by_cases hop : x.f0 = 20
      · have t6 : (x.f0 == 6) = false := beq_eq_false_iff_ne.2 (by omega)
        have t7 : (x.f0 == 7) = false := beq_eq_false_iff_ne.2 (by omega)
        have t8 : (x.f0 == 8) = false := beq_eq_false_iff_ne.2 (by omega)
        have t9 : (x.f0 == 9) = false := beq_eq_false_iff_ne.2 (by omega)
        have t10 : (x.f0 == 10) = false := beq_eq_false_iff_ne.2 (by omega)
        have t20 : (x.f0 == 20) = true := beq_iff_eq.2 hop
        obtain ⟨v, ev⟩ : ∃ v : Int, Date.years a b = v := ⟨_, rfl⟩
        have hk : ∀ W, Calls Tryd.prog 80 #[.int .i64 v] W fun e w' => e = .returned (.tuple #[.agg #[.int .i64 1, .int .i64 v, .string ⟨#[]⟩, .slice none 0 0], .bool true]) ∧ w' = W.alloc (.cells #[.int .i64 1, .int .i64 v, .string ⟨#[]⟩, .slice none 0 0] 24) := fun W => number_is v W
        have hc0 : ∀ W, Calls Tryd.prog 87 #[.int .i64 a, .int .i64 b] W fun e w' => e = .returned (.int .i64 v) ∧ Below W.heap.size W w' := fun W => by refine (XDate.years a b W).mono ?_; rintro e w' ⟨rfl, h⟩; exact ⟨by first | rfl | rw [ev], below_of_dr h⟩
        have hr : r = (⟨1, v, ⟨#[]⟩, []⟩, true) := by rw [← HR.out]; unfold foldS; rw [if_neg (by omega), if_neg (by omega), if_pos ⟨by omega, by omega, by omega, by omega⟩, foldV]; rw [if_neg (by omega)]; rw [if_neg (by omega)]; rw [if_neg (by omega)]; rw [if_neg (by omega)]; rw [if_neg (by omega)]; rw [if_neg (by omega)]; rw [if_neg (by omega)]; rw [if_neg (by omega)]; rw [if_neg (by omega)]; rw [if_pos hop]; rw [← ev]; rfl
        subst hr
        have HK := Lib.hid hk
        have HC0 := Lib.hid hc0
        clear hk HR hop hc0
        clear ev
        go_wp2_with fail
        refine (HC0.out _).mono ?_
        rintro e w0_ ⟨rfl, hb0⟩
        have HJ0 := Lib.hid (HI5.out.below hb0)
        clear hb0
        go_wp2_with fail
        refine (HK.out _).mono ?_
        rintro e w9 ⟨rfl, ew9⟩
        have H9 := Lib.hid (HJ0.out.below (W' := w9) (by rw [ew9]; exact below_alloc (Below.refl _ _) _))
        clear ew9 t6 t7 t8 t9 t10 t20
        obtain ⟨q0, q1, q2, q3⟩ := core_cells H9.out.d.b1
        have i0 := blk_frozen H9.out.d.b1 0; have i1 := blk_frozen H9.out.d.b1 1; have i2 := blk_frozen H9.out.d.b1 2; have i3 := blk_frozen H9.out.d.b1 3
        have hs9 : w.heap.size + 1 < w9.heap.size := blk_lt H9.out.d.b1
        go_wp2
        refine bodyPost_ret (v := .tuple #[.agg #[.int .i64 1, .int .i64 v, .string ⟨#[]⟩, .slice none 0 0], .bool true]) (by simp [results, Tryd.f52, go_sem, q0, q1, q2, q3, hs9]) rfl ?_
        exact ⟨_, rfl, Kd.V_nil _ _ _ _ _, below_put4 H9.out.d.bel (by omega) _ _ _ _⟩
      have ne20 := hop
      clear hop
      by_cases hop : x.f0 = 21
      · have t6 : (x.f0 == 6) = false := beq_eq_false_iff_ne.2 (by omega)
        have t7 : (x.f0 == 7) = false := beq_eq_false_iff_ne.2 (by omega)
        have t8 : (x.f0 == 8) = false := beq_eq_false_iff_ne.2 (by omega)
        have t9 : (x.f0 == 9) = false := beq_eq_false_iff_ne.2 (by omega)
        have t10 : (x.f0 == 10) = false := beq_eq_false_iff_ne.2 (by omega)
        have t20 : (x.f0 == 20) = false := beq_eq_false_iff_ne.2 (by omega)
        have t21 : (x.f0 == 21) = true := beq_iff_eq.2 hop
        obtain ⟨v, ev⟩ : ∃ v : Int, Date.years30 (ymd a).y (ymd a).m (ymd a).d (ymd b).y (ymd b).m (ymd b).d = v := ⟨_, rfl⟩
        have hk : ∀ W, Calls Tryd.prog 80 #[.int .i64 v] W fun e w' => e = .returned (.tuple #[.agg #[.int .i64 1, .int .i64 v, .string ⟨#[]⟩, .slice none 0 0], .bool true]) ∧ w' = W.alloc (.cells #[.int .i64 1, .int .i64 v, .string ⟨#[]⟩, .slice none 0 0] 24) := fun W => number_is v W
        have hc0 : ∀ W, Calls Tryd.prog 88 #[.int .i64 a, .int .i64 b] W fun e w' => e = .returned (.int .i64 v) ∧ Below W.heap.size W w' := fun W => by refine (XDate.years30 a b _ _ _ _ _ _ (ymd_valid a) (ymd_num a) (ymd_valid b) (ymd_num b) W).mono ?_; rintro e w' ⟨rfl, h⟩; exact ⟨by first | rfl | rw [ev], h⟩
        have hr : r = (⟨1, v, ⟨#[]⟩, []⟩, true) := by rw [← HR.out]; unfold foldS; rw [if_neg (by omega), if_neg (by omega), if_pos ⟨by omega, by omega, by omega, by omega⟩, foldV]; rw [if_neg (by omega)]; rw [if_neg (by omega)]; rw [if_neg (by omega)]; rw [if_neg (by omega)]; rw [if_neg (by omega)]; rw [if_neg (by omega)]; rw [if_neg (by omega)]; rw [if_neg (by omega)]; rw [if_neg (by omega)]; rw [if_neg (by omega)]; rw [← ev]; rfl
        subst hr
        have HK := Lib.hid hk
        have HC0 := Lib.hid hc0
        clear hk HR hop hc0
        clear ev
        go_wp2_with fail
        refine (HC0.out _).mono ?_
        rintro e w0_ ⟨rfl, hb0⟩
        have HJ0 := Lib.hid (HI5.out.below hb0)
        clear hb0
        go_wp2_with fail
        refine (HK.out _).mono ?_
        rintro e w9 ⟨rfl, ew9⟩
        have H9 := Lib.hid (HJ0.out.below (W' := w9) (by rw [ew9]; exact below_alloc (Below.refl _ _) _))
        clear ew9 t6 t7 t8 t9 t10 t20 t21
        obtain ⟨q0, q1, q2, q3⟩ := core_cells H9.out.d.b1
        have i0 := blk_frozen H9.out.d.b1 0; have i1 := blk_frozen H9.out.d.b1 1; have i2 := blk_frozen H9.out.d.b1 2; have i3 := blk_frozen H9.out.d.b1 3
        have hs9 : w.heap.size + 1 < w9.heap.size := blk_lt H9.out.d.b1
        go_wp2
        refine bodyPost_ret (v := .tuple #[.agg #[.int .i64 1, .int .i64 v, .string ⟨#[]⟩, .slice none 0 0], .bool true]) (by simp [results, Tryd.f52, go_sem, q0, q1, q2, q3, hs9]) rfl ?_
        exact ⟨_, rfl, Kd.V_nil _ _ _ _ _, below_put4 H9.out.d.bel (by omega) _ _ _ _⟩
      have ne21 := hop
      clear hop
      by_cases hop : x.f0 = 14
      · have t6 : (x.f0 == 6) = false := beq_eq_false_iff_ne.2 (by omega)
        have t7 : (x.f0 == 7) = false := beq_eq_false_iff_ne.2 (by omega)
        have t8 : (x.f0 == 8) = false := beq_eq_false_iff_ne.2 (by omega)
        have t9 : (x.f0 == 9) = false := beq_eq_false_iff_ne.2 (by omega)
        have t10 : (x.f0 == 10) = false := beq_eq_false_iff_ne.2 (by omega)
        have t20 : (x.f0 == 20) = false := beq_eq_false_iff_ne.2 (by omega)
        have t21 : (x.f0 == 21) = false := beq_eq_false_iff_ne.2 (by omega)
        have t14 : (x.f0 == 14) = true := beq_iff_eq.2 hop
        obtain ⟨v, ev⟩ : ∃ v : Int, (if (a == 0) = true then 1 else 0) = v := ⟨_, rfl⟩
        have hk : ∀ W, Calls Tryd.prog 81 #[.bool (a == 0)] W fun e w' => e = .returned (.tuple #[.agg #[.int .i64 2, .int .i64 v, .string ⟨#[]⟩, .slice none 0 0], .bool true]) ∧ w' = W.alloc (.cells #[.int .i64 2, .int .i64 v, .string ⟨#[]⟩, .slice none 0 0] 24) := fun W => by rw [← ev]; exact is_is _ W
        have hr : r = (⟨2, v, ⟨#[]⟩, []⟩, true) := by rw [← HR.out]; unfold foldS; rw [if_neg (by omega), if_pos hop]; rw [← ev]; rfl
        subst hr
        have HK := Lib.hid hk
        clear hk HR hop
        clear ev
        go_wp2_with fail
        refine (HK.out _).mono ?_
        rintro e w9 ⟨rfl, ew9⟩
        have H9 := Lib.hid (HI5.out.below (W' := w9) (by rw [ew9]; exact below_alloc (Below.refl _ _) _))
        clear ew9 t6 t7 t8 t9 t10 t20 t21 t14
        obtain ⟨q0, q1, q2, q3⟩ := core_cells H9.out.d.b1
        have i0 := blk_frozen H9.out.d.b1 0; have i1 := blk_frozen H9.out.d.b1 1; have i2 := blk_frozen H9.out.d.b1 2; have i3 := blk_frozen H9.out.d.b1 3
        have hs9 : w.heap.size + 1 < w9.heap.size := blk_lt H9.out.d.b1
        go_wp2
        refine bodyPost_ret (v := .tuple #[.agg #[.int .i64 2, .int .i64 v, .string ⟨#[]⟩, .slice none 0 0], .bool true]) (by simp [results, Tryd.f52, go_sem, q0, q1, q2, q3, hs9]) rfl ?_
        exact ⟨_, rfl, Kd.V_nil _ _ _ _ _, below_put4 H9.out.d.bel (by omega) _ _ _ _⟩
      have ne14 := hop
      clear hop
      by_cases hop : x.f0 = 11
      · have t6 : (x.f0 == 6) = false := beq_eq_false_iff_ne.2 (by omega)
        have t7 : (x.f0 == 7) = false := beq_eq_false_iff_ne.2 (by omega)
        have t8 : (x.f0 == 8) = false := beq_eq_false_iff_ne.2 (by omega)
        have t9 : (x.f0 == 9) = false := beq_eq_false_iff_ne.2 (by omega)
        have t10 : (x.f0 == 10) = false := beq_eq_false_iff_ne.2 (by omega)
        have t20 : (x.f0 == 20) = false := beq_eq_false_iff_ne.2 (by omega)
        have t21 : (x.f0 == 21) = false := beq_eq_false_iff_ne.2 (by omega)
        have t14 : (x.f0 == 14) = false := beq_eq_false_iff_ne.2 (by omega)
        have t11 : (x.f0 == 11) = true := beq_iff_eq.2 hop
        obtain ⟨v, ev⟩ : ∃ v : Int, (if (decide (a < b)) = true then 1 else 0) = v := ⟨_, rfl⟩
        have hk : ∀ W, Calls Tryd.prog 81 #[.bool (decide (a < b))] W fun e w' => e = .returned (.tuple #[.agg #[.int .i64 2, .int .i64 v, .string ⟨#[]⟩, .slice none 0 0], .bool true]) ∧ w' = W.alloc (.cells #[.int .i64 2, .int .i64 v, .string ⟨#[]⟩, .slice none 0 0] 24) := fun W => by rw [← ev]; exact is_is _ W
        have hr : r = (⟨2, v, ⟨#[]⟩, []⟩, true) := by rw [← HR.out]; unfold foldS; rw [if_neg (by omega), if_neg (by omega), if_pos ⟨by omega, by omega, by omega, by omega⟩, foldV]; rw [if_neg (by omega)]; rw [if_neg (by omega)]; rw [if_neg (by omega)]; rw [if_neg (by omega)]; rw [if_pos (Or.inl hop)]; rw [← ev]; rfl
        subst hr
        have HK := Lib.hid hk
        clear hk HR hop
        clear ev
        go_wp2_with fail
        refine (HK.out _).mono ?_
        rintro e w9 ⟨rfl, ew9⟩
        have H9 := Lib.hid (HI5.out.below (W' := w9) (by rw [ew9]; exact below_alloc (Below.refl _ _) _))
        clear ew9 t6 t7 t8 t9 t10 t20 t21 t14 t11
        obtain ⟨q0, q1, q2, q3⟩ := core_cells H9.out.d.b1
        have i0 := blk_frozen H9.out.d.b1 0; have i1 := blk_frozen H9.out.d.b1 1; have i2 := blk_frozen H9.out.d.b1 2; have i3 := blk_frozen H9.out.d.b1 3
        have hs9 : w.heap.size + 1 < w9.heap.size := blk_lt H9.out.d.b1
        go_wp2
        refine bodyPost_ret (v := .tuple #[.agg #[.int .i64 2, .int .i64 v, .string ⟨#[]⟩, .slice none 0 0], .bool true]) (by simp [results, Tryd.f52, go_sem, q0, q1, q2, q3, hs9]) rfl ?_
        exact ⟨_, rfl, Kd.V_nil _ _ _ _ _, below_put4 H9.out.d.bel (by omega) _ _ _ _⟩
      have ne11 := hop
      clear hop
      by_cases hop : x.f0 = 17
      · have t6 : (x.f0 == 6) = false := beq_eq_false_iff_ne.2 (by omega)
        have t7 : (x.f0 == 7) = false := beq_eq_false_iff_ne.2 (by omega)
        have t8 : (x.f0 == 8) = false := beq_eq_false_iff_ne.2 (by omega)
        have t9 : (x.f0 == 9) = false := beq_eq_false_iff_ne.2 (by omega)
        have t10 : (x.f0 == 10) = false := beq_eq_false_iff_ne.2 (by omega)
        have t20 : (x.f0 == 20) = false := beq_eq_false_iff_ne.2 (by omega)
        have t21 : (x.f0 == 21) = false := beq_eq_false_iff_ne.2 (by omega)
        have t14 : (x.f0 == 14) = false := beq_eq_false_iff_ne.2 (by omega)
        have t11 : (x.f0 == 11) = false := beq_eq_false_iff_ne.2 (by omega)
        have t17 : (x.f0 == 17) = true := beq_iff_eq.2 hop
        obtain ⟨v, ev⟩ : ∃ v : Int, (if (decide (a < b)) = true then 1 else 0) = v := ⟨_, rfl⟩
        have hk : ∀ W, Calls Tryd.prog 81 #[.bool (decide (a < b))] W fun e w' => e = .returned (.tuple #[.agg #[.int .i64 2, .int .i64 v, .string ⟨#[]⟩, .slice none 0 0], .bool true]) ∧ w' = W.alloc (.cells #[.int .i64 2, .int .i64 v, .string ⟨#[]⟩, .slice none 0 0] 24) := fun W => by rw [← ev]; exact is_is _ W
        have hr : r = (⟨2, v, ⟨#[]⟩, []⟩, true) := by rw [← HR.out]; unfold foldS; rw [if_neg (by omega), if_neg (by omega), if_pos ⟨by omega, by omega, by omega, by omega⟩, foldV]; rw [if_neg (by omega)]; rw [if_neg (by omega)]; rw [if_neg (by omega)]; rw [if_neg (by omega)]; rw [if_pos (Or.inr hop)]; rw [← ev]; rfl
        subst hr
        have HK := Lib.hid hk
        clear hk HR hop
        clear ev
        go_wp2_with fail
        refine (HK.out _).mono ?_
        rintro e w9 ⟨rfl, ew9⟩
        have H9 := Lib.hid (HI5.out.below (W' := w9) (by rw [ew9]; exact below_alloc (Below.refl _ _) _))
        clear ew9 t6 t7 t8 t9 t10 t20 t21 t14 t11 t17
        obtain ⟨q0, q1, q2, q3⟩ := core_cells H9.out.d.b1
        have i0 := blk_frozen H9.out.d.b1 0; have i1 := blk_frozen H9.out.d.b1 1; have i2 := blk_frozen H9.out.d.b1 2; have i3 := blk_frozen H9.out.d.b1 3
        have hs9 : w.heap.size + 1 < w9.heap.size := blk_lt H9.out.d.b1
        go_wp2
        refine bodyPost_ret (v := .tuple #[.agg #[.int .i64 2, .int .i64 v, .string ⟨#[]⟩, .slice none 0 0], .bool true]) (by simp [results, Tryd.f52, go_sem, q0, q1, q2, q3, hs9]) rfl ?_
        exact ⟨_, rfl, Kd.V_nil _ _ _ _ _, below_put4 H9.out.d.bel (by omega) _ _ _ _⟩
      have ne17 := hop
      clear hop
      by_cases hop : x.f0 = 12
      · have t6 : (x.f0 == 6) = false := beq_eq_false_iff_ne.2 (by omega)
        have t7 : (x.f0 == 7) = false := beq_eq_false_iff_ne.2 (by omega)
        have t8 : (x.f0 == 8) = false := beq_eq_false_iff_ne.2 (by omega)
        have t9 : (x.f0 == 9) = false := beq_eq_false_iff_ne.2 (by omega)
        have t10 : (x.f0 == 10) = false := beq_eq_false_iff_ne.2 (by omega)
        have t20 : (x.f0 == 20) = false := beq_eq_false_iff_ne.2 (by omega)
        have t21 : (x.f0 == 21) = false := beq_eq_false_iff_ne.2 (by omega)
        have t14 : (x.f0 == 14) = false := beq_eq_false_iff_ne.2 (by omega)
        have t11 : (x.f0 == 11) = false := beq_eq_false_iff_ne.2 (by omega)
        have t17 : (x.f0 == 17) = false := beq_eq_false_iff_ne.2 (by omega)
        have t12 : (x.f0 == 12) = true := beq_iff_eq.2 hop
        obtain ⟨v, ev⟩ : ∃ v : Int, (if (decide (a ≤ b)) = true then 1 else 0) = v := ⟨_, rfl⟩
        have hk : ∀ W, Calls Tryd.prog 81 #[.bool (decide (a ≤ b))] W fun e w' => e = .returned (.tuple #[.agg #[.int .i64 2, .int .i64 v, .string ⟨#[]⟩, .slice none 0 0], .bool true]) ∧ w' = W.alloc (.cells #[.int .i64 2, .int .i64 v, .string ⟨#[]⟩, .slice none 0 0] 24) := fun W => by rw [← ev]; exact is_is _ W
        have hr : r = (⟨2, v, ⟨#[]⟩, []⟩, true) := by rw [← HR.out]; unfold foldS; rw [if_neg (by omega), if_neg (by omega), if_pos ⟨by omega, by omega, by omega, by omega⟩, foldV]; rw [if_neg (by omega)]; rw [if_neg (by omega)]; rw [if_neg (by omega)]; rw [if_neg (by omega)]; rw [if_neg (by omega)]; rw [if_pos hop]; rw [← ev]; rfl
        subst hr
        have HK := Lib.hid hk
        clear hk HR hop
        clear ev
        go_wp2_with fail
        refine (HK.out _).mono ?_
        rintro e w9 ⟨rfl, ew9⟩
        have H9 := Lib.hid (HI5.out.below (W' := w9) (by rw [ew9]; exact below_alloc (Below.refl _ _) _))
        clear ew9 t6 t7 t8 t9 t10 t20 t21 t14 t11 t17 t12
        obtain ⟨q0, q1, q2, q3⟩ := core_cells H9.out.d.b1
        have i0 := blk_frozen H9.out.d.b1 0; have i1 := blk_frozen H9.out.d.b1 1; have i2 := blk_frozen H9.out.d.b1 2; have i3 := blk_frozen H9.out.d.b1 3
        have hs9 : w.heap.size + 1 < w9.heap.size := blk_lt H9.out.d.b1
        go_wp2
        refine bodyPost_ret (v := .tuple #[.agg #[.int .i64 2, .int .i64 v, .string ⟨#[]⟩, .slice none 0 0], .bool true]) (by simp [results, Tryd.f52, go_sem, q0, q1, q2, q3, hs9]) rfl ?_
        exact ⟨_, rfl, Kd.V_nil _ _ _ _ _, below_put4 H9.out.d.bel (by omega) _ _ _ _⟩
      have ne12 := hop
      clear hop
      by_cases hop : x.f0 = 13
      · have t6 : (x.f0 == 6) = false := beq_eq_false_iff_ne.2 (by omega)
        have t7 : (x.f0 == 7) = false := beq_eq_false_iff_ne.2 (by omega)
        have t8 : (x.f0 == 8) = false := beq_eq_false_iff_ne.2 (by omega)
        have t9 : (x.f0 == 9) = false := beq_eq_false_iff_ne.2 (by omega)
        have t10 : (x.f0 == 10) = false := beq_eq_false_iff_ne.2 (by omega)
        have t20 : (x.f0 == 20) = false := beq_eq_false_iff_ne.2 (by omega)
        have t21 : (x.f0 == 21) = false := beq_eq_false_iff_ne.2 (by omega)
        have t14 : (x.f0 == 14) = false := beq_eq_false_iff_ne.2 (by omega)
        have t11 : (x.f0 == 11) = false := beq_eq_false_iff_ne.2 (by omega)
        have t17 : (x.f0 == 17) = false := beq_eq_false_iff_ne.2 (by omega)
        have t12 : (x.f0 == 12) = false := beq_eq_false_iff_ne.2 (by omega)
        have t13 : (x.f0 == 13) = true := beq_iff_eq.2 hop
        obtain ⟨v, ev⟩ : ∃ v : Int, (if (a == b) = true then 1 else 0) = v := ⟨_, rfl⟩
        have hk : ∀ W, Calls Tryd.prog 81 #[.bool (a == b)] W fun e w' => e = .returned (.tuple #[.agg #[.int .i64 2, .int .i64 v, .string ⟨#[]⟩, .slice none 0 0], .bool true]) ∧ w' = W.alloc (.cells #[.int .i64 2, .int .i64 v, .string ⟨#[]⟩, .slice none 0 0] 24) := fun W => by rw [← ev]; exact is_is _ W
        have hr : r = (⟨2, v, ⟨#[]⟩, []⟩, true) := by rw [← HR.out]; unfold foldS; rw [if_neg (by omega), if_neg (by omega), if_pos ⟨by omega, by omega, by omega, by omega⟩, foldV]; rw [if_neg (by omega)]; rw [if_neg (by omega)]; rw [if_neg (by omega)]; rw [if_neg (by omega)]; rw [if_neg (by omega)]; rw [if_neg (by omega)]; rw [if_pos hop]; rw [← ev]; rfl
        subst hr
        have HK := Lib.hid hk
        clear hk HR hop
        clear ev
        go_wp2_with fail
        refine (HK.out _).mono ?_
        rintro e w9 ⟨rfl, ew9⟩
        have H9 := Lib.hid (HI5.out.below (W' := w9) (by rw [ew9]; exact below_alloc (Below.refl _ _) _))
        clear ew9 t6 t7 t8 t9 t10 t20 t21 t14 t11 t17 t12 t13
        obtain ⟨q0, q1, q2, q3⟩ := core_cells H9.out.d.b1
        have i0 := blk_frozen H9.out.d.b1 0; have i1 := blk_frozen H9.out.d.b1 1; have i2 := blk_frozen H9.out.d.b1 2; have i3 := blk_frozen H9.out.d.b1 3
        have hs9 : w.heap.size + 1 < w9.heap.size := blk_lt H9.out.d.b1
        go_wp2
        refine bodyPost_ret (v := .tuple #[.agg #[.int .i64 2, .int .i64 v, .string ⟨#[]⟩, .slice none 0 0], .bool true]) (by simp [results, Tryd.f52, go_sem, q0, q1, q2, q3, hs9]) rfl ?_
        exact ⟨_, rfl, Kd.V_nil _ _ _ _ _, below_put4 H9.out.d.bel (by omega) _ _ _ _⟩
      have ne13 := hop
      clear hop
      by_cases hop : x.f0 = 18
      · have t6 : (x.f0 == 6) = false := beq_eq_false_iff_ne.2 (by omega)
        have t7 : (x.f0 == 7) = false := beq_eq_false_iff_ne.2 (by omega)
        have t8 : (x.f0 == 8) = false := beq_eq_false_iff_ne.2 (by omega)
        have t9 : (x.f0 == 9) = false := beq_eq_false_iff_ne.2 (by omega)
        have t10 : (x.f0 == 10) = false := beq_eq_false_iff_ne.2 (by omega)
        have t20 : (x.f0 == 20) = false := beq_eq_false_iff_ne.2 (by omega)
        have t21 : (x.f0 == 21) = false := beq_eq_false_iff_ne.2 (by omega)
        have t14 : (x.f0 == 14) = false := beq_eq_false_iff_ne.2 (by omega)
        have t11 : (x.f0 == 11) = false := beq_eq_false_iff_ne.2 (by omega)
        have t17 : (x.f0 == 17) = false := beq_eq_false_iff_ne.2 (by omega)
        have t12 : (x.f0 == 12) = false := beq_eq_false_iff_ne.2 (by omega)
        have t13 : (x.f0 == 13) = false := beq_eq_false_iff_ne.2 (by omega)
        have t18 : (x.f0 == 18) = true := beq_iff_eq.2 hop
        obtain ⟨v, ev⟩ : ∃ v : Int, Date.plus a (Int.tdiv (Num.clamp b) 1000000) = v := ⟨_, rfl⟩
        have hk : ∀ W, Calls Tryd.prog 83 #[.int .i64 v] W fun e w' => e = .returned (.tuple #[.agg #[.int .i64 3, .int .i64 v, .string ⟨#[]⟩, .slice none 0 0], .bool true]) ∧ w' = W.alloc (.cells #[.int .i64 3, .int .i64 v, .string ⟨#[]⟩, .slice none 0 0] 24) := fun W => day_is v W
        have hc0 : ∀ W, Calls Tryd.prog 89 #[.int .i64 b] W fun e w' => e = .returned (.int .i64 (Int.tdiv (Num.clamp b) 1000000)) ∧ Below W.heap.size W w' := fun W => by refine (whole_is b W).mono ?_; rintro e w' ⟨rfl, rfl⟩; exact ⟨by first | rfl | rw [ev], Below.refl _ _⟩
        have hc1 : ∀ W, Calls Tryd.prog 71 #[.int .i64 a, .int .i64 (Int.tdiv (Num.clamp b) 1000000)] W fun e w' => e = .returned (.int .i64 v) ∧ Below W.heap.size W w' := fun W => by refine (XDate.plus a _ W).mono ?_; rintro e w' ⟨rfl, rfl⟩; exact ⟨by first | rfl | rw [ev], Below.refl _ _⟩
        have hr : r = (⟨3, v, ⟨#[]⟩, []⟩, true) := by rw [← HR.out]; unfold foldS; rw [if_neg (by omega), if_neg (by omega), if_pos ⟨by omega, by omega, by omega, by omega⟩, foldV]; rw [if_neg (by omega)]; rw [if_neg (by omega)]; rw [if_neg (by omega)]; rw [if_neg (by omega)]; rw [if_neg (by omega)]; rw [if_neg (by omega)]; rw [if_neg (by omega)]; rw [if_pos hop]; rw [← ev]; rfl
        subst hr
        have HK := Lib.hid hk
        have HC0 := Lib.hid hc0
        have HC1 := Lib.hid hc1
        clear hk HR hop hc0 hc1
        clear ev
        go_wp2_with fail
        refine (HC0.out _).mono ?_
        rintro e w0_ ⟨rfl, hb0⟩
        have HJ0 := Lib.hid (HI5.out.below hb0)
        clear hb0
        go_wp2_with fail
        refine (HC1.out _).mono ?_
        rintro e w1_ ⟨rfl, hb1⟩
        have HJ1 := Lib.hid (HJ0.out.below hb1)
        clear hb1
        go_wp2_with fail
        refine (HK.out _).mono ?_
        rintro e w9 ⟨rfl, ew9⟩
        have H9 := Lib.hid (HJ1.out.below (W' := w9) (by rw [ew9]; exact below_alloc (Below.refl _ _) _))
        clear ew9 t6 t7 t8 t9 t10 t20 t21 t14 t11 t17 t12 t13 t18
        obtain ⟨q0, q1, q2, q3⟩ := core_cells H9.out.d.b1
        have i0 := blk_frozen H9.out.d.b1 0; have i1 := blk_frozen H9.out.d.b1 1; have i2 := blk_frozen H9.out.d.b1 2; have i3 := blk_frozen H9.out.d.b1 3
        have hs9 : w.heap.size + 1 < w9.heap.size := blk_lt H9.out.d.b1
        go_wp2
        refine bodyPost_ret (v := .tuple #[.agg #[.int .i64 3, .int .i64 v, .string ⟨#[]⟩, .slice none 0 0], .bool true]) (by simp [results, Tryd.f52, go_sem, q0, q1, q2, q3, hs9]) rfl ?_
        exact ⟨_, rfl, Kd.V_nil _ _ _ _ _, below_put4 H9.out.d.bel (by omega) _ _ _ _⟩
      have ne18 := hop
      clear hop
      by_cases hop : x.f0 = 19
      · have t6 : (x.f0 == 6) = false := beq_eq_false_iff_ne.2 (by omega)
        have t7 : (x.f0 == 7) = false := beq_eq_false_iff_ne.2 (by omega)
        have t8 : (x.f0 == 8) = false := beq_eq_false_iff_ne.2 (by omega)
        have t9 : (x.f0 == 9) = false := beq_eq_false_iff_ne.2 (by omega)
        have t10 : (x.f0 == 10) = false := beq_eq_false_iff_ne.2 (by omega)
        have t20 : (x.f0 == 20) = false := beq_eq_false_iff_ne.2 (by omega)
        have t21 : (x.f0 == 21) = false := beq_eq_false_iff_ne.2 (by omega)
        have t14 : (x.f0 == 14) = false := beq_eq_false_iff_ne.2 (by omega)
        have t11 : (x.f0 == 11) = false := beq_eq_false_iff_ne.2 (by omega)
        have t17 : (x.f0 == 17) = false := beq_eq_false_iff_ne.2 (by omega)
        have t12 : (x.f0 == 12) = false := beq_eq_false_iff_ne.2 (by omega)
        have t13 : (x.f0 == 13) = false := beq_eq_false_iff_ne.2 (by omega)
        have t18 : (x.f0 == 18) = false := beq_eq_false_iff_ne.2 (by omega)
        have t19 : (x.f0 == 19) = true := beq_iff_eq.2 hop
        obtain ⟨v, ev⟩ : ∃ v : Int, Date.monthsOf (ymd a).y (ymd a).m (ymd a).d (Int.tdiv (Num.clamp b) 1000000) = v := ⟨_, rfl⟩
        have hk : ∀ W, Calls Tryd.prog 83 #[.int .i64 v] W fun e w' => e = .returned (.tuple #[.agg #[.int .i64 3, .int .i64 v, .string ⟨#[]⟩, .slice none 0 0], .bool true]) ∧ w' = W.alloc (.cells #[.int .i64 3, .int .i64 v, .string ⟨#[]⟩, .slice none 0 0] 24) := fun W => day_is v W
        have hc0 : ∀ W, Calls Tryd.prog 89 #[.int .i64 b] W fun e w' => e = .returned (.int .i64 (Int.tdiv (Num.clamp b) 1000000)) ∧ Below W.heap.size W w' := fun W => by refine (whole_is b W).mono ?_; rintro e w' ⟨rfl, rfl⟩; exact ⟨by first | rfl | rw [ev], Below.refl _ _⟩
        have hc1 : ∀ W, Calls Tryd.prog 90 #[.int .i64 a, .int .i64 (Int.tdiv (Num.clamp b) 1000000)] W fun e w' => e = .returned (.int .i64 v) ∧ Below W.heap.size W w' := fun W => by refine (XDate.months a _ _ _ _ (ymd_valid a) (ymd_num a) W).mono ?_; rintro e w' ⟨rfl, h⟩; exact ⟨by first | rfl | rw [ev], h⟩
        have hr : r = (⟨3, v, ⟨#[]⟩, []⟩, true) := by rw [← HR.out]; unfold foldS; rw [if_neg (by omega), if_neg (by omega), if_pos ⟨by omega, by omega, by omega, by omega⟩, foldV]; rw [if_neg (by omega)]; rw [if_neg (by omega)]; rw [if_neg (by omega)]; rw [if_neg (by omega)]; rw [if_neg (by omega)]; rw [if_neg (by omega)]; rw [if_neg (by omega)]; rw [if_neg (by omega)]; rw [if_pos hop]; rw [← ev]; rfl
        subst hr
        have HK := Lib.hid hk
        have HC0 := Lib.hid hc0
        have HC1 := Lib.hid hc1
        clear hk HR hop hc0 hc1
        clear ev
        go_wp2_with fail
        refine (HC0.out _).mono ?_
        rintro e w0_ ⟨rfl, hb0⟩
        have HJ0 := Lib.hid (HI5.out.below hb0)
        clear hb0
        go_wp2_with fail
        refine (HC1.out _).mono ?_
        rintro e w1_ ⟨rfl, hb1⟩
        have HJ1 := Lib.hid (HJ0.out.below hb1)
        clear hb1
        go_wp2_with fail
        refine (HK.out _).mono ?_
        rintro e w9 ⟨rfl, ew9⟩
        have H9 := Lib.hid (HJ1.out.below (W' := w9) (by rw [ew9]; exact below_alloc (Below.refl _ _) _))
        clear ew9 t6 t7 t8 t9 t10 t20 t21 t14 t11 t17 t12 t13 t18 t19
        obtain ⟨q0, q1, q2, q3⟩ := core_cells H9.out.d.b1
        have i0 := blk_frozen H9.out.d.b1 0; have i1 := blk_frozen H9.out.d.b1 1; have i2 := blk_frozen H9.out.d.b1 2; have i3 := blk_frozen H9.out.d.b1 3
        have hs9 : w.heap.size + 1 < w9.heap.size := blk_lt H9.out.d.b1
        go_wp2
        refine bodyPost_ret (v := .tuple #[.agg #[.int .i64 3, .int .i64 v, .string ⟨#[]⟩, .slice none 0 0], .bool true]) (by simp [results, Tryd.f52, go_sem, q0, q1, q2, q3, hs9]) rfl ?_
        exact ⟨_, rfl, Kd.V_nil _ _ _ _ _, below_put4 H9.out.d.bel (by omega) _ _ _ _⟩
      have ne19 := hop
      clear hop
      have t6 : (x.f0 == 6) = false := beq_eq_false_iff_ne.2 (by omega)
      have t7 : (x.f0 == 7) = false := beq_eq_false_iff_ne.2 (by omega)
      have t8 : (x.f0 == 8) = false := beq_eq_false_iff_ne.2 (by omega)
      have t9 : (x.f0 == 9) = false := beq_eq_false_iff_ne.2 (by omega)
      have t10 : (x.f0 == 10) = false := beq_eq_false_iff_ne.2 (by omega)
      have t20 : (x.f0 == 20) = false := beq_eq_false_iff_ne.2 (by omega)
      have t21 : (x.f0 == 21) = false := beq_eq_false_iff_ne.2 (by omega)
      have t14 : (x.f0 == 14) = false := beq_eq_false_iff_ne.2 (by omega)
      have t11 : (x.f0 == 11) = false := beq_eq_false_iff_ne.2 (by omega)
      have t17 : (x.f0 == 17) = false := beq_eq_false_iff_ne.2 (by omega)
      have t12 : (x.f0 == 12) = false := beq_eq_false_iff_ne.2 (by omega)
      have t13 : (x.f0 == 13) = false := beq_eq_false_iff_ne.2 (by omega)
      have t18 : (x.f0 == 18) = false := beq_eq_false_iff_ne.2 (by omega)
      have t19 : (x.f0 == 19) = false := beq_eq_false_iff_ne.2 (by omega)
      have hr : r = (x, false) := by rw [← HR.out]; unfold foldS; rw [if_neg (by omega), if_neg (by omega), if_neg (fun h => by omega)]
      subst hr
      have H9 := HI5
      clear HR ne6 ne7 ne8 ne9 ne10 ne20 ne21 ne14 ne11 ne17 ne12 ne13 ne18 ne19
      obtain ⟨q0, q1, q2, q3⟩ := core_cells H9.out.d.b1
      have i0 := blk_frozen H9.out.d.b1 0; have i1 := blk_frozen H9.out.d.b1 1; have i2 := blk_frozen H9.out.d.b1 2; have i3 := blk_frozen H9.out.d.b1 3
      have hs9 : w.heap.size + 1 < w5.heap.size := blk_lt H9.out.d.b1
      go_wp2
      refine bodyPost_ret (v := .tuple #[.agg #[.int .i64 x.f0, .int .i64 x.f1, .string x.f2, .slice A x.f3.length c], .bool false]) (by simp [results, Tryd.f52, go_sem, q0, q1, q2, q3, hs9]) rfl ?_
      exact ⟨_, rfl, Kd.V_mono (V_put4 (Kd.V_step (Kd.V_bound HV.out) (fun k hk _ => H9.out.d.bel.block k hk.2)) (fun k hk => by have := hk.2; omega) _ _ _ _) (fun k hk => .inl hk.1), below_put4 H9.out.d.bel (by omega) _ _ _ _⟩
end Go.Proofs.YtniajhmbdbgmgaaDoor.Q

/- The rules of layer 16, each as what it owes. -/
namespace Go.Proofs.YtniajhmbdbgmgaaDoor.Q
open Go Go.RowKit Go.Proofs Go.Proofs.YtniajhmbdbgmgaaDoor Go.Shelf Go.Proofs.YtniajhmbdbgmgaaDoorW.PrintWords Go.Proofs.YtniajhmbdbgmgaaDoorW.PrintLast Go.Proofs.YtniajhmbdbgmgaaDoorW.PrintMore

theorem idle_ru : Ru 54 idleF := by
  intro x y ok P A c w hV h
  unfold idleF at h
  split at h
  case h_1 a b hl => exact idle_is x a b y ok hl P A c w hV (Option.some.inj h)
  case h_2 hno =>
    simp only [Option.some.injEq, Prod.mk.injEq] at h
    obtain ⟨rfl, rfl⟩ := h
    refine idle_else x (fun hlen => ?_) P A c w hV
    match hl : x.f3 with
    | [a, b] => exact hno a b hl
    | [] => rw [hl] at hlen; cases hlen
    | [_] => rw [hl] at hlen; cases hlen
    | _ :: _ :: _ :: _ => rw [hl] at hlen; simp at hlen
theorem fold_ru : Ru 52 (foldC ymd) := by
  intro x y ok P A c w hV h
  have hx : foldX x = (y, ok) := by
    unfold foldC at h
    by_cases hc : 6 ≤ x.f0 ∧ x.f0 ≤ 21 ∧ x.f0 ≠ 15 ∧ x.f0 ≠ 16
    · rw [if_pos hc] at h
      by_cases hu : x.f0 = 6 ∨ x.f0 = 14
      · rw [if_pos hu] at h
        match hl : x.f3, h with
        | [a], h =>
          have h := Option.some.inj h
          unfold foldX
          rw [hl]
          by_cases hk : constT a = true
          · rw [if_pos hk] at h
            rw [if_pos ⟨by simp, by simp [hk]⟩, ← h]
            unfold foldS
            rcases hu with hu | hu
            · rw [if_pos hu, if_pos hu]; rfl
            · rw [if_neg (by omega), if_pos hu, if_neg (by omega)]; rfl
          · rw [if_neg hk] at h
            rw [if_neg (fun hn => hk (by simpa using hn.2)), h]
      · rw [if_neg hu] at h
        match hl : x.f3, h with
        | [a, b], h =>
          have h := Option.some.inj h
          unfold foldX
          rw [hl]
          by_cases hk : constT a = true ∧ constT b = true
          · rw [if_pos hk] at h
            rw [if_pos ⟨by simp, by simp [hk]⟩, ← h]
            unfold foldS
            rw [if_neg (fun h => hu (.inl h)), if_neg (fun h => hu (.inr h)), if_pos hc]
            rfl
          · rw [if_neg hk] at h
            rw [if_neg (fun hn => hk (by simpa using hn.2)), h]
    · rw [if_neg hc] at h
      have h := Option.some.inj h
      unfold foldX foldS
      rw [if_neg (show ¬ x.f0 = 6 by omega), if_neg (show ¬ x.f0 = 14 by omega), if_neg hc, h]
      split <;> rfl
  have := fold_is x P A c w hV
  rw [hx] at this
  exact this
end Go.Proofs.YtniajhmbdbgmgaaDoor.Q

/- The rules of layer 16: the list that opt.rules makes. -/
namespace Go.Proofs.YtniajhmbdbgmgaaDoor.Q
open Go Go.RowKit Go.Proofs Go.Proofs.YtniajhmbdbgmgaaDoor Go.Shelf Go.Proofs.YtniajhmbdbgmgaaDoorW.PrintWords Go.Proofs.YtniajhmbdbgmgaaDoorW.PrintLast Go.Proofs.YtniajhmbdbgmgaaDoorW.PrintMore

noncomputable def ruleM : List RuleM := [⟨1, 52, foldC ymd⟩, ⟨2, 53, twiceC⟩, ⟨2, 54, idleF⟩, ⟨2, 55, settledC⟩, ⟨2, 56, laterC⟩, ⟨4, 57, chosenC⟩, ⟨4, 58, neverC⟩]
theorem ruleM_pair : ruleM.map RuleM.pair = ruleC ymd := rfl
theorem rules_ok : ∀ r ∈ ruleM, Ent r.f ∧ Ru r.f r.g := by
  intro r hr
  simp only [ruleM, List.mem_cons, List.not_mem_nil, or_false] at hr
  rcases hr with rfl | rfl | rfl | rfl | rfl | rfl | rfl
  · exact ⟨enters_ Tryd.func52 (by kernel_rfl) rfl, fold_ru⟩
  · exact ⟨enters_ Tryd.func53 (by kernel_rfl) rfl, twice_ru⟩
  · exact ⟨enters_ Tryd.func54 (by kernel_rfl) rfl, idle_ru⟩
  · exact ⟨enters_ Tryd.func55 (by kernel_rfl) rfl, settled_ru⟩
  · exact ⟨enters_ Tryd.func56 (by kernel_rfl) rfl, later_ru⟩
  · exact ⟨enters_ Tryd.func57 (by kernel_rfl) rfl, chosen_ru⟩
  · exact ⟨enters_ Tryd.func58 (by kernel_rfl) rfl, never_ru⟩
def ruleCells : Array Value := #[.int .i64 1, .func (.func 52) #[] #[], .int .i64 2, .func (.func 53) #[] #[], .int .i64 2, .func (.func 54) #[] #[], .int .i64 2, .func (.func 55) #[] #[], .int .i64 2, .func (.func 56) #[] #[], .int .i64 4, .func (.func 57) #[] #[], .int .i64 4, .func (.func 58) #[] #[]]
theorem rules_is (w : World) : Calls Tryd.prog 29 #[] w fun e w' => e = .returned (.slice (some ⟨w.heap.size, 0, none⟩) 7 7) ∧ w' = w.alloc (.cells ruleCells 111) := by
  go_enter Tryd.func29, Tryd.ntmps29
  go_wp2
  go_ret
  exact ⟨rfl, rfl⟩
theorem rules_at (w : World) : RulesAt (w.alloc (.cells ruleCells 111)) w.heap.size ruleM := by
  refine ⟨by simp, fun j r hj => ?_⟩
  have hb := World.alloc_heap_new w (.cells ruleCells 111)
  rw [blk_cell hb, blk_cell hb]
  match j, hj with
  | 0, hj => cases hj; exact ⟨rfl, rfl⟩
  | 1, hj => cases hj; exact ⟨rfl, rfl⟩
  | 2, hj => cases hj; exact ⟨rfl, rfl⟩
  | 3, hj => cases hj; exact ⟨rfl, rfl⟩
  | 4, hj => cases hj; exact ⟨rfl, rfl⟩
  | 5, hj => cases hj; exact ⟨rfl, rfl⟩
  | 6, hj => cases hj; exact ⟨rfl, rfl⟩
  | j + 7, hj => simp [ruleM] at hj
end Go.Proofs.YtniajhmbdbgmgaaDoor.Q

/- opt.Do: the passes over a contract; what it answers in the print's form. -/
namespace Go.Proofs.YtniajhmbdbgmgaaDoor.Q
open Go Go.RowKit Go.Proofs Go.Proofs.YtniajhmbdbgmgaaDoor Go.Shelf Go.Proofs.YtniajhmbdbgmgaaDoorW.PrintWords Go.Proofs.YtniajhmbdbgmgaaDoorW.PrintLast Go.Proofs.YtniajhmbdbgmgaaDoorW.PrintMore
set_option linter.unusedSimpArgs false
attribute [local go_sem] World.cell?_alloc_lt

theorem first_mono : ∀ (L : List (Int × Rule)) (passes : Int) (x : Core), LeO (firstF band passes x L) (firstF band passes x L) := fun _ _ _ => LeO.refl _
theorem loop_mono (L : List (Int × Rule)) (passes : Int) : ∀ (k : Nat) (x : Core), LeO (loopF band L passes k x) (loopF band L passes (k + 1) x) := by
  intro k
  induction k with
  | zero => intro x; exact LeO.none _
  | succ k ih =>
    intro x
    rw [loopF, loopF]
    exact LeO.ite (LeO.refl _) (LeO.bind (LeO.refl _) (fun y => LeO.ite (ih y.1) (LeO.refl _)))
theorem mapM_mono {f g : Core → Option Core} (h : ∀ x, LeO (f x) (g x)) : ∀ l : List Core, LeO (l.mapM f) (l.mapM g)
  | [] => by simp only [List.mapM_nil]; exact LeO.refl _
  | x :: l => by
    rw [List.mapM_cons, List.mapM_cons]
    exact LeO.bind (h x) (fun y => LeO.bind (mapM_mono h l) (fun _ => LeO.refl _))
theorem rewrite_mono (L : List (Int × Rule)) (passes : Int) : ∀ (k : Nat) (x : Core), LeO (rewriteF band L passes k x) (rewriteF band L passes (k + 1) x) := by
  intro k
  induction k with
  | zero => intro x; exact LeO.none _
  | succ k ih =>
    intro x
    rw [rewriteF, rewriteF]
    exact LeO.ite (LeO.bind (mapM_mono ih _) (fun l => loop_mono L passes k _)) (LeO.refl _)

noncomputable def opt_Do.f (k : Nat) (a b : Int) (c : ByteArray) (l : List Core) (passes : Int) : Option (Int × Int × ByteArray × List Core × Int) :=
  (causal_Check.f k a b c l).bind fun e => if e = 0 ∧ 0 ≤ passes ∧ passes ≤ 15 then (rewriteF band (ruleC ymd) passes k ⟨a, b, c, l⟩).map fun y => (y.f0, y.f1, y.f2, y.f3, 0) else some (0, 0, ⟨#[]⟩, [], 160)
theorem opt_Do.mono : ∀ a b c l passes k, LeO (opt_Do.f k a b c l passes) (opt_Do.f (k + 1) a b c l passes) := by
  intro a b c l passes k
  unfold opt_Do.f
  exact LeO.bind (causal_Check.mono a b c l k) (fun e => LeO.ite (LeO.map _ (rewrite_mono _ passes k _)) (LeO.refl _))

set_option maxRecDepth 100000 in
set_option maxHeartbeats 4000000 in
theorem do_is (k : Nat) (x : Core) (passes : Int) (P : Nat → Prop) (A : Option Addr) (c : Nat) (w : World) (e : Int) (r : Core × Int) (hV : Kd.V k24 24 w w.heap.size P (.slice A x.f3.length c) x.f3)
    (hC : ∀ W, Below w.heap.size w W → Calls Tryd.prog 27 #[.agg #[.int .i64 x.f0, .int .i64 x.f1, .string x.f2, .slice A x.f3.length c]] W fun q W' => q = .returned (.int .i64 e) ∧ Below W.heap.size W W')
    (h : (if e = 0 ∧ 0 ≤ passes ∧ passes ≤ 15 then (rewriteF band (ruleC ymd) passes k x).map fun y => (y, (0 : Int)) else some (⟨0, 0, ⟨#[]⟩, []⟩, 160)) = some r) :
    Calls Tryd.prog 11 #[.agg #[.int .i64 x.f0, .int .i64 x.f1, .string x.f2, .slice A x.f3.length c], .int .i64 passes] w fun q w' =>
      ∃ v : Value, q = .returned (.tuple #[.agg #[.int .i64 r.1.f0, .int .i64 r.1.f1, .string r.1.f2, v], .int .i64 r.2]) ∧ Kd.V k24 24 w' w.heap.size (fun k => P k ∨ w.heap.size ≤ k) v r.1.f3 ∧ Below w.heap.size w w' := by
  obtain ⟨w2, ew2⟩ : ∃ w2, ((w.alloc (.cells #[.int .i64 x.f0, .int .i64 x.f1, .string x.f2, .slice A x.f3.length c] 24)).alloc (.cells #[.int .i64 0, .int .i64 0, .string ⟨#[]⟩, .slice none 0 0] 24)) = w2 := ⟨_, rfl⟩
  have hD2 : DInv w A c x w2 := by
    rw [← ew2]
    refine ⟨below_alloc (below_alloc (Below.refl _ _) _) _, (Below.heap_alloc _ _ _ (by simp)).trans (World.alloc_heap_new w _), ?_⟩
    rw [← World.size_alloc]; exact World.alloc_heap_new _ _
  obtain ⟨d0, d1, d2, d3⟩ := core_cells hD2.b0
  have hcall := hC w2 hD2.bel
  have HC := Lib.hid hcall; have HV := Lib.hid hV; have H := Lib.hid h; have HD2 := Lib.hid hD2
  clear hC hcall hV h hD2
  go_enter Tryd.func11, Tryd.ntmps11
  go_wp2_with fail
  clear ew2 d0 d1 d2 d3
  refine HC.out.mono ?_
  rintro q w3 ⟨rfl, hb3⟩
  have HD := Lib.hid (HD2.out.below hb3)
  clear hb3
  obtain ⟨d0, d1, d2, d3⟩ := core_cells HD.out.b0
  obtain ⟨f0, f1, f2, f3⟩ := core_cells HD.out.b1
  have i0 := blk_frozen HD.out.b1 0; have i1 := blk_frozen HD.out.b1 1; have i2 := blk_frozen HD.out.b1 2; have i3 := blk_frozen HD.out.b1 3
  have hs3 : w.heap.size + 1 < w3.heap.size := blk_lt HD.out.b1
  by_cases he : e = 0
  case neg =>
    have t1 : (e != 0) = true := bne_iff_ne.2 he
    have hr := H.out
    rw [if_neg (fun h => he h.1)] at hr
    have hr := (Option.some.inj hr).symm
    subst hr
    clear H
    go_wp2
    refine bodyPost_ret (v := .tuple #[.agg #[.int .i64 0, .int .i64 0, .string ⟨#[]⟩, .slice none 0 0], .int .i64 160]) (by simp [results, Tryd.f11, go_sem, f0, f1, f2, f3, hs3]) rfl ?_
    exact ⟨_, rfl, Kd.V_nil _ _ _ _ _, below_put4 HD.out.bel (by omega) _ _ _ _⟩
  have t1 : (e != 0) = false := bne_eq_false_iff_eq.2 he
  by_cases hp : passes < 0
  · have t2 : decide (passes < 0) = true := decide_eq_true hp
    have hr := H.out
    rw [if_neg (fun h => by omega)] at hr
    have hr := (Option.some.inj hr).symm
    subst hr
    clear H
    go_wp2
    refine bodyPost_ret (v := .tuple #[.agg #[.int .i64 0, .int .i64 0, .string ⟨#[]⟩, .slice none 0 0], .int .i64 160]) (by simp [results, Tryd.f11, go_sem, f0, f1, f2, f3, hs3]) rfl ?_
    exact ⟨_, rfl, Kd.V_nil _ _ _ _ _, below_put4 HD.out.bel (by omega) _ _ _ _⟩
  have t2 : decide (passes < 0) = false := decide_eq_false hp
  by_cases hq : 15 < passes
  · have t3 : decide (15 < passes) = true := decide_eq_true hq
    have hr := H.out
    rw [if_neg (fun h => by omega)] at hr
    have hr := (Option.some.inj hr).symm
    subst hr
    clear H
    go_wp2
    refine bodyPost_ret (v := .tuple #[.agg #[.int .i64 0, .int .i64 0, .string ⟨#[]⟩, .slice none 0 0], .int .i64 160]) (by simp [results, Tryd.f11, go_sem, f0, f1, f2, f3, hs3]) rfl ?_
    exact ⟨_, rfl, Kd.V_nil _ _ _ _ _, below_put4 HD.out.bel (by omega) _ _ _ _⟩
  have t3 : decide (15 < passes) = false := decide_eq_false hq
  have hr := H.out
  rw [if_pos ⟨he, by omega, by omega⟩] at hr
  obtain ⟨z, hz, hr⟩ := Option.map_eq_some_iff.1 hr
  subst hr
  have hz := Lib.hid hz
  clear H f0 f1 f2 f3 i0 i1 i2 i3 he hp hq
  go_wp2
  clear t1 t2 t3 d0 d1 d2 d3
  refine start_ (n := 6) (S := fun w' => w'.cell? ⟨w.heap.size, 0, none⟩ = some (.int .i64 x.f0) ∧ w'.cell? ⟨w.heap.size, 1, none⟩ = some (.int .i64 x.f1) ∧ w'.cell? ⟨w.heap.size, 2, none⟩ = some (.string x.f2) ∧ w'.cell? ⟨w.heap.size, 3, none⟩ = some (.slice A x.f3.length c)) (ds := [4]) (bm 6 0) (by kernel_rfl) rfl (by kernel_rfl) (core_cells (blk_drew HD.out.b0)) (fun hHeld => ?_)
  have HE := Lib.hid HD.out.drew
  generalize w3.drew = w4 at HE hHeld ⊢
  refine take_ (i := 0) (N := some 18) (v := ?_) (a' := ?_) (bm 6 1) rfl rfl (by kernel_rfl) (fun _ _ _ h => h) (Or.inl ⟨by rfl, ?_⟩) hHeld ?_ ?_
  rotate_left
  · rintro w' ⟨s0, s1, s2, s3⟩
    go_simp
    with_reducible rfl
  rotate_left
  · simp only [Act.put, List.setIfInBounds_toArray, List.set_cons_zero, List.set_cons_succ, i64_w, i32_w]
    rfl
  refine pure_ (i := 1) (N := some 19) (v := ?_) (a' := ?_) (bm 6 3) rfl rfl (by kernel_rfl) (fun _ _ _ h => h) (Or.inl ⟨by rfl, ?_⟩) ?_ ?_
  rotate_left
  · intro w'
    go_simp
    with_reducible rfl
  rotate_left
  · simp only [Act.put, List.setIfInBounds_toArray, List.set_cons_zero, List.set_cons_succ, i64_w, i32_w]
    rfl
  refine one_ (i := 2) (N := some 20) (bm 6 7) rfl rfl (by kernel_rfl) (by decide) (fun K hK => ?_)
  refine goes_ Tryd.func29 (by kernel_rfl) rfl #[] (by rfl) rfl rfl (by (try simp only [List.map_toArray, List.map_cons, List.map_nil]); first | done | rfl) ?_
  refine (rules_is w4).mono ?_
  rintro e w5 ⟨rfl, hw5⟩
  refine ⟨_, rfl, ?_⟩
  have hr5 := rules_at w4
  rw [← hw5] at hr5
  have hb5 : Below w4.heap.size w4 w5 := by rw [hw5]; exact below_alloc (Below.refl _ _) _
  have HD5 := Lib.hid (HE.out.below hb5)
  have HR5 := Lib.hid hr5
  obtain ⟨Br, eBr⟩ : ∃ Br, w4.heap.size = Br := ⟨_, rfl⟩
  rw [eBr] at HR5 ⊢
  clear hr5 hb5 hw5
  refine hK.out _ _ (core_cells HD5.out.b0) (fun hHeld => ?_)
  clear hK K
  refine norm_ (a' := ?_) ?_ ?_
  rotate_left
  · show Act.put _ (some 20) _ = _
    simp only [Act.put, List.setIfInBounds_toArray, List.set_cons_zero, List.set_cons_succ, i64_w, i32_w]
    rfl
  refine one_ (i := 3) (N := some 21) (bm 6 15) rfl rfl (by kernel_rfl) (by decide) (fun K hK => ?_)
  refine goes_ Tryd.func28 (by kernel_rfl) rfl #[.agg #[.int .i64 x.f0, .int .i64 x.f1, .string x.f2, .slice A x.f3.length c], .int .i64 passes, .slice (some ⟨Br, 0, none⟩) 7 7] (by rfl) rfl rfl (by (try simp only [List.map_toArray, List.map_cons, List.map_nil]); first | done | rfl) ?_
  refine (rewrite_is ruleM rules_ok (by decide) Br 7 passes k x z (fun k => P k ∧ k < w.heap.size) A c w5 HR5.out (Kd.V_step (Kd.V_bound HV.out) (fun k hk _ => HD5.out.bel.block k hk.2)) hz.out).mono ?_
  rintro e w6 ⟨v6, rfl, hv6, hb6⟩
  refine ⟨_, rfl, ?_⟩
  obtain ⟨A6, c6, rfl⟩ := Kd.V_slice hv6
  have HD6 := Lib.hid (HD5.out.below hb6)
  have HV6 := Lib.hid hv6
  clear hv6 hb6
  refine hK.out _ _ (core_cells HD6.out.b0) (fun hHeld => ?_)
  clear hK K
  refine norm_ (a' := ?_) ?_ ?_
  rotate_left
  · show Act.put _ (some 21) _ = _
    simp only [Act.put, List.setIfInBounds_toArray, List.set_cons_zero, List.set_cons_succ, i64_w, i32_w]
    rfl
  obtain ⟨f0, f1, f2, f3⟩ := core_cells HD6.out.b1
  have i0 := blk_frozen HD6.out.b1 0; have i1 := blk_frozen HD6.out.b1 1; have i2 := blk_frozen HD6.out.b1 2; have i3 := blk_frozen HD6.out.b1 3
  have hs6 : w.heap.size + 1 < w6.heap.size := blk_lt HD6.out.b1
  refine last_ (i := 4) (N := none) (bm 6 31) rfl rfl (by kernel_rfl) (by decide) (fun K hK => ?_)
  refine skip_ (w1 := ?_) (by rfl) rfl ?_ ?_
  rotate_left
  · go_simp
    rfl
  refine hK.out _ _ ?_
  clear hK K
  refine pure_ (i := 5) (N := some 5) (v := ?_) (a' := ?_) (bm 6 63) rfl rfl (by kernel_rfl) (fun _ _ _ h => h) (Or.inl ⟨by rfl, ?_⟩) ?_ ?_
  rotate_left
  · intro w'
    go_simp
    with_reducible rfl
  rotate_left
  · simp only [Act.put, List.setIfInBounds_toArray, List.set_cons_zero, List.set_cons_succ, i64_w, i32_w]
    rfl
  refine done_ (by kernel_rfl) ?_

  go_wp2
  refine bodyPost_ret (v := .tuple #[.agg #[.int .i64 z.f0, .int .i64 z.f1, .string z.f2, .slice A6 z.f3.length c6], .int .i64 0]) (by simp [results, Tryd.f11, go_sem, f0, f1, f2, f3, hs6]) rfl ?_
  have hle := HD5.out.bel.size
  have hlt5 := blk_lt HD5.out.b1
  refine ⟨_, rfl, Kd.V_mono (V_put4 HV6.out (fun k hk => ?_) _ _ _ _) (fun k hk => ?_), below_put4 HD6.out.bel (by omega) _ _ _ _⟩
  · rcases hk with hk | hk <;> omega
  · rcases hk with hk | hk
    · exact .inl hk.1
    · exact .inr (by omega)

theorem opt_Do.calls (k : Nat) (a0_0 : Int) (a0_1 : Int) (a0_2 : ByteArray) (P0_3_ : Nat → Prop) (A0_3 : Option Addr) (c0_3 : Nat) (l0_3 : List Core) (a1 : Int) (r1 : Int) (r2 : Int) (r3 : ByteArray) (r4 : List Core) (r5 : Int) (w : World)
    (hs0_3 : Kd.V k24 24 w w.heap.size (fun k_ => P0_3_ k_) (.slice A0_3 l0_3.length c0_3) l0_3) (h : opt_Do.f k a0_0 a0_1 a0_2 l0_3 a1 = some (r1, r2, r3, r4, r5)) :
    Calls Tryd.prog 11 #[.agg #[.int .i64 a0_0, .int .i64 a0_1, .string a0_2, .slice A0_3 l0_3.length c0_3], .int .i64 a1] w fun e w' =>
      ∃ v3_ : Value, e = .returned (.tuple #[.agg #[.int .i64 r1, .int .i64 r2, .string r3, v3_], .int .i64 r5]) ∧ Kd.V k24 24 w' w.heap.size (fun k_ => (P0_3_ k_ ∨ w.heap.size ≤ k_)) v3_ r4 ∧ Below w.heap.size w w' := by
  unfold opt_Do.f at h
  obtain ⟨e, he, h⟩ := Option.bind_eq_some_iff.1 h
  have hF := (Kd.V_at hs0_3).2.2
  refine do_is k ⟨a0_0, a0_1, a0_2, l0_3⟩ a1 P0_3_ A0_3 c0_3 w e (⟨r1, r2, r3, r4⟩, r5) hs0_3 (fun W hW => causal_Check.calls k a0_0 a0_1 a0_2 A0_3 c0_3 l0_3 e W (Kd.F_now (Kd.F_below hF hW)) (Kd.V_at hs0_3).2.1 he) ?_
  by_cases hc : e = 0 ∧ 0 ≤ a1 ∧ a1 ≤ 15
  · rw [if_pos hc] at h ⊢
    obtain ⟨y, hy, h⟩ := Option.map_eq_some_iff.1 h
    rw [hy]
    simp only [Prod.mk.injEq] at h
    obtain ⟨rfl, rfl, rfl, rfl, rfl⟩ := h
    simp only [Option.map_some]
    rw [core_eta]
  · rw [if_neg hc] at h ⊢
    simp only [Option.some.injEq, Prod.mk.injEq] at h
    obtain ⟨rfl, rfl, rfl, rfl, rfl⟩ := h
    rfl
end Go.Proofs.YtniajhmbdbgmgaaDoor.Q


/- The laws of layer 16: what their own code does with what the called functions answer. -/
namespace Go.Proofs.YtniajhmbdbgmgaaDoor.Q
open Go Go.RowKit Go.Proofs Go.Proofs.YtniajhmbdbgmgaaDoor Go.Shelf Go.Proofs.YtniajhmbdbgmgaaDoorW.PrintWords Go.Proofs.YtniajhmbdbgmgaaDoorW.PrintLast Go.Proofs.YtniajhmbdbgmgaaDoorW.PrintMore
set_option linter.unusedSimpArgs false
attribute [local go_sem] World.cell?_alloc_lt

set_option maxRecDepth 100000 in
set_option maxHeartbeats 4000000 in
theorem folds_walk (x y : Core) (e : Int) (b : Bool) (A : Option Addr) (c : Nat) (w : World) (hC : Kd.C k24 w A x.f3.length x.f3) (_hl : x.f3.length ≤ c)
    (hS : ∀ W, Calls Tryd.prog 10 #[] W fun q W' => q = .returned (.bool true) ∧ Below W.heap.size W W')
    (hD : ∀ W, Kd.C k24 W A x.f3.length x.f3 → Calls Tryd.prog 11 #[.agg #[.int .i64 x.f0, .int .i64 x.f1, .string x.f2, .slice A x.f3.length c], .int .i64 7] W fun q W' =>
      ∃ B d, q = .returned (.tuple #[.agg #[.int .i64 y.f0, .int .i64 y.f1, .string y.f2, .slice B y.f3.length d], .int .i64 e]) ∧ Kd.C k24 W' B y.f3.length y.f3 ∧ y.f3.length ≤ d ∧ Below W.heap.size W W')
    (hK : e = 0 → ∀ W, Kd.C k24 W A x.f3.length x.f3 → Calls Tryd.prog 13 #[.agg #[.int .i64 x.f0, .int .i64 x.f1, .string x.f2, .slice A x.f3.length c]] W fun q W' => q = .returned (.bool b) ∧ Below W.heap.size W W')
    (hT : e = 0 → b = true → ∀ W B d, Kd.C k24 W B y.f3.length y.f3 → y.f3.length ≤ d → Calls Tryd.prog 14 #[.agg #[.int .i64 y.f0, .int .i64 y.f1, .string y.f2, .slice B y.f3.length d]] W fun q W' => q = .returned (.bool true) ∧ Below W.heap.size W W') :
    Calls Tryd.prog 4 #[.agg #[.int .i64 x.f0, .int .i64 x.f1, .string x.f2, .slice A x.f3.length c]] w fun q w' => q = .returned (.bool true) ∧ Below w.heap.size w w' := by
  obtain ⟨w1, ew1⟩ : ∃ w1, w.alloc (.cells #[.int .i64 x.f0, .int .i64 x.f1, .string x.f2, .slice A x.f3.length c] 24) = w1 := ⟨_, rfl⟩
  have hB1 : Below w.heap.size w w1 := by rw [← ew1]; exact below_alloc (Below.refl _ _) _
  have hb1 : w1.heap[w.heap.size]? = some (.cells #[.int .i64 x.f0, .int .i64 x.f1, .string x.f2, .slice A x.f3.length c] 24 (0, 0)) := by rw [← ew1]; exact blk_new w _
  have HS := Lib.hid hS; have HD := Lib.hid hD; have HK := Lib.hid hK; have HT := Lib.hid hT; have HC := Lib.hid hC; have HB1 := Lib.hid hB1; have H1 := Lib.hid hb1
  clear hS hD hK hT hC hB1 hb1
  go_enter Tryd.func4, Tryd.ntmps4
  go_wp2_with fail
  clear ew1
  refine (HS.out w1).mono ?_
  rintro q w2 ⟨rfl, hb2⟩
  have H2 := Lib.hid (blk_below H1.out hb2)
  have HB2 := Lib.hid (HB1.out.trans (hb2.mono HB1.out.size))
  clear hb2 H1 HB1
  obtain ⟨c0, c1, c2, c3⟩ := core_cells H2.out
  go_wp2_with fail
  refine (HD.out w2 (Kd.C_below HC.out HB2.out)).mono ?_
  rintro q w3 ⟨B, d, rfl, hC3, hl3, hb3⟩
  have H3 := Lib.hid (blk_below H2.out hb3)
  have HB3 := Lib.hid (HB2.out.trans (hb3.mono HB2.out.size))
  have HC3 := Lib.hid hC3
  clear hb3 H2 HB2 hC3 c0 c1 c2 c3 HD HS
  obtain ⟨n, en⟩ : ∃ n, w3.heap.size = n := ⟨_, rfl⟩
  have hn : w.heap.size + 1 ≤ n := by rw [← en]; exact blk_lt H3.out
  obtain ⟨w5, ew5⟩ : ∃ w5, w3.alloc (.cells #[.int .i64 y.f0, .int .i64 y.f1, .string y.f2, .slice B y.f3.length d] 24) = w5 := ⟨_, rfl⟩
  have hb4 : Below w3.heap.size w3 w5 := by rw [← ew5]; exact below_alloc (Below.refl _ _) _
  have H5 := Lib.hid (show w5.heap[n]? = some (.cells #[.int .i64 y.f0, .int .i64 y.f1, .string y.f2, .slice B y.f3.length d] 24 (0, 0)) by rw [← ew5, ← en]; exact blk_new w3 _)
  have HX5 := Lib.hid (blk_below H3.out hb4)
  have HB5 := Lib.hid (HB3.out.trans (hb4.mono HB3.out.size))
  have HC5 := Lib.hid (Kd.C_below HC3.out hb4)
  clear hb4 HC3 HB3 H3
  obtain ⟨c0, c1, c2, c3⟩ := core_cells HX5.out
  by_cases he : e = 0
  · subst he
    go_wp2_with fail
    clear ew5
    refine (HK.out trivial w5 (Kd.C_below HC.out HB5.out)).mono ?_
    rintro q w6 ⟨rfl, hb6⟩
    obtain ⟨c0, c1, c2, c3⟩ := core_cells (blk_below H5.out hb6)
    have HB6 := Lib.hid (HB5.out.trans (hb6.mono HB5.out.size))
    have HC6 := Lib.hid (Kd.C_below HC5.out hb6)
    clear hb6 H5 HX5 HB5 HC5 HC HK
    cases b
    · go_wp2_with fail
      refine bodyPost_ret (v := .bool true) (by simp [results, Tryd.f4, go_sem]) rfl ⟨rfl, HB6.out⟩
    · go_wp2_with fail
      refine (HT.out trivial trivial w6 B d HC6.out hl3).mono ?_
      rintro q w7 ⟨rfl, hb7⟩
      go_wp2_with fail
      refine bodyPost_ret (v := .bool true) (by simp [results, Tryd.f4, go_sem]) rfl ⟨rfl, HB6.out.trans (hb7.mono HB6.out.size)⟩
  · go_wp2_with fail
    refine bodyPost_ret (v := .bool true) (by simp [results, Tryd.f4, go_sem]) rfl ⟨rfl, HB5.out⟩
set_option maxRecDepth 100000 in
set_option maxHeartbeats 4000000 in
theorem twice_walk (x y : Core) (p e : Int) (A : Option Addr) (c : Nat) (w : World) (hC : Kd.C k24 w A x.f3.length x.f3) (hl : x.f3.length ≤ c)
    (hS : ∀ W, Calls Tryd.prog 10 #[] W fun q W' => q = .returned (.bool true) ∧ Below W.heap.size W W')
    (hD : ∀ W, Kd.C k24 W A x.f3.length x.f3 → Calls Tryd.prog 11 #[.agg #[.int .i64 x.f0, .int .i64 x.f1, .string x.f2, .slice A x.f3.length c], .int .i64 p] W fun q W' =>
      ∃ B d, q = .returned (.tuple #[.agg #[.int .i64 y.f0, .int .i64 y.f1, .string y.f2, .slice B y.f3.length d], .int .i64 e]) ∧ Kd.C k24 W' B y.f3.length y.f3 ∧ y.f3.length ≤ d ∧ Below W.heap.size W W')
    (hD2 : e = 0 → ∀ W A c, Kd.C k24 W A y.f3.length y.f3 → y.f3.length ≤ c → Calls Tryd.prog 11 #[.agg #[.int .i64 y.f0, .int .i64 y.f1, .string y.f2, .slice A y.f3.length c], .int .i64 p] W fun q W' =>
      ∃ B d, q = .returned (.tuple #[.agg #[.int .i64 y.f0, .int .i64 y.f1, .string y.f2, .slice B y.f3.length d], .int .i64 0]) ∧ Kd.C k24 W' B y.f3.length y.f3 ∧ y.f3.length ≤ d ∧ Below W.heap.size W W')
    (hD3 : e = 0 → ∀ W, Kd.C k24 W A x.f3.length x.f3 → Calls Tryd.prog 11 #[.agg #[.int .i64 x.f0, .int .i64 x.f1, .string x.f2, .slice A x.f3.length c], .int .i64 0] W fun q W' =>
      ∃ B d, q = .returned (.tuple #[.agg #[.int .i64 x.f0, .int .i64 x.f1, .string x.f2, .slice B x.f3.length d], .int .i64 0]) ∧ Kd.C k24 W' B x.f3.length x.f3 ∧ x.f3.length ≤ d ∧ Below W.heap.size W W')
    (hE1 : e = 0 → ∀ W A c B d, Kd.C k24 W A y.f3.length y.f3 → y.f3.length ≤ c → Kd.C k24 W B y.f3.length y.f3 → y.f3.length ≤ d → Calls Tryd.prog 12 #[.agg #[.int .i64 y.f0, .int .i64 y.f1, .string y.f2, .slice A y.f3.length c], .agg #[.int .i64 y.f0, .int .i64 y.f1, .string y.f2, .slice B y.f3.length d]] W fun q W' => q = .returned (.bool true) ∧ Below W.heap.size W W')
    (hE2 : e = 0 → ∀ W B d, Kd.C k24 W A x.f3.length x.f3 → x.f3.length ≤ c → Kd.C k24 W B x.f3.length x.f3 → x.f3.length ≤ d → Calls Tryd.prog 12 #[.agg #[.int .i64 x.f0, .int .i64 x.f1, .string x.f2, .slice A x.f3.length c], .agg #[.int .i64 x.f0, .int .i64 x.f1, .string x.f2, .slice B x.f3.length d]] W fun q W' => q = .returned (.bool true) ∧ Below W.heap.size W W') :
    Calls Tryd.prog 3 #[.agg #[.int .i64 x.f0, .int .i64 x.f1, .string x.f2, .slice A x.f3.length c], .int .i64 p] w fun q w' => q = .returned (.bool true) ∧ Below w.heap.size w w' := by
  obtain ⟨w1, ew1⟩ : ∃ w1, w.alloc (.cells #[.int .i64 x.f0, .int .i64 x.f1, .string x.f2, .slice A x.f3.length c] 24) = w1 := ⟨_, rfl⟩
  have HB := Lib.hid (show Below w.heap.size w w1 by rw [← ew1]; exact below_alloc (Below.refl _ _) _)
  have HX := Lib.hid (show w1.heap[w.heap.size]? = some (.cells #[.int .i64 x.f0, .int .i64 x.f1, .string x.f2, .slice A x.f3.length c] 24 (0, 0)) by rw [← ew1]; exact blk_new w _)
  have HS := Lib.hid hS; have HD := Lib.hid hD; have HD2 := Lib.hid hD2; have HD3 := Lib.hid hD3; have HE1 := Lib.hid hE1; have HE2 := Lib.hid hE2
  have HC := Lib.hid (Kd.C_below hC (show Below w.heap.size w w1 by rw [← ew1]; exact below_alloc (Below.refl _ _) _))
  clear hS hD hD2 hD3 hE1 hE2 hC
  go_enter Tryd.func3, Tryd.ntmps3
  go_wp2_with fail
  clear ew1
  refine (HS.out w1).mono ?_
  rintro q w2 ⟨rfl, hb⟩
  replace HX := Lib.hid (blk_below HX.out hb)
  replace HC := Lib.hid (Kd.C_below HC.out hb)
  replace HB := Lib.hid (HB.out.trans (hb.mono HB.out.size))
  clear hb HS
  obtain ⟨c0, c1, c2, c3⟩ := core_cells HX.out
  go_wp2_with fail
  refine (HD.out w2 HC.out).mono ?_
  rintro q w3 ⟨B, d, rfl, hC, hl3, hb⟩
  replace HX := Lib.hid (blk_below HX.out hb)
  replace HC := Lib.hid (Kd.C_below HC.out hb)
  replace HB := Lib.hid (HB.out.trans (hb.mono HB.out.size))
  have HY := Lib.hid hC
  clear hb hC c0 c1 c2 c3 HD
  obtain ⟨n1, en1⟩ : ∃ n, w3.heap.size = n := ⟨_, rfl⟩
  obtain ⟨w4, ew4⟩ : ∃ u, w3.alloc (.cells #[.int .i64 y.f0, .int .i64 y.f1, .string y.f2, .slice B y.f3.length d] 24) = u := ⟨_, rfl⟩
  have hb : Below w3.heap.size w3 w4 := by rw [← ew4]; exact below_alloc (Below.refl _ _) _
  have G1 := Lib.hid (show w4.heap[n1]? = some (.cells #[.int .i64 y.f0, .int .i64 y.f1, .string y.f2, .slice B y.f3.length d] 24 (0, 0)) by rw [← ew4, ← en1]; exact blk_new w3 _)
  replace HX := Lib.hid (blk_below HX.out hb)
  replace HC := Lib.hid (Kd.C_below HC.out hb)
  replace HY := Lib.hid (Kd.C_below HY.out hb)
  replace HB := Lib.hid (HB.out.trans (hb.mono HB.out.size))
  clear hb
  have hlt := blk_lt G1.out
  obtain ⟨c0, c1, c2, c3⟩ := core_cells G1.out
  by_cases he : e = 0
  · subst he
    go_wp2_with fail
    clear ew4
    refine (HD2.out trivial w4 B d HY.out hl3).mono ?_
    rintro q w5 ⟨B2, d2, rfl, hC, hl5, hb⟩
    replace HX := Lib.hid (blk_below HX.out hb)
    replace HC := Lib.hid (Kd.C_below HC.out hb)
    replace HY := Lib.hid (Kd.C_below HY.out hb)
    replace G1 := Lib.hid (blk_below G1.out hb)
    replace HB := Lib.hid (HB.out.trans (hb.mono HB.out.size))
    have HZ := Lib.hid hC
    clear hb hC c0 c1 c2 c3 HD2
    obtain ⟨n2, en2⟩ : ∃ n, w5.heap.size = n := ⟨_, rfl⟩
    obtain ⟨w6, ew6⟩ : ∃ u, w5.alloc (.cells #[.int .i64 y.f0, .int .i64 y.f1, .string y.f2, .slice B2 y.f3.length d2] 24) = u := ⟨_, rfl⟩
    have hb : Below w5.heap.size w5 w6 := by rw [← ew6]; exact below_alloc (Below.refl _ _) _
    have G2 := Lib.hid (show w6.heap[n2]? = some (.cells #[.int .i64 y.f0, .int .i64 y.f1, .string y.f2, .slice B2 y.f3.length d2] 24 (0, 0)) by rw [← ew6, ← en2]; exact blk_new w5 _)
    replace HX := Lib.hid (blk_below HX.out hb)
    replace HC := Lib.hid (Kd.C_below HC.out hb)
    replace HY := Lib.hid (Kd.C_below HY.out hb)
    replace G1 := Lib.hid (blk_below G1.out hb)
    replace HZ := Lib.hid (Kd.C_below HZ.out hb)
    replace HB := Lib.hid (HB.out.trans (hb.mono HB.out.size))
    clear hb
    obtain ⟨c0, c1, c2, c3⟩ := core_cells HX.out
    go_wp2_with fail
    clear ew6
    refine (HD3.out trivial w6 HC.out).mono ?_
    rintro q w7 ⟨B3, d3, rfl, hC, hl7, hb⟩
    replace HX := Lib.hid (blk_below HX.out hb)
    replace HC := Lib.hid (Kd.C_below HC.out hb)
    replace HY := Lib.hid (Kd.C_below HY.out hb)
    replace G1 := Lib.hid (blk_below G1.out hb)
    replace HZ := Lib.hid (Kd.C_below HZ.out hb)
    replace G2 := Lib.hid (blk_below G2.out hb)
    replace HB := Lib.hid (HB.out.trans (hb.mono HB.out.size))
    have HV := Lib.hid hC
    clear hb hC c0 c1 c2 c3 HD3
    obtain ⟨n3, en3⟩ : ∃ n, w7.heap.size = n := ⟨_, rfl⟩
    obtain ⟨w8, ew8⟩ : ∃ u, w7.alloc (.cells #[.int .i64 x.f0, .int .i64 x.f1, .string x.f2, .slice B3 x.f3.length d3] 24) = u := ⟨_, rfl⟩
    have hb : Below w7.heap.size w7 w8 := by rw [← ew8]; exact below_alloc (Below.refl _ _) _
    have G3 := Lib.hid (show w8.heap[n3]? = some (.cells #[.int .i64 x.f0, .int .i64 x.f1, .string x.f2, .slice B3 x.f3.length d3] 24 (0, 0)) by rw [← ew8, ← en3]; exact blk_new w7 _)
    replace HX := Lib.hid (blk_below HX.out hb)
    replace HC := Lib.hid (Kd.C_below HC.out hb)
    replace HY := Lib.hid (Kd.C_below HY.out hb)
    replace G1 := Lib.hid (blk_below G1.out hb)
    replace HZ := Lib.hid (Kd.C_below HZ.out hb)
    replace G2 := Lib.hid (blk_below G2.out hb)
    replace HV := Lib.hid (Kd.C_below HV.out hb)
    replace HB := Lib.hid (HB.out.trans (hb.mono HB.out.size))
    clear hb
    obtain ⟨c0, c1, c2, c3⟩ := core_cells G1.out
    obtain ⟨d0, d1, d2', d3'⟩ := core_cells G2.out
    go_wp2_with fail
    clear ew8
    refine (HE1.out trivial w8 B d B2 d2 HY.out hl3 HZ.out hl5).mono ?_
    rintro q w9 ⟨rfl, hb⟩
    replace HX := Lib.hid (blk_below HX.out hb)
    replace HC := Lib.hid (Kd.C_below HC.out hb)
    replace HY := Lib.hid (Kd.C_below HY.out hb)
    replace G1 := Lib.hid (blk_below G1.out hb)
    replace HZ := Lib.hid (Kd.C_below HZ.out hb)
    replace G2 := Lib.hid (blk_below G2.out hb)
    replace HV := Lib.hid (Kd.C_below HV.out hb)
    replace G3 := Lib.hid (blk_below G3.out hb)
    replace HB := Lib.hid (HB.out.trans (hb.mono HB.out.size))
    clear hb c0 c1 c2 c3 d0 d1 d2' d3'
    obtain ⟨c0, c1, c2, c3⟩ := core_cells HX.out
    obtain ⟨d0, d1, d2', d3'⟩ := core_cells G3.out
    go_wp2_with fail
    refine (HE2.out trivial w9 B3 d3 HC.out hl HV.out hl7).mono ?_
    rintro q w10 ⟨rfl, hb⟩
    go_wp2_with fail
    refine bodyPost_ret (v := .bool true) (by simp [results, Tryd.f3, go_sem]) rfl ⟨rfl, HB.out.trans (hb.mono HB.out.size)⟩
  · go_wp2_with fail
    refine bodyPost_ret (v := .bool true) (by simp [results, Tryd.f3, go_sem]) rfl ⟨rfl, HB.out⟩
set_option maxRecDepth 100000 in
set_option maxHeartbeats 4000000 in
theorem shown_walk (w : World) (hcall : ∀ W : World, W.heap[w.heap.size]? = some (.cells #[.int .i64 1, .int .i64 400000, .string ⟨#[]⟩, .slice none 0 0, .int .i64 1, .int .i64 600000, .string ⟨#[]⟩, .slice none 0 0] 24 (0, 0)) →
      W.heap[w.heap.size + 1]? = some (.cells #[.int .i64 7, .int .i64 0, .string ⟨#[]⟩, .slice (some ⟨w.heap.size, 0, none⟩) 2 2, .int .i64 24, .int .i64 0, .string ⟨#[69, 85, 82]⟩, .slice none 0 0] 24 (0, 0)) →
      Calls Tryd.prog 11 #[.agg #[.int .i64 26, .int .i64 0, .string ⟨#[]⟩, .slice (some ⟨w.heap.size + 1, 0, none⟩) 2 2], .int .i64 3] W fun e W' => ∃ A c, e = .returned (.tuple #[.agg #[.int .i64 24, .int .i64 0, .string ⟨#[69, 85, 82]⟩, .slice A 0 c], .int .i64 0]) ∧ Below W.heap.size W W') :
    Calls Tryd.prog 10 #[] w fun e w' => e = .returned (.bool true) ∧ Below w.heap.size w w' := by
  have HC := Lib.hid hcall
  clear hcall
  go_enter Tryd.func10, Tryd.ntmps10
  go_wp2_with fail
  refine (HC.out _ (blk_alloc (blk_alloc (blk_new w _) _) _) (blk_alloc (by rw [← World.size_alloc]; exact blk_new _ _) _)).mono ?_
  rintro q w2 ⟨A, c, rfl, hb⟩
  have HB := Lib.hid ((below_alloc (below_alloc (below_alloc (Below.refl w.heap.size w) _) _) _).trans (hb.mono (by simp only [World.size_alloc]; omega)))
  clear hb HC
  go_wp2_with fail
  exact bodyPost_ret (v := .bool true) (by simp [results, Tryd.f10, go_sem]) rfl ⟨rfl, below_alloc HB.out _⟩
end Go.Proofs.YtniajhmbdbgmgaaDoor.Q

/- opt.Do in plain Lean: what it answers for right contracts, and what the probe of layer 16 comes to. -/
namespace Go.Proofs.YtniajhmbdbgmgaaDoor.Q
open Go Go.RowKit Go.Proofs Go.Proofs.YtniajhmbdbgmgaaDoor Go.Proofs.YtniajhmbdbgmgaaDoorW.PrintWords

theorem noAhead_ok : POk NoAhead := ⟨fun n _ _ h => by have := h.1; omega, fun n _ _ h => by have := h.1; omega, fun n _ _ h => by have := h.1; omega, fun h => by have := h.1; omega⟩
theorem rules_here : ∀ r ∈ ruleC ymd, Does flT r.2 := rules_do flOk (fun a => (ymd_valid a).d1) (fun P _ n m h1 h2 => by split <;> assumption)
theorem came_right {p : Int} {x y : Core} (h : Came band (ruleC ymd) flT p x y) (hx : Right x) : Right y := by
  have := h.size; have := h.depth; have := hx.size; have := hx.depth
  exact ⟨by omega, by omega, by rw [h.ty]; exact hx.ty, h.all _ noAhead_ok hx.ahead⟩
theorem right_ty {x : Core} (h : Right x) : tyT flT x ≠ 0 := by rw [h.ty]; decide
theorem do_of (x y : Core) (p : Int) (hx : Right x) (h0 : 0 ≤ p) (h1 : p ≤ 15) (h : ∃ K, ∀ k, K ≤ k → rewriteF band (ruleC ymd) p k x = some y) :
    ∃ K, ∀ k, K ≤ k → opt_Do.f k x.f0 x.f1 x.f2 x.f3 p = some (y.f0, y.f1, y.f2, y.f3, 0) := by
  obtain ⟨e, ⟨K1, hK1⟩, he⟩ := check_is x
  obtain ⟨K2, hK2⟩ := h
  have he := he.2 hx
  subst he
  refine ⟨K1 + K2, fun k hk => ?_⟩
  unfold opt_Do.f
  rw [hK1 k (by omega), Option.bind_some, if_pos ⟨rfl, h0, h1⟩, core_eta, hK2 k (by omega)]
  rfl
theorem do_yes (x : Core) (p : Int) (hx : Right x) (h0 : 0 ≤ p) (h1 : p ≤ 15) : ∃ y, Came band (ruleC ymd) flT p x y ∧ ∃ K, ∀ k, K ≤ k → opt_Do.f k x.f0 x.f1 x.f2 x.f3 p = some (y.f0, y.f1, y.f2, y.f3, 0) := by
  obtain ⟨y, hy, h⟩ := rewrite_comes (band := band) (passes := p) rules_here x (right_ty hx)
  exact ⟨y, hy, do_of x y p hx h0 h1 h⟩
theorem do_no (x : Core) (p : Int) (h : ¬ (Right x ∧ 0 ≤ p ∧ p ≤ 15)) : ∃ K, ∀ k, K ≤ k → opt_Do.f k x.f0 x.f1 x.f2 x.f3 p = some (0, 0, ⟨#[]⟩, [], 160) := by
  obtain ⟨e, ⟨K, hK⟩, he⟩ := check_is x
  refine ⟨K, fun k hk => ?_⟩
  unfold opt_Do.f
  rw [hK k hk, Option.bind_some, if_neg (fun hn => h ⟨he.1 hn.1, hn.2⟩)]
theorem do_still (x : Core) (p : Int) (hx : Right x) (h0 : 0 ≤ p) (h1 : p ≤ 15) (hn : normT band (ruleC ymd) p x) : ∃ K, ∀ k, K ≤ k → opt_Do.f k x.f0 x.f1 x.f2 x.f3 p = some (x.f0, x.f1, x.f2, x.f3, 0) :=
  do_of x x p hx h0 h1 (rewrite_still x (right_ty hx) hn)
theorem do_zero (x : Core) (hx : Right x) : ∃ K, ∀ k, K ≤ k → opt_Do.f k x.f0 x.f1 x.f2 x.f3 0 = some (x.f0, x.f1, x.f2, x.f3, 0) := by
  refine do_still x 0 hx (by decide) (by decide) (norm_none (fun r hr => ?_) x)
  simp only [ruleC, List.mem_cons, List.not_mem_nil, or_false] at hr
  rcases hr with rfl | rfl | rfl | rfl | rfl | rfl | rfl <;> rfl

theorem rd_at (l : List Core) (j : Nat) (h : j < l.length) : rd_T24 l (j : Int) = l[j] := by
  unfold rd_T24
  rw [Int.toNat_natCast, List.getD_eq_getElem?_getD, List.getElem?_eq_getElem h]
  rfl
/-! ### the probe -/
def probeX : Core := ⟨26, 0, ⟨#[]⟩, [⟨7, 0, ⟨#[]⟩, [⟨1, 400000, ⟨#[]⟩, []⟩, ⟨1, 600000, ⟨#[]⟩, []⟩]⟩, ⟨24, 0, ⟨#[69, 85, 82]⟩, []⟩]⟩
theorem probe_right : Right probeX := ⟨by decide, by decide, by kernel_rfl, by simp [probeX, allT, allL, NoAhead]⟩
theorem probe_rewrite : rewriteF band (ruleC ymd) 3 6 probeX = some ⟨24, 0, ⟨#[69, 85, 82]⟩, []⟩ := by kernel_rfl
theorem probe_do : ∃ k, opt_Do.f k 26 0 ⟨#[]⟩ probeX.f3 3 = some (24, 0, ⟨#[69, 85, 82]⟩, [], 0) := by
  obtain ⟨K, hK⟩ := do_of probeX ⟨24, 0, ⟨#[69, 85, 82]⟩, []⟩ 3 probe_right (by decide) (by decide) ⟨6, fun k hk => at_rounds (g := fun k => rewriteF band (ruleC ymd) 3 k probeX) (fun k => rewrite_mono _ _ k _) hk probe_rewrite⟩
  exact ⟨K, hK K (Nat.le_refl _)⟩

/-- The probe of layer 16 answers true. -/
theorem shown_run (w : World) : Calls Tryd.prog 10 #[] w fun e w' => e = .returned (.bool true) ∧ Below w.heap.size w w' := by
  obtain ⟨k, hk⟩ := probe_do
  refine shown_walk w (fun W h1 h2 => ?_)
  have f1 := built2 (P := fun _ => False) (a := ⟨1, 400000, ⟨#[]⟩, []⟩) (b := ⟨1, 600000, ⟨#[]⟩, []⟩) h1 (Nat.le_refl 0) (Kd.F_nil _ _ _) (Nat.le_refl 0) (Kd.F_nil _ _ _)
  have f2 := built2 (P := fun k => False ∨ k = w.heap.size) (a := ⟨7, 0, ⟨#[]⟩, [⟨1, 400000, ⟨#[]⟩, []⟩, ⟨1, 600000, ⟨#[]⟩, []⟩]⟩) (b := ⟨24, 0, ⟨#[69, 85, 82]⟩, []⟩) h2 (Nat.le_refl 2) f1 (Nat.le_refl 0) (Kd.F_nil _ _ _)
  refine (opt_Do.calls k 26 0 ⟨#[]⟩ _ (some ⟨w.heap.size + 1, 0, none⟩) 2 probeX.f3 3 24 0 ⟨#[69, 85, 82]⟩ [] 0 W (Kd.V_mk (Nat.le_refl 2) f2) hk).mono ?_
  rintro e W' ⟨v, rfl, hv, hb⟩
  obtain ⟨A, c, rfl⟩ := Kd.V_slice hv
  exact ⟨A, c, rfl, hb⟩
/-- opt.Do by rows that are only read. -/
theorem do_calls (k : Nat) (x y : Core) (e p : Int) (h : opt_Do.f k x.f0 x.f1 x.f2 x.f3 p = some (y.f0, y.f1, y.f2, y.f3, e)) (A : Option Addr) (c : Nat) (W : World) (hC : Kd.C k24 W A x.f3.length x.f3) (hl : x.f3.length ≤ c) :
    Calls Tryd.prog 11 #[.agg #[.int .i64 x.f0, .int .i64 x.f1, .string x.f2, .slice A x.f3.length c], .int .i64 p] W fun q W' =>
      ∃ B d, q = .returned (.tuple #[.agg #[.int .i64 y.f0, .int .i64 y.f1, .string y.f2, .slice B y.f3.length d], .int .i64 e]) ∧ Kd.C k24 W' B y.f3.length y.f3 ∧ y.f3.length ≤ d ∧ Below W.heap.size W W' := by
  refine (opt_Do.calls k x.f0 x.f1 x.f2 _ A c x.f3 p y.f0 y.f1 y.f2 y.f3 e W (Kd.V_mk hl (Kd.C_F k24_heap hC)) h).mono ?_
  rintro q W' ⟨v, rfl, hv, hb⟩
  obtain ⟨B, d, rfl⟩ := Kd.V_slice hv
  exact ⟨B, d, rfl, Kd.F_now (Kd.V_at hv).2.2, (Kd.V_at hv).2.1, hb⟩
end Go.Proofs.YtniajhmbdbgmgaaDoor.Q
