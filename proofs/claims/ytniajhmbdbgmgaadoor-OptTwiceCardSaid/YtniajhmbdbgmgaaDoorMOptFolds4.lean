/- opt.idle: one of two kids does nothing. -/
import Derived.Test.YtniajhmbdbgmgaaDoorMOptFolds3
/- opt.idle: one of two kids does nothing. -/
namespace Go.Proofs.YtniajhmbdbgmgaaDoor.Q
open Go Go.RowKit Go.Proofs Go.Proofs.YtniajhmbdbgmgaaDoor Go.Shelf Go.Proofs.YtniajhmbdbgmgaaDoorW.PrintWords Go.Proofs.YtniajhmbdbgmgaaDoorW.PrintLast Go.Proofs.YtniajhmbdbgmgaaDoorW.PrintMore
set_option linter.unusedSimpArgs false
attribute [local go_sem] World.cell?_alloc_lt

/-- What holds when the kids are held. -/
structure IInv (w : World) (A : Option Addr) (c : Nat) (x a : Core) (Aa : Option Addr) (ca : Nat) (b : Core) (Ab : Option Addr) (cb : Nat) (Ba Bb : Nat) (W : World) : Prop where
  d : DInv w A c x W
  ga : w.heap.size + 1 < Ba
  gb : w.heap.size + 1 < Bb
  ba : W.heap[Ba]? = some (.cells #[.int .i64 a.f0, .int .i64 a.f1, .string a.f2, .slice Aa a.f3.length ca] 24 (0, 0))
  bb : W.heap[Bb]? = some (.cells #[.int .i64 b.f0, .int .i64 b.f1, .string b.f2, .slice Ab b.f3.length cb] 24 (0, 0))
theorem IInv.below {w W W' : World} {A : Option Addr} {c : Nat} {x a : Core} {Aa : Option Addr} {ca : Nat} {b : Core} {Ab : Option Addr} {cb : Nat} {Ba Bb : Nat} (h : IInv w A c x a Aa ca b Ab cb Ba Bb W) (hb : Below W.heap.size W W') : IInv w A c x a Aa ca b Ab cb Ba Bb W' :=
  ⟨h.d.below hb, h.ga, h.gb, blk_below h.ba hb, blk_below h.bb hb⟩
theorem isNum_is (a b : Int) (s : ByteArray) (A : Option Addr) (m c : Nat) (n : Int) (w : World) : Calls Tryd.prog 91 #[.agg #[.int .i64 a, .int .i64 b, .string s, .slice A m c], .int .i64 n] w fun e w' =>
    e = .returned (.bool (a == 1 && b == n)) ∧ w' = w.alloc (.cells #[.int .i64 a, .int .i64 b, .string s, .slice A m c] 24) := by
  go_enter Tryd.func91, Tryd.ntmps91
  go_wp2
  all_goals go_ret
  all_goals simp_all
theorem isBool_is (a b : Int) (s : ByteArray) (A : Option Addr) (m c : Nat) (n : Int) (w : World) : Calls Tryd.prog 92 #[.agg #[.int .i64 a, .int .i64 b, .string s, .slice A m c], .int .i64 n] w fun e w' =>
    e = .returned (.bool (a == 2 && b == n)) ∧ w' = w.alloc (.cells #[.int .i64 a, .int .i64 b, .string s, .slice A m c] 24) := by
  go_enter Tryd.func92, Tryd.ntmps92
  go_wp2
  all_goals go_ret
  all_goals simp_all

set_option maxRecDepth 100000 in
theorem idle_else (x : Core) (hne : x.f3.length ≠ 2) (P : Nat → Prop) (A : Option Addr) (c : Nat) (w : World) (hV : Kd.V k24 24 w w.heap.size P (.slice A x.f3.length c) x.f3) :
    Calls Tryd.prog 54 #[.agg #[.int .i64 x.f0, .int .i64 x.f1, .string x.f2, .slice A x.f3.length c]] w fun q w' =>
      ∃ v : Value, q = .returned (.tuple #[.agg #[.int .i64 x.f0, .int .i64 x.f1, .string x.f2, v], .bool false]) ∧ Kd.V k24 24 w' w.heap.size (fun k => P k ∨ w.heap.size ≤ k) v x.f3 ∧ Below w.heap.size w w' := by
  have t1 : ((x.f3.length : Int) != 2) = true := bne_iff_ne.2 (by omega)
  have HV := Lib.hid hV
  clear hne hV
  go_enter Tryd.func54, Tryd.ntmps54
  go_wp2
  refine bodyPost_ret (v := .tuple #[.agg #[.int .i64 x.f0, .int .i64 x.f1, .string x.f2, .slice A x.f3.length c], .bool false]) (by simp [results, Tryd.f54, go_sem]) rfl ?_
  exact ⟨_, rfl, Kd.V_mono (Kd.V_alloc (Kd.V_alloc HV.out _) _) (fun _ h => .inl h), below_alloc (below_alloc (Below.refl _ _) _) _⟩
set_option maxRecDepth 100000 in
set_option maxHeartbeats 4000000 in
theorem idle_is (x a b y : Core) (ok : Bool) (hl : x.f3 = [a, b]) (P : Nat → Prop) (A : Option Addr) (c : Nat) (w : World) (hV : Kd.V k24 24 w w.heap.size P (.slice A x.f3.length c) x.f3)
    (h : (if (idleWhich x.f0 a b).2 = true then (b, true) else if (idleWhich x.f0 a b).1 = true then (a, true) else (x, false)) = (y, ok)) :
    Calls Tryd.prog 54 #[.agg #[.int .i64 x.f0, .int .i64 x.f1, .string x.f2, .slice A x.f3.length c]] w fun q w' =>
      ∃ v : Value, q = .returned (.tuple #[.agg #[.int .i64 y.f0, .int .i64 y.f1, .string y.f2, v], .bool ok]) ∧ Kd.V k24 24 w' w.heap.size (fun k => P k ∨ w.heap.size ≤ k) v y.f3 ∧ Below w.heap.size w w' := by
  obtain ⟨w2, ew2⟩ : ∃ w2, ((w.alloc (.cells #[.int .i64 x.f0, .int .i64 x.f1, .string x.f2, .slice A x.f3.length c] 24)).alloc (.cells #[.int .i64 0, .int .i64 0, .string ⟨#[]⟩, .slice none 0 0] 24)) = w2 := ⟨_, rfl⟩
  have hD : DInv w A c x w2 := by rw [← ew2]; exact DInv.new w A c x
  have hs2 : w2.heap.size = w.heap.size + 1 + 1 := by rw [← ew2]; simp
  have hF := (Kd.V_at hV).2.2
  obtain ⟨ad, Aa, ca, hA, a0, a1, a2, a3, hla, hFa⟩ := kid_at hF 0 (by rw [hl]; simp)
  obtain ⟨ad', Ab, cb, hA', b0, b1, b2, b3, hlb, hFb⟩ := kid_at hF 1 (by rw [hl]; simp)
  have hlen : x.f3.length = 2 := by rw [hl]; rfl
  have ea : x.f3[0]'(by rw [hl]; simp) = a := by simp [hl]
  have eb : x.f3[1]'(by rw [hl]; simp) = b := by simp [hl]
  rw [ea] at a0 a1 a2 a3 hla hFa
  rw [eb] at b0 b1 b2 b3 hlb hFb
  subst hA
  obtain rfl : ad = ad' := Option.some.inj hA'
  rw [Nat.zero_mul, Addr.add_zero'] at a0 a1 a2 a3
  rw [Nat.one_mul] at b0 b1 b2 b3
  have h4 : ad.add 4 = ⟨ad.block, ad.off + 4, none⟩ := by
    have := add_field ad 0 4 (by omega)
    rw [Addr.add_zero'] at this
    exact this
  simp only [h4] at b0 b1 b2 b3
  clear h4
  rw [hlen] at ew2
  have held : ∀ W, DInv w (some ad) c x W → W.cell? ⟨w.heap.size, 3, none⟩ = some (.slice (some ad) 2 c) ∧ (W.cell? ad = some (.int .i64 a.f0) ∧ W.cell? ⟨(ad).block, (ad).off + 1, none⟩ = some (.int .i64 a.f1) ∧ W.cell? ⟨(ad).block, (ad).off + 2, none⟩ = some (.string a.f2) ∧ W.cell? ⟨(ad).block, (ad).off + 3, none⟩ = some (.slice Aa a.f3.length ca)) ∧
      (W.cell? ⟨ad.block, ad.off + 4, none⟩ = some (.int .i64 b.f0) ∧ W.cell? ⟨ad.block, ad.off + 4 + 1, none⟩ = some (.int .i64 b.f1) ∧ W.cell? ⟨ad.block, ad.off + 4 + 2, none⟩ = some (.string b.f2) ∧ W.cell? ⟨ad.block, ad.off + 4 + 3, none⟩ = some (.slice Ab b.f3.length cb)) := by
    intro W h
    have mv : ∀ {p : Addr} {v : Value}, w.cell? p = some v → W.cell? p = some v := fun hp => (h.bel.cell (World.block_lt_of_cell? w _ hp)).trans hp
    have h3 := (core_cells h.b0).2.2.2
    rw [hlen] at h3
    exact ⟨h3, ⟨mv a0, mv a1, mv a2, mv a3⟩, ⟨mv b0, mv b1, mv b2, mv b3⟩⟩
  have HH := Lib.hid held
  obtain ⟨d0, d1, d2, d3⟩ := core_cells hD.b0
  rw [hlen] at d3 ⊢
  have H := Lib.hid h; have HV := Lib.hid hV; have HD := Lib.hid hD; have HFa := Lib.hid hFa; have HFb := Lib.hid hFb; have HLen := Lib.hid hlen
  clear h held hV hFa hFb hA' hD hF ea eb hlen a0 a1 a2 a3 b0 b1 b2 b3
  go_enter Tryd.func54, Tryd.ntmps54
  go_wp2
  have HD := Lib.hid HD.out.drew
  have hs3 : w2.drew.heap.size = w.heap.size + 1 + 1 := hs2
  refine start_ (n := 12) (S := fun w' => w'.cell? ⟨w.heap.size, 3, none⟩ = some (.slice (some ad) 2 c) ∧ (w'.cell? ad = some (.int .i64 a.f0) ∧ w'.cell? ⟨(ad).block, (ad).off + 1, none⟩ = some (.int .i64 a.f1) ∧ w'.cell? ⟨(ad).block, (ad).off + 2, none⟩ = some (.string a.f2) ∧ w'.cell? ⟨(ad).block, (ad).off + 3, none⟩ = some (.slice Aa a.f3.length ca)) ∧ (w'.cell? ⟨ad.block, ad.off + 4, none⟩ = some (.int .i64 b.f0) ∧ w'.cell? ⟨ad.block, ad.off + 4 + 1, none⟩ = some (.int .i64 b.f1) ∧ w'.cell? ⟨ad.block, ad.off + 4 + 2, none⟩ = some (.string b.f2) ∧ w'.cell? ⟨ad.block, ad.off + 4 + 3, none⟩ = some (.slice Ab b.f3.length cb))) (ds := []) (bm 12 0) (by kernel_rfl) rfl (by kernel_rfl) (HH.out _ HD.out) (fun hHeld => ?_)
  generalize w2.drew = w3 at HD hHeld hs3 ⊢
  refine pure_ (i := 0) (N := some 13) (v := ?_) (a' := ?_) (bm 12 1) rfl rfl (by kernel_rfl) (fun _ _ _ h => h) (Or.inl ⟨by rfl, ?_⟩) ?_ ?_
  rotate_left
  · intro w'
    go_simp
    with_reducible rfl
  rotate_left
  · simp only [Act.put, List.setIfInBounds_toArray, List.set_cons_zero, List.set_cons_succ, i64_w, i32_w]
    rfl
  refine take_ (i := 1) (N := some 14) (v := ?_) (a' := ?_) (bm 12 3) rfl rfl (by kernel_rfl) (fun _ _ _ h => h) (Or.inl ⟨by rfl, ?_⟩) hHeld ?_ ?_
  rotate_left
  · rintro w' ⟨s0, ⟨s1, s2, s3, s4⟩, ⟨s5, s6, s7, s8⟩⟩
    go_simp
    with_reducible rfl
  rotate_left
  · simp only [Act.put, List.setIfInBounds_toArray, List.set_cons_zero, List.set_cons_succ, i64_w, i32_w]
    rfl
  refine pure_ (i := 2) (N := some 15) (v := ?_) (a' := ?_) (bm 12 7) rfl rfl (by kernel_rfl) (fun _ _ _ h => h) (Or.inl ⟨by rfl, ?_⟩) ?_ ?_
  rotate_left
  · intro w'
    go_simp
    with_reducible rfl
  rotate_left
  · simp only [Act.put, List.setIfInBounds_toArray, List.set_cons_zero, List.set_cons_succ, i64_w, i32_w]
    rfl
  refine take_ (i := 3) (N := some 16) (v := ?_) (a' := ?_) (bm 12 15) rfl rfl (by kernel_rfl) (fun _ _ _ h => h) (Or.inl ⟨by rfl, ?_⟩) hHeld ?_ ?_
  rotate_left
  · rintro w' ⟨s0, ⟨s1, s2, s3, s4⟩, ⟨s5, s6, s7, s8⟩⟩
    go_simp
    with_reducible rfl
  rotate_left
  · simp only [Act.put, List.setIfInBounds_toArray, List.set_cons_zero, List.set_cons_succ, i64_w, i32_w]
    rfl
  refine pure_ (i := 4) (N := some 17) (v := ?_) (a' := ?_) (bm 12 31) rfl rfl (by kernel_rfl) (fun _ _ _ h => h) (Or.inl ⟨by rfl, ?_⟩) ?_ ?_
  rotate_left
  · intro w'
    go_simp
    with_reducible rfl
  rotate_left
  · simp only [Act.put, List.setIfInBounds_toArray, List.set_cons_zero, List.set_cons_succ, i64_w, i32_w]
    rfl
  refine take_ (i := 5) (N := some 18) (v := ?_) (a' := ?_) (bm 12 63) rfl rfl (by kernel_rfl) (fun _ _ _ h => h) (Or.inl ⟨by rfl, ?_⟩) hHeld ?_ ?_
  rotate_left
  · rintro w' ⟨s0, ⟨s1, s2, s3, s4⟩, ⟨s5, s6, s7, s8⟩⟩
    go_simp
    with_reducible rfl
  rotate_left
  · simp only [Act.put, List.setIfInBounds_toArray, List.set_cons_zero, List.set_cons_succ, i64_w, i32_w]
    rfl
  refine pure_ (i := 6) (N := some 19) (v := ?_) (a' := ?_) (bm 12 127) rfl rfl (by kernel_rfl) (fun _ _ _ h => h) (Or.inl ⟨by rfl, ?_⟩) ?_ ?_
  rotate_left
  · intro w'
    go_simp
    with_reducible rfl
  rotate_left
  · simp only [Act.put, List.setIfInBounds_toArray, List.set_cons_zero, List.set_cons_succ, i64_w, i32_w]
    rfl
  refine take_ (i := 7) (N := some 20) (v := ?_) (a' := ?_) (bm 12 255) rfl rfl (by kernel_rfl) (fun _ _ _ h => h) (Or.inl ⟨by rfl, ?_⟩) hHeld ?_ ?_
  rotate_left
  · rintro w' ⟨s0, ⟨s1, s2, s3, s4⟩, ⟨s5, s6, s7, s8⟩⟩
    go_simp
    with_reducible rfl
  rotate_left
  · simp only [Act.put, List.setIfInBounds_toArray, List.set_cons_zero, List.set_cons_succ, i64_w, i32_w]
    rfl
  refine join_ (σ := Nat × Nat) 0 (bm 12 4095) (fun s => [(4, .pointer (some ⟨s.1, 0, none⟩)), (5, .pointer (some ⟨s.2, 0, none⟩))]) (fun s W => Hid (IInv w (some ad) c x a Aa ca b Ab cb s.1 s.2 W)) ?cont ?way
  case way =>
    intro hJ
    refine two_ (i := 8) (j := 9) (Ni := some 4) (Nj := some 5) (bm 12 511) (bm 12 767) rfl rfl rfl rfl (by kernel_rfl) (by decide) (by decide) (fun K hK => ?_) (fun K hK => ?_)
    ·
      refine value_ (w1 := ?_) (v := ?_) (by rfl) rfl ?_ ?_
      rotate_left 2
      · go_simp
        constructor
        · rfl
        · rfl
      obtain ⟨w4, ew4⟩ : ∃ w4, w3.alloc (.cells #[.int .i64 0, .int .i64 0, .string ⟨#[]⟩, .slice none 0 0] 24) = w4 := ⟨_, rfl⟩
      have h4 : DInv w (some ad) c x w4 := by rw [← ew4]; exact HD.out.below (below_alloc (Below.refl _ _) _)
      have z4 : w4.heap[w.heap.size + 1 + 1]? = some (.cells #[.int .i64 0, .int .i64 0, .string ⟨#[]⟩, .slice none 0 0] 24 (0, 0)) := by rw [← ew4, ← hs3]; exact World.alloc_heap_new _ _
      have hs4 : w4.heap.size = w.heap.size + 1 + 1 + 1 := by rw [← ew4]; simp [hs3]
      rw [ew4]
      clear ew4
      refine hK.out _ _ (HH.out _ h4) (fun hHeld => ?_)
      clear hK K
      refine norm_ (a' := ?_) ?_ ?_
      rotate_left
      · show Act.put _ (some 4) _ = _
        simp only [Act.put, List.setIfInBounds_toArray, List.set_cons_zero, List.set_cons_succ, i64_w, i32_w]
        rfl
      refine one_ (i := 9) (N := some 5) (bm 12 1023) rfl rfl (by kernel_rfl) (by decide) (fun K hK => ?_)
      refine value_ (w1 := ?_) (v := ?_) (by rfl) rfl ?_ ?_
      rotate_left 2
      · go_simp
        constructor
        · rfl
        · rfl
      obtain ⟨w5, ew5⟩ : ∃ w5, w4.alloc (.cells #[.int .i64 0, .int .i64 0, .string ⟨#[]⟩, .slice none 0 0] 24) = w5 := ⟨_, rfl⟩
      have h5 : DInv w (some ad) c x w5 := by rw [← ew5]; exact h4.below (below_alloc (Below.refl _ _) _)
      have z5 : w5.heap[w.heap.size + 1 + 1]? = some (.cells #[.int .i64 0, .int .i64 0, .string ⟨#[]⟩, .slice none 0 0] 24 (0, 0)) := by rw [← ew5]; exact blk_alloc z4 _
      have y5 : w5.heap[w.heap.size + 1 + 1 + 1]? = some (.cells #[.int .i64 0, .int .i64 0, .string ⟨#[]⟩, .slice none 0 0] 24 (0, 0)) := by rw [← ew5, ← hs4]; exact World.alloc_heap_new _ _
      rw [ew5]
      clear ew5 z4 hs4 h4
      refine hK.out _ _ (HH.out _ h5) (fun hHeld => ?_)
      clear hK K
      refine norm_ (a' := ?_) ?_ ?_
      rotate_left
      · show Act.put _ (some 5) _ = _
        simp only [Act.put, List.setIfInBounds_toArray, List.set_cons_zero, List.set_cons_succ, i64_w, i32_w]
        rfl
      have H5 := Lib.hid h5
      clear h5
      obtain ⟨f0, f1, f2, f3⟩ := core_cells z5
      have i0 := blk_frozen z5 0; have i1 := blk_frozen z5 1; have i2 := blk_frozen z5 2; have i3 := blk_frozen z5 3
      have Z5 := Lib.hid z5; have Y5 := Lib.hid y5
      clear z5 y5
      obtain ⟨w6, ew6⟩ : ∃ w6, ((((w5.setCell ⟨w.heap.size + 1 + 1, 0, none⟩ (.int .i64 a.f0)).setCell ⟨w.heap.size + 1 + 1, 1, none⟩ (.int .i64 a.f1)).setCell ⟨w.heap.size + 1 + 1, 2, none⟩ (.string a.f2)).setCell ⟨w.heap.size + 1 + 1, 3, none⟩ (.slice Aa a.f3.length ca)) = w6 := ⟨_, rfl⟩
      refine one_ (i := 10) (N := none) (bm 12 2047) rfl rfl (by kernel_rfl) (by decide) (fun K hK => ?_)
      refine skip_ (w1 := w6) (by rfl) rfl ?_ ?_
      · go_simp
      have h6 : DInv w (some ad) c x w6 := by rw [← ew6]; exact H5.out.put4 (by omega) _ _ _ _
      have za6 : w6.heap[w.heap.size + 1 + 1]? = some (.cells #[.int .i64 a.f0, .int .i64 a.f1, .string a.f2, .slice Aa a.f3.length ca] 24 (0, 0)) := by rw [← ew6]; exact blk_put4 Z5.out _ _ _ _
      have zb6 : w6.heap[w.heap.size + 1 + 1 + 1]? = some (.cells #[.int .i64 0, .int .i64 0, .string ⟨#[]⟩, .slice none 0 0] 24 (0, 0)) := by rw [← ew6]; exact blk_away4 Y5.out (by omega) _ _ _ _
      clear f0 f1 f2 f3 i0 i1 i2 i3 Z5 Y5 H5
      have H6 := Lib.hid h6; have ZA6 := Lib.hid za6
      clear h6 za6 ew6
      refine hK.out _ _ (HH.out _ H6.out) (fun hHeld => ?_)
      clear hK K
      obtain ⟨f0, f1, f2, f3⟩ := core_cells zb6
      have i0 := blk_frozen zb6 0; have i1 := blk_frozen zb6 1; have i2 := blk_frozen zb6 2; have i3 := blk_frozen zb6 3
      have ZB6 := Lib.hid zb6
      clear zb6
      obtain ⟨w7, ew7⟩ : ∃ w7, ((((w6.setCell ⟨w.heap.size + 1 + 1 + 1, 0, none⟩ (.int .i64 b.f0)).setCell ⟨w.heap.size + 1 + 1 + 1, 1, none⟩ (.int .i64 b.f1)).setCell ⟨w.heap.size + 1 + 1 + 1, 2, none⟩ (.string b.f2)).setCell ⟨w.heap.size + 1 + 1 + 1, 3, none⟩ (.slice Ab b.f3.length cb)) = w7 := ⟨_, rfl⟩
      refine one_ (i := 11) (N := none) (bm 12 4095) rfl rfl (by kernel_rfl) (by decide) (fun K hK => ?_)
      refine skip_ (w1 := w7) (by rfl) rfl ?_ ?_
      · go_simp
      have h7 : IInv w (some ad) c x a Aa ca b Ab cb (w.heap.size + 1 + 1) (w.heap.size + 1 + 1 + 1) w7 := by rw [← ew7]; exact ⟨H6.out.put4 (by omega) _ _ _ _, by omega, by omega, blk_away4 ZA6.out (by omega) _ _ _ _, blk_put4 ZB6.out _ _ _ _⟩
      clear ew7
      refine hK.out _ _ (HH.out _ h7.d) (fun hHeld => ?_)
      clear hK K
      have hh := hJ (w.heap.size + 1 + 1, w.heap.size + 1 + 1 + 1) w7 (Lib.hid h7)
      simp only [putAll, Act.put, List.setIfInBounds_toArray, List.set_cons_zero, List.set_cons_succ] at hh
      exact hh
    ·
      refine value_ (w1 := ?_) (v := ?_) (by rfl) rfl ?_ ?_
      rotate_left 2
      · go_simp
        constructor
        · rfl
        · rfl
      obtain ⟨w4, ew4⟩ : ∃ w4, w3.alloc (.cells #[.int .i64 0, .int .i64 0, .string ⟨#[]⟩, .slice none 0 0] 24) = w4 := ⟨_, rfl⟩
      have h4 : DInv w (some ad) c x w4 := by rw [← ew4]; exact HD.out.below (below_alloc (Below.refl _ _) _)
      have z4 : w4.heap[w.heap.size + 1 + 1]? = some (.cells #[.int .i64 0, .int .i64 0, .string ⟨#[]⟩, .slice none 0 0] 24 (0, 0)) := by rw [← ew4, ← hs3]; exact World.alloc_heap_new _ _
      have hs4 : w4.heap.size = w.heap.size + 1 + 1 + 1 := by rw [← ew4]; simp [hs3]
      rw [ew4]
      clear ew4
      refine hK.out _ _ (HH.out _ h4) (fun hHeld => ?_)
      clear hK K
      refine norm_ (a' := ?_) ?_ ?_
      rotate_left
      · show Act.put _ (some 5) _ = _
        simp only [Act.put, List.setIfInBounds_toArray, List.set_cons_zero, List.set_cons_succ, i64_w, i32_w]
        rfl
      refine one_ (i := 8) (N := some 4) (bm 12 1023) rfl rfl (by kernel_rfl) (by decide) (fun K hK => ?_)
      refine value_ (w1 := ?_) (v := ?_) (by rfl) rfl ?_ ?_
      rotate_left 2
      · go_simp
        constructor
        · rfl
        · rfl
      obtain ⟨w5, ew5⟩ : ∃ w5, w4.alloc (.cells #[.int .i64 0, .int .i64 0, .string ⟨#[]⟩, .slice none 0 0] 24) = w5 := ⟨_, rfl⟩
      have h5 : DInv w (some ad) c x w5 := by rw [← ew5]; exact h4.below (below_alloc (Below.refl _ _) _)
      have z5 : w5.heap[w.heap.size + 1 + 1]? = some (.cells #[.int .i64 0, .int .i64 0, .string ⟨#[]⟩, .slice none 0 0] 24 (0, 0)) := by rw [← ew5]; exact blk_alloc z4 _
      have y5 : w5.heap[w.heap.size + 1 + 1 + 1]? = some (.cells #[.int .i64 0, .int .i64 0, .string ⟨#[]⟩, .slice none 0 0] 24 (0, 0)) := by rw [← ew5, ← hs4]; exact World.alloc_heap_new _ _
      rw [ew5]
      clear ew5 z4 hs4 h4
      refine hK.out _ _ (HH.out _ h5) (fun hHeld => ?_)
      clear hK K
      refine norm_ (a' := ?_) ?_ ?_
      rotate_left
      · show Act.put _ (some 4) _ = _
        simp only [Act.put, List.setIfInBounds_toArray, List.set_cons_zero, List.set_cons_succ, i64_w, i32_w]
        rfl
      have H5 := Lib.hid h5
      clear h5
      obtain ⟨f0, f1, f2, f3⟩ := core_cells y5
      have i0 := blk_frozen y5 0; have i1 := blk_frozen y5 1; have i2 := blk_frozen y5 2; have i3 := blk_frozen y5 3
      have Z5 := Lib.hid z5; have Y5 := Lib.hid y5
      clear z5 y5
      obtain ⟨w6, ew6⟩ : ∃ w6, ((((w5.setCell ⟨w.heap.size + 1 + 1 + 1, 0, none⟩ (.int .i64 a.f0)).setCell ⟨w.heap.size + 1 + 1 + 1, 1, none⟩ (.int .i64 a.f1)).setCell ⟨w.heap.size + 1 + 1 + 1, 2, none⟩ (.string a.f2)).setCell ⟨w.heap.size + 1 + 1 + 1, 3, none⟩ (.slice Aa a.f3.length ca)) = w6 := ⟨_, rfl⟩
      refine one_ (i := 10) (N := none) (bm 12 2047) rfl rfl (by kernel_rfl) (by decide) (fun K hK => ?_)
      refine skip_ (w1 := w6) (by rfl) rfl ?_ ?_
      · go_simp
      have h6 : DInv w (some ad) c x w6 := by rw [← ew6]; exact H5.out.put4 (by omega) _ _ _ _
      have za6 : w6.heap[w.heap.size + 1 + 1 + 1]? = some (.cells #[.int .i64 a.f0, .int .i64 a.f1, .string a.f2, .slice Aa a.f3.length ca] 24 (0, 0)) := by rw [← ew6]; exact blk_put4 Y5.out _ _ _ _
      have zb6 : w6.heap[w.heap.size + 1 + 1]? = some (.cells #[.int .i64 0, .int .i64 0, .string ⟨#[]⟩, .slice none 0 0] 24 (0, 0)) := by rw [← ew6]; exact blk_away4 Z5.out (by omega) _ _ _ _
      clear f0 f1 f2 f3 i0 i1 i2 i3 Z5 Y5 H5
      have H6 := Lib.hid h6; have ZA6 := Lib.hid za6
      clear h6 za6 ew6
      refine hK.out _ _ (HH.out _ H6.out) (fun hHeld => ?_)
      clear hK K
      obtain ⟨f0, f1, f2, f3⟩ := core_cells zb6
      have i0 := blk_frozen zb6 0; have i1 := blk_frozen zb6 1; have i2 := blk_frozen zb6 2; have i3 := blk_frozen zb6 3
      have ZB6 := Lib.hid zb6
      clear zb6
      obtain ⟨w7, ew7⟩ : ∃ w7, ((((w6.setCell ⟨w.heap.size + 1 + 1, 0, none⟩ (.int .i64 b.f0)).setCell ⟨w.heap.size + 1 + 1, 1, none⟩ (.int .i64 b.f1)).setCell ⟨w.heap.size + 1 + 1, 2, none⟩ (.string b.f2)).setCell ⟨w.heap.size + 1 + 1, 3, none⟩ (.slice Ab b.f3.length cb)) = w7 := ⟨_, rfl⟩
      refine one_ (i := 11) (N := none) (bm 12 4095) rfl rfl (by kernel_rfl) (by decide) (fun K hK => ?_)
      refine skip_ (w1 := w7) (by rfl) rfl ?_ ?_
      · go_simp
      have h7 : IInv w (some ad) c x a Aa ca b Ab cb (w.heap.size + 1 + 1 + 1) (w.heap.size + 1 + 1) w7 := by rw [← ew7]; exact ⟨H6.out.put4 (by omega) _ _ _ _, by omega, by omega, blk_away4 ZA6.out (by omega) _ _ _ _, blk_put4 ZB6.out _ _ _ _⟩
      clear ew7
      refine hK.out _ _ (HH.out _ h7.d) (fun hHeld => ?_)
      clear hK K
      have hh := hJ (w.heap.size + 1 + 1 + 1, w.heap.size + 1 + 1) w7 (Lib.hid h7)
      simp only [putAll, Act.put, List.setIfInBounds_toArray, List.set_cons_zero, List.set_cons_succ] at hh
      exact hh
  case cont =>
    rintro ⟨Ba, Bb⟩ w4 HI
    simp only [putAll, Act.put, List.setIfInBounds_toArray, List.set_cons_zero, List.set_cons_succ] at HI ⊢
    refine done_ (by kernel_rfl) ?_
    clear hHeld hs3 ew2
    obtain ⟨p0, p1, p2, p3⟩ := core_cells HI.out.d.b0
    obtain ⟨r0, r1, r2, r3⟩ := core_cells HI.out.ba
    obtain ⟨s0, s1, s2, s3⟩ := core_cells HI.out.bb
    clear p3
    by_cases hop : x.f0 = 7
    · have t7 : (x.f0 == 7) = true := beq_iff_eq.2 hop
      obtain ⟨rt, ert⟩ : ∃ rt, (b.f0 == 1 && b.f1 == 0) = rt := ⟨_, rfl⟩
      obtain ⟨lf, elf⟩ : ∃ lf, (a.f0 == 1 && a.f1 == 0) = lf := ⟨_, rfl⟩
      have hcb : ∀ W, Calls Tryd.prog 91 #[.agg #[.int .i64 b.f0, .int .i64 b.f1, .string b.f2, .slice Ab b.f3.length cb], .int .i64 0] W fun e w' => e = .returned (.bool rt) ∧ w' = W.alloc (.cells #[.int .i64 b.f0, .int .i64 b.f1, .string b.f2, .slice Ab b.f3.length cb] 24) := fun W => by rw [← ert]; exact isNum_is _ _ _ _ _ _ _ W
      have hca : ∀ W, Calls Tryd.prog 91 #[.agg #[.int .i64 a.f0, .int .i64 a.f1, .string a.f2, .slice Aa a.f3.length ca], .int .i64 0] W fun e w' => e = .returned (.bool lf) ∧ w' = W.alloc (.cells #[.int .i64 a.f0, .int .i64 a.f1, .string a.f2, .slice Aa a.f3.length ca] 24) := fun W => by rw [← elf]; exact isNum_is _ _ _ _ _ _ _ W
      have hw : Hid (idleWhich x.f0 a b = (rt, lf)) := Lib.hid (by rw [hop, ← ert, ← elf]; rfl)
      have HCA := Lib.hid hca; have HCB := Lib.hid hcb
      clear hca hcb ert elf hop
      go_wp2
      clear t7 p0 p1 p2 r0 r1 r2 r3 s0 s1 s2 s3
      have HI5 := Lib.hid (HI.out.below (below_drew (Below.refl _ _)))
      refine start_ (n := 6) (S := fun w' => (w'.cell? ⟨Ba, 0, none⟩ = some (.int .i64 a.f0) ∧ w'.cell? ⟨Ba, 1, none⟩ = some (.int .i64 a.f1) ∧ w'.cell? ⟨Ba, 2, none⟩ = some (.string a.f2) ∧ w'.cell? ⟨Ba, 3, none⟩ = some (.slice Aa a.f3.length ca)) ∧ (w'.cell? ⟨Bb, 0, none⟩ = some (.int .i64 b.f0) ∧ w'.cell? ⟨Bb, 1, none⟩ = some (.int .i64 b.f1) ∧ w'.cell? ⟨Bb, 2, none⟩ = some (.string b.f2) ∧ w'.cell? ⟨Bb, 3, none⟩ = some (.slice Ab b.f3.length cb))) (ds := []) (bm 6 0) (by kernel_rfl) rfl (by kernel_rfl) ⟨core_cells HI5.out.ba, core_cells HI5.out.bb⟩ (fun hHeld => ?_)
      generalize w4.drew = w5 at HI5 hHeld ⊢
      refine take_ (i := 0) (N := some 25) (v := ?_) (a' := ?_) (bm 6 1) rfl rfl (by kernel_rfl) (fun _ _ _ h => h) (Or.inl ⟨by rfl, ?_⟩) hHeld ?_ ?_
      rotate_left
      · rintro w' ⟨⟨s0, s1, s2, s3⟩, ⟨s4, s5, s6, s7⟩⟩
        go_simp
        with_reducible rfl
      rotate_left
      · simp only [Act.put, List.setIfInBounds_toArray, List.set_cons_zero, List.set_cons_succ, i64_w, i32_w]
        rfl
      refine take_ (i := 2) (N := some 27) (v := ?_) (a' := ?_) (bm 6 5) rfl rfl (by kernel_rfl) (fun _ _ _ h => h) (Or.inl ⟨by rfl, ?_⟩) hHeld ?_ ?_
      rotate_left
      · rintro w' ⟨⟨s0, s1, s2, s3⟩, ⟨s4, s5, s6, s7⟩⟩
        go_simp
        with_reducible rfl
      rotate_left
      · simp only [Act.put, List.setIfInBounds_toArray, List.set_cons_zero, List.set_cons_succ, i64_w, i32_w]
        rfl
      refine one_ (i := 1) (N := some 26) (bm 6 7) rfl rfl (by kernel_rfl) (by decide) (fun K hK => ?_)
      refine goes_ Tryd.func91 (by kernel_rfl) rfl #[.agg #[.int .i64 b.f0, .int .i64 b.f1, .string b.f2, .slice Ab b.f3.length cb], .int .i64 0] (by rfl) rfl rfl (by (try simp only [List.map_toArray, List.map_cons, List.map_nil]); first | done | rfl) ?_
      refine (HCB.out _).mono ?_
      rintro e w6 ⟨rfl, ew6⟩
      refine ⟨_, rfl, ?_⟩
      have HI6 := Lib.hid (HI5.out.below (W' := w6) (by rw [ew6]; exact below_alloc (Below.refl _ _) _))
      clear ew6
      refine hK.out _ _ ⟨core_cells HI6.out.ba, core_cells HI6.out.bb⟩ (fun hHeld => ?_)
      clear hK K
      refine norm_ (a' := ?_) ?_ ?_
      rotate_left
      · show Act.put _ (some 26) _ = _
        simp only [Act.put, List.setIfInBounds_toArray, List.set_cons_zero, List.set_cons_succ, i64_w, i32_w]
        rfl
      refine one_ (i := 3) (N := some 28) (bm 6 15) rfl rfl (by kernel_rfl) (by decide) (fun K hK => ?_)
      refine goes_ Tryd.func91 (by kernel_rfl) rfl #[.agg #[.int .i64 a.f0, .int .i64 a.f1, .string a.f2, .slice Aa a.f3.length ca], .int .i64 0] (by rfl) rfl rfl (by (try simp only [List.map_toArray, List.map_cons, List.map_nil]); first | done | rfl) ?_
      refine (HCA.out _).mono ?_
      rintro e w9 ⟨rfl, ew9⟩
      refine ⟨_, rfl, ?_⟩
      have H9 := Lib.hid (HI6.out.below (W' := w9) (by rw [ew9]; exact below_alloc (Below.refl _ _) _))
      clear ew9
      refine hK.out _ _ ⟨core_cells H9.out.ba, core_cells H9.out.bb⟩ (fun hHeld => ?_)
      clear hK K
      refine norm_ (a' := ?_) ?_ ?_
      rotate_left
      · show Act.put _ (some 28) _ = _
        simp only [Act.put, List.setIfInBounds_toArray, List.set_cons_zero, List.set_cons_succ, i64_w, i32_w]
        rfl
      refine pure_ (i := 4) (N := some 6) (v := ?_) (a' := ?_) (bm 6 31) rfl rfl (by kernel_rfl) (fun _ _ _ h => h) (Or.inl ⟨by rfl, ?_⟩) ?_ ?_
      rotate_left
      · intro w'
        go_simp
        with_reducible rfl
      rotate_left
      · simp only [Act.put, List.setIfInBounds_toArray, List.set_cons_zero, List.set_cons_succ, i64_w, i32_w]
        rfl
      refine pure_ (i := 5) (N := some 7) (v := ?_) (a' := ?_) (bm 6 63) rfl rfl (by kernel_rfl) (fun _ _ _ h => h) (Or.inl ⟨by rfl, ?_⟩) ?_ ?_
      rotate_left
      · intro w'
        go_simp
        with_reducible rfl
      rotate_left
      · simp only [Act.put, List.setIfInBounds_toArray, List.set_cons_zero, List.set_cons_succ, i64_w, i32_w]
        rfl
      refine done_ (by kernel_rfl) ?_
      clear hHeld HCA HCB HI5 HI6 HI
      obtain ⟨p0, p1, p2, p3⟩ := core_cells H9.out.d.b0
      obtain ⟨q0, q1, q2, q3⟩ := core_cells H9.out.d.b1
      obtain ⟨r0, r1, r2, r3⟩ := core_cells H9.out.ba
      obtain ⟨s0, s1, s2, s3⟩ := core_cells H9.out.bb
      have i0 := blk_frozen H9.out.d.b1 0; have i1 := blk_frozen H9.out.d.b1 1; have i2 := blk_frozen H9.out.d.b1 2; have i3 := blk_frozen H9.out.d.b1 3
      have hs9 : w.heap.size + 1 < w9.heap.size := blk_lt H9.out.d.b1
      rw [HLen.out] at p3
      cases lf
      · cases rt
        · have hh := H.out
          rw [hw.out] at hh
          simp only [Bool.false_eq_true, if_false, Prod.mk.injEq] at hh
          obtain ⟨rfl, rfl⟩ := hh
          clear H hw
          go_wp2
          refine bodyPost_ret (v := .tuple #[.agg #[.int .i64 x.f0, .int .i64 x.f1, .string x.f2, .slice (some ad) 2 c], .bool false]) (by simp [results, Tryd.f54, go_sem, q0, q1, q2, q3, hs9]) rfl ?_
          have hv := HV.out
          rw [HLen.out] at hv
          exact ⟨_, rfl, Kd.V_mono (V_put4 (Kd.V_step (Kd.V_bound hv) (fun k hk _ => H9.out.d.bel.block k hk.2)) (fun k hk => by have := hk.2; omega) _ _ _ _) (fun k hk => .inl hk.1), below_put4 H9.out.d.bel (by omega) _ _ _ _⟩
        · have hh := H.out
          rw [hw.out] at hh
          simp only [Bool.false_eq_true, if_false, if_true, Prod.mk.injEq] at hh
          obtain ⟨rfl, rfl⟩ := hh
          clear H hw
          go_wp2
          refine bodyPost_ret (v := .tuple #[.agg #[.int .i64 a.f0, .int .i64 a.f1, .string a.f2, .slice Aa a.f3.length ca], .bool true]) (by simp [results, Tryd.f54, go_sem, q0, q1, q2, q3, hs9]) rfl ?_
          exact ⟨_, rfl, Kd.V_mono (V_put4 (Kd.V_step (Kd.V_bound (Kd.V_mk (e := 24) (base := w.heap.size) hla HFa.out)) (fun k hk _ => H9.out.d.bel.block k hk.2)) (fun k hk => by have := hk.2; omega) _ _ _ _) (fun k hk => .inl hk.1), below_put4 H9.out.d.bel (by omega) _ _ _ _⟩
      · cases rt
        · have hh := H.out
          rw [hw.out] at hh
          simp only [if_true, Prod.mk.injEq] at hh
          obtain ⟨rfl, rfl⟩ := hh
          clear H hw
          go_wp2
          refine bodyPost_ret (v := .tuple #[.agg #[.int .i64 b.f0, .int .i64 b.f1, .string b.f2, .slice Ab b.f3.length cb], .bool true]) (by simp [results, Tryd.f54, go_sem, q0, q1, q2, q3, hs9]) rfl ?_
          exact ⟨_, rfl, Kd.V_mono (V_put4 (Kd.V_step (Kd.V_bound (Kd.V_mk (e := 24) (base := w.heap.size) hlb HFb.out)) (fun k hk _ => H9.out.d.bel.block k hk.2)) (fun k hk => by have := hk.2; omega) _ _ _ _) (fun k hk => .inl hk.1), below_put4 H9.out.d.bel (by omega) _ _ _ _⟩
        · have hh := H.out
          rw [hw.out] at hh
          simp only [if_true, Prod.mk.injEq] at hh
          obtain ⟨rfl, rfl⟩ := hh
          clear H hw
          go_wp2
          refine bodyPost_ret (v := .tuple #[.agg #[.int .i64 b.f0, .int .i64 b.f1, .string b.f2, .slice Ab b.f3.length cb], .bool true]) (by simp [results, Tryd.f54, go_sem, q0, q1, q2, q3, hs9]) rfl ?_
          exact ⟨_, rfl, Kd.V_mono (V_put4 (Kd.V_step (Kd.V_bound (Kd.V_mk (e := 24) (base := w.heap.size) hlb HFb.out)) (fun k hk _ => H9.out.d.bel.block k hk.2)) (fun k hk => by have := hk.2; omega) _ _ _ _) (fun k hk => .inl hk.1), below_put4 H9.out.d.bel (by omega) _ _ _ _⟩
    have ne7 := hop
    clear hop
    by_cases hop : x.f0 = 8
    · have t7 : (x.f0 == 7) = false := beq_eq_false_iff_ne.2 (by omega)
      have t8 : (x.f0 == 8) = true := beq_iff_eq.2 hop
      obtain ⟨rt, e1⟩ : ∃ rt, (b.f0 == 1 && b.f1 == 0) = rt := ⟨_, rfl⟩
      have hcb : ∀ W, Calls Tryd.prog 91 #[.agg #[.int .i64 b.f0, .int .i64 b.f1, .string b.f2, .slice Ab b.f3.length cb], .int .i64 0] W fun e w' => e = .returned (.bool rt) ∧ w' = W.alloc (.cells #[.int .i64 b.f0, .int .i64 b.f1, .string b.f2, .slice Ab b.f3.length cb] 24) := fun W => by rw [← e1]; exact isNum_is _ _ _ _ _ _ _ W
      have hw : Hid (idleWhich x.f0 a b = (rt, false)) := Lib.hid (by rw [hop, ← e1]; rfl)
      have HCB := Lib.hid hcb
      clear hcb e1 hop
      go_wp2_with fail
      refine (HCB.out _).mono ?_
      rintro e w9 ⟨rfl, ew9⟩
      have H9 := Lib.hid (HI.out.below (W' := w9) (by rw [ew9]; exact below_alloc (Below.refl _ _) _))
      clear ew9 t7 t8 p0 p1 p2 r0 r1 r2 r3 s0 s1 s2 s3
      obtain ⟨p0, p1, p2, p3⟩ := core_cells H9.out.d.b0
      obtain ⟨q0, q1, q2, q3⟩ := core_cells H9.out.d.b1
      obtain ⟨r0, r1, r2, r3⟩ := core_cells H9.out.ba
      obtain ⟨s0, s1, s2, s3⟩ := core_cells H9.out.bb
      have i0 := blk_frozen H9.out.d.b1 0; have i1 := blk_frozen H9.out.d.b1 1; have i2 := blk_frozen H9.out.d.b1 2; have i3 := blk_frozen H9.out.d.b1 3
      have hs9 : w.heap.size + 1 < w9.heap.size := blk_lt H9.out.d.b1
      rw [HLen.out] at p3
      cases rt
      · have hh := H.out
        rw [hw.out] at hh
        simp only [Bool.false_eq_true, if_false, Prod.mk.injEq] at hh
        obtain ⟨rfl, rfl⟩ := hh
        clear H hw
        go_wp2
        refine bodyPost_ret (v := .tuple #[.agg #[.int .i64 x.f0, .int .i64 x.f1, .string x.f2, .slice (some ad) 2 c], .bool false]) (by simp [results, Tryd.f54, go_sem, q0, q1, q2, q3, hs9]) rfl ?_
        have hv := HV.out
        rw [HLen.out] at hv
        exact ⟨_, rfl, Kd.V_mono (V_put4 (Kd.V_step (Kd.V_bound hv) (fun k hk _ => H9.out.d.bel.block k hk.2)) (fun k hk => by have := hk.2; omega) _ _ _ _) (fun k hk => .inl hk.1), below_put4 H9.out.d.bel (by omega) _ _ _ _⟩
      · have hh := H.out
        rw [hw.out] at hh
        simp only [Bool.false_eq_true, if_false, if_true, Prod.mk.injEq] at hh
        obtain ⟨rfl, rfl⟩ := hh
        clear H hw
        go_wp2
        refine bodyPost_ret (v := .tuple #[.agg #[.int .i64 a.f0, .int .i64 a.f1, .string a.f2, .slice Aa a.f3.length ca], .bool true]) (by simp [results, Tryd.f54, go_sem, q0, q1, q2, q3, hs9]) rfl ?_
        exact ⟨_, rfl, Kd.V_mono (V_put4 (Kd.V_step (Kd.V_bound (Kd.V_mk (e := 24) (base := w.heap.size) hla HFa.out)) (fun k hk _ => H9.out.d.bel.block k hk.2)) (fun k hk => by have := hk.2; omega) _ _ _ _) (fun k hk => .inl hk.1), below_put4 H9.out.d.bel (by omega) _ _ _ _⟩
    have ne8 := hop
    clear hop
    by_cases hop : x.f0 = 9
    · have t7 : (x.f0 == 7) = false := beq_eq_false_iff_ne.2 (by omega)
      have t8 : (x.f0 == 8) = false := beq_eq_false_iff_ne.2 (by omega)
      have t9 : (x.f0 == 9) = true := beq_iff_eq.2 hop
      obtain ⟨rt, ert⟩ : ∃ rt, (b.f0 == 1 && b.f1 == 1000000) = rt := ⟨_, rfl⟩
      obtain ⟨lf, elf⟩ : ∃ lf, (a.f0 == 1 && a.f1 == 1000000) = lf := ⟨_, rfl⟩
      have hcb : ∀ W, Calls Tryd.prog 91 #[.agg #[.int .i64 b.f0, .int .i64 b.f1, .string b.f2, .slice Ab b.f3.length cb], .int .i64 1000000] W fun e w' => e = .returned (.bool rt) ∧ w' = W.alloc (.cells #[.int .i64 b.f0, .int .i64 b.f1, .string b.f2, .slice Ab b.f3.length cb] 24) := fun W => by rw [← ert]; exact isNum_is _ _ _ _ _ _ _ W
      have hca : ∀ W, Calls Tryd.prog 91 #[.agg #[.int .i64 a.f0, .int .i64 a.f1, .string a.f2, .slice Aa a.f3.length ca], .int .i64 1000000] W fun e w' => e = .returned (.bool lf) ∧ w' = W.alloc (.cells #[.int .i64 a.f0, .int .i64 a.f1, .string a.f2, .slice Aa a.f3.length ca] 24) := fun W => by rw [← elf]; exact isNum_is _ _ _ _ _ _ _ W
      have hw : Hid (idleWhich x.f0 a b = (rt, lf)) := Lib.hid (by rw [hop, ← ert, ← elf]; rfl)
      have HCA := Lib.hid hca; have HCB := Lib.hid hcb
      clear hca hcb ert elf hop
      go_wp2
      clear t7 t8 t9 p0 p1 p2 r0 r1 r2 r3 s0 s1 s2 s3
      have HI5 := Lib.hid (HI.out.below (below_drew (Below.refl _ _)))
      refine start_ (n := 6) (S := fun w' => (w'.cell? ⟨Ba, 0, none⟩ = some (.int .i64 a.f0) ∧ w'.cell? ⟨Ba, 1, none⟩ = some (.int .i64 a.f1) ∧ w'.cell? ⟨Ba, 2, none⟩ = some (.string a.f2) ∧ w'.cell? ⟨Ba, 3, none⟩ = some (.slice Aa a.f3.length ca)) ∧ (w'.cell? ⟨Bb, 0, none⟩ = some (.int .i64 b.f0) ∧ w'.cell? ⟨Bb, 1, none⟩ = some (.int .i64 b.f1) ∧ w'.cell? ⟨Bb, 2, none⟩ = some (.string b.f2) ∧ w'.cell? ⟨Bb, 3, none⟩ = some (.slice Ab b.f3.length cb))) (ds := []) (bm 6 0) (by kernel_rfl) rfl (by kernel_rfl) ⟨core_cells HI5.out.ba, core_cells HI5.out.bb⟩ (fun hHeld => ?_)
      generalize w4.drew = w5 at HI5 hHeld ⊢
      refine take_ (i := 0) (N := some 35) (v := ?_) (a' := ?_) (bm 6 1) rfl rfl (by kernel_rfl) (fun _ _ _ h => h) (Or.inl ⟨by rfl, ?_⟩) hHeld ?_ ?_
      rotate_left
      · rintro w' ⟨⟨s0, s1, s2, s3⟩, ⟨s4, s5, s6, s7⟩⟩
        go_simp
        with_reducible rfl
      rotate_left
      · simp only [Act.put, List.setIfInBounds_toArray, List.set_cons_zero, List.set_cons_succ, i64_w, i32_w]
        rfl
      refine take_ (i := 2) (N := some 37) (v := ?_) (a' := ?_) (bm 6 5) rfl rfl (by kernel_rfl) (fun _ _ _ h => h) (Or.inl ⟨by rfl, ?_⟩) hHeld ?_ ?_
      rotate_left
      · rintro w' ⟨⟨s0, s1, s2, s3⟩, ⟨s4, s5, s6, s7⟩⟩
        go_simp
        with_reducible rfl
      rotate_left
      · simp only [Act.put, List.setIfInBounds_toArray, List.set_cons_zero, List.set_cons_succ, i64_w, i32_w]
        rfl
      refine one_ (i := 1) (N := some 36) (bm 6 7) rfl rfl (by kernel_rfl) (by decide) (fun K hK => ?_)
      refine goes_ Tryd.func91 (by kernel_rfl) rfl #[.agg #[.int .i64 b.f0, .int .i64 b.f1, .string b.f2, .slice Ab b.f3.length cb], .int .i64 1000000] (by rfl) rfl rfl (by (try simp only [List.map_toArray, List.map_cons, List.map_nil]); first | done | rfl) ?_
      refine (HCB.out _).mono ?_
      rintro e w6 ⟨rfl, ew6⟩
      refine ⟨_, rfl, ?_⟩
      have HI6 := Lib.hid (HI5.out.below (W' := w6) (by rw [ew6]; exact below_alloc (Below.refl _ _) _))
      clear ew6
      refine hK.out _ _ ⟨core_cells HI6.out.ba, core_cells HI6.out.bb⟩ (fun hHeld => ?_)
      clear hK K
      refine norm_ (a' := ?_) ?_ ?_
      rotate_left
      · show Act.put _ (some 36) _ = _
        simp only [Act.put, List.setIfInBounds_toArray, List.set_cons_zero, List.set_cons_succ, i64_w, i32_w]
        rfl
      refine one_ (i := 3) (N := some 38) (bm 6 15) rfl rfl (by kernel_rfl) (by decide) (fun K hK => ?_)
      refine goes_ Tryd.func91 (by kernel_rfl) rfl #[.agg #[.int .i64 a.f0, .int .i64 a.f1, .string a.f2, .slice Aa a.f3.length ca], .int .i64 1000000] (by rfl) rfl rfl (by (try simp only [List.map_toArray, List.map_cons, List.map_nil]); first | done | rfl) ?_
      refine (HCA.out _).mono ?_
      rintro e w9 ⟨rfl, ew9⟩
      refine ⟨_, rfl, ?_⟩
      have H9 := Lib.hid (HI6.out.below (W' := w9) (by rw [ew9]; exact below_alloc (Below.refl _ _) _))
      clear ew9
      refine hK.out _ _ ⟨core_cells H9.out.ba, core_cells H9.out.bb⟩ (fun hHeld => ?_)
      clear hK K
      refine norm_ (a' := ?_) ?_ ?_
      rotate_left
      · show Act.put _ (some 38) _ = _
        simp only [Act.put, List.setIfInBounds_toArray, List.set_cons_zero, List.set_cons_succ, i64_w, i32_w]
        rfl
      refine pure_ (i := 4) (N := some 6) (v := ?_) (a' := ?_) (bm 6 31) rfl rfl (by kernel_rfl) (fun _ _ _ h => h) (Or.inl ⟨by rfl, ?_⟩) ?_ ?_
      rotate_left
      · intro w'
        go_simp
        with_reducible rfl
      rotate_left
      · simp only [Act.put, List.setIfInBounds_toArray, List.set_cons_zero, List.set_cons_succ, i64_w, i32_w]
        rfl
      refine pure_ (i := 5) (N := some 7) (v := ?_) (a' := ?_) (bm 6 63) rfl rfl (by kernel_rfl) (fun _ _ _ h => h) (Or.inl ⟨by rfl, ?_⟩) ?_ ?_
      rotate_left
      · intro w'
        go_simp
        with_reducible rfl
      rotate_left
      · simp only [Act.put, List.setIfInBounds_toArray, List.set_cons_zero, List.set_cons_succ, i64_w, i32_w]
        rfl
      refine done_ (by kernel_rfl) ?_
      clear hHeld HCA HCB HI5 HI6 HI
      obtain ⟨p0, p1, p2, p3⟩ := core_cells H9.out.d.b0
      obtain ⟨q0, q1, q2, q3⟩ := core_cells H9.out.d.b1
      obtain ⟨r0, r1, r2, r3⟩ := core_cells H9.out.ba
      obtain ⟨s0, s1, s2, s3⟩ := core_cells H9.out.bb
      have i0 := blk_frozen H9.out.d.b1 0; have i1 := blk_frozen H9.out.d.b1 1; have i2 := blk_frozen H9.out.d.b1 2; have i3 := blk_frozen H9.out.d.b1 3
      have hs9 : w.heap.size + 1 < w9.heap.size := blk_lt H9.out.d.b1
      rw [HLen.out] at p3
      cases lf
      · cases rt
        · have hh := H.out
          rw [hw.out] at hh
          simp only [Bool.false_eq_true, if_false, Prod.mk.injEq] at hh
          obtain ⟨rfl, rfl⟩ := hh
          clear H hw
          go_wp2
          refine bodyPost_ret (v := .tuple #[.agg #[.int .i64 x.f0, .int .i64 x.f1, .string x.f2, .slice (some ad) 2 c], .bool false]) (by simp [results, Tryd.f54, go_sem, q0, q1, q2, q3, hs9]) rfl ?_
          have hv := HV.out
          rw [HLen.out] at hv
          exact ⟨_, rfl, Kd.V_mono (V_put4 (Kd.V_step (Kd.V_bound hv) (fun k hk _ => H9.out.d.bel.block k hk.2)) (fun k hk => by have := hk.2; omega) _ _ _ _) (fun k hk => .inl hk.1), below_put4 H9.out.d.bel (by omega) _ _ _ _⟩
        · have hh := H.out
          rw [hw.out] at hh
          simp only [Bool.false_eq_true, if_false, if_true, Prod.mk.injEq] at hh
          obtain ⟨rfl, rfl⟩ := hh
          clear H hw
          go_wp2
          refine bodyPost_ret (v := .tuple #[.agg #[.int .i64 a.f0, .int .i64 a.f1, .string a.f2, .slice Aa a.f3.length ca], .bool true]) (by simp [results, Tryd.f54, go_sem, q0, q1, q2, q3, hs9]) rfl ?_
          exact ⟨_, rfl, Kd.V_mono (V_put4 (Kd.V_step (Kd.V_bound (Kd.V_mk (e := 24) (base := w.heap.size) hla HFa.out)) (fun k hk _ => H9.out.d.bel.block k hk.2)) (fun k hk => by have := hk.2; omega) _ _ _ _) (fun k hk => .inl hk.1), below_put4 H9.out.d.bel (by omega) _ _ _ _⟩
      · cases rt
        · have hh := H.out
          rw [hw.out] at hh
          simp only [if_true, Prod.mk.injEq] at hh
          obtain ⟨rfl, rfl⟩ := hh
          clear H hw
          go_wp2
          refine bodyPost_ret (v := .tuple #[.agg #[.int .i64 b.f0, .int .i64 b.f1, .string b.f2, .slice Ab b.f3.length cb], .bool true]) (by simp [results, Tryd.f54, go_sem, q0, q1, q2, q3, hs9]) rfl ?_
          exact ⟨_, rfl, Kd.V_mono (V_put4 (Kd.V_step (Kd.V_bound (Kd.V_mk (e := 24) (base := w.heap.size) hlb HFb.out)) (fun k hk _ => H9.out.d.bel.block k hk.2)) (fun k hk => by have := hk.2; omega) _ _ _ _) (fun k hk => .inl hk.1), below_put4 H9.out.d.bel (by omega) _ _ _ _⟩
        · have hh := H.out
          rw [hw.out] at hh
          simp only [if_true, Prod.mk.injEq] at hh
          obtain ⟨rfl, rfl⟩ := hh
          clear H hw
          go_wp2
          refine bodyPost_ret (v := .tuple #[.agg #[.int .i64 b.f0, .int .i64 b.f1, .string b.f2, .slice Ab b.f3.length cb], .bool true]) (by simp [results, Tryd.f54, go_sem, q0, q1, q2, q3, hs9]) rfl ?_
          exact ⟨_, rfl, Kd.V_mono (V_put4 (Kd.V_step (Kd.V_bound (Kd.V_mk (e := 24) (base := w.heap.size) hlb HFb.out)) (fun k hk _ => H9.out.d.bel.block k hk.2)) (fun k hk => by have := hk.2; omega) _ _ _ _) (fun k hk => .inl hk.1), below_put4 H9.out.d.bel (by omega) _ _ _ _⟩
    have ne9 := hop
    clear hop
    by_cases hop : x.f0 = 10
    · have t7 : (x.f0 == 7) = false := beq_eq_false_iff_ne.2 (by omega)
      have t8 : (x.f0 == 8) = false := beq_eq_false_iff_ne.2 (by omega)
      have t9 : (x.f0 == 9) = false := beq_eq_false_iff_ne.2 (by omega)
      have t10 : (x.f0 == 10) = true := beq_iff_eq.2 hop
      obtain ⟨rt, e1⟩ : ∃ rt, (b.f0 == 1 && b.f1 == 1000000) = rt := ⟨_, rfl⟩
      have hcb : ∀ W, Calls Tryd.prog 91 #[.agg #[.int .i64 b.f0, .int .i64 b.f1, .string b.f2, .slice Ab b.f3.length cb], .int .i64 1000000] W fun e w' => e = .returned (.bool rt) ∧ w' = W.alloc (.cells #[.int .i64 b.f0, .int .i64 b.f1, .string b.f2, .slice Ab b.f3.length cb] 24) := fun W => by rw [← e1]; exact isNum_is _ _ _ _ _ _ _ W
      have hw : Hid (idleWhich x.f0 a b = (rt, false)) := Lib.hid (by rw [hop, ← e1]; rfl)
      have HCB := Lib.hid hcb
      clear hcb e1 hop
      go_wp2_with fail
      refine (HCB.out _).mono ?_
      rintro e w9 ⟨rfl, ew9⟩
      have H9 := Lib.hid (HI.out.below (W' := w9) (by rw [ew9]; exact below_alloc (Below.refl _ _) _))
      clear ew9 t7 t8 t9 t10 p0 p1 p2 r0 r1 r2 r3 s0 s1 s2 s3
      obtain ⟨p0, p1, p2, p3⟩ := core_cells H9.out.d.b0
      obtain ⟨q0, q1, q2, q3⟩ := core_cells H9.out.d.b1
      obtain ⟨r0, r1, r2, r3⟩ := core_cells H9.out.ba
      obtain ⟨s0, s1, s2, s3⟩ := core_cells H9.out.bb
      have i0 := blk_frozen H9.out.d.b1 0; have i1 := blk_frozen H9.out.d.b1 1; have i2 := blk_frozen H9.out.d.b1 2; have i3 := blk_frozen H9.out.d.b1 3
      have hs9 : w.heap.size + 1 < w9.heap.size := blk_lt H9.out.d.b1
      rw [HLen.out] at p3
      cases rt
      · have hh := H.out
        rw [hw.out] at hh
        simp only [Bool.false_eq_true, if_false, Prod.mk.injEq] at hh
        obtain ⟨rfl, rfl⟩ := hh
        clear H hw
        go_wp2
        refine bodyPost_ret (v := .tuple #[.agg #[.int .i64 x.f0, .int .i64 x.f1, .string x.f2, .slice (some ad) 2 c], .bool false]) (by simp [results, Tryd.f54, go_sem, q0, q1, q2, q3, hs9]) rfl ?_
        have hv := HV.out
        rw [HLen.out] at hv
        exact ⟨_, rfl, Kd.V_mono (V_put4 (Kd.V_step (Kd.V_bound hv) (fun k hk _ => H9.out.d.bel.block k hk.2)) (fun k hk => by have := hk.2; omega) _ _ _ _) (fun k hk => .inl hk.1), below_put4 H9.out.d.bel (by omega) _ _ _ _⟩
      · have hh := H.out
        rw [hw.out] at hh
        simp only [Bool.false_eq_true, if_false, if_true, Prod.mk.injEq] at hh
        obtain ⟨rfl, rfl⟩ := hh
        clear H hw
        go_wp2
        refine bodyPost_ret (v := .tuple #[.agg #[.int .i64 a.f0, .int .i64 a.f1, .string a.f2, .slice Aa a.f3.length ca], .bool true]) (by simp [results, Tryd.f54, go_sem, q0, q1, q2, q3, hs9]) rfl ?_
        exact ⟨_, rfl, Kd.V_mono (V_put4 (Kd.V_step (Kd.V_bound (Kd.V_mk (e := 24) (base := w.heap.size) hla HFa.out)) (fun k hk _ => H9.out.d.bel.block k hk.2)) (fun k hk => by have := hk.2; omega) _ _ _ _) (fun k hk => .inl hk.1), below_put4 H9.out.d.bel (by omega) _ _ _ _⟩
    have ne10 := hop
    clear hop
    by_cases hop : x.f0 = 15
    · have t7 : (x.f0 == 7) = false := beq_eq_false_iff_ne.2 (by omega)
      have t8 : (x.f0 == 8) = false := beq_eq_false_iff_ne.2 (by omega)
      have t9 : (x.f0 == 9) = false := beq_eq_false_iff_ne.2 (by omega)
      have t10 : (x.f0 == 10) = false := beq_eq_false_iff_ne.2 (by omega)
      have t15 : (x.f0 == 15) = true := beq_iff_eq.2 hop
      obtain ⟨rt, ert⟩ : ∃ rt, (b.f0 == 2 && b.f1 == 1) = rt := ⟨_, rfl⟩
      obtain ⟨lf, elf⟩ : ∃ lf, (a.f0 == 2 && a.f1 == 1) = lf := ⟨_, rfl⟩
      have hcb : ∀ W, Calls Tryd.prog 92 #[.agg #[.int .i64 b.f0, .int .i64 b.f1, .string b.f2, .slice Ab b.f3.length cb], .int .i64 1] W fun e w' => e = .returned (.bool rt) ∧ w' = W.alloc (.cells #[.int .i64 b.f0, .int .i64 b.f1, .string b.f2, .slice Ab b.f3.length cb] 24) := fun W => by rw [← ert]; exact isBool_is _ _ _ _ _ _ _ W
      have hca : ∀ W, Calls Tryd.prog 92 #[.agg #[.int .i64 a.f0, .int .i64 a.f1, .string a.f2, .slice Aa a.f3.length ca], .int .i64 1] W fun e w' => e = .returned (.bool lf) ∧ w' = W.alloc (.cells #[.int .i64 a.f0, .int .i64 a.f1, .string a.f2, .slice Aa a.f3.length ca] 24) := fun W => by rw [← elf]; exact isBool_is _ _ _ _ _ _ _ W
      have hw : Hid (idleWhich x.f0 a b = (rt, lf)) := Lib.hid (by rw [hop, ← ert, ← elf]; rfl)
      have HCA := Lib.hid hca; have HCB := Lib.hid hcb
      clear hca hcb ert elf hop
      go_wp2
      clear t7 t8 t9 t10 t15 p0 p1 p2 r0 r1 r2 r3 s0 s1 s2 s3
      have HI5 := Lib.hid (HI.out.below (below_drew (Below.refl _ _)))
      refine start_ (n := 6) (S := fun w' => (w'.cell? ⟨Ba, 0, none⟩ = some (.int .i64 a.f0) ∧ w'.cell? ⟨Ba, 1, none⟩ = some (.int .i64 a.f1) ∧ w'.cell? ⟨Ba, 2, none⟩ = some (.string a.f2) ∧ w'.cell? ⟨Ba, 3, none⟩ = some (.slice Aa a.f3.length ca)) ∧ (w'.cell? ⟨Bb, 0, none⟩ = some (.int .i64 b.f0) ∧ w'.cell? ⟨Bb, 1, none⟩ = some (.int .i64 b.f1) ∧ w'.cell? ⟨Bb, 2, none⟩ = some (.string b.f2) ∧ w'.cell? ⟨Bb, 3, none⟩ = some (.slice Ab b.f3.length cb))) (ds := []) (bm 6 0) (by kernel_rfl) rfl (by kernel_rfl) ⟨core_cells HI5.out.ba, core_cells HI5.out.bb⟩ (fun hHeld => ?_)
      generalize w4.drew = w5 at HI5 hHeld ⊢
      refine take_ (i := 0) (N := some 45) (v := ?_) (a' := ?_) (bm 6 1) rfl rfl (by kernel_rfl) (fun _ _ _ h => h) (Or.inl ⟨by rfl, ?_⟩) hHeld ?_ ?_
      rotate_left
      · rintro w' ⟨⟨s0, s1, s2, s3⟩, ⟨s4, s5, s6, s7⟩⟩
        go_simp
        with_reducible rfl
      rotate_left
      · simp only [Act.put, List.setIfInBounds_toArray, List.set_cons_zero, List.set_cons_succ, i64_w, i32_w]
        rfl
      refine take_ (i := 2) (N := some 47) (v := ?_) (a' := ?_) (bm 6 5) rfl rfl (by kernel_rfl) (fun _ _ _ h => h) (Or.inl ⟨by rfl, ?_⟩) hHeld ?_ ?_
      rotate_left
      · rintro w' ⟨⟨s0, s1, s2, s3⟩, ⟨s4, s5, s6, s7⟩⟩
        go_simp
        with_reducible rfl
      rotate_left
      · simp only [Act.put, List.setIfInBounds_toArray, List.set_cons_zero, List.set_cons_succ, i64_w, i32_w]
        rfl
      refine one_ (i := 1) (N := some 46) (bm 6 7) rfl rfl (by kernel_rfl) (by decide) (fun K hK => ?_)
      refine goes_ Tryd.func92 (by kernel_rfl) rfl #[.agg #[.int .i64 b.f0, .int .i64 b.f1, .string b.f2, .slice Ab b.f3.length cb], .int .i64 1] (by rfl) rfl rfl (by (try simp only [List.map_toArray, List.map_cons, List.map_nil]); first | done | rfl) ?_
      refine (HCB.out _).mono ?_
      rintro e w6 ⟨rfl, ew6⟩
      refine ⟨_, rfl, ?_⟩
      have HI6 := Lib.hid (HI5.out.below (W' := w6) (by rw [ew6]; exact below_alloc (Below.refl _ _) _))
      clear ew6
      refine hK.out _ _ ⟨core_cells HI6.out.ba, core_cells HI6.out.bb⟩ (fun hHeld => ?_)
      clear hK K
      refine norm_ (a' := ?_) ?_ ?_
      rotate_left
      · show Act.put _ (some 46) _ = _
        simp only [Act.put, List.setIfInBounds_toArray, List.set_cons_zero, List.set_cons_succ, i64_w, i32_w]
        rfl
      refine one_ (i := 3) (N := some 48) (bm 6 15) rfl rfl (by kernel_rfl) (by decide) (fun K hK => ?_)
      refine goes_ Tryd.func92 (by kernel_rfl) rfl #[.agg #[.int .i64 a.f0, .int .i64 a.f1, .string a.f2, .slice Aa a.f3.length ca], .int .i64 1] (by rfl) rfl rfl (by (try simp only [List.map_toArray, List.map_cons, List.map_nil]); first | done | rfl) ?_
      refine (HCA.out _).mono ?_
      rintro e w9 ⟨rfl, ew9⟩
      refine ⟨_, rfl, ?_⟩
      have H9 := Lib.hid (HI6.out.below (W' := w9) (by rw [ew9]; exact below_alloc (Below.refl _ _) _))
      clear ew9
      refine hK.out _ _ ⟨core_cells H9.out.ba, core_cells H9.out.bb⟩ (fun hHeld => ?_)
      clear hK K
      refine norm_ (a' := ?_) ?_ ?_
      rotate_left
      · show Act.put _ (some 48) _ = _
        simp only [Act.put, List.setIfInBounds_toArray, List.set_cons_zero, List.set_cons_succ, i64_w, i32_w]
        rfl
      refine pure_ (i := 4) (N := some 6) (v := ?_) (a' := ?_) (bm 6 31) rfl rfl (by kernel_rfl) (fun _ _ _ h => h) (Or.inl ⟨by rfl, ?_⟩) ?_ ?_
      rotate_left
      · intro w'
        go_simp
        with_reducible rfl
      rotate_left
      · simp only [Act.put, List.setIfInBounds_toArray, List.set_cons_zero, List.set_cons_succ, i64_w, i32_w]
        rfl
      refine pure_ (i := 5) (N := some 7) (v := ?_) (a' := ?_) (bm 6 63) rfl rfl (by kernel_rfl) (fun _ _ _ h => h) (Or.inl ⟨by rfl, ?_⟩) ?_ ?_
      rotate_left
      · intro w'
        go_simp
        with_reducible rfl
      rotate_left
      · simp only [Act.put, List.setIfInBounds_toArray, List.set_cons_zero, List.set_cons_succ, i64_w, i32_w]
        rfl
      refine done_ (by kernel_rfl) ?_
      clear hHeld HCA HCB HI5 HI6 HI
      obtain ⟨p0, p1, p2, p3⟩ := core_cells H9.out.d.b0
      obtain ⟨q0, q1, q2, q3⟩ := core_cells H9.out.d.b1
      obtain ⟨r0, r1, r2, r3⟩ := core_cells H9.out.ba
      obtain ⟨s0, s1, s2, s3⟩ := core_cells H9.out.bb
      have i0 := blk_frozen H9.out.d.b1 0; have i1 := blk_frozen H9.out.d.b1 1; have i2 := blk_frozen H9.out.d.b1 2; have i3 := blk_frozen H9.out.d.b1 3
      have hs9 : w.heap.size + 1 < w9.heap.size := blk_lt H9.out.d.b1
      rw [HLen.out] at p3
      cases lf
      · cases rt
        · have hh := H.out
          rw [hw.out] at hh
          simp only [Bool.false_eq_true, if_false, Prod.mk.injEq] at hh
          obtain ⟨rfl, rfl⟩ := hh
          clear H hw
          go_wp2
          refine bodyPost_ret (v := .tuple #[.agg #[.int .i64 x.f0, .int .i64 x.f1, .string x.f2, .slice (some ad) 2 c], .bool false]) (by simp [results, Tryd.f54, go_sem, q0, q1, q2, q3, hs9]) rfl ?_
          have hv := HV.out
          rw [HLen.out] at hv
          exact ⟨_, rfl, Kd.V_mono (V_put4 (Kd.V_step (Kd.V_bound hv) (fun k hk _ => H9.out.d.bel.block k hk.2)) (fun k hk => by have := hk.2; omega) _ _ _ _) (fun k hk => .inl hk.1), below_put4 H9.out.d.bel (by omega) _ _ _ _⟩
        · have hh := H.out
          rw [hw.out] at hh
          simp only [Bool.false_eq_true, if_false, if_true, Prod.mk.injEq] at hh
          obtain ⟨rfl, rfl⟩ := hh
          clear H hw
          go_wp2
          refine bodyPost_ret (v := .tuple #[.agg #[.int .i64 a.f0, .int .i64 a.f1, .string a.f2, .slice Aa a.f3.length ca], .bool true]) (by simp [results, Tryd.f54, go_sem, q0, q1, q2, q3, hs9]) rfl ?_
          exact ⟨_, rfl, Kd.V_mono (V_put4 (Kd.V_step (Kd.V_bound (Kd.V_mk (e := 24) (base := w.heap.size) hla HFa.out)) (fun k hk _ => H9.out.d.bel.block k hk.2)) (fun k hk => by have := hk.2; omega) _ _ _ _) (fun k hk => .inl hk.1), below_put4 H9.out.d.bel (by omega) _ _ _ _⟩
      · cases rt
        · have hh := H.out
          rw [hw.out] at hh
          simp only [if_true, Prod.mk.injEq] at hh
          obtain ⟨rfl, rfl⟩ := hh
          clear H hw
          go_wp2
          refine bodyPost_ret (v := .tuple #[.agg #[.int .i64 b.f0, .int .i64 b.f1, .string b.f2, .slice Ab b.f3.length cb], .bool true]) (by simp [results, Tryd.f54, go_sem, q0, q1, q2, q3, hs9]) rfl ?_
          exact ⟨_, rfl, Kd.V_mono (V_put4 (Kd.V_step (Kd.V_bound (Kd.V_mk (e := 24) (base := w.heap.size) hlb HFb.out)) (fun k hk _ => H9.out.d.bel.block k hk.2)) (fun k hk => by have := hk.2; omega) _ _ _ _) (fun k hk => .inl hk.1), below_put4 H9.out.d.bel (by omega) _ _ _ _⟩
        · have hh := H.out
          rw [hw.out] at hh
          simp only [if_true, Prod.mk.injEq] at hh
          obtain ⟨rfl, rfl⟩ := hh
          clear H hw
          go_wp2
          refine bodyPost_ret (v := .tuple #[.agg #[.int .i64 b.f0, .int .i64 b.f1, .string b.f2, .slice Ab b.f3.length cb], .bool true]) (by simp [results, Tryd.f54, go_sem, q0, q1, q2, q3, hs9]) rfl ?_
          exact ⟨_, rfl, Kd.V_mono (V_put4 (Kd.V_step (Kd.V_bound (Kd.V_mk (e := 24) (base := w.heap.size) hlb HFb.out)) (fun k hk _ => H9.out.d.bel.block k hk.2)) (fun k hk => by have := hk.2; omega) _ _ _ _) (fun k hk => .inl hk.1), below_put4 H9.out.d.bel (by omega) _ _ _ _⟩
    have ne15 := hop
    clear hop
    by_cases hop : x.f0 = 16
    · have t7 : (x.f0 == 7) = false := beq_eq_false_iff_ne.2 (by omega)
      have t8 : (x.f0 == 8) = false := beq_eq_false_iff_ne.2 (by omega)
      have t9 : (x.f0 == 9) = false := beq_eq_false_iff_ne.2 (by omega)
      have t10 : (x.f0 == 10) = false := beq_eq_false_iff_ne.2 (by omega)
      have t15 : (x.f0 == 15) = false := beq_eq_false_iff_ne.2 (by omega)
      have t16 : (x.f0 == 16) = true := beq_iff_eq.2 hop
      obtain ⟨rt, ert⟩ : ∃ rt, (b.f0 == 2 && b.f1 == 0) = rt := ⟨_, rfl⟩
      obtain ⟨lf, elf⟩ : ∃ lf, (a.f0 == 2 && a.f1 == 0) = lf := ⟨_, rfl⟩
      have hcb : ∀ W, Calls Tryd.prog 92 #[.agg #[.int .i64 b.f0, .int .i64 b.f1, .string b.f2, .slice Ab b.f3.length cb], .int .i64 0] W fun e w' => e = .returned (.bool rt) ∧ w' = W.alloc (.cells #[.int .i64 b.f0, .int .i64 b.f1, .string b.f2, .slice Ab b.f3.length cb] 24) := fun W => by rw [← ert]; exact isBool_is _ _ _ _ _ _ _ W
      have hca : ∀ W, Calls Tryd.prog 92 #[.agg #[.int .i64 a.f0, .int .i64 a.f1, .string a.f2, .slice Aa a.f3.length ca], .int .i64 0] W fun e w' => e = .returned (.bool lf) ∧ w' = W.alloc (.cells #[.int .i64 a.f0, .int .i64 a.f1, .string a.f2, .slice Aa a.f3.length ca] 24) := fun W => by rw [← elf]; exact isBool_is _ _ _ _ _ _ _ W
      have hw : Hid (idleWhich x.f0 a b = (rt, lf)) := Lib.hid (by rw [hop, ← ert, ← elf]; rfl)
      have HCA := Lib.hid hca; have HCB := Lib.hid hcb
      clear hca hcb ert elf hop
      go_wp2
      clear t7 t8 t9 t10 t15 t16 p0 p1 p2 r0 r1 r2 r3 s0 s1 s2 s3
      have HI5 := Lib.hid (HI.out.below (below_drew (Below.refl _ _)))
      refine start_ (n := 6) (S := fun w' => (w'.cell? ⟨Ba, 0, none⟩ = some (.int .i64 a.f0) ∧ w'.cell? ⟨Ba, 1, none⟩ = some (.int .i64 a.f1) ∧ w'.cell? ⟨Ba, 2, none⟩ = some (.string a.f2) ∧ w'.cell? ⟨Ba, 3, none⟩ = some (.slice Aa a.f3.length ca)) ∧ (w'.cell? ⟨Bb, 0, none⟩ = some (.int .i64 b.f0) ∧ w'.cell? ⟨Bb, 1, none⟩ = some (.int .i64 b.f1) ∧ w'.cell? ⟨Bb, 2, none⟩ = some (.string b.f2) ∧ w'.cell? ⟨Bb, 3, none⟩ = some (.slice Ab b.f3.length cb))) (ds := []) (bm 6 0) (by kernel_rfl) rfl (by kernel_rfl) ⟨core_cells HI5.out.ba, core_cells HI5.out.bb⟩ (fun hHeld => ?_)
      generalize w4.drew = w5 at HI5 hHeld ⊢
      refine take_ (i := 0) (N := some 51) (v := ?_) (a' := ?_) (bm 6 1) rfl rfl (by kernel_rfl) (fun _ _ _ h => h) (Or.inl ⟨by rfl, ?_⟩) hHeld ?_ ?_
      rotate_left
      · rintro w' ⟨⟨s0, s1, s2, s3⟩, ⟨s4, s5, s6, s7⟩⟩
        go_simp
        with_reducible rfl
      rotate_left
      · simp only [Act.put, List.setIfInBounds_toArray, List.set_cons_zero, List.set_cons_succ, i64_w, i32_w]
        rfl
      refine take_ (i := 2) (N := some 53) (v := ?_) (a' := ?_) (bm 6 5) rfl rfl (by kernel_rfl) (fun _ _ _ h => h) (Or.inl ⟨by rfl, ?_⟩) hHeld ?_ ?_
      rotate_left
      · rintro w' ⟨⟨s0, s1, s2, s3⟩, ⟨s4, s5, s6, s7⟩⟩
        go_simp
        with_reducible rfl
      rotate_left
      · simp only [Act.put, List.setIfInBounds_toArray, List.set_cons_zero, List.set_cons_succ, i64_w, i32_w]
        rfl
      refine one_ (i := 1) (N := some 52) (bm 6 7) rfl rfl (by kernel_rfl) (by decide) (fun K hK => ?_)
      refine goes_ Tryd.func92 (by kernel_rfl) rfl #[.agg #[.int .i64 b.f0, .int .i64 b.f1, .string b.f2, .slice Ab b.f3.length cb], .int .i64 0] (by rfl) rfl rfl (by (try simp only [List.map_toArray, List.map_cons, List.map_nil]); first | done | rfl) ?_
      refine (HCB.out _).mono ?_
      rintro e w6 ⟨rfl, ew6⟩
      refine ⟨_, rfl, ?_⟩
      have HI6 := Lib.hid (HI5.out.below (W' := w6) (by rw [ew6]; exact below_alloc (Below.refl _ _) _))
      clear ew6
      refine hK.out _ _ ⟨core_cells HI6.out.ba, core_cells HI6.out.bb⟩ (fun hHeld => ?_)
      clear hK K
      refine norm_ (a' := ?_) ?_ ?_
      rotate_left
      · show Act.put _ (some 52) _ = _
        simp only [Act.put, List.setIfInBounds_toArray, List.set_cons_zero, List.set_cons_succ, i64_w, i32_w]
        rfl
      refine one_ (i := 3) (N := some 54) (bm 6 15) rfl rfl (by kernel_rfl) (by decide) (fun K hK => ?_)
      refine goes_ Tryd.func92 (by kernel_rfl) rfl #[.agg #[.int .i64 a.f0, .int .i64 a.f1, .string a.f2, .slice Aa a.f3.length ca], .int .i64 0] (by rfl) rfl rfl (by (try simp only [List.map_toArray, List.map_cons, List.map_nil]); first | done | rfl) ?_
      refine (HCA.out _).mono ?_
      rintro e w9 ⟨rfl, ew9⟩
      refine ⟨_, rfl, ?_⟩
      have H9 := Lib.hid (HI6.out.below (W' := w9) (by rw [ew9]; exact below_alloc (Below.refl _ _) _))
      clear ew9
      refine hK.out _ _ ⟨core_cells H9.out.ba, core_cells H9.out.bb⟩ (fun hHeld => ?_)
      clear hK K
      refine norm_ (a' := ?_) ?_ ?_
      rotate_left
      · show Act.put _ (some 54) _ = _
        simp only [Act.put, List.setIfInBounds_toArray, List.set_cons_zero, List.set_cons_succ, i64_w, i32_w]
        rfl
      refine pure_ (i := 4) (N := some 6) (v := ?_) (a' := ?_) (bm 6 31) rfl rfl (by kernel_rfl) (fun _ _ _ h => h) (Or.inl ⟨by rfl, ?_⟩) ?_ ?_
      rotate_left
      · intro w'
        go_simp
        with_reducible rfl
      rotate_left
      · simp only [Act.put, List.setIfInBounds_toArray, List.set_cons_zero, List.set_cons_succ, i64_w, i32_w]
        rfl
      refine pure_ (i := 5) (N := some 7) (v := ?_) (a' := ?_) (bm 6 63) rfl rfl (by kernel_rfl) (fun _ _ _ h => h) (Or.inl ⟨by rfl, ?_⟩) ?_ ?_
      rotate_left
      · intro w'
        go_simp
        with_reducible rfl
      rotate_left
      · simp only [Act.put, List.setIfInBounds_toArray, List.set_cons_zero, List.set_cons_succ, i64_w, i32_w]
        rfl
      refine done_ (by kernel_rfl) ?_
      clear hHeld HCA HCB HI5 HI6 HI
      obtain ⟨p0, p1, p2, p3⟩ := core_cells H9.out.d.b0
      obtain ⟨q0, q1, q2, q3⟩ := core_cells H9.out.d.b1
      obtain ⟨r0, r1, r2, r3⟩ := core_cells H9.out.ba
      obtain ⟨s0, s1, s2, s3⟩ := core_cells H9.out.bb
      have i0 := blk_frozen H9.out.d.b1 0; have i1 := blk_frozen H9.out.d.b1 1; have i2 := blk_frozen H9.out.d.b1 2; have i3 := blk_frozen H9.out.d.b1 3
      have hs9 : w.heap.size + 1 < w9.heap.size := blk_lt H9.out.d.b1
      rw [HLen.out] at p3
      cases lf
      · cases rt
        · have hh := H.out
          rw [hw.out] at hh
          simp only [Bool.false_eq_true, if_false, Prod.mk.injEq] at hh
          obtain ⟨rfl, rfl⟩ := hh
          clear H hw
          go_wp2
          refine bodyPost_ret (v := .tuple #[.agg #[.int .i64 x.f0, .int .i64 x.f1, .string x.f2, .slice (some ad) 2 c], .bool false]) (by simp [results, Tryd.f54, go_sem, q0, q1, q2, q3, hs9]) rfl ?_
          have hv := HV.out
          rw [HLen.out] at hv
          exact ⟨_, rfl, Kd.V_mono (V_put4 (Kd.V_step (Kd.V_bound hv) (fun k hk _ => H9.out.d.bel.block k hk.2)) (fun k hk => by have := hk.2; omega) _ _ _ _) (fun k hk => .inl hk.1), below_put4 H9.out.d.bel (by omega) _ _ _ _⟩
        · have hh := H.out
          rw [hw.out] at hh
          simp only [Bool.false_eq_true, if_false, if_true, Prod.mk.injEq] at hh
          obtain ⟨rfl, rfl⟩ := hh
          clear H hw
          go_wp2
          refine bodyPost_ret (v := .tuple #[.agg #[.int .i64 a.f0, .int .i64 a.f1, .string a.f2, .slice Aa a.f3.length ca], .bool true]) (by simp [results, Tryd.f54, go_sem, q0, q1, q2, q3, hs9]) rfl ?_
          exact ⟨_, rfl, Kd.V_mono (V_put4 (Kd.V_step (Kd.V_bound (Kd.V_mk (e := 24) (base := w.heap.size) hla HFa.out)) (fun k hk _ => H9.out.d.bel.block k hk.2)) (fun k hk => by have := hk.2; omega) _ _ _ _) (fun k hk => .inl hk.1), below_put4 H9.out.d.bel (by omega) _ _ _ _⟩
      · cases rt
        · have hh := H.out
          rw [hw.out] at hh
          simp only [if_true, Prod.mk.injEq] at hh
          obtain ⟨rfl, rfl⟩ := hh
          clear H hw
          go_wp2
          refine bodyPost_ret (v := .tuple #[.agg #[.int .i64 b.f0, .int .i64 b.f1, .string b.f2, .slice Ab b.f3.length cb], .bool true]) (by simp [results, Tryd.f54, go_sem, q0, q1, q2, q3, hs9]) rfl ?_
          exact ⟨_, rfl, Kd.V_mono (V_put4 (Kd.V_step (Kd.V_bound (Kd.V_mk (e := 24) (base := w.heap.size) hlb HFb.out)) (fun k hk _ => H9.out.d.bel.block k hk.2)) (fun k hk => by have := hk.2; omega) _ _ _ _) (fun k hk => .inl hk.1), below_put4 H9.out.d.bel (by omega) _ _ _ _⟩
        · have hh := H.out
          rw [hw.out] at hh
          simp only [if_true, Prod.mk.injEq] at hh
          obtain ⟨rfl, rfl⟩ := hh
          clear H hw
          go_wp2
          refine bodyPost_ret (v := .tuple #[.agg #[.int .i64 b.f0, .int .i64 b.f1, .string b.f2, .slice Ab b.f3.length cb], .bool true]) (by simp [results, Tryd.f54, go_sem, q0, q1, q2, q3, hs9]) rfl ?_
          exact ⟨_, rfl, Kd.V_mono (V_put4 (Kd.V_step (Kd.V_bound (Kd.V_mk (e := 24) (base := w.heap.size) hlb HFb.out)) (fun k hk _ => H9.out.d.bel.block k hk.2)) (fun k hk => by have := hk.2; omega) _ _ _ _) (fun k hk => .inl hk.1), below_put4 H9.out.d.bel (by omega) _ _ _ _⟩
    have ne16 := hop
    clear hop
    by_cases hop : x.f0 = 27
    · have t7 : (x.f0 == 7) = false := beq_eq_false_iff_ne.2 (by omega)
      have t8 : (x.f0 == 8) = false := beq_eq_false_iff_ne.2 (by omega)
      have t9 : (x.f0 == 9) = false := beq_eq_false_iff_ne.2 (by omega)
      have t10 : (x.f0 == 10) = false := beq_eq_false_iff_ne.2 (by omega)
      have t15 : (x.f0 == 15) = false := beq_eq_false_iff_ne.2 (by omega)
      have t16 : (x.f0 == 16) = false := beq_eq_false_iff_ne.2 (by omega)
      have t27 : (x.f0 == 27) = true := beq_iff_eq.2 hop
      obtain ⟨rt, ert⟩ : ∃ rt, (b.f0 == 23) = rt := ⟨_, rfl⟩
      obtain ⟨lf, elf⟩ : ∃ lf, (a.f0 == 23) = lf := ⟨_, rfl⟩
      have hw : Hid (idleWhich x.f0 a b = (rt, lf)) := Lib.hid (by rw [hop, ← ert, ← elf]; rfl)
      clear hop
      go_wp2
      clear t7 t8 t9 t10 t15 t16 t27 p0 p1 p2 r0 r1 r2 r3 s0 s1 s2 s3
      have HI5 := Lib.hid (HI.out.below (below_drew (Below.refl _ _)))
      refine start_ (n := 8) (S := fun w' => w'.cell? ⟨Ba, 0, none⟩ = some (.int .i64 a.f0) ∧ w'.cell? ⟨Bb, 0, none⟩ = some (.int .i64 b.f0)) (ds := []) (bm 8 0) (by kernel_rfl) rfl (by kernel_rfl) ⟨(core_cells HI5.out.ba).1, (core_cells HI5.out.bb).1⟩ (fun hHeld => ?_)
      generalize w4.drew = w9 at HI5 hHeld ⊢
      have H9 := HI5
      refine pure_ (i := 0) (N := some 57) (v := ?_) (a' := ?_) (bm 8 1) rfl rfl (by kernel_rfl) (fun _ _ _ h => h) (Or.inl ⟨by rfl, ?_⟩) ?_ ?_
      rotate_left
      · intro w'
        go_simp
        with_reducible rfl
      rotate_left
      · simp only [Act.put, List.setIfInBounds_toArray, List.set_cons_zero, List.set_cons_succ, i64_w, i32_w]
        rfl
      refine take_ (i := 1) (N := some 58) (v := ?_) (a' := ?_) (bm 8 3) rfl rfl (by kernel_rfl) (fun _ _ _ h => h) (Or.inl ⟨by rfl, ?_⟩) hHeld ?_ ?_
      rotate_left
      · rintro w' ⟨s0, s1⟩
        go_simp
        with_reducible rfl
      rotate_left
      · simp only [Act.put, List.setIfInBounds_toArray, List.set_cons_zero, List.set_cons_succ, i64_w, i32_w]
        rfl
      refine pure_ (i := 2) (N := some 59) (v := ?_) (a' := ?_) (bm 8 7) rfl rfl (by kernel_rfl) (fun _ _ _ h => h) (Or.inl ⟨by rfl, ?_⟩) ?_ ?_
      rotate_left
      · intro w'
        go_simp
        with_reducible rfl
      rotate_left
      · simp only [Act.put, List.setIfInBounds_toArray, List.set_cons_zero, List.set_cons_succ, i64_w, i32_w]
        rfl
      refine pure_ (i := 3) (N := some 60) (v := ?_) (a' := ?_) (bm 8 15) rfl rfl (by kernel_rfl) (fun _ _ _ h => h) (Or.inl ⟨by rfl, ?_⟩) ?_ ?_
      rotate_left
      · intro w'
        go_simp
        with_reducible rfl
      rotate_left
      · simp only [Act.put, List.setIfInBounds_toArray, List.set_cons_zero, List.set_cons_succ, i64_w, i32_w]
        rfl
      refine take_ (i := 4) (N := some 61) (v := ?_) (a' := ?_) (bm 8 31) rfl rfl (by kernel_rfl) (fun _ _ _ h => h) (Or.inl ⟨by rfl, ?_⟩) hHeld ?_ ?_
      rotate_left
      · rintro w' ⟨s0, s1⟩
        go_simp
        with_reducible rfl
      rotate_left
      · simp only [Act.put, List.setIfInBounds_toArray, List.set_cons_zero, List.set_cons_succ, i64_w, i32_w]
        rfl
      refine pure_ (i := 5) (N := some 62) (v := ?_) (a' := ?_) (bm 8 63) rfl rfl (by kernel_rfl) (fun _ _ _ h => h) (Or.inl ⟨by rfl, ?_⟩) ?_ ?_
      rotate_left
      · intro w'
        go_simp
        with_reducible rfl
      rotate_left
      · simp only [Act.put, List.setIfInBounds_toArray, List.set_cons_zero, List.set_cons_succ, i64_w, i32_w]
        rfl
      refine pure_ (i := 6) (N := some 6) (v := ?_) (a' := ?_) (bm 8 127) rfl rfl (by kernel_rfl) (fun _ _ _ h => h) (Or.inl ⟨by rfl, ?_⟩) ?_ ?_
      rotate_left
      · intro w'
        go_simp
        with_reducible rfl
      rotate_left
      · simp only [Act.put, List.setIfInBounds_toArray, List.set_cons_zero, List.set_cons_succ, i64_w, i32_w]
        rfl
      refine pure_ (i := 7) (N := some 7) (v := ?_) (a' := ?_) (bm 8 255) rfl rfl (by kernel_rfl) (fun _ _ _ h => h) (Or.inl ⟨by rfl, ?_⟩) ?_ ?_
      rotate_left
      · intro w'
        go_simp
        with_reducible rfl
      rotate_left
      · simp only [Act.put, List.setIfInBounds_toArray, List.set_cons_zero, List.set_cons_succ, i64_w, i32_w]
        rfl
      refine done_ (by kernel_rfl) ?_
      clear hHeld HI5 HI ert elf
      obtain ⟨p0, p1, p2, p3⟩ := core_cells H9.out.d.b0
      obtain ⟨q0, q1, q2, q3⟩ := core_cells H9.out.d.b1
      obtain ⟨r0, r1, r2, r3⟩ := core_cells H9.out.ba
      obtain ⟨s0, s1, s2, s3⟩ := core_cells H9.out.bb
      have i0 := blk_frozen H9.out.d.b1 0; have i1 := blk_frozen H9.out.d.b1 1; have i2 := blk_frozen H9.out.d.b1 2; have i3 := blk_frozen H9.out.d.b1 3
      have hs9 : w.heap.size + 1 < w9.heap.size := blk_lt H9.out.d.b1
      rw [HLen.out] at p3
      cases lf
      · cases rt
        · have hh := H.out
          rw [hw.out] at hh
          simp only [Bool.false_eq_true, if_false, Prod.mk.injEq] at hh
          obtain ⟨rfl, rfl⟩ := hh
          clear H hw
          go_wp2
          refine bodyPost_ret (v := .tuple #[.agg #[.int .i64 x.f0, .int .i64 x.f1, .string x.f2, .slice (some ad) 2 c], .bool false]) (by simp [results, Tryd.f54, go_sem, q0, q1, q2, q3, hs9]) rfl ?_
          have hv := HV.out
          rw [HLen.out] at hv
          exact ⟨_, rfl, Kd.V_mono (V_put4 (Kd.V_step (Kd.V_bound hv) (fun k hk _ => H9.out.d.bel.block k hk.2)) (fun k hk => by have := hk.2; omega) _ _ _ _) (fun k hk => .inl hk.1), below_put4 H9.out.d.bel (by omega) _ _ _ _⟩
        · have hh := H.out
          rw [hw.out] at hh
          simp only [Bool.false_eq_true, if_false, if_true, Prod.mk.injEq] at hh
          obtain ⟨rfl, rfl⟩ := hh
          clear H hw
          go_wp2
          refine bodyPost_ret (v := .tuple #[.agg #[.int .i64 a.f0, .int .i64 a.f1, .string a.f2, .slice Aa a.f3.length ca], .bool true]) (by simp [results, Tryd.f54, go_sem, q0, q1, q2, q3, hs9]) rfl ?_
          exact ⟨_, rfl, Kd.V_mono (V_put4 (Kd.V_step (Kd.V_bound (Kd.V_mk (e := 24) (base := w.heap.size) hla HFa.out)) (fun k hk _ => H9.out.d.bel.block k hk.2)) (fun k hk => by have := hk.2; omega) _ _ _ _) (fun k hk => .inl hk.1), below_put4 H9.out.d.bel (by omega) _ _ _ _⟩
      · cases rt
        · have hh := H.out
          rw [hw.out] at hh
          simp only [if_true, Prod.mk.injEq] at hh
          obtain ⟨rfl, rfl⟩ := hh
          clear H hw
          go_wp2
          refine bodyPost_ret (v := .tuple #[.agg #[.int .i64 b.f0, .int .i64 b.f1, .string b.f2, .slice Ab b.f3.length cb], .bool true]) (by simp [results, Tryd.f54, go_sem, q0, q1, q2, q3, hs9]) rfl ?_
          exact ⟨_, rfl, Kd.V_mono (V_put4 (Kd.V_step (Kd.V_bound (Kd.V_mk (e := 24) (base := w.heap.size) hlb HFb.out)) (fun k hk _ => H9.out.d.bel.block k hk.2)) (fun k hk => by have := hk.2; omega) _ _ _ _) (fun k hk => .inl hk.1), below_put4 H9.out.d.bel (by omega) _ _ _ _⟩
        · have hh := H.out
          rw [hw.out] at hh
          simp only [if_true, Prod.mk.injEq] at hh
          obtain ⟨rfl, rfl⟩ := hh
          clear H hw
          go_wp2
          refine bodyPost_ret (v := .tuple #[.agg #[.int .i64 b.f0, .int .i64 b.f1, .string b.f2, .slice Ab b.f3.length cb], .bool true]) (by simp [results, Tryd.f54, go_sem, q0, q1, q2, q3, hs9]) rfl ?_
          exact ⟨_, rfl, Kd.V_mono (V_put4 (Kd.V_step (Kd.V_bound (Kd.V_mk (e := 24) (base := w.heap.size) hlb HFb.out)) (fun k hk _ => H9.out.d.bel.block k hk.2)) (fun k hk => by have := hk.2; omega) _ _ _ _) (fun k hk => .inl hk.1), below_put4 H9.out.d.bel (by omega) _ _ _ _⟩
    have ne27 := hop
    clear hop
    by_cases hop : x.f0 = 26
    · have t7 : (x.f0 == 7) = false := beq_eq_false_iff_ne.2 (by omega)
      have t8 : (x.f0 == 8) = false := beq_eq_false_iff_ne.2 (by omega)
      have t9 : (x.f0 == 9) = false := beq_eq_false_iff_ne.2 (by omega)
      have t10 : (x.f0 == 10) = false := beq_eq_false_iff_ne.2 (by omega)
      have t15 : (x.f0 == 15) = false := beq_eq_false_iff_ne.2 (by omega)
      have t16 : (x.f0 == 16) = false := beq_eq_false_iff_ne.2 (by omega)
      have t27 : (x.f0 == 27) = false := beq_eq_false_iff_ne.2 (by omega)
      have t26 : (x.f0 == 26) = true := beq_iff_eq.2 hop
      obtain ⟨lf, elf⟩ : ∃ lf, isNumT a 1000000 = lf := ⟨_, rfl⟩
      have hca : ∀ W, Calls Tryd.prog 91 #[.agg #[.int .i64 a.f0, .int .i64 a.f1, .string a.f2, .slice Aa a.f3.length ca], .int .i64 1000000] W fun e w' => e = .returned (.bool lf) ∧ w' = W.alloc (.cells #[.int .i64 a.f0, .int .i64 a.f1, .string a.f2, .slice Aa a.f3.length ca] 24) := fun W => by rw [← elf]; exact isNum_is _ _ _ _ _ _ _ W
      have HCB := Lib.hid hca
      clear hca
      cases lf
      · by_cases g1 : a.f0 = 1
        · have u1 : (a.f0 == 1) = true := beq_iff_eq.2 g1
          by_cases g2 : b.f0 = 23
          · have u2 : (b.f0 == 23) = true := beq_iff_eq.2 g2
            have hw : Hid (idleWhich x.f0 a b = (false, true)) := Lib.hid (by rw [hop]; show (false, isNumT a 1000000 || (a.f0 == 1 && b.f0 == 23)) = _; rw [elf, u1, u2]; rfl)
            clear elf hop
            clear g1 g2
            go_wp2_with fail
            refine (HCB.out _).mono ?_
            rintro e w9 ⟨rfl, ew9⟩
            have H9 := Lib.hid (HI.out.below (W' := w9) (by rw [ew9]; exact below_alloc (Below.refl _ _) _))
            clear ew9 t7 t8 t9 t10 t15 t16 t27 t26 p0 p1 p2 r0 r1 r2 r3 s0 s1 s2 s3
            obtain ⟨p0, p1, p2, p3⟩ := core_cells H9.out.d.b0
            obtain ⟨q0, q1, q2, q3⟩ := core_cells H9.out.d.b1
            obtain ⟨r0, r1, r2, r3⟩ := core_cells H9.out.ba
            obtain ⟨s0, s1, s2, s3⟩ := core_cells H9.out.bb
            have i0 := blk_frozen H9.out.d.b1 0; have i1 := blk_frozen H9.out.d.b1 1; have i2 := blk_frozen H9.out.d.b1 2; have i3 := blk_frozen H9.out.d.b1 3
            have hs9 : w.heap.size + 1 < w9.heap.size := blk_lt H9.out.d.b1
            rw [HLen.out] at p3
            have hh := H.out
            rw [hw.out] at hh
            simp only [if_true, Prod.mk.injEq] at hh
            obtain ⟨rfl, rfl⟩ := hh
            clear H hw
            go_wp2
            refine bodyPost_ret (v := .tuple #[.agg #[.int .i64 b.f0, .int .i64 b.f1, .string b.f2, .slice Ab b.f3.length cb], .bool true]) (by simp [results, Tryd.f54, go_sem, q0, q1, q2, q3, hs9]) rfl ?_
            exact ⟨_, rfl, Kd.V_mono (V_put4 (Kd.V_step (Kd.V_bound (Kd.V_mk (e := 24) (base := w.heap.size) hlb HFb.out)) (fun k hk _ => H9.out.d.bel.block k hk.2)) (fun k hk => by have := hk.2; omega) _ _ _ _) (fun k hk => .inl hk.1), below_put4 H9.out.d.bel (by omega) _ _ _ _⟩
          · have u2 : (b.f0 == 23) = false := beq_eq_false_iff_ne.2 g2
            have hw : Hid (idleWhich x.f0 a b = (false, false)) := Lib.hid (by rw [hop]; show (false, isNumT a 1000000 || (a.f0 == 1 && b.f0 == 23)) = _; rw [elf, u1, u2]; rfl)
            clear elf hop
            clear g1 g2
            go_wp2_with fail
            refine (HCB.out _).mono ?_
            rintro e w9 ⟨rfl, ew9⟩
            have H9 := Lib.hid (HI.out.below (W' := w9) (by rw [ew9]; exact below_alloc (Below.refl _ _) _))
            clear ew9 t7 t8 t9 t10 t15 t16 t27 t26 p0 p1 p2 r0 r1 r2 r3 s0 s1 s2 s3
            obtain ⟨p0, p1, p2, p3⟩ := core_cells H9.out.d.b0
            obtain ⟨q0, q1, q2, q3⟩ := core_cells H9.out.d.b1
            obtain ⟨r0, r1, r2, r3⟩ := core_cells H9.out.ba
            obtain ⟨s0, s1, s2, s3⟩ := core_cells H9.out.bb
            have i0 := blk_frozen H9.out.d.b1 0; have i1 := blk_frozen H9.out.d.b1 1; have i2 := blk_frozen H9.out.d.b1 2; have i3 := blk_frozen H9.out.d.b1 3
            have hs9 : w.heap.size + 1 < w9.heap.size := blk_lt H9.out.d.b1
            rw [HLen.out] at p3
            have hh := H.out
            rw [hw.out] at hh
            simp only [Bool.false_eq_true, if_false, Prod.mk.injEq] at hh
            obtain ⟨rfl, rfl⟩ := hh
            clear H hw
            go_wp2
            refine bodyPost_ret (v := .tuple #[.agg #[.int .i64 x.f0, .int .i64 x.f1, .string x.f2, .slice (some ad) 2 c], .bool false]) (by simp [results, Tryd.f54, go_sem, q0, q1, q2, q3, hs9]) rfl ?_
            have hv := HV.out
            rw [HLen.out] at hv
            exact ⟨_, rfl, Kd.V_mono (V_put4 (Kd.V_step (Kd.V_bound hv) (fun k hk _ => H9.out.d.bel.block k hk.2)) (fun k hk => by have := hk.2; omega) _ _ _ _) (fun k hk => .inl hk.1), below_put4 H9.out.d.bel (by omega) _ _ _ _⟩
        · have u1 : (a.f0 == 1) = false := beq_eq_false_iff_ne.2 g1
          have hw : Hid (idleWhich x.f0 a b = (false, false)) := Lib.hid (by rw [hop]; show (false, isNumT a 1000000 || (a.f0 == 1 && b.f0 == 23)) = _; rw [elf, u1]; rfl)
          clear elf hop
          clear g1
          go_wp2_with fail
          refine (HCB.out _).mono ?_
          rintro e w9 ⟨rfl, ew9⟩
          have H9 := Lib.hid (HI.out.below (W' := w9) (by rw [ew9]; exact below_alloc (Below.refl _ _) _))
          clear ew9 t7 t8 t9 t10 t15 t16 t27 t26 p0 p1 p2 r0 r1 r2 r3 s0 s1 s2 s3
          obtain ⟨p0, p1, p2, p3⟩ := core_cells H9.out.d.b0
          obtain ⟨q0, q1, q2, q3⟩ := core_cells H9.out.d.b1
          obtain ⟨r0, r1, r2, r3⟩ := core_cells H9.out.ba
          obtain ⟨s0, s1, s2, s3⟩ := core_cells H9.out.bb
          have i0 := blk_frozen H9.out.d.b1 0; have i1 := blk_frozen H9.out.d.b1 1; have i2 := blk_frozen H9.out.d.b1 2; have i3 := blk_frozen H9.out.d.b1 3
          have hs9 : w.heap.size + 1 < w9.heap.size := blk_lt H9.out.d.b1
          rw [HLen.out] at p3
          have hh := H.out
          rw [hw.out] at hh
          simp only [Bool.false_eq_true, if_false, Prod.mk.injEq] at hh
          obtain ⟨rfl, rfl⟩ := hh
          clear H hw
          go_wp2
          refine bodyPost_ret (v := .tuple #[.agg #[.int .i64 x.f0, .int .i64 x.f1, .string x.f2, .slice (some ad) 2 c], .bool false]) (by simp [results, Tryd.f54, go_sem, q0, q1, q2, q3, hs9]) rfl ?_
          have hv := HV.out
          rw [HLen.out] at hv
          exact ⟨_, rfl, Kd.V_mono (V_put4 (Kd.V_step (Kd.V_bound hv) (fun k hk _ => H9.out.d.bel.block k hk.2)) (fun k hk => by have := hk.2; omega) _ _ _ _) (fun k hk => .inl hk.1), below_put4 H9.out.d.bel (by omega) _ _ _ _⟩
      · have hw : Hid (idleWhich x.f0 a b = (false, true)) := Lib.hid (by rw [hop]; show (false, isNumT a 1000000 || (a.f0 == 1 && b.f0 == 23)) = _; rw [elf]; rfl)
        clear elf hop
        go_wp2_with fail
        refine (HCB.out _).mono ?_
        rintro e w9 ⟨rfl, ew9⟩
        have H9 := Lib.hid (HI.out.below (W' := w9) (by rw [ew9]; exact below_alloc (Below.refl _ _) _))
        clear ew9 t7 t8 t9 t10 t15 t16 t27 t26 p0 p1 p2 r0 r1 r2 r3 s0 s1 s2 s3
        obtain ⟨p0, p1, p2, p3⟩ := core_cells H9.out.d.b0
        obtain ⟨q0, q1, q2, q3⟩ := core_cells H9.out.d.b1
        obtain ⟨r0, r1, r2, r3⟩ := core_cells H9.out.ba
        obtain ⟨s0, s1, s2, s3⟩ := core_cells H9.out.bb
        have i0 := blk_frozen H9.out.d.b1 0; have i1 := blk_frozen H9.out.d.b1 1; have i2 := blk_frozen H9.out.d.b1 2; have i3 := blk_frozen H9.out.d.b1 3
        have hs9 : w.heap.size + 1 < w9.heap.size := blk_lt H9.out.d.b1
        rw [HLen.out] at p3
        have hh := H.out
        rw [hw.out] at hh
        simp only [if_true, Prod.mk.injEq] at hh
        obtain ⟨rfl, rfl⟩ := hh
        clear H hw
        go_wp2
        refine bodyPost_ret (v := .tuple #[.agg #[.int .i64 b.f0, .int .i64 b.f1, .string b.f2, .slice Ab b.f3.length cb], .bool true]) (by simp [results, Tryd.f54, go_sem, q0, q1, q2, q3, hs9]) rfl ?_
        exact ⟨_, rfl, Kd.V_mono (V_put4 (Kd.V_step (Kd.V_bound (Kd.V_mk (e := 24) (base := w.heap.size) hlb HFb.out)) (fun k hk _ => H9.out.d.bel.block k hk.2)) (fun k hk => by have := hk.2; omega) _ _ _ _) (fun k hk => .inl hk.1), below_put4 H9.out.d.bel (by omega) _ _ _ _⟩

    have ne26 := hop
    clear hop
    have t7 : (x.f0 == 7) = false := beq_eq_false_iff_ne.2 (by omega)
    have t8 : (x.f0 == 8) = false := beq_eq_false_iff_ne.2 (by omega)
    have t9 : (x.f0 == 9) = false := beq_eq_false_iff_ne.2 (by omega)
    have t10 : (x.f0 == 10) = false := beq_eq_false_iff_ne.2 (by omega)
    have t15 : (x.f0 == 15) = false := beq_eq_false_iff_ne.2 (by omega)
    have t16 : (x.f0 == 16) = false := beq_eq_false_iff_ne.2 (by omega)
    have t27 : (x.f0 == 27) = false := beq_eq_false_iff_ne.2 (by omega)
    have t26 : (x.f0 == 26) = false := beq_eq_false_iff_ne.2 (by omega)
    have hw : Hid (idleWhich x.f0 a b = (false, false)) := Lib.hid (by unfold idleWhich; repeat rw [if_neg (by omega)])
    obtain ⟨w9, ew9⟩ : ∃ w9, w4 = w9 := ⟨_, rfl⟩
    subst ew9
    have H9 := HI
    clear p0 p1 p2 r0 r1 r2 r3 s0 s1 s2 s3 ne7 ne8 ne9 ne10 ne15 ne16 ne27 ne26
    obtain ⟨p0, p1, p2, p3⟩ := core_cells H9.out.d.b0
    obtain ⟨q0, q1, q2, q3⟩ := core_cells H9.out.d.b1
    obtain ⟨r0, r1, r2, r3⟩ := core_cells H9.out.ba
    obtain ⟨s0, s1, s2, s3⟩ := core_cells H9.out.bb
    have i0 := blk_frozen H9.out.d.b1 0; have i1 := blk_frozen H9.out.d.b1 1; have i2 := blk_frozen H9.out.d.b1 2; have i3 := blk_frozen H9.out.d.b1 3
    have hs9 : w.heap.size + 1 < w4.heap.size := blk_lt H9.out.d.b1
    rw [HLen.out] at p3
    have hh := H.out
    rw [hw.out] at hh
    simp only [Bool.false_eq_true, if_false, Prod.mk.injEq] at hh
    obtain ⟨rfl, rfl⟩ := hh
    clear H hw
    go_wp2
    refine bodyPost_ret (v := .tuple #[.agg #[.int .i64 x.f0, .int .i64 x.f1, .string x.f2, .slice (some ad) 2 c], .bool false]) (by simp [results, Tryd.f54, go_sem, q0, q1, q2, q3, hs9]) rfl ?_
    have hv := HV.out
    rw [HLen.out] at hv
    exact ⟨_, rfl, Kd.V_mono (V_put4 (Kd.V_step (Kd.V_bound hv) (fun k hk _ => H9.out.d.bel.block k hk.2)) (fun k hk => by have := hk.2; omega) _ _ _ _) (fun k hk => .inl hk.1), below_put4 H9.out.d.bel (by omega) _ _ _ _⟩
end Go.Proofs.YtniajhmbdbgmgaaDoor.Q
