import Derived.Test.YtniajhmbdbgmgaaGreatDoorMOptLess3
import Derived.Laws.NewBlocks
import Derived.Laws.EntriesVeiled
import Derived.Test.YtniajhmbdbgmgaaGreatDoorMOptLess4
import Derived.Deep.LoopGhost
/- What a rule of layer 16 owes, and the literal in opt.rewrite that asks one rule. -/
namespace Go.Proofs.YtniajhmbdbgmgaaGreatDoor.Q
open Go Go.RowKit Go.Proofs Go.Proofs.YtniajhmbdbgmgaaGreatDoor Go.Shelf Go.Proofs.YtniajhmbdbgmgaaGreatDoorW.PrintWords Go.Proofs.YtniajhmbdbgmgaaGreatDoorW.PrintLast Go.Proofs.YtniajhmbdbgmgaaGreatDoorW.PrintMore

/-- Which operations of a region have come up, as bits. -/
def bm (n m : Nat) : Array Bool := ((List.range n).map fun i => m.testBit i).toArray
theorem bcell {W w1 : World} (hb : Below W.heap.size W w1) : (∀ b o, b < W.heap.size → w1.cell? ⟨b, o, none⟩ = W.cell? ⟨b, o, none⟩) ∧ (∀ b o, b < W.heap.size → w1.frozen? ⟨b, o, none⟩ = W.frozen? ⟨b, o, none⟩) :=
  ⟨fun b o h => hb.cell (p := ⟨b, o, none⟩) h, fun b o h => hb.frozen (p := ⟨b, o, none⟩) h⟩
theorem below_put4 {n B : Nat} {w W : World} (h : Below n w W) (hB : n ≤ B) (a b c d : Value) : Below n w ((((W.setCell ⟨B, 0, none⟩ a).setCell ⟨B, 1, none⟩ b).setCell ⟨B, 2, none⟩ c).setCell ⟨B, 3, none⟩ d) :=
  (((h.setCell (p := ⟨B, 0, none⟩) hB _).setCell (p := ⟨B, 1, none⟩) hB _).setCell (p := ⟨B, 2, none⟩) hB _).setCell (p := ⟨B, 3, none⟩) hB _
theorem V_put4 {α : Type} {K : Kd α} {e base B : Nat} {ok : Nat → Prop} {W : World} {v : Value} {xs : List α} (h : K.V e W base ok v xs) (hok : ∀ k, ok k → k ≠ B) (a b c d : Value) :
    K.V e ((((W.setCell ⟨B, 0, none⟩ a).setCell ⟨B, 1, none⟩ b).setCell ⟨B, 2, none⟩ c).setCell ⟨B, 3, none⟩ d) base ok v xs :=
  Kd.V_far (p := ⟨B, 3, none⟩) (Kd.V_far (p := ⟨B, 2, none⟩) (Kd.V_far (p := ⟨B, 1, none⟩) (Kd.V_far (p := ⟨B, 0, none⟩) h hok _) hok _) hok _) hok _
/-- A function's argument lies in its box, and its result's box is empty. -/
structure DInv (w : World) (A : Option Addr) (c : Nat) (x : Core) (W : World) : Prop where
  bel : Below w.heap.size w W
  b0 : W.heap[w.heap.size]? = some (.cells #[.int .i64 x.f0, .int .i64 x.f1, .string x.f2, .slice A x.f3.length c] 24 (0, 0))
  b1 : W.heap[w.heap.size + 1]? = some (.cells #[.int .i64 0, .int .i64 0, .string ⟨#[]⟩, .slice none 0 0] 24 (0, 0))
theorem DInv.below {w W W' : World} {A : Option Addr} {c : Nat} {x : Core} (h : DInv w A c x W) (hb : Below W.heap.size W W') : DInv w A c x W' := ⟨h.bel.trans (hb.mono h.bel.size), blk_below h.b0 hb, blk_below h.b1 hb⟩
theorem DInv.drew {w W : World} {A : Option Addr} {c : Nat} {x : Core} (h : DInv w A c x W) : DInv w A c x W.drew := h.below (below_drew (Below.refl _ _))
theorem DInv.new (w : World) (A : Option Addr) (c : Nat) (x : Core) : DInv w A c x ((w.alloc (.cells #[.int .i64 x.f0, .int .i64 x.f1, .string x.f2, .slice A x.f3.length c] 24)).alloc (.cells #[.int .i64 0, .int .i64 0, .string ⟨#[]⟩, .slice none 0 0] 24)) := by
  refine ⟨below_alloc (below_alloc (Below.refl _ _) _) _, (Below.heap_alloc _ _ _ (by simp)).trans (World.alloc_heap_new w _), ?_⟩
  rw [← World.size_alloc]; exact World.alloc_heap_new _ _
theorem blk_put4 {W : World} {B : Nat} {t : TypeId} {a0 b0 c0 d0 : Value} (h : W.heap[B]? = some (.cells #[a0, b0, c0, d0] t (0, 0))) (a b c d : Value) :
    ((((W.setCell ⟨B, 0, none⟩ a).setCell ⟨B, 1, none⟩ b).setCell ⟨B, 2, none⟩ c).setCell ⟨B, 3, none⟩ d).heap[B]? = some (.cells #[a, b, c, d] t (0, 0)) :=
  blk_set (blk_set (blk_set (blk_set h 0 a) 1 b) 2 c) 3 d
theorem blk_away4 {W : World} {B g : Nat} {t : TypeId} {cs : Array Value} (h : W.heap[g]? = some (.cells cs t (0, 0))) (hne : g ≠ B) (a b c d : Value) :
    ((((W.setCell ⟨B, 0, none⟩ a).setCell ⟨B, 1, none⟩ b).setCell ⟨B, 2, none⟩ c).setCell ⟨B, 3, none⟩ d).heap[g]? = some (.cells cs t (0, 0)) :=
  blk_far (blk_far (blk_far (blk_far h hne a) hne b) hne c) hne d
theorem DInv.put4 {w W : World} {A : Option Addr} {c : Nat} {x : Core} (h : DInv w A c x W) {B : Nat} (hB : w.heap.size + 1 < B) (p q r s : Value) : DInv w A c x ((((W.setCell ⟨B, 0, none⟩ p).setCell ⟨B, 1, none⟩ q).setCell ⟨B, 2, none⟩ r).setCell ⟨B, 3, none⟩ s) :=
  ⟨below_put4 h.bel (by omega) _ _ _ _, blk_away4 h.b0 (by omega) _ _ _ _, blk_away4 h.b1 (by omega) _ _ _ _⟩
/-- A rule's contract: it answers as g says; what it answers leads to what came in and to new blocks. -/
def Ru (f : FuncId) (g : Rule) : Prop := ∀ (x y : Core) (ok : Bool) (P : Nat → Prop) (A : Option Addr) (c : Nat) (w : World),
  Kd.V k24 24 w w.heap.size P (.slice A x.f3.length c) x.f3 → g x = some (y, ok) →
  Calls Tryz.prog f #[.agg #[.int .i64 x.f0, .int .i64 x.f1, .string x.f2, .slice A x.f3.length c]] w fun e w' =>
    ∃ v : Value, e = .returned (.tuple #[.agg #[.int .i64 y.f0, .int .i64 y.f1, .string y.f2, v], .bool ok]) ∧ Kd.V k24 24 w' w.heap.size (fun k => P k ∨ w.heap.size ≤ k) v y.f3 ∧ Below w.heap.size w w'

/-- A call by a function's value comes to that function. -/
def Ent (f : FuncId) : Prop := ∀ (args : Array Value) (w : World), (callFunc f args).run Tryz.prog w = .ok (.enter f args) w

def band (a b : Int) : Int := Go.bits .and .i64 a b
/-- What the literal answers: the rule's answer, where its pass is asked for. -/
def hopF (passes p : Int) (g : Rule) (x : Core) : Option (Core × Bool) := if band passes p = 0 then some (x, false) else g x

set_option maxRecDepth 100000 in
theorem hop (f : FuncId) (g : Rule) (he : Ent f) (hR : Ru f g) (passes p : Int) (Bp : Nat) (x y : Core) (ok : Bool) (P : Nat → Prop) (A : Option Addr) (c : Nat) (w : World) (hb : Boxed w Bp 3 (.int .i64 passes))
    (hV : Kd.V k24 24 w w.heap.size P (.slice A x.f3.length c) x.f3) (h : hopF passes p g x = some (y, ok)) :
    Calls Tryz.prog 80 #[.agg #[.int .i64 p, .func (.func f) #[] #[]], .agg #[.int .i64 x.f0, .int .i64 x.f1, .string x.f2, .slice A x.f3.length c], .pointer (some ⟨Bp, 0, none⟩)] w fun e w' =>
      ∃ v : Value, e = .returned (.tuple #[.agg #[.int .i64 y.f0, .int .i64 y.f1, .string y.f2, v], .bool ok]) ∧ Kd.V k24 24 w' w.heap.size (fun k => P k ∨ w.heap.size ≤ k) v y.f3 ∧ Below w.heap.size w w' := by
  have hc := boxed_cell hb
  have hlt : Bp < w.heap.size := (Array.getElem?_eq_some_iff.1 hb).1
  have l1 : Bp < w.heap.size + 1 := by omega
  have l2 : Bp < w.heap.size + 1 + 1 := by omega
  unfold hopF at h
  by_cases hz : band passes p = 0
  · rw [if_pos hz] at h
    simp only [Option.some.injEq, Prod.mk.injEq] at h
    obtain ⟨rfl, rfl⟩ := h
    have HV := Lib.hid hV
    have t1 : (Go.bits .and .i64 passes p == 0) = true := beq_iff_eq.2 hz
    clear hV hz hb
    go_enter Tryz.func80, Tryz.ntmps80
    go_wp2
    refine bodyPost_ret (v := .tuple #[.agg #[.int .i64 x.f0, .int .i64 x.f1, .string x.f2, .slice A x.f3.length c], .bool false]) (by simp [results, Tryz.f80, go_sem]) rfl ?_
    exact ⟨_, rfl, Kd.V_mono (Kd.V_alloc (Kd.V_alloc (Kd.V_alloc HV.out _) _) _) (fun _ h => .inl h), below_alloc (below_alloc (below_alloc (Below.refl _ _) _) _) _⟩
  · rw [if_neg hz] at h
    have hr := hR x y ok (fun k => P k ∧ k < w.heap.size) A c (((w.alloc (.cells #[.int .i64 p, .func (.func f) #[] #[]] 149)).alloc (.cells #[.int .i64 x.f0, .int .i64 x.f1, .string x.f2, .slice A x.f3.length c] 24)).alloc (.cells #[.int .i64 0, .int .i64 0, .string ⟨#[]⟩, .slice none 0 0] 24))
      (Kd.V_alloc (Kd.V_alloc (Kd.V_alloc (Kd.V_bound hV) _) _) _) h
    have HR := Lib.hid hr
    have t1 : (Go.bits .and .i64 passes p == 0) = false := beq_eq_false_iff_ne.2 hz
    clear hV hz hb h hr hR
    unfold Ent at he
    go_enter Tryz.func80, Tryz.ntmps80
    go_wp2
    refine HR.out.mono ?_
    rintro e w' ⟨v, rfl, hv, hbel⟩
    obtain ⟨A', c', rfl⟩ := Kd.V_slice hv
    obtain ⟨hcc, hff⟩ := bcell hbel
    have hsz := hbel.size
    simp only [World.size_alloc] at hcc hff hsz
    have HX := Lib.hid (And.intro hv hbel)
    clear hv hbel HR
    go_wp2
    refine bodyPost_ret (v := .tuple #[.agg #[.int .i64 y.f0, .int .i64 y.f1, .string y.f2, .slice A' y.f3.length c'], .bool ok]) (by simp [results, Tryz.f80, go_sem, hcc]) rfl ?_
    have hv := HX.out.1
    simp only [World.size_alloc] at hv
    refine ⟨_, rfl, Kd.V_mono (V_put4 hv (fun k hk => ?_) _ _ _ _) (fun k hk => ?_), below_put4 ((below_alloc (below_alloc (below_alloc (Below.refl _ _) _) _) _).trans (HX.out.2.mono (by simp; omega))) (by omega) _ _ _ _⟩
    · rcases hk with hk | hk <;> omega
    · rcases hk with hk | hk
      · exact .inl hk.1
      · exact .inr (by omega)
end Go.Proofs.YtniajhmbdbgmgaaGreatDoor.Q

/- opt.first over the rules: the first rule that fits. -/
namespace Go.Proofs.YtniajhmbdbgmgaaGreatDoor.Q
open Go Go.RowKit Go.Proofs Go.Proofs.YtniajhmbdbgmgaaGreatDoor Go.Shelf Go.Proofs.YtniajhmbdbgmgaaGreatDoorW.PrintWords Go.Proofs.YtniajhmbdbgmgaaGreatDoorW.PrintLast Go.Proofs.YtniajhmbdbgmgaaGreatDoorW.PrintMore

attribute [local go_sem] World.cell?_alloc_lt
/-- A rule in memory: its pass, its function, and what that answers. -/
structure RuleM where
  p : Int
  f : FuncId
  g : Rule
def RuleM.pair (r : RuleM) : Int × Rule := (r.p, r.g)
/-- The rules lie in a block. -/
def RulesAt (w : World) (B : Nat) (L : List RuleM) : Prop := B < w.heap.size ∧ ∀ (j : Nat) (r : RuleM), L[j]? = some r → w.cell? ⟨B, j * 2, none⟩ = some (.int .i64 r.p) ∧ w.cell? ⟨B, j * 2 + 1, none⟩ = some (.func (.func r.f) #[] #[])
theorem RulesAt.below {n : Nat} {w w' : World} {B : Nat} {L : List RuleM} (h : RulesAt w B L) (hb : Below n w w') (hB : B < n) : RulesAt w' B L :=
  ⟨Nat.lt_of_lt_of_le h.1 hb.size, fun j r hj => ⟨(hb.cell (p := ⟨B, j * 2, none⟩) hB).trans (h.2 j r hj).1, (hb.cell (p := ⟨B, j * 2 + 1, none⟩) hB).trans (h.2 j r hj).2⟩⟩
theorem Boxed.belowN {n : Nat} {w w' : World} {B : Nat} {t : TypeId} {v : Value} (h : Boxed w B t v) (hb : Below n w w') (hB : B < n) : Boxed w' B t v := (hb.block _ hB).trans h

/-- One step of the search. -/
theorem first_hop (passes : Int) (x : Core) (r : RuleM) (L : List RuleM) (y : Core) (ok : Bool) (h : firstF band passes x ((r :: L).map RuleM.pair) = some (y, ok)) :
    ∃ z o, hopF passes r.p r.g x = some (z, o) ∧ (o = true → z = y ∧ ok = true) ∧ (o = false → firstF band passes x (L.map RuleM.pair) = some (y, ok)) := by
  simp only [List.map_cons, RuleM.pair, firstF] at h
  unfold hopF
  by_cases hz : band passes r.p = 0
  · rw [if_pos hz] at h ⊢
    exact ⟨x, false, rfl, (fun h => by cases h), fun _ => h⟩
  · rw [if_neg hz] at h ⊢
    obtain ⟨⟨z, o⟩, hy, h⟩ := Option.bind_eq_some_iff.1 h
    refine ⟨z, o, hy, fun ho => ?_, fun ho => ?_⟩
    · subst ho
      simp only [if_pos, Option.some.injEq, Prod.mk.injEq] at h
      exact ⟨h.1, h.2.symm⟩
    · subst ho
      simpa using h

/-- What holds all along the search. -/
structure FInv (w : World) (A : Option Addr) (c : Nat) (x : Core) (W : World) : Prop where
  bel : Below w.heap.size w W
  b1 : W.heap[w.heap.size]? = some (.cells #[.int .i64 x.f0, .int .i64 x.f1, .string x.f2, .slice A x.f3.length c] 24 (0, 0))
  b2 : W.heap[w.heap.size + 1]? = some (.cells #[.int .i64 0, .int .i64 0, .string ⟨#[]⟩, .slice none 0 0] 24 (0, 0))
set_option maxRecDepth 100000 in
theorem first_is (L : List RuleM) (hL : ∀ r ∈ L, Ent r.f ∧ Ru r.f r.g) (hlen : L.length ≤ 1000000) (Br cap Bp : Nat) (passes : Int) (x y : Core) (ok : Bool) (P : Nat → Prop) (A : Option Addr) (c : Nat) (w : World) (hb : Boxed w Bp 3 (.int .i64 passes)) (hr : RulesAt w Br L)
    (hV : Kd.V k24 24 w w.heap.size P (.slice A x.f3.length c) x.f3) (h : firstF band passes x (L.map RuleM.pair) = some (y, ok)) :
    Calls Tryz.prog 79 #[.slice (some ⟨Br, 0, none⟩) L.length cap, .agg #[.int .i64 x.f0, .int .i64 x.f1, .string x.f2, .slice A x.f3.length c], .func (.func 80) #[] #[.pointer (some ⟨Bp, 0, none⟩)]] w fun e w' =>
      ∃ v : Value, e = .returned (.tuple #[.agg #[.int .i64 y.f0, .int .i64 y.f1, .string y.f2, v], .bool ok]) ∧ Kd.V k24 24 w' w.heap.size (fun k => P k ∨ w.heap.size ≤ k) v y.f3 ∧ Below w.heap.size w w' := by
  have hltp : Bp < w.heap.size := (Array.getElem?_eq_some_iff.1 hb).1
  have hltr : Br < w.heap.size := hr.1
  have HV := Lib.hid hV; have HB := Lib.hid hb; have HRs := Lib.hid hr; have HL := Lib.hid hL; have HF := Lib.hid h
  clear hV hb hr hL h
  go_enter Tryz.func79, Tryz.ntmps79
  go_wp2
  obtain ⟨w2, ew2⟩ : ∃ w2, ((w.alloc (.cells #[.int .i64 x.f0, .int .i64 x.f1, .string x.f2, .slice A x.f3.length c] 24)).alloc (.cells #[.int .i64 0, .int .i64 0, .string ⟨#[]⟩, .slice none 0 0] 24)) = w2 := ⟨_, rfl⟩
  have hB2 : Below w.heap.size w w2 := by rw [← ew2]; exact below_alloc (below_alloc (Below.refl _ _) _) _
  have h1 : w2.heap[w.heap.size]? = some (.cells #[.int .i64 x.f0, .int .i64 x.f1, .string x.f2, .slice A x.f3.length c] 24 (0, 0)) := by
    rw [← ew2]; exact (Below.heap_alloc _ _ _ (by simp)).trans (World.alloc_heap_new w _)
  have h2 : w2.heap[w.heap.size + 1]? = some (.cells #[.int .i64 0, .int .i64 0, .string ⟨#[]⟩, .slice none 0 0] 24 (0, 0)) := by
    rw [← ew2, ← World.size_alloc]; exact World.alloc_heap_new _ _
  rw [ew2]
  have H0 := Lib.hid (FInv.mk (A := A) (c := c) hB2 h1 h2 : FInv w A c x w2)
  clear ew2 hB2 h1 h2
  have HF0 : Hid (firstF band passes x ((L.drop 0).map RuleM.pair) = some (y, ok)) := HF
  clear HF
  go_loopw [15] (fun i wr => ∃ j : Nat, j ≤ L.length ∧ i = .int .i64 j ∧ Hid (FInv w A c x wr) ∧ Hid (firstF band passes x ((L.drop j).map RuleM.pair) = some (y, ok))) (fun i _ => L.length - (intOf i).toNat)
  case atStart => exact ⟨0, Nat.zero_le _, rfl, H0, HF0⟩
  case round =>
    obtain ⟨j, hj, rfl, hI, hf⟩ := hrel
    clear H0 HF0
    have hsz : w.heap.size + 1 < wr.heap.size := blk_lt hI.out.b2
    have hsz0 : w.heap.size < wr.heap.size := by omega
    by_cases hlt : j < L.length
    · have t1 : decide (j < L.length) = true := decide_eq_true hlt
      obtain ⟨r, hrj⟩ : ∃ r, L[j]? = some r := ⟨L[j], List.getElem?_eq_getElem hlt⟩
      have hdrop : L.drop j = r :: L.drop (j + 1) := by
        rw [List.drop_eq_getElem_cons hlt, ← Option.some.inj (hrj.symm.trans (List.getElem?_eq_getElem hlt))]
      have hff := hf.out
      rw [hdrop] at hff
      obtain ⟨z, o, hz, hy, hn⟩ := first_hop passes x r _ y ok hff
      have hRs := HRs.out.below hI.out.bel (by omega)
      obtain ⟨k0, k1⟩ := hRs.2 j r hrj
      obtain ⟨d0, d1, d2, d3⟩ := core_cells hI.out.b1
      have hrm := HL.out r (List.mem_of_getElem? hrj)
      have hcall := hop r.f r.g hrm.1 hrm.2 passes r.p Bp x z o (fun k => P k ∧ k < w.heap.size) A c (wr.alloc (.cells #[.int .i64 r.p, .func (.func r.f) #[] #[]] 149)) (Boxed.belowN HB.out (below_alloc hI.out.bel _) hltp)
        (Kd.V_alloc (Kd.V_step (Kd.V_bound HV.out) (fun k hk _ => hI.out.bel.block k hk.2)) _) hz
      have HC := Lib.hid hcall; have HY := Lib.hid hy; have HN := Lib.hid hn
      clear hcall hy hn hf hff hz hrm hRs hdrop hrj
      go_wp2_with fail
      refine HC.out.mono ?_
      rintro e w' ⟨v, rfl, hv, hbel⟩
      obtain ⟨A', c', rfl⟩ := Kd.V_slice hv
      have hB2 : Below w.heap.size w w' := (below_alloc hI.out.bel _).trans (hbel.mono (by simp; omega))
      have e1 : w'.heap[w.heap.size]? = some (.cells #[.int .i64 x.f0, .int .i64 x.f1, .string x.f2, .slice A x.f3.length c] 24 (0, 0)) := (hbel.block _ (by simp; omega)).trans (blk_alloc hI.out.b1 _)
      have e2 : w'.heap[w.heap.size + 1]? = some (.cells #[.int .i64 0, .int .i64 0, .string ⟨#[]⟩, .slice none 0 0] 24 (0, 0)) := (hbel.block _ (by simp; omega)).trans (blk_alloc hI.out.b2 _)
      have hs2 : w.heap.size + 1 < w'.heap.size := blk_lt e2
      have hs1 : w.heap.size < w'.heap.size := by omega
      obtain ⟨f0, f1, f2, f3⟩ := core_cells e2
      have g0 := blk_frozen e2 0; have g1 := blk_frozen e2 1; have g2 := blk_frozen e2 2; have g3 := blk_frozen e2 3
      have HX := Lib.hid hv; have HB2 := Lib.hid hB2; have E1 := Lib.hid e1; have E2 := Lib.hid e2; have HBL := Lib.hid hbel
      clear hv hbel HC hB2 e1 e2 d0 d1 d2 d3 k0 k1
      cases o
      · have HN1 := Lib.hid (HN.out rfl)
        clear HN HY
        go_wp2
        go_roundw
        case rel => exact ⟨j + 1, hlt, by go_num, Lib.hid (FInv.mk (below_alloc HB2.out _) (blk_alloc E1.out _) (blk_alloc E2.out _)), HN1⟩
        case measure => simp [intOf]; omega
      · obtain ⟨rfl, rfl⟩ := HY.out rfl
        clear HN HY
        go_wp2
        refine bodyPost_ret (v := .tuple #[.agg #[.int .i64 z.f0, .int .i64 z.f1, .string z.f2, .slice A' z.f3.length c'], .bool true]) (by simp [results, Tryz.f79, go_sem, f0, f1, f2, f3, hs2]) rfl ?_
        have hv := HX.out
        simp only [World.size_alloc] at hv
        refine ⟨_, rfl, Kd.V_mono (Kd.V_alloc (V_put4 hv (fun k hk => ?_) _ _ _ _) _) (fun k hk => ?_), below_alloc (below_put4 HB2.out (by omega) _ _ _ _) _⟩
        · rcases hk with hk | hk <;> omega
        · rcases hk with hk | hk
          · exact .inl hk.1
          · exact .inr (by omega)
    · obtain rfl : j = L.length := by omega
      have hf2 := hf.out
      rw [List.drop_length] at hf2
      simp only [List.map_nil, firstF, Option.some.injEq, Prod.mk.injEq] at hf2
      obtain ⟨rfl, rfl⟩ := hf2
      have t1 : decide (L.length < L.length) = false := decide_eq_false (by omega)
      obtain ⟨f0, f1, f2, f3⟩ := core_cells hI.out.b2
      have g0 := blk_frozen hI.out.b2 0; have g1 := blk_frozen hI.out.b2 1; have g2 := blk_frozen hI.out.b2 2; have g3 := blk_frozen hI.out.b2 3
      clear hf hlt
      go_wp2
      refine bodyPost_ret (v := .tuple #[.agg #[.int .i64 0, .int .i64 0, .string ⟨#[]⟩, .slice none 0 0], .bool false]) (by simp [results, Tryz.f79, go_sem, f0, f1, f2, f3, hsz]) rfl ?_
      exact ⟨_, rfl, Kd.V_nil _ _ _ _ _, below_alloc (below_put4 hI.out.bel (by omega) _ _ _ _) _⟩
end Go.Proofs.YtniajhmbdbgmgaaGreatDoor.Q

/- opt.rewrite: a term's kids are rewritten, then the rules are asked until none fits. -/
namespace Go.Proofs.YtniajhmbdbgmgaaGreatDoor.Q
open Go Go.RowKit Go.Proofs Go.Proofs.YtniajhmbdbgmgaaGreatDoor Go.Shelf Go.Proofs.YtniajhmbdbgmgaaGreatDoorW.PrintWords Go.Proofs.YtniajhmbdbgmgaaGreatDoorW.PrintLast Go.Proofs.YtniajhmbdbgmgaaGreatDoorW.PrintMore
set_option linter.unusedSimpArgs false
theorem infoC : (Tryz.prog.info? 24).map (fun i => (i.zero, i.size, i.bytes)) = some (some (.agg #[(.int .i64 0), (.int .i64 0), (.string ⟨#[]⟩), (.slice none 0 0)]), 4, 56) := by kernel_rfl
attribute [local go_sem] World.cell?_alloc_lt

/-- What holds while the kids are rewritten: vk lies in 'out', vr is the row that was made so far. -/
structure RInv (w : World) (A : Option Addr) (c : Nat) (x : Core) (passes : Int) (vk vr : Value) (xs : List Core) (P : Nat → Prop) (W : World) : Prop where
  bel : Below w.heap.size w W
  b0 : W.heap[w.heap.size]? = some (.cells #[.int .i64 x.f0, .int .i64 x.f1, .string x.f2, .slice A x.f3.length c] 24 (0, 0))
  b1 : Boxed W (w.heap.size + 1) 3 (.int .i64 passes)
  b2 : W.heap[w.heap.size + 1 + 1]? = some (.cells #[.int .i64 0, .int .i64 0, .string ⟨#[]⟩, .slice none 0 0] 24 (0, 0))
  b3 : W.heap[w.heap.size + 1 + 1 + 1]? = some (.cells #[.int .i64 x.f0, .int .i64 x.f1, .string x.f2, vk] 24 (0, 0))
  row : Kd.N k24 24 W w.heap.size (fun k => (P k ∧ k < w.heap.size) ∨ w.heap.size + 4 ≤ k) vr xs
section
variable {w W W' : World} {A : Option Addr} {c : Nat} {x : Core} {passes : Int} {vk vr : Value} {xs : List Core} {P : Nat → Prop}
theorem RInv.size (h : RInv w A c x passes vk vr xs P W) : w.heap.size + 1 + 1 + 1 < W.heap.size := blk_lt h.b3
theorem RInv.below (h : RInv w A c x passes vk vr xs P W) (hb : Below W.heap.size W W') : RInv w A c x passes vk vr xs P W' :=
  ⟨h.bel.trans (hb.mono h.bel.size), blk_below h.b0 hb, blk_below h.b1 hb, blk_below h.b2 hb, blk_below h.b3 hb, Kd.N_below h.row hb⟩
theorem RInv.alloc (h : RInv w A c x passes vk vr xs P W) (o : Obj) : RInv w A c x passes vk vr xs P (W.alloc o) := h.below (below_alloc (Below.refl _ _) o)
theorem RInv.drew (h : RInv w A c x passes vk vr xs P W) : RInv w A c x passes vk vr xs P W.drew := h.below (below_drew (Below.refl _ _))
theorem RInv.own (h : RInv w A c x passes vk vr xs P W) : ∀ k, vr.ownBlock = some k → w.heap.size + 4 ≤ k ∧ k < W.heap.size := fun k hk => by
  have h1 := Kd.N_base h.row k hk
  have h2 := Kd.N_lt h.row k hk
  have h3 := h.row.1 k hk
  omega
theorem RInv.append {v7 : Value} {ys : List Core} {W7 : World} (h : RInv w A c x passes vk vr xs P W) (ho : Kd.N k24 24 W7 w.heap.size (fun k => (P k ∧ k < w.heap.size) ∨ w.heap.size + 4 ≤ k) v7 ys) (hb : Below w.heap.size w W7) (hg : W.grownBy W7 vr.ownBlock) : RInv w A c x passes vk v7 ys P W7 := by
  have hown := h.own
  refine ⟨hb, blk_grown h.b0 hg ?_, blk_grown h.b1 hg ?_, blk_grown h.b2 hg ?_, blk_grown h.b3 hg ?_, ho⟩
  all_goals
    intro he
    have := hown _ he.symm
    omega
theorem RInv.store (h : RInv w A c x passes vk vr xs P W) : RInv w A c x passes vr vr xs P (W.setCell ⟨w.heap.size + 1 + 1 + 1, 3, none⟩ vr) := by
  refine ⟨h.bel.setCell (p := ⟨w.heap.size + 1 + 1 + 1, 3, none⟩) (by simp; omega) _, blk_far h.b0 (by simp; omega) _, blk_far h.b1 (by simp) _, blk_far h.b2 (by simp) _, blk_set h.b3 3 vr, Kd.N_far (p := ⟨w.heap.size + 1 + 1 + 1, 3, none⟩) h.row (fun k hk => ?_) _⟩
  simp only
  omega
theorem RInv.held (h : RInv w A c x passes vk vr xs P W) {Bk c3 : Nat} {kd : Core} {A3 : Option Addr} (hk : W.heap[Bk]? = some (.cells #[.int .i64 kd.f0, .int .i64 kd.f1, .string kd.f2, .slice A3 kd.f3.length c3] 24 (0, 0))) :
    W.cell? ⟨w.heap.size + 1 + 1 + 1, 3, none⟩ = some vk ∧ (W.cell? ⟨Bk, 0, none⟩ = some (.int .i64 kd.f0) ∧ W.cell? ⟨Bk, 1, none⟩ = some (.int .i64 kd.f1) ∧ W.cell? ⟨Bk, 2, none⟩ = some (.string kd.f2) ∧ W.cell? ⟨Bk, 3, none⟩ = some (.slice A3 kd.f3.length c3)) ∧ W.cell? ⟨w.heap.size + 1, 0, none⟩ = some (.int .i64 passes) :=
  ⟨(core_cells h.b3).2.2.2, core_cells hk, boxed_cell h.b1⟩
end
theorem mapM_get {f : Core → Option Core} : ∀ {l m : List Core}, l.mapM f = some m → m.length = l.length ∧ ∀ (j : Nat) (h : j < l.length) (h' : j < m.length), f l[j] = some m[j]
  | [], m, h => by
    simp at h
    subst h
    exact ⟨rfl, fun j h => absurd h (Nat.not_lt_zero _)⟩
  | a :: l, m, h => by
    rw [List.mapM_cons] at h
    obtain ⟨b, hb, h⟩ := Option.bind_eq_some_iff.1 h
    obtain ⟨r, hr, h⟩ := Option.bind_eq_some_iff.1 h
    have h := Option.some.inj h
    subst h
    obtain ⟨h1, h2⟩ := mapM_get hr
    refine ⟨by simp [h1], fun j hj hj' => ?_⟩
    cases j with
    | zero => exact hb
    | succ j => exact h2 j (by simpa using hj) (by simpa using hj')
/-- What holds while the rules are asked. -/
structure LInv (w : World) (passes : Int) (v : Value) (y : Core) (P : Nat → Prop) (W : World) : Prop where
  bel : Below w.heap.size w W
  b1 : Boxed W (w.heap.size + 1) 3 (.int .i64 passes)
  b2 : W.heap[w.heap.size + 1 + 1]? = some (.cells #[.int .i64 0, .int .i64 0, .string ⟨#[]⟩, .slice none 0 0] 24 (0, 0))
  b3 : W.heap[w.heap.size + 1 + 1 + 1]? = some (.cells #[.int .i64 y.f0, .int .i64 y.f1, .string y.f2, v] 24 (0, 0))
  row : Kd.V k24 24 W w.heap.size (fun k => (P k ∧ k < w.heap.size) ∨ w.heap.size + 4 ≤ k) v y.f3
set_option maxRecDepth 100000 in
set_option maxHeartbeats 4000000 in
theorem rewrite_is (L : List RuleM) (hL : ∀ r ∈ L, Ent r.f ∧ Ru r.f r.g) (hlen : L.length ≤ 1000000) (Br cap : Nat) (passes : Int) : ∀ (k : Nat) (x z : Core) (P : Nat → Prop) (A : Option Addr) (c : Nat) (w : World), RulesAt w Br L →
    Kd.V k24 24 w w.heap.size P (.slice A x.f3.length c) x.f3 → rewriteF band (L.map RuleM.pair) passes k x = some z →
    Calls Tryz.prog 36 #[.agg #[.int .i64 x.f0, .int .i64 x.f1, .string x.f2, .slice A x.f3.length c], .int .i64 passes, .slice (some ⟨Br, 0, none⟩) L.length cap] w fun e w' =>
      ∃ v : Value, e = .returned (.agg #[.int .i64 z.f0, .int .i64 z.f1, .string z.f2, v]) ∧ Kd.V k24 24 w' w.heap.size (fun k => P k ∨ w.heap.size ≤ k) v z.f3 ∧ Below w.heap.size w w' := by
  intro k
  induction k with
  | zero => intro x z P A c w _ _ h; cases h
  | succ k ih =>
    intro x z P A c w hr hV h
    rw [rewriteF] at h
    by_cases hn : x.f3.length ≤ 1000
    case neg => rw [if_neg hn] at h; cases h
    rw [if_pos hn] at h
    obtain ⟨m, hm, hloop⟩ := Option.bind_eq_some_iff.1 h
    obtain ⟨hml, hmj⟩ := mapM_get hm
    have hltr : Br < w.heap.size := hr.1
    have hF := (Kd.V_at hV).2.2
    have hcc := (Kd.V_at hV).2.1
    have hcall : ∀ (j : Nat) (hj : j < x.f3.length) (hj' : j < m.length) (A3 : Option Addr) (c3 : Nat), Kd.F k24 w P A3 x.f3[j].f3.length x.f3[j].f3 → x.f3[j].f3.length ≤ c3 → ∀ W, Below w.heap.size w W →
        Calls Tryz.prog 36 #[.agg #[.int .i64 x.f3[j].f0, .int .i64 x.f3[j].f1, .string x.f3[j].f2, .slice A3 x.f3[j].f3.length c3], .int .i64 passes, .slice (some ⟨Br, 0, none⟩) L.length cap] W fun e W' =>
          ∃ v : Value, e = .returned (.agg #[.int .i64 m[j].f0, .int .i64 m[j].f1, .string m[j].f2, v]) ∧ Kd.V k24 24 W' W.heap.size (fun k => (P k ∧ k < w.heap.size) ∨ W.heap.size ≤ k) v m[j].f3 ∧ Below W.heap.size W W' :=
      fun j hj hj' A3 c3 h1 h2 W hW => ih x.f3[j] m[j] (fun k => P k ∧ k < w.heap.size) A3 c3 W (hr.below hW hltr) (Kd.V_mk h2 (Kd.F_step (Kd.F_bound h1) (fun k hk _ => hW.block k hk.2))) (hmj j hj hj')
    have HC := Lib.hid hcall; have HF := Lib.hid hF; have HL := Lib.hid hL; have HR := Lib.hid hr; have HLo := Lib.hid hloop; have HML := Lib.hid hml
    clear hcall hF hL hr hloop hml hmj hm h hV ih
    go_enter Tryz.func36, Tryz.ntmps36
    go_wp2
    obtain ⟨w4, ew4⟩ : ∃ w4, ((((w.alloc (.cells #[.int .i64 x.f0, .int .i64 x.f1, .string x.f2, .slice A x.f3.length c] 24)).alloc (.cells #[.int .i64 passes] 3)).alloc (.cells #[.int .i64 0, .int .i64 0, .string ⟨#[]⟩, .slice none 0 0] 24)).alloc (.cells #[.int .i64 x.f0, .int .i64 x.f1, .string x.f2, .slice none 0 0] 24)) = w4 := ⟨_, rfl⟩
    have h4 : RInv w A c x passes (.slice none 0 0) (.slice none 0 0) [] P w4 := by
      rw [← ew4]
      have z0 := World.alloc_heap_new w (.cells #[.int .i64 x.f0, .int .i64 x.f1, .string x.f2, .slice A x.f3.length c] 24)
      have z1 := World.alloc_heap_new (w.alloc (.cells #[.int .i64 x.f0, .int .i64 x.f1, .string x.f2, .slice A x.f3.length c] 24)) (.cells #[.int .i64 passes] 3)
      have z2 := World.alloc_heap_new ((w.alloc (.cells #[.int .i64 x.f0, .int .i64 x.f1, .string x.f2, .slice A x.f3.length c] 24)).alloc (.cells #[.int .i64 passes] 3)) (.cells #[.int .i64 0, .int .i64 0, .string ⟨#[]⟩, .slice none 0 0] 24)
      have z3 := World.alloc_heap_new (((w.alloc (.cells #[.int .i64 x.f0, .int .i64 x.f1, .string x.f2, .slice A x.f3.length c] 24)).alloc (.cells #[.int .i64 passes] 3)).alloc (.cells #[.int .i64 0, .int .i64 0, .string ⟨#[]⟩, .slice none 0 0] 24)) (.cells #[.int .i64 x.f0, .int .i64 x.f1, .string x.f2, .slice none 0 0] 24)
      simp only [World.size_alloc] at z1 z2 z3
      exact ⟨below_alloc (below_alloc (below_alloc (below_alloc (Below.refl _ _) _) _) _) _, blk_alloc (blk_alloc (blk_alloc z0 _) _) _, blk_alloc (blk_alloc z1 _) _, blk_alloc z2 _, z3, Kd.N_nil _ _ _ _ _⟩
    rw [ew4]
    have H4 := Lib.hid h4
    clear h4 ew4
    go_loopw [17] (fun i wr => ∃ (j : Nat) (vk : Value), j ≤ x.f3.length ∧ i = .int .i64 j ∧ Hid (RInv w A c x passes vk vk (m.take j) P wr)) (fun i _ => x.f3.length - (intOf i).toNat)
    case atStart => exact ⟨0, _, Nat.zero_le _, rfl, H4⟩
    case round =>
      obtain ⟨j, vk, hj, rfl, hI⟩ := hrel
      clear H4
      have hsz := hI.out.size
      have hs0 : w.heap.size < wr.heap.size := by omega
      have hs1 : w.heap.size + 1 < wr.heap.size := by omega
      by_cases hlt : j < x.f3.length
      · have t1 : decide (j < x.f3.length) = true := decide_eq_true hlt
        obtain ⟨ad, A3, c3, hA, d0, d1, d2, d3, hl3, hF3⟩ := kid_at HF.out j hlt
        obtain ⟨kd, ekd⟩ : ∃ kd, x.f3[j] = kd := ⟨_, rfl⟩
        have hmj : j < m.length := by have := HML.out; omega
        have hcall := HC.out j hlt hmj A3 c3 hF3 hl3
        subst hA
        rw [ekd] at d0 d1 d2 d3 hl3 hcall
        replace d0 := (hI.out.bel.cell (World.block_lt_of_cell? w _ d0)).trans d0
        replace d1 := (hI.out.bel.cell (World.block_lt_of_cell? w _ d1)).trans d1
        replace d2 := (hI.out.bel.cell (World.block_lt_of_cell? w _ d2)).trans d2
        replace d3 := (hI.out.bel.cell (World.block_lt_of_cell? w _ d3)).trans d3
        have HCj := Lib.hid hcall
        clear hcall hF3 ekd
        go_wp2
        obtain ⟨Bk, eBk⟩ : ∃ Bk, wr.heap.size = Bk := ⟨_, rfl⟩
        obtain ⟨W4, eW4⟩ : ∃ W4, wr.alloc (.cells #[.int .i64 kd.f0, .int .i64 kd.f1, .string kd.f2, .slice A3 kd.f3.length c3] 24) = W4 := ⟨_, rfl⟩
        have hk4 : W4.heap[Bk]? = some (.cells #[.int .i64 kd.f0, .int .i64 kd.f1, .string kd.f2, .slice A3 kd.f3.length c3] 24 (0, 0)) := by
          rw [← eW4, ← eBk]; exact World.alloc_heap_new wr _
        have h4 : RInv w (some ad) c x passes vk vk (m.take j) P W4 := by rw [← eW4]; exact hI.out.alloc _
        have hne : some Bk ≠ vk.ownBlock := fun he => by have := (hI.out.own Bk he.symm).2; omega
        rw [eW4, eBk]
        have H4d := Lib.hid h4.drew
        have hk4d := Lib.hid (blk_drew hk4)
        have Hne := Lib.hid hne
        clear h4 hk4 eW4 eBk hne d0 d1 d2 d3 hl3
        refine start_ (n := 10) (S := fun w' => w'.cell? ⟨w.heap.size + 1 + 1 + 1, 3, none⟩ = some vk ∧ (w'.cell? ⟨Bk, 0, none⟩ = some (.int .i64 kd.f0) ∧ w'.cell? ⟨Bk, 1, none⟩ = some (.int .i64 kd.f1) ∧ w'.cell? ⟨Bk, 2, none⟩ = some (.string kd.f2) ∧ w'.cell? ⟨Bk, 3, none⟩ = some (.slice A3 kd.f3.length c3)) ∧ w'.cell? ⟨w.heap.size + 1, 0, none⟩ = some (.int .i64 passes)) (ds := [9]) (bm 10 0) (by kernel_rfl) rfl (by kernel_rfl) (H4d.out.held hk4d.out) (fun hHeld => ?_)
        generalize W4.drew = W5 at H4d hk4d hHeld ⊢
        refine pure_ (i := 0) (N := some 21) (v := ?_) (a' := ?_) (bm 10 1) rfl rfl (by kernel_rfl) (fun _ _ _ h => h) (Or.inl ⟨by rfl, ?_⟩) ?_ ?_
        rotate_left
        · intro w'
          go_simp
          with_reducible rfl
        rotate_left
        · simp only [Act.put, List.setIfInBounds_toArray, List.set_cons_zero, List.set_cons_succ, i64_w, i32_w]
          rfl
        refine pure_ (i := 4) (N := some 25) (v := ?_) (a' := ?_) (bm 10 17) rfl rfl (by kernel_rfl) (fun _ _ _ h => h) (Or.inl ⟨by rfl, ?_⟩) ?_ ?_
        rotate_left
        · intro w'
          go_simp
          with_reducible rfl
        rotate_left
        · simp only [Act.put, List.setIfInBounds_toArray, List.set_cons_zero, List.set_cons_succ, i64_w, i32_w]
          rfl
        refine take_ (i := 1) (N := some 22) (v := ?_) (a' := ?_) (bm 10 19) rfl rfl (by kernel_rfl) (fun _ _ _ h => h) (Or.inl ⟨by rfl, ?_⟩) hHeld ?_ ?_
        rotate_left
        · rintro w' ⟨s0, ⟨s1, s2, s3, s4⟩, s5⟩
          go_simp
          with_reducible rfl
        rotate_left
        · simp only [Act.put, List.setIfInBounds_toArray, List.set_cons_zero, List.set_cons_succ, i64_w, i32_w]
          rfl
        refine take_ (i := 2) (N := some 23) (v := ?_) (a' := ?_) (bm 10 23) rfl rfl (by kernel_rfl) (fun _ _ _ h => h) (Or.inl ⟨by rfl, ?_⟩) hHeld ?_ ?_
        rotate_left
        · rintro w' ⟨s0, ⟨s1, s2, s3, s4⟩, s5⟩
          go_simp
          with_reducible rfl
        rotate_left
        · simp only [Act.put, List.setIfInBounds_toArray, List.set_cons_zero, List.set_cons_succ, i64_w, i32_w]
          rfl
        refine take_ (i := 3) (N := some 24) (v := ?_) (a' := ?_) (bm 10 31) rfl rfl (by kernel_rfl) (fun _ _ _ h => h) (Or.inl ⟨by rfl, ?_⟩) hHeld ?_ ?_
        rotate_left
        · rintro w' ⟨s0, ⟨s1, s2, s3, s4⟩, s5⟩
          go_simp
          with_reducible rfl
        rotate_left
        · simp only [Act.put, List.setIfInBounds_toArray, List.set_cons_zero, List.set_cons_succ, i64_w, i32_w]
          rfl
        refine one_ (i := 5) (N := some 26) (bm 10 63) rfl rfl (by kernel_rfl) (by decide) (fun K hK => ?_)
        refine goes_ Tryz.func36 (by kernel_rfl) rfl #[.agg #[.int .i64 kd.f0, .int .i64 kd.f1, .string kd.f2, .slice A3 kd.f3.length c3], .int .i64 passes, .slice (some ⟨Br, 0, none⟩) L.length cap] (by rfl) rfl rfl (by (try simp only [List.map_toArray, List.map_cons, List.map_nil]); first | done | rfl) ?_
        refine (HCj.out W5 H4d.out.bel).mono ?_
        rintro e W6 ⟨v6, rfl, hv6, hbel6⟩
        refine ⟨_, rfl, ?_⟩
        obtain ⟨A6, c6, rfl⟩ := Kd.V_slice hv6
        have H6 : Hid (RInv w (some ad) c x passes vk vk (m.take j) P W6) := Lib.hid (H4d.out.below hbel6)
        have hk6 := Lib.hid (blk_below hk4d.out hbel6)
        have HV6 := Lib.hid hv6
        have HL6 := Lib.hid hbel6
        clear hv6 hbel6
        refine hK.out _ _ (H6.out.held hk6.out) (fun hHeld => ?_)
        clear hK K
        refine norm_ (a' := ?_) ?_ ?_
        rotate_left
        · show Act.put _ (some 26) _ = _
          simp only [Act.put, List.setIfInBounds_toArray, List.set_cons_zero, List.set_cons_succ, i64_w, i32_w]
          rfl
        refine one_ (i := 6) (N := some 27) (bm 10 127) rfl rfl (by kernel_rfl) (by decide) (fun K hK => ?_)
        refine value_ (w1 := ?_) (v := ?_) (by rfl) rfl ?_ ?_
        rotate_left 2
        · go_simp
          constructor
          · rfl
          · rfl
        refine hK.out _ _ ((H6.out.alloc _).held (blk_alloc hk6.out _)) (fun hHeld => ?_)
        clear hK K
        refine norm_ (a' := ?_) ?_ ?_
        rotate_left
        · show Act.put _ (some 27) _ = _
          simp only [Act.put, List.setIfInBounds_toArray, List.set_cons_zero, List.set_cons_succ, i64_w, i32_w]
          rfl
        refine one_ (i := 7) (N := some 28) (bm 10 255) rfl rfl (by kernel_rfl) (by decide) (fun K hK => ?_)
        refine Kd.N_append_step k24 (w0 := w) w.heap.size (by rfl) (.tmp 22) (.tmp 27) 22 24 (.agg #[(.int .i64 0), (.int .i64 0), (.string ⟨#[]⟩), (.slice none 0 0)]) 56 rfl Tryz.underlying22 infoC rfl (by decide) (by omega) vk (m.take j) m[j] [.int .i64 m[j].f0, .int .i64 m[j].f1, .string m[j].f2, .slice A6 m[j].f3.length c6] (fun k => (P k ∧ k < w.heap.size) ∨ w.heap.size + 4 ≤ k) (fun k => (P k ∧ k < w.heap.size) ∨ W5.heap.size ≤ k) rfl rfl ?aP ?aK ?aF ?aO ?aB ?aS ?aL ?_
        (case aP => exact k24_mkF _ _ m[j] (Kd.V_at HV6.out).2.1 (Kd.V_at HV6.out).2.2)
        (case aK => exact fun k hk => ⟨hk.imp id (fun h => by have := H4d.out.size; omega), fun he => by have := H4d.out.own k he.symm; omega⟩)
        (case aF => exact fun k hk => .inr (by have := H6.out.size; omega))
        (case aO => exact H6.out.row)
        (case aB => exact H6.out.bel)
        (case aS => exact H6.out.bel.size)
        (case aL => simp only [List.length_take]; omega)
        intro v7 W7 ho7 hb7 hg7 hat7
        obtain ⟨A7, c7, e7⟩ := Kd.N_slice ho7
        obtain ⟨n7, en7⟩ : ∃ n, (m.take j ++ [m[j]]).length = n := ⟨_, rfl⟩
        rw [en7] at e7
        subst e7
        clear en7
        have H7 : Hid (RInv w (some ad) c x passes vk (.slice A7 n7 c7) (m.take j ++ [m[j]]) P W7) := Lib.hid (H6.out.append ho7 hb7 hg7)
        have hk7 := Lib.hid (blk_grown hk6.out hg7 Hne.out)
        clear ho7 hb7 hg7 hat7
        refine hK.out _ _ (H7.out.held hk7.out) (fun hHeld => ?_)
        clear hK K
        refine norm_ (a' := ?_) ?_ ?_
        rotate_left
        · show Act.put _ (some 28) _ = _
          simp only [Act.put, List.setIfInBounds_toArray, List.set_cons_zero, List.set_cons_succ, i64_w, i32_w]
          rfl
        refine pure_ (i := 8) (N := some 29) (v := ?_) (a' := ?_) (bm 10 511) rfl rfl (by kernel_rfl) (fun _ _ _ h => h) (Or.inl ⟨by rfl, ?_⟩) ?_ ?_
        rotate_left
        · intro w'
          go_simp
          with_reducible rfl
        rotate_left
        · simp only [Act.put, List.setIfInBounds_toArray, List.set_cons_zero, List.set_cons_succ, i64_w, i32_w]
          rfl
        have hs8 := (core_cells H7.out.b3).2.2.2
        have hf8 := blk_frozen H7.out.b3 3
        refine last_ (i := 9) (N := none) (bm 10 1023) rfl rfl (by kernel_rfl) (by decide) (fun K hK => ?_)
        refine skip_ (w1 := ?_) (by rfl) rfl ?_ ?_
        rotate_left
        · go_simp
          rfl
        refine hK.out _ _ ?_
        clear hK K
        refine done_ (by kernel_rfl) ?_

        have HN8 : Hid (RInv w (some ad) c x passes (.slice A7 n7 c7) (.slice A7 n7 c7) (m.take (j + 1)) P (W7.setCell ⟨w.heap.size + 1 + 1 + 1, 3, none⟩ (.slice A7 n7 c7))) := by
          have := H7.out.store
          rw [List.take_add_one, List.getElem?_eq_getElem hmj]
          exact Lib.hid this
        clear H7 H6 hk6 hk7 HV6 HL6 hHeld H4d hk4d hs8 hf8
        go_wp2
        go_roundw
        case rel => exact ⟨j + 1, _, hlt, by go_num, HN8⟩
        case measure => simp [intOf]; omega
      · obtain rfl : j = x.f3.length := by omega
        have t1 : decide (x.f3.length < x.f3.length) = false := decide_eq_false (by omega)
        have hI2 : Hid (RInv w A c x passes vk vk m P wr) := by
          have := hI.out
          rw [← HML.out, List.take_length] at this
          exact Lib.hid this
        have hL0 : LInv w passes vk ⟨x.f0, x.f1, x.f2, m⟩ P wr := ⟨hI2.out.bel, hI2.out.b1, hI2.out.b2, hI2.out.b3, Kd.N_V hI2.out.row⟩
        have HL0 := Lib.hid hL0
        clear hI hI2 hL0 hlt
        go_wp2
        go_loopg [11] k (fun kq u wq => ∃ (y : Core) (v : Value), Hid (LInv w passes v y P wq) ∧ Hid (loopF band (L.map RuleM.pair) passes kq y = some z))
        case atStart => exact ⟨_, _, HL0, HLo⟩
        case round =>
          obtain ⟨y, v, hI, hl⟩ := hrel
          obtain ⟨k', rfl⟩ : ∃ k', gk = k' + 1 := by
            cases gk with
            | zero => cases hl.out
            | succ n => exact ⟨n, rfl⟩
          have hlo := hl.out
          rw [loopF] at hlo
          clear HL0 hl
          have hsz : w.heap.size + 1 + 1 + 1 < wr.heap.size := blk_lt hI.out.b3
          have hs1 : w.heap.size + 1 + 1 < wr.heap.size := by omega
          obtain ⟨A', c', rfl⟩ := Kd.V_slice hI.out.row
          obtain ⟨d0, d1, d2, d3⟩ := core_cells hI.out.b3
          obtain ⟨e0, e1, e2, e3⟩ := core_cells hI.out.b2
          have g0 := blk_frozen hI.out.b2 0; have g1 := blk_frozen hI.out.b2 1; have g2 := blk_frozen hI.out.b2 2; have g3 := blk_frozen hI.out.b2 3
          by_cases hy : y.f3 = []
          · rw [if_pos hy] at hlo
            obtain rfl := Option.some.inj hlo
            have t1 : decide (0 < y.f3.length) = false := by rw [hy]; rfl
            clear hy hlo
            go_wp2
            refine bodyPost_ret (v := .agg #[.int .i64 y.f0, .int .i64 y.f1, .string y.f2, .slice A' y.f3.length c']) (by simp [results, Tryz.f36, go_sem, e0, e1, e2, e3, hs1]) rfl ?_
            refine ⟨_, rfl, Kd.V_mono (V_put4 hI.out.row (fun k hk => ?_) _ _ _ _) (fun k hk => ?_), below_put4 hI.out.bel (by omega) _ _ _ _⟩
            · omega
            · exact hk.imp (fun h => h.1) (fun h => by omega)
          · rw [if_neg hy] at hlo
            obtain ⟨⟨q, ok⟩, hf, hlo⟩ := Option.bind_eq_some_iff.1 hlo
            have t1 : decide (0 < y.f3.length) = true := decide_eq_true (List.length_pos_iff.2 hy)
            have hcall := first_is L HL.out hlen Br cap (w.heap.size + 1) passes y q ok (fun k => (P k ∧ k < w.heap.size) ∨ w.heap.size + 4 ≤ k) A' c' wr hI.out.b1 (HR.out.below hI.out.bel hltr) hI.out.row hf
            have HCF := Lib.hid hcall
            have HLO := Lib.hid hlo
            clear hcall hy hf hlo
            go_wp2_with fail
            refine HCF.out.mono ?_
            rintro e w' ⟨vq, rfl, hvq, hbel⟩
            obtain ⟨Aq, cq, rfl⟩ := Kd.V_slice hvq
            have hI2 : LInv w passes (.slice A' y.f3.length c') y P w' :=
              ⟨hI.out.bel.trans (hbel.mono hI.out.bel.size), blk_below hI.out.b1 hbel, blk_below hI.out.b2 hbel, blk_below hI.out.b3 hbel, Kd.V_below hI.out.row hbel⟩
            have hs5 : w.heap.size + 1 + 1 + 1 < w'.heap.size := blk_lt hI2.b3
            have hs6 : w.heap.size + 1 + 1 < w'.heap.size := by omega
            obtain ⟨f0, f1, f2, f3⟩ := core_cells hI2.b3
            obtain ⟨j0, j1, j2, j3⟩ := core_cells hI2.b2
            have i0 := blk_frozen hI2.b2 0; have i1 := blk_frozen hI2.b2 1; have i2 := blk_frozen hI2.b2 2; have i3 := blk_frozen hI2.b2 3
            have l0 := blk_frozen hI2.b3 0; have l1 := blk_frozen hI2.b3 1; have l2 := blk_frozen hI2.b3 2; have l3 := blk_frozen hI2.b3 3
            have hv2 : Kd.V k24 24 w' w.heap.size (fun k => (P k ∧ k < w.heap.size) ∨ w.heap.size + 4 ≤ k) (.slice Aq q.f3.length cq) q.f3 := Kd.V_mono (Kd.V_lower hvq hI.out.bel.size) (fun k hk => hk.elim id (fun h => .inr (by omega)))
            have HV2 := Lib.hid hv2
            have HI2 := Lib.hid hI2
            clear hI2 hv2 hvq hbel d0 d1 d2 d3 e0 e1 e2 e3 g0 g1 g2 g3
            cases ok
            · have hz := HLO.out
              simp only [Bool.false_eq_true, if_false, Option.some.injEq] at hz
              subst hz
              clear HLO
              go_wp2
              refine bodyPost_ret (v := .agg #[.int .i64 y.f0, .int .i64 y.f1, .string y.f2, .slice A' y.f3.length c']) (by simp [results, Tryz.f36, go_sem, j0, j1, j2, j3, hs6]) rfl ?_
              refine ⟨_, rfl, Kd.V_mono (Kd.V_alloc (V_put4 HI2.out.row (fun k hk => ?_) _ _ _ _) _) (fun k hk => ?_), below_alloc (below_put4 HI2.out.bel (by omega) _ _ _ _) _⟩
              · omega
              · exact hk.imp (fun h => h.1) (fun h => by omega)
            · have hz : Hid (loopF band (L.map RuleM.pair) passes k' q = some z) := Lib.hid HLO.out
              clear HLO
              go_wp2
              go_roundg k'
              case measure => omega
              case rel =>
                refine ⟨q, .slice Aq q.f3.length cq, Lib.hid ⟨below_alloc (below_put4 HI2.out.bel (by omega) _ _ _ _) _, blk_alloc (blk_away4 HI2.out.b1 (by omega) _ _ _ _) _, blk_alloc (blk_away4 HI2.out.b2 (by omega) _ _ _ _) _, blk_alloc (blk_put4 HI2.out.b3 _ _ _ _) _, Kd.V_alloc (V_put4 HV2.out (fun k hk => ?_) _ _ _ _) _⟩, hz⟩
                omega
end Go.Proofs.YtniajhmbdbgmgaaGreatDoor.Q


/- The three makers of constants inside opt.fold. -/
namespace Go.Proofs.YtniajhmbdbgmgaaGreatDoor.Q
open Go Go.RowKit Go.Proofs Go.Proofs.YtniajhmbdbgmgaaGreatDoor
theorem number_is (n : Int) (w : World) : Calls Tryz.prog 134 #[.int .i64 n] w fun e w' =>
    e = .returned (.tuple #[.agg #[.int .i64 1, .int .i64 n, .string ⟨#[]⟩, .slice none 0 0], .bool true]) ∧ w' = w.alloc (.cells #[.int .i64 1, .int .i64 n, .string ⟨#[]⟩, .slice none 0 0] 24) := by
  go_enter Tryz.func134, Tryz.ntmps134
  go_wp2
  exact bodyPost_ret (v := .tuple #[.agg #[.int .i64 1, .int .i64 n, .string ⟨#[]⟩, .slice none 0 0], .bool true]) (by simp [results, Tryz.f134, go_sem]) rfl ⟨rfl, rfl⟩
theorem day_is (n : Int) (w : World) : Calls Tryz.prog 137 #[.int .i64 n] w fun e w' =>
    e = .returned (.tuple #[.agg #[.int .i64 3, .int .i64 n, .string ⟨#[]⟩, .slice none 0 0], .bool true]) ∧ w' = w.alloc (.cells #[.int .i64 3, .int .i64 n, .string ⟨#[]⟩, .slice none 0 0] 24) := by
  go_enter Tryz.func137, Tryz.ntmps137
  go_wp2
  exact bodyPost_ret (v := .tuple #[.agg #[.int .i64 3, .int .i64 n, .string ⟨#[]⟩, .slice none 0 0], .bool true]) (by simp [results, Tryz.f137, go_sem]) rfl ⟨rfl, rfl⟩
theorem truth_is (b : Bool) (w : World) : Calls Tryz.prog 136 #[.bool b] w fun e w' => e = .returned (.int .i64 (if b = true then 1 else 0)) ∧ w' = w := by
  cases b
  all_goals
    go_enter Tryz.func136, Tryz.ntmps136
    go_wp2
    go_ret
    exact ⟨rfl, rfl⟩
theorem is_is (b : Bool) (w : World) : Calls Tryz.prog 135 #[.bool b] w fun e w' =>
    e = .returned (.tuple #[.agg #[.int .i64 2, .int .i64 (if b = true then 1 else 0), .string ⟨#[]⟩, .slice none 0 0], .bool true]) ∧ w' = w.alloc (.cells #[.int .i64 2, .int .i64 (if b = true then 1 else 0), .string ⟨#[]⟩, .slice none 0 0] 24) := by
  obtain ⟨n, hn⟩ : ∃ n : Int, (if b = true then 1 else 0) = n := ⟨_, rfl⟩
  have ht := fun w => truth_is b w
  rw [hn] at ht ⊢
  have HT := Lib.hid ht
  clear ht hn
  go_enter Tryz.func135, Tryz.ntmps135
  go_wp2_with (go_at_call 136; refine (HT.out _).mono ?_; rintro e w' ⟨rfl, rfl⟩)
  exact bodyPost_ret (v := .tuple #[.agg #[.int .i64 2, .int .i64 n, .string ⟨#[]⟩, .slice none 0 0], .bool true]) (by simp [results, Tryz.f135, go_sem]) rfl ⟨rfl, rfl⟩
end Go.Proofs.YtniajhmbdbgmgaaGreatDoor.Q

/- opt.idle: one of two kids does nothing. -/
namespace Go.Proofs.YtniajhmbdbgmgaaGreatDoor.Q
open Go Go.RowKit Go.Proofs Go.Proofs.YtniajhmbdbgmgaaGreatDoor Go.Shelf Go.Proofs.YtniajhmbdbgmgaaGreatDoorW.PrintWords Go.Proofs.YtniajhmbdbgmgaaGreatDoorW.PrintLast Go.Proofs.YtniajhmbdbgmgaaGreatDoorW.PrintMore
set_option linter.unusedSimpArgs false
attribute [local go_sem] World.cell?_alloc_lt

/-- What holds when the kids are held. -/
structure IInv (w : World) (A : Option Addr) (c : Nat) (x a : Core) (Aa : Option Addr) (ca : Nat) (b : Core) (Ab : Option Addr) (cb : Nat) (Ba Bb : Nat) (W : World) : Prop where
  d : DInv w A c x W
  ga : w.heap.size + 1 < Ba
  gb : w.heap.size + 1 < Bb
  ba : W.heap[Ba]? = some (.cells #[.int .i64 a.f0, .int .i64 a.f1, .string a.f2, .slice Aa a.f3.length ca] 24 (0, 0))
  bb : W.heap[Bb]? = some (.cells #[.int .i64 b.f0, .int .i64 b.f1, .string b.f2, .slice Ab b.f3.length cb] 24 (0, 0))
theorem IInv.below {w W W' : World} {A : Option Addr} {c : Nat} {x a : Core} {Aa : Option Addr} {ca : Nat} {b : Core} {Ab : Option Addr} {cb : Nat} {Ba Bb : Nat} (h : IInv w A c x a Aa ca b Ab cb Ba Bb W) (hb : Below W.heap.size W W') : IInv w A c x a Aa ca b Ab cb Ba Bb W' :=
  ⟨h.d.below hb, h.ga, h.gb, blk_below h.ba hb, blk_below h.bb hb⟩
theorem isNum_is (a b : Int) (s : ByteArray) (A : Option Addr) (m c : Nat) (n : Int) (w : World) : Calls Tryz.prog 145 #[.agg #[.int .i64 a, .int .i64 b, .string s, .slice A m c], .int .i64 n] w fun e w' =>
    e = .returned (.bool (a == 1 && b == n)) ∧ w' = w.alloc (.cells #[.int .i64 a, .int .i64 b, .string s, .slice A m c] 24) := by
  go_enter Tryz.func145, Tryz.ntmps145
  go_wp2
  all_goals go_ret
  all_goals simp_all
theorem isBool_is (a b : Int) (s : ByteArray) (A : Option Addr) (m c : Nat) (n : Int) (w : World) : Calls Tryz.prog 146 #[.agg #[.int .i64 a, .int .i64 b, .string s, .slice A m c], .int .i64 n] w fun e w' =>
    e = .returned (.bool (a == 2 && b == n)) ∧ w' = w.alloc (.cells #[.int .i64 a, .int .i64 b, .string s, .slice A m c] 24) := by
  go_enter Tryz.func146, Tryz.ntmps146
  go_wp2
  all_goals go_ret
  all_goals simp_all

set_option maxRecDepth 100000 in
theorem idle_else (x : Core) (hne : x.f3.length ≠ 2) (P : Nat → Prop) (A : Option Addr) (c : Nat) (w : World) (hV : Kd.V k24 24 w w.heap.size P (.slice A x.f3.length c) x.f3) :
    Calls Tryz.prog 83 #[.agg #[.int .i64 x.f0, .int .i64 x.f1, .string x.f2, .slice A x.f3.length c]] w fun q w' =>
      ∃ v : Value, q = .returned (.tuple #[.agg #[.int .i64 x.f0, .int .i64 x.f1, .string x.f2, v], .bool false]) ∧ Kd.V k24 24 w' w.heap.size (fun k => P k ∨ w.heap.size ≤ k) v x.f3 ∧ Below w.heap.size w w' := by
  have t1 : ((x.f3.length : Int) != 2) = true := bne_iff_ne.2 (by omega)
  have HV := Lib.hid hV
  clear hne hV
  go_enter Tryz.func83, Tryz.ntmps83
  go_wp2
  refine bodyPost_ret (v := .tuple #[.agg #[.int .i64 x.f0, .int .i64 x.f1, .string x.f2, .slice A x.f3.length c], .bool false]) (by simp [results, Tryz.f83, go_sem]) rfl ?_
  exact ⟨_, rfl, Kd.V_mono (Kd.V_alloc (Kd.V_alloc HV.out _) _) (fun _ h => .inl h), below_alloc (below_alloc (Below.refl _ _) _) _⟩
set_option maxRecDepth 100000 in
set_option maxHeartbeats 4000000 in
theorem idle_is (x a b y : Core) (ok : Bool) (hl : x.f3 = [a, b]) (P : Nat → Prop) (A : Option Addr) (c : Nat) (w : World) (hV : Kd.V k24 24 w w.heap.size P (.slice A x.f3.length c) x.f3)
    (h : (if (idleWhich x.f0 a b).2 = true then (b, true) else if (idleWhich x.f0 a b).1 = true then (a, true) else (x, false)) = (y, ok)) :
    Calls Tryz.prog 83 #[.agg #[.int .i64 x.f0, .int .i64 x.f1, .string x.f2, .slice A x.f3.length c]] w fun q w' =>
      ∃ v : Value, q = .returned (.tuple #[.agg #[.int .i64 y.f0, .int .i64 y.f1, .string y.f2, v], .bool ok]) ∧ Kd.V k24 24 w' w.heap.size (fun k => P k ∨ w.heap.size ≤ k) v y.f3 ∧ Below w.heap.size w w' := by
  obtain ⟨w2, ew2⟩ : ∃ w2, ((w.alloc (.cells #[.int .i64 x.f0, .int .i64 x.f1, .string x.f2, .slice A x.f3.length c] 24)).alloc (.cells #[.int .i64 0, .int .i64 0, .string ⟨#[]⟩, .slice none 0 0] 24)) = w2 := ⟨_, rfl⟩
  have hD : DInv w A c x w2 := by rw [← ew2]; exact DInv.new w A c x
  have hs2 : w2.heap.size = w.heap.size + 1 + 1 := by rw [← ew2]; simp
  have hF := (Kd.V_at hV).2.2
  obtain ⟨ad, Aa, ca, hA, a0, a1, a2, a3, hla, hFa⟩ := kid_at hF 0 (by rw [hl]; simp)
  obtain ⟨ad', Ab, cb, hA', b0, b1, b2, b3, hlb, hFb⟩ := kid_at hF 1 (by rw [hl]; simp)
  have hlen : x.f3.length = 2 := by rw [hl]; rfl
  have ea : x.f3[0]'(by rw [hl]; simp) = a := by simp [hl]
  have eb : x.f3[1]'(by rw [hl]; simp) = b := by simp [hl]
  rw [ea] at a0 a1 a2 a3 hla hFa
  rw [eb] at b0 b1 b2 b3 hlb hFb
  subst hA
  obtain rfl : ad = ad' := Option.some.inj hA'
  rw [Nat.zero_mul, Addr.add_zero'] at a0 a1 a2 a3
  rw [Nat.one_mul] at b0 b1 b2 b3
  have h4 : ad.add 4 = ⟨ad.block, ad.off + 4, none⟩ := by
    have := add_field ad 0 4 (by omega)
    rw [Addr.add_zero'] at this
    exact this
  simp only [h4] at b0 b1 b2 b3
  clear h4
  rw [hlen] at ew2
  have held : ∀ W, DInv w (some ad) c x W → W.cell? ⟨w.heap.size, 3, none⟩ = some (.slice (some ad) 2 c) ∧ (W.cell? ad = some (.int .i64 a.f0) ∧ W.cell? ⟨(ad).block, (ad).off + 1, none⟩ = some (.int .i64 a.f1) ∧ W.cell? ⟨(ad).block, (ad).off + 2, none⟩ = some (.string a.f2) ∧ W.cell? ⟨(ad).block, (ad).off + 3, none⟩ = some (.slice Aa a.f3.length ca)) ∧
      (W.cell? ⟨ad.block, ad.off + 4, none⟩ = some (.int .i64 b.f0) ∧ W.cell? ⟨ad.block, ad.off + 4 + 1, none⟩ = some (.int .i64 b.f1) ∧ W.cell? ⟨ad.block, ad.off + 4 + 2, none⟩ = some (.string b.f2) ∧ W.cell? ⟨ad.block, ad.off + 4 + 3, none⟩ = some (.slice Ab b.f3.length cb)) := by
    intro W h
    have mv : ∀ {p : Addr} {v : Value}, w.cell? p = some v → W.cell? p = some v := fun hp => (h.bel.cell (World.block_lt_of_cell? w _ hp)).trans hp
    have h3 := (core_cells h.b0).2.2.2
    rw [hlen] at h3
    exact ⟨h3, ⟨mv a0, mv a1, mv a2, mv a3⟩, ⟨mv b0, mv b1, mv b2, mv b3⟩⟩
  have HH := Lib.hid held
  obtain ⟨d0, d1, d2, d3⟩ := core_cells hD.b0
  rw [hlen] at d3 ⊢
  have H := Lib.hid h; have HV := Lib.hid hV; have HD := Lib.hid hD; have HFa := Lib.hid hFa; have HFb := Lib.hid hFb; have HLen := Lib.hid hlen
  clear h held hV hFa hFb hA' hD hF ea eb hlen a0 a1 a2 a3 b0 b1 b2 b3
  go_enter Tryz.func83, Tryz.ntmps83
  go_wp2
  have HD := Lib.hid HD.out.drew
  have hs3 : w2.drew.heap.size = w.heap.size + 1 + 1 := hs2
  refine start_ (n := 12) (S := fun w' => w'.cell? ⟨w.heap.size, 3, none⟩ = some (.slice (some ad) 2 c) ∧ (w'.cell? ad = some (.int .i64 a.f0) ∧ w'.cell? ⟨(ad).block, (ad).off + 1, none⟩ = some (.int .i64 a.f1) ∧ w'.cell? ⟨(ad).block, (ad).off + 2, none⟩ = some (.string a.f2) ∧ w'.cell? ⟨(ad).block, (ad).off + 3, none⟩ = some (.slice Aa a.f3.length ca)) ∧ (w'.cell? ⟨ad.block, ad.off + 4, none⟩ = some (.int .i64 b.f0) ∧ w'.cell? ⟨ad.block, ad.off + 4 + 1, none⟩ = some (.int .i64 b.f1) ∧ w'.cell? ⟨ad.block, ad.off + 4 + 2, none⟩ = some (.string b.f2) ∧ w'.cell? ⟨ad.block, ad.off + 4 + 3, none⟩ = some (.slice Ab b.f3.length cb))) (ds := []) (bm 12 0) (by kernel_rfl) rfl (by kernel_rfl) (HH.out _ HD.out) (fun hHeld => ?_)
  generalize w2.drew = w3 at HD hHeld hs3 ⊢
  refine pure_ (i := 0) (N := some 13) (v := ?_) (a' := ?_) (bm 12 1) rfl rfl (by kernel_rfl) (fun _ _ _ h => h) (Or.inl ⟨by rfl, ?_⟩) ?_ ?_
  rotate_left
  · intro w'
    go_simp
    with_reducible rfl
  rotate_left
  · simp only [Act.put, List.setIfInBounds_toArray, List.set_cons_zero, List.set_cons_succ, i64_w, i32_w]
    rfl
  refine take_ (i := 1) (N := some 14) (v := ?_) (a' := ?_) (bm 12 3) rfl rfl (by kernel_rfl) (fun _ _ _ h => h) (Or.inl ⟨by rfl, ?_⟩) hHeld ?_ ?_
  rotate_left
  · rintro w' ⟨s0, ⟨s1, s2, s3, s4⟩, ⟨s5, s6, s7, s8⟩⟩
    go_simp
    with_reducible rfl
  rotate_left
  · simp only [Act.put, List.setIfInBounds_toArray, List.set_cons_zero, List.set_cons_succ, i64_w, i32_w]
    rfl
  refine pure_ (i := 2) (N := some 15) (v := ?_) (a' := ?_) (bm 12 7) rfl rfl (by kernel_rfl) (fun _ _ _ h => h) (Or.inl ⟨by rfl, ?_⟩) ?_ ?_
  rotate_left
  · intro w'
    go_simp
    with_reducible rfl
  rotate_left
  · simp only [Act.put, List.setIfInBounds_toArray, List.set_cons_zero, List.set_cons_succ, i64_w, i32_w]
    rfl
  refine take_ (i := 3) (N := some 16) (v := ?_) (a' := ?_) (bm 12 15) rfl rfl (by kernel_rfl) (fun _ _ _ h => h) (Or.inl ⟨by rfl, ?_⟩) hHeld ?_ ?_
  rotate_left
  · rintro w' ⟨s0, ⟨s1, s2, s3, s4⟩, ⟨s5, s6, s7, s8⟩⟩
    go_simp
    with_reducible rfl
  rotate_left
  · simp only [Act.put, List.setIfInBounds_toArray, List.set_cons_zero, List.set_cons_succ, i64_w, i32_w]
    rfl
  refine pure_ (i := 4) (N := some 17) (v := ?_) (a' := ?_) (bm 12 31) rfl rfl (by kernel_rfl) (fun _ _ _ h => h) (Or.inl ⟨by rfl, ?_⟩) ?_ ?_
  rotate_left
  · intro w'
    go_simp
    with_reducible rfl
  rotate_left
  · simp only [Act.put, List.setIfInBounds_toArray, List.set_cons_zero, List.set_cons_succ, i64_w, i32_w]
    rfl
  refine take_ (i := 5) (N := some 18) (v := ?_) (a' := ?_) (bm 12 63) rfl rfl (by kernel_rfl) (fun _ _ _ h => h) (Or.inl ⟨by rfl, ?_⟩) hHeld ?_ ?_
  rotate_left
  · rintro w' ⟨s0, ⟨s1, s2, s3, s4⟩, ⟨s5, s6, s7, s8⟩⟩
    go_simp
    with_reducible rfl
  rotate_left
  · simp only [Act.put, List.setIfInBounds_toArray, List.set_cons_zero, List.set_cons_succ, i64_w, i32_w]
    rfl
  refine pure_ (i := 6) (N := some 19) (v := ?_) (a' := ?_) (bm 12 127) rfl rfl (by kernel_rfl) (fun _ _ _ h => h) (Or.inl ⟨by rfl, ?_⟩) ?_ ?_
  rotate_left
  · intro w'
    go_simp
    with_reducible rfl
  rotate_left
  · simp only [Act.put, List.setIfInBounds_toArray, List.set_cons_zero, List.set_cons_succ, i64_w, i32_w]
    rfl
  refine take_ (i := 7) (N := some 20) (v := ?_) (a' := ?_) (bm 12 255) rfl rfl (by kernel_rfl) (fun _ _ _ h => h) (Or.inl ⟨by rfl, ?_⟩) hHeld ?_ ?_
  rotate_left
  · rintro w' ⟨s0, ⟨s1, s2, s3, s4⟩, ⟨s5, s6, s7, s8⟩⟩
    go_simp
    with_reducible rfl
  rotate_left
  · simp only [Act.put, List.setIfInBounds_toArray, List.set_cons_zero, List.set_cons_succ, i64_w, i32_w]
    rfl
  refine join_ (σ := Nat × Nat) 0 (bm 12 4095) (fun s => [(4, .pointer (some ⟨s.1, 0, none⟩)), (5, .pointer (some ⟨s.2, 0, none⟩))]) (fun s W => Hid (IInv w (some ad) c x a Aa ca b Ab cb s.1 s.2 W)) ?cont ?way
  case way =>
    intro hJ
    refine two_ (i := 8) (j := 9) (Ni := some 4) (Nj := some 5) (bm 12 511) (bm 12 767) rfl rfl rfl rfl (by kernel_rfl) (by decide) (by decide) (fun K hK => ?_) (fun K hK => ?_)
    ·
      refine value_ (w1 := ?_) (v := ?_) (by rfl) rfl ?_ ?_
      rotate_left 2
      · go_simp
        constructor
        · rfl
        · rfl
      obtain ⟨w4, ew4⟩ : ∃ w4, w3.alloc (.cells #[.int .i64 0, .int .i64 0, .string ⟨#[]⟩, .slice none 0 0] 24) = w4 := ⟨_, rfl⟩
      have h4 : DInv w (some ad) c x w4 := by rw [← ew4]; exact HD.out.below (below_alloc (Below.refl _ _) _)
      have z4 : w4.heap[w.heap.size + 1 + 1]? = some (.cells #[.int .i64 0, .int .i64 0, .string ⟨#[]⟩, .slice none 0 0] 24 (0, 0)) := by rw [← ew4, ← hs3]; exact World.alloc_heap_new _ _
      have hs4 : w4.heap.size = w.heap.size + 1 + 1 + 1 := by rw [← ew4]; simp [hs3]
      rw [ew4]
      clear ew4
      refine hK.out _ _ (HH.out _ h4) (fun hHeld => ?_)
      clear hK K
      refine norm_ (a' := ?_) ?_ ?_
      rotate_left
      · show Act.put _ (some 4) _ = _
        simp only [Act.put, List.setIfInBounds_toArray, List.set_cons_zero, List.set_cons_succ, i64_w, i32_w]
        rfl
      refine one_ (i := 9) (N := some 5) (bm 12 1023) rfl rfl (by kernel_rfl) (by decide) (fun K hK => ?_)
      refine value_ (w1 := ?_) (v := ?_) (by rfl) rfl ?_ ?_
      rotate_left 2
      · go_simp
        constructor
        · rfl
        · rfl
      obtain ⟨w5, ew5⟩ : ∃ w5, w4.alloc (.cells #[.int .i64 0, .int .i64 0, .string ⟨#[]⟩, .slice none 0 0] 24) = w5 := ⟨_, rfl⟩
      have h5 : DInv w (some ad) c x w5 := by rw [← ew5]; exact h4.below (below_alloc (Below.refl _ _) _)
      have z5 : w5.heap[w.heap.size + 1 + 1]? = some (.cells #[.int .i64 0, .int .i64 0, .string ⟨#[]⟩, .slice none 0 0] 24 (0, 0)) := by rw [← ew5]; exact blk_alloc z4 _
      have y5 : w5.heap[w.heap.size + 1 + 1 + 1]? = some (.cells #[.int .i64 0, .int .i64 0, .string ⟨#[]⟩, .slice none 0 0] 24 (0, 0)) := by rw [← ew5, ← hs4]; exact World.alloc_heap_new _ _
      rw [ew5]
      clear ew5 z4 hs4 h4
      refine hK.out _ _ (HH.out _ h5) (fun hHeld => ?_)
      clear hK K
      refine norm_ (a' := ?_) ?_ ?_
      rotate_left
      · show Act.put _ (some 5) _ = _
        simp only [Act.put, List.setIfInBounds_toArray, List.set_cons_zero, List.set_cons_succ, i64_w, i32_w]
        rfl
      have H5 := Lib.hid h5
      clear h5
      obtain ⟨f0, f1, f2, f3⟩ := core_cells z5
      have i0 := blk_frozen z5 0; have i1 := blk_frozen z5 1; have i2 := blk_frozen z5 2; have i3 := blk_frozen z5 3
      have Z5 := Lib.hid z5; have Y5 := Lib.hid y5
      clear z5 y5
      obtain ⟨w6, ew6⟩ : ∃ w6, ((((w5.setCell ⟨w.heap.size + 1 + 1, 0, none⟩ (.int .i64 a.f0)).setCell ⟨w.heap.size + 1 + 1, 1, none⟩ (.int .i64 a.f1)).setCell ⟨w.heap.size + 1 + 1, 2, none⟩ (.string a.f2)).setCell ⟨w.heap.size + 1 + 1, 3, none⟩ (.slice Aa a.f3.length ca)) = w6 := ⟨_, rfl⟩
      refine one_ (i := 10) (N := none) (bm 12 2047) rfl rfl (by kernel_rfl) (by decide) (fun K hK => ?_)
      refine skip_ (w1 := w6) (by rfl) rfl ?_ ?_
      · go_simp
      have h6 : DInv w (some ad) c x w6 := by rw [← ew6]; exact H5.out.put4 (by omega) _ _ _ _
      have za6 : w6.heap[w.heap.size + 1 + 1]? = some (.cells #[.int .i64 a.f0, .int .i64 a.f1, .string a.f2, .slice Aa a.f3.length ca] 24 (0, 0)) := by rw [← ew6]; exact blk_put4 Z5.out _ _ _ _
      have zb6 : w6.heap[w.heap.size + 1 + 1 + 1]? = some (.cells #[.int .i64 0, .int .i64 0, .string ⟨#[]⟩, .slice none 0 0] 24 (0, 0)) := by rw [← ew6]; exact blk_away4 Y5.out (by omega) _ _ _ _
      clear f0 f1 f2 f3 i0 i1 i2 i3 Z5 Y5 H5
      have H6 := Lib.hid h6; have ZA6 := Lib.hid za6
      clear h6 za6 ew6
      refine hK.out _ _ (HH.out _ H6.out) (fun hHeld => ?_)
      clear hK K
      obtain ⟨f0, f1, f2, f3⟩ := core_cells zb6
      have i0 := blk_frozen zb6 0; have i1 := blk_frozen zb6 1; have i2 := blk_frozen zb6 2; have i3 := blk_frozen zb6 3
      have ZB6 := Lib.hid zb6
      clear zb6
      obtain ⟨w7, ew7⟩ : ∃ w7, ((((w6.setCell ⟨w.heap.size + 1 + 1 + 1, 0, none⟩ (.int .i64 b.f0)).setCell ⟨w.heap.size + 1 + 1 + 1, 1, none⟩ (.int .i64 b.f1)).setCell ⟨w.heap.size + 1 + 1 + 1, 2, none⟩ (.string b.f2)).setCell ⟨w.heap.size + 1 + 1 + 1, 3, none⟩ (.slice Ab b.f3.length cb)) = w7 := ⟨_, rfl⟩
      refine one_ (i := 11) (N := none) (bm 12 4095) rfl rfl (by kernel_rfl) (by decide) (fun K hK => ?_)
      refine skip_ (w1 := w7) (by rfl) rfl ?_ ?_
      · go_simp
      have h7 : IInv w (some ad) c x a Aa ca b Ab cb (w.heap.size + 1 + 1) (w.heap.size + 1 + 1 + 1) w7 := by rw [← ew7]; exact ⟨H6.out.put4 (by omega) _ _ _ _, by omega, by omega, blk_away4 ZA6.out (by omega) _ _ _ _, blk_put4 ZB6.out _ _ _ _⟩
      clear ew7
      refine hK.out _ _ (HH.out _ h7.d) (fun hHeld => ?_)
      clear hK K
      have hh := hJ (w.heap.size + 1 + 1, w.heap.size + 1 + 1 + 1) w7 (Lib.hid h7)
      simp only [putAll, Act.put, List.setIfInBounds_toArray, List.set_cons_zero, List.set_cons_succ] at hh
      exact hh
    ·
      refine value_ (w1 := ?_) (v := ?_) (by rfl) rfl ?_ ?_
      rotate_left 2
      · go_simp
        constructor
        · rfl
        · rfl
      obtain ⟨w4, ew4⟩ : ∃ w4, w3.alloc (.cells #[.int .i64 0, .int .i64 0, .string ⟨#[]⟩, .slice none 0 0] 24) = w4 := ⟨_, rfl⟩
      have h4 : DInv w (some ad) c x w4 := by rw [← ew4]; exact HD.out.below (below_alloc (Below.refl _ _) _)
      have z4 : w4.heap[w.heap.size + 1 + 1]? = some (.cells #[.int .i64 0, .int .i64 0, .string ⟨#[]⟩, .slice none 0 0] 24 (0, 0)) := by rw [← ew4, ← hs3]; exact World.alloc_heap_new _ _
      have hs4 : w4.heap.size = w.heap.size + 1 + 1 + 1 := by rw [← ew4]; simp [hs3]
      rw [ew4]
      clear ew4
      refine hK.out _ _ (HH.out _ h4) (fun hHeld => ?_)
      clear hK K
      refine norm_ (a' := ?_) ?_ ?_
      rotate_left
      · show Act.put _ (some 5) _ = _
        simp only [Act.put, List.setIfInBounds_toArray, List.set_cons_zero, List.set_cons_succ, i64_w, i32_w]
        rfl
      refine one_ (i := 8) (N := some 4) (bm 12 1023) rfl rfl (by kernel_rfl) (by decide) (fun K hK => ?_)
      refine value_ (w1 := ?_) (v := ?_) (by rfl) rfl ?_ ?_
      rotate_left 2
      · go_simp
        constructor
        · rfl
        · rfl
      obtain ⟨w5, ew5⟩ : ∃ w5, w4.alloc (.cells #[.int .i64 0, .int .i64 0, .string ⟨#[]⟩, .slice none 0 0] 24) = w5 := ⟨_, rfl⟩
      have h5 : DInv w (some ad) c x w5 := by rw [← ew5]; exact h4.below (below_alloc (Below.refl _ _) _)
      have z5 : w5.heap[w.heap.size + 1 + 1]? = some (.cells #[.int .i64 0, .int .i64 0, .string ⟨#[]⟩, .slice none 0 0] 24 (0, 0)) := by rw [← ew5]; exact blk_alloc z4 _
      have y5 : w5.heap[w.heap.size + 1 + 1 + 1]? = some (.cells #[.int .i64 0, .int .i64 0, .string ⟨#[]⟩, .slice none 0 0] 24 (0, 0)) := by rw [← ew5, ← hs4]; exact World.alloc_heap_new _ _
      rw [ew5]
      clear ew5 z4 hs4 h4
      refine hK.out _ _ (HH.out _ h5) (fun hHeld => ?_)
      clear hK K
      refine norm_ (a' := ?_) ?_ ?_
      rotate_left
      · show Act.put _ (some 4) _ = _
        simp only [Act.put, List.setIfInBounds_toArray, List.set_cons_zero, List.set_cons_succ, i64_w, i32_w]
        rfl
      have H5 := Lib.hid h5
      clear h5
      obtain ⟨f0, f1, f2, f3⟩ := core_cells y5
      have i0 := blk_frozen y5 0; have i1 := blk_frozen y5 1; have i2 := blk_frozen y5 2; have i3 := blk_frozen y5 3
      have Z5 := Lib.hid z5; have Y5 := Lib.hid y5
      clear z5 y5
      obtain ⟨w6, ew6⟩ : ∃ w6, ((((w5.setCell ⟨w.heap.size + 1 + 1 + 1, 0, none⟩ (.int .i64 a.f0)).setCell ⟨w.heap.size + 1 + 1 + 1, 1, none⟩ (.int .i64 a.f1)).setCell ⟨w.heap.size + 1 + 1 + 1, 2, none⟩ (.string a.f2)).setCell ⟨w.heap.size + 1 + 1 + 1, 3, none⟩ (.slice Aa a.f3.length ca)) = w6 := ⟨_, rfl⟩
      refine one_ (i := 10) (N := none) (bm 12 2047) rfl rfl (by kernel_rfl) (by decide) (fun K hK => ?_)
      refine skip_ (w1 := w6) (by rfl) rfl ?_ ?_
      · go_simp
      have h6 : DInv w (some ad) c x w6 := by rw [← ew6]; exact H5.out.put4 (by omega) _ _ _ _
      have za6 : w6.heap[w.heap.size + 1 + 1 + 1]? = some (.cells #[.int .i64 a.f0, .int .i64 a.f1, .string a.f2, .slice Aa a.f3.length ca] 24 (0, 0)) := by rw [← ew6]; exact blk_put4 Y5.out _ _ _ _
      have zb6 : w6.heap[w.heap.size + 1 + 1]? = some (.cells #[.int .i64 0, .int .i64 0, .string ⟨#[]⟩, .slice none 0 0] 24 (0, 0)) := by rw [← ew6]; exact blk_away4 Z5.out (by omega) _ _ _ _
      clear f0 f1 f2 f3 i0 i1 i2 i3 Z5 Y5 H5
      have H6 := Lib.hid h6; have ZA6 := Lib.hid za6
      clear h6 za6 ew6
      refine hK.out _ _ (HH.out _ H6.out) (fun hHeld => ?_)
      clear hK K
      obtain ⟨f0, f1, f2, f3⟩ := core_cells zb6
      have i0 := blk_frozen zb6 0; have i1 := blk_frozen zb6 1; have i2 := blk_frozen zb6 2; have i3 := blk_frozen zb6 3
      have ZB6 := Lib.hid zb6
      clear zb6
      obtain ⟨w7, ew7⟩ : ∃ w7, ((((w6.setCell ⟨w.heap.size + 1 + 1, 0, none⟩ (.int .i64 b.f0)).setCell ⟨w.heap.size + 1 + 1, 1, none⟩ (.int .i64 b.f1)).setCell ⟨w.heap.size + 1 + 1, 2, none⟩ (.string b.f2)).setCell ⟨w.heap.size + 1 + 1, 3, none⟩ (.slice Ab b.f3.length cb)) = w7 := ⟨_, rfl⟩
      refine one_ (i := 11) (N := none) (bm 12 4095) rfl rfl (by kernel_rfl) (by decide) (fun K hK => ?_)
      refine skip_ (w1 := w7) (by rfl) rfl ?_ ?_
      · go_simp
      have h7 : IInv w (some ad) c x a Aa ca b Ab cb (w.heap.size + 1 + 1 + 1) (w.heap.size + 1 + 1) w7 := by rw [← ew7]; exact ⟨H6.out.put4 (by omega) _ _ _ _, by omega, by omega, blk_away4 ZA6.out (by omega) _ _ _ _, blk_put4 ZB6.out _ _ _ _⟩
      clear ew7
      refine hK.out _ _ (HH.out _ h7.d) (fun hHeld => ?_)
      clear hK K
      have hh := hJ (w.heap.size + 1 + 1 + 1, w.heap.size + 1 + 1) w7 (Lib.hid h7)
      simp only [putAll, Act.put, List.setIfInBounds_toArray, List.set_cons_zero, List.set_cons_succ] at hh
      exact hh
  case cont =>
    rintro ⟨Ba, Bb⟩ w4 HI
    simp only [putAll, Act.put, List.setIfInBounds_toArray, List.set_cons_zero, List.set_cons_succ] at HI ⊢
    refine done_ (by kernel_rfl) ?_
    clear hHeld hs3 ew2
    obtain ⟨p0, p1, p2, p3⟩ := core_cells HI.out.d.b0
    obtain ⟨r0, r1, r2, r3⟩ := core_cells HI.out.ba
    obtain ⟨s0, s1, s2, s3⟩ := core_cells HI.out.bb
    clear p3
    by_cases hop : x.f0 = 7
    · have t7 : (x.f0 == 7) = true := beq_iff_eq.2 hop
      obtain ⟨rt, ert⟩ : ∃ rt, (b.f0 == 1 && b.f1 == 0) = rt := ⟨_, rfl⟩
      obtain ⟨lf, elf⟩ : ∃ lf, (a.f0 == 1 && a.f1 == 0) = lf := ⟨_, rfl⟩
      have hcb : ∀ W, Calls Tryz.prog 145 #[.agg #[.int .i64 b.f0, .int .i64 b.f1, .string b.f2, .slice Ab b.f3.length cb], .int .i64 0] W fun e w' => e = .returned (.bool rt) ∧ w' = W.alloc (.cells #[.int .i64 b.f0, .int .i64 b.f1, .string b.f2, .slice Ab b.f3.length cb] 24) := fun W => by rw [← ert]; exact isNum_is _ _ _ _ _ _ _ W
      have hca : ∀ W, Calls Tryz.prog 145 #[.agg #[.int .i64 a.f0, .int .i64 a.f1, .string a.f2, .slice Aa a.f3.length ca], .int .i64 0] W fun e w' => e = .returned (.bool lf) ∧ w' = W.alloc (.cells #[.int .i64 a.f0, .int .i64 a.f1, .string a.f2, .slice Aa a.f3.length ca] 24) := fun W => by rw [← elf]; exact isNum_is _ _ _ _ _ _ _ W
      have hw : Hid (idleWhich x.f0 a b = (rt, lf)) := Lib.hid (by rw [hop, ← ert, ← elf]; rfl)
      have HCA := Lib.hid hca; have HCB := Lib.hid hcb
      clear hca hcb ert elf hop
      go_wp2
      clear t7 p0 p1 p2 r0 r1 r2 r3 s0 s1 s2 s3
      have HI5 := Lib.hid (HI.out.below (below_drew (Below.refl _ _)))
      refine start_ (n := 6) (S := fun w' => (w'.cell? ⟨Ba, 0, none⟩ = some (.int .i64 a.f0) ∧ w'.cell? ⟨Ba, 1, none⟩ = some (.int .i64 a.f1) ∧ w'.cell? ⟨Ba, 2, none⟩ = some (.string a.f2) ∧ w'.cell? ⟨Ba, 3, none⟩ = some (.slice Aa a.f3.length ca)) ∧ (w'.cell? ⟨Bb, 0, none⟩ = some (.int .i64 b.f0) ∧ w'.cell? ⟨Bb, 1, none⟩ = some (.int .i64 b.f1) ∧ w'.cell? ⟨Bb, 2, none⟩ = some (.string b.f2) ∧ w'.cell? ⟨Bb, 3, none⟩ = some (.slice Ab b.f3.length cb))) (ds := []) (bm 6 0) (by kernel_rfl) rfl (by kernel_rfl) ⟨core_cells HI5.out.ba, core_cells HI5.out.bb⟩ (fun hHeld => ?_)
      generalize w4.drew = w5 at HI5 hHeld ⊢
      refine take_ (i := 0) (N := some 25) (v := ?_) (a' := ?_) (bm 6 1) rfl rfl (by kernel_rfl) (fun _ _ _ h => h) (Or.inl ⟨by rfl, ?_⟩) hHeld ?_ ?_
      rotate_left
      · rintro w' ⟨⟨s0, s1, s2, s3⟩, ⟨s4, s5, s6, s7⟩⟩
        go_simp
        with_reducible rfl
      rotate_left
      · simp only [Act.put, List.setIfInBounds_toArray, List.set_cons_zero, List.set_cons_succ, i64_w, i32_w]
        rfl
      refine take_ (i := 2) (N := some 27) (v := ?_) (a' := ?_) (bm 6 5) rfl rfl (by kernel_rfl) (fun _ _ _ h => h) (Or.inl ⟨by rfl, ?_⟩) hHeld ?_ ?_
      rotate_left
      · rintro w' ⟨⟨s0, s1, s2, s3⟩, ⟨s4, s5, s6, s7⟩⟩
        go_simp
        with_reducible rfl
      rotate_left
      · simp only [Act.put, List.setIfInBounds_toArray, List.set_cons_zero, List.set_cons_succ, i64_w, i32_w]
        rfl
      refine one_ (i := 1) (N := some 26) (bm 6 7) rfl rfl (by kernel_rfl) (by decide) (fun K hK => ?_)
      refine goes_ Tryz.func145 (by kernel_rfl) rfl #[.agg #[.int .i64 b.f0, .int .i64 b.f1, .string b.f2, .slice Ab b.f3.length cb], .int .i64 0] (by rfl) rfl rfl (by (try simp only [List.map_toArray, List.map_cons, List.map_nil]); first | done | rfl) ?_
      refine (HCB.out _).mono ?_
      rintro e w6 ⟨rfl, ew6⟩
      refine ⟨_, rfl, ?_⟩
      have HI6 := Lib.hid (HI5.out.below (W' := w6) (by rw [ew6]; exact below_alloc (Below.refl _ _) _))
      clear ew6
      refine hK.out _ _ ⟨core_cells HI6.out.ba, core_cells HI6.out.bb⟩ (fun hHeld => ?_)
      clear hK K
      refine norm_ (a' := ?_) ?_ ?_
      rotate_left
      · show Act.put _ (some 26) _ = _
        simp only [Act.put, List.setIfInBounds_toArray, List.set_cons_zero, List.set_cons_succ, i64_w, i32_w]
        rfl
      refine one_ (i := 3) (N := some 28) (bm 6 15) rfl rfl (by kernel_rfl) (by decide) (fun K hK => ?_)
      refine goes_ Tryz.func145 (by kernel_rfl) rfl #[.agg #[.int .i64 a.f0, .int .i64 a.f1, .string a.f2, .slice Aa a.f3.length ca], .int .i64 0] (by rfl) rfl rfl (by (try simp only [List.map_toArray, List.map_cons, List.map_nil]); first | done | rfl) ?_
      refine (HCA.out _).mono ?_
      rintro e w9 ⟨rfl, ew9⟩
      refine ⟨_, rfl, ?_⟩
      have H9 := Lib.hid (HI6.out.below (W' := w9) (by rw [ew9]; exact below_alloc (Below.refl _ _) _))
      clear ew9
      refine hK.out _ _ ⟨core_cells H9.out.ba, core_cells H9.out.bb⟩ (fun hHeld => ?_)
      clear hK K
      refine norm_ (a' := ?_) ?_ ?_
      rotate_left
      · show Act.put _ (some 28) _ = _
        simp only [Act.put, List.setIfInBounds_toArray, List.set_cons_zero, List.set_cons_succ, i64_w, i32_w]
        rfl
      refine pure_ (i := 4) (N := some 6) (v := ?_) (a' := ?_) (bm 6 31) rfl rfl (by kernel_rfl) (fun _ _ _ h => h) (Or.inl ⟨by rfl, ?_⟩) ?_ ?_
      rotate_left
      · intro w'
        go_simp
        with_reducible rfl
      rotate_left
      · simp only [Act.put, List.setIfInBounds_toArray, List.set_cons_zero, List.set_cons_succ, i64_w, i32_w]
        rfl
      refine pure_ (i := 5) (N := some 7) (v := ?_) (a' := ?_) (bm 6 63) rfl rfl (by kernel_rfl) (fun _ _ _ h => h) (Or.inl ⟨by rfl, ?_⟩) ?_ ?_
      rotate_left
      · intro w'
        go_simp
        with_reducible rfl
      rotate_left
      · simp only [Act.put, List.setIfInBounds_toArray, List.set_cons_zero, List.set_cons_succ, i64_w, i32_w]
        rfl
      refine done_ (by kernel_rfl) ?_
      clear hHeld HCA HCB HI5 HI6 HI
      obtain ⟨p0, p1, p2, p3⟩ := core_cells H9.out.d.b0
      obtain ⟨q0, q1, q2, q3⟩ := core_cells H9.out.d.b1
      obtain ⟨r0, r1, r2, r3⟩ := core_cells H9.out.ba
      obtain ⟨s0, s1, s2, s3⟩ := core_cells H9.out.bb
      have i0 := blk_frozen H9.out.d.b1 0; have i1 := blk_frozen H9.out.d.b1 1; have i2 := blk_frozen H9.out.d.b1 2; have i3 := blk_frozen H9.out.d.b1 3
      have hs9 : w.heap.size + 1 < w9.heap.size := blk_lt H9.out.d.b1
      rw [HLen.out] at p3
      cases lf
      · cases rt
        · have hh := H.out
          rw [hw.out] at hh
          simp only [Bool.false_eq_true, if_false, Prod.mk.injEq] at hh
          obtain ⟨rfl, rfl⟩ := hh
          clear H hw
          go_wp2
          refine bodyPost_ret (v := .tuple #[.agg #[.int .i64 x.f0, .int .i64 x.f1, .string x.f2, .slice (some ad) 2 c], .bool false]) (by simp [results, Tryz.f83, go_sem, q0, q1, q2, q3, hs9]) rfl ?_
          have hv := HV.out
          rw [HLen.out] at hv
          exact ⟨_, rfl, Kd.V_mono (V_put4 (Kd.V_step (Kd.V_bound hv) (fun k hk _ => H9.out.d.bel.block k hk.2)) (fun k hk => by have := hk.2; omega) _ _ _ _) (fun k hk => .inl hk.1), below_put4 H9.out.d.bel (by omega) _ _ _ _⟩
        · have hh := H.out
          rw [hw.out] at hh
          simp only [Bool.false_eq_true, if_false, if_true, Prod.mk.injEq] at hh
          obtain ⟨rfl, rfl⟩ := hh
          clear H hw
          go_wp2
          refine bodyPost_ret (v := .tuple #[.agg #[.int .i64 a.f0, .int .i64 a.f1, .string a.f2, .slice Aa a.f3.length ca], .bool true]) (by simp [results, Tryz.f83, go_sem, q0, q1, q2, q3, hs9]) rfl ?_
          exact ⟨_, rfl, Kd.V_mono (V_put4 (Kd.V_step (Kd.V_bound (Kd.V_mk (e := 24) (base := w.heap.size) hla HFa.out)) (fun k hk _ => H9.out.d.bel.block k hk.2)) (fun k hk => by have := hk.2; omega) _ _ _ _) (fun k hk => .inl hk.1), below_put4 H9.out.d.bel (by omega) _ _ _ _⟩
      · cases rt
        · have hh := H.out
          rw [hw.out] at hh
          simp only [if_true, Prod.mk.injEq] at hh
          obtain ⟨rfl, rfl⟩ := hh
          clear H hw
          go_wp2
          refine bodyPost_ret (v := .tuple #[.agg #[.int .i64 b.f0, .int .i64 b.f1, .string b.f2, .slice Ab b.f3.length cb], .bool true]) (by simp [results, Tryz.f83, go_sem, q0, q1, q2, q3, hs9]) rfl ?_
          exact ⟨_, rfl, Kd.V_mono (V_put4 (Kd.V_step (Kd.V_bound (Kd.V_mk (e := 24) (base := w.heap.size) hlb HFb.out)) (fun k hk _ => H9.out.d.bel.block k hk.2)) (fun k hk => by have := hk.2; omega) _ _ _ _) (fun k hk => .inl hk.1), below_put4 H9.out.d.bel (by omega) _ _ _ _⟩
        · have hh := H.out
          rw [hw.out] at hh
          simp only [if_true, Prod.mk.injEq] at hh
          obtain ⟨rfl, rfl⟩ := hh
          clear H hw
          go_wp2
          refine bodyPost_ret (v := .tuple #[.agg #[.int .i64 b.f0, .int .i64 b.f1, .string b.f2, .slice Ab b.f3.length cb], .bool true]) (by simp [results, Tryz.f83, go_sem, q0, q1, q2, q3, hs9]) rfl ?_
          exact ⟨_, rfl, Kd.V_mono (V_put4 (Kd.V_step (Kd.V_bound (Kd.V_mk (e := 24) (base := w.heap.size) hlb HFb.out)) (fun k hk _ => H9.out.d.bel.block k hk.2)) (fun k hk => by have := hk.2; omega) _ _ _ _) (fun k hk => .inl hk.1), below_put4 H9.out.d.bel (by omega) _ _ _ _⟩
    have ne7 := hop
    clear hop
    by_cases hop : x.f0 = 8
    · have t7 : (x.f0 == 7) = false := beq_eq_false_iff_ne.2 (by omega)
      have t8 : (x.f0 == 8) = true := beq_iff_eq.2 hop
      obtain ⟨rt, e1⟩ : ∃ rt, (b.f0 == 1 && b.f1 == 0) = rt := ⟨_, rfl⟩
      have hcb : ∀ W, Calls Tryz.prog 145 #[.agg #[.int .i64 b.f0, .int .i64 b.f1, .string b.f2, .slice Ab b.f3.length cb], .int .i64 0] W fun e w' => e = .returned (.bool rt) ∧ w' = W.alloc (.cells #[.int .i64 b.f0, .int .i64 b.f1, .string b.f2, .slice Ab b.f3.length cb] 24) := fun W => by rw [← e1]; exact isNum_is _ _ _ _ _ _ _ W
      have hw : Hid (idleWhich x.f0 a b = (rt, false)) := Lib.hid (by rw [hop, ← e1]; rfl)
      have HCB := Lib.hid hcb
      clear hcb e1 hop
      go_wp2_with fail
      refine (HCB.out _).mono ?_
      rintro e w9 ⟨rfl, ew9⟩
      have H9 := Lib.hid (HI.out.below (W' := w9) (by rw [ew9]; exact below_alloc (Below.refl _ _) _))
      clear ew9 t7 t8 p0 p1 p2 r0 r1 r2 r3 s0 s1 s2 s3
      obtain ⟨p0, p1, p2, p3⟩ := core_cells H9.out.d.b0
      obtain ⟨q0, q1, q2, q3⟩ := core_cells H9.out.d.b1
      obtain ⟨r0, r1, r2, r3⟩ := core_cells H9.out.ba
      obtain ⟨s0, s1, s2, s3⟩ := core_cells H9.out.bb
      have i0 := blk_frozen H9.out.d.b1 0; have i1 := blk_frozen H9.out.d.b1 1; have i2 := blk_frozen H9.out.d.b1 2; have i3 := blk_frozen H9.out.d.b1 3
      have hs9 : w.heap.size + 1 < w9.heap.size := blk_lt H9.out.d.b1
      rw [HLen.out] at p3
      cases rt
      · have hh := H.out
        rw [hw.out] at hh
        simp only [Bool.false_eq_true, if_false, Prod.mk.injEq] at hh
        obtain ⟨rfl, rfl⟩ := hh
        clear H hw
        go_wp2
        refine bodyPost_ret (v := .tuple #[.agg #[.int .i64 x.f0, .int .i64 x.f1, .string x.f2, .slice (some ad) 2 c], .bool false]) (by simp [results, Tryz.f83, go_sem, q0, q1, q2, q3, hs9]) rfl ?_
        have hv := HV.out
        rw [HLen.out] at hv
        exact ⟨_, rfl, Kd.V_mono (V_put4 (Kd.V_step (Kd.V_bound hv) (fun k hk _ => H9.out.d.bel.block k hk.2)) (fun k hk => by have := hk.2; omega) _ _ _ _) (fun k hk => .inl hk.1), below_put4 H9.out.d.bel (by omega) _ _ _ _⟩
      · have hh := H.out
        rw [hw.out] at hh
        simp only [Bool.false_eq_true, if_false, if_true, Prod.mk.injEq] at hh
        obtain ⟨rfl, rfl⟩ := hh
        clear H hw
        go_wp2
        refine bodyPost_ret (v := .tuple #[.agg #[.int .i64 a.f0, .int .i64 a.f1, .string a.f2, .slice Aa a.f3.length ca], .bool true]) (by simp [results, Tryz.f83, go_sem, q0, q1, q2, q3, hs9]) rfl ?_
        exact ⟨_, rfl, Kd.V_mono (V_put4 (Kd.V_step (Kd.V_bound (Kd.V_mk (e := 24) (base := w.heap.size) hla HFa.out)) (fun k hk _ => H9.out.d.bel.block k hk.2)) (fun k hk => by have := hk.2; omega) _ _ _ _) (fun k hk => .inl hk.1), below_put4 H9.out.d.bel (by omega) _ _ _ _⟩
    have ne8 := hop
    clear hop
    by_cases hop : x.f0 = 9
    · have t7 : (x.f0 == 7) = false := beq_eq_false_iff_ne.2 (by omega)
      have t8 : (x.f0 == 8) = false := beq_eq_false_iff_ne.2 (by omega)
      have t9 : (x.f0 == 9) = true := beq_iff_eq.2 hop
      obtain ⟨rt, ert⟩ : ∃ rt, (b.f0 == 1 && b.f1 == 1000000) = rt := ⟨_, rfl⟩
      obtain ⟨lf, elf⟩ : ∃ lf, (a.f0 == 1 && a.f1 == 1000000) = lf := ⟨_, rfl⟩
      have hcb : ∀ W, Calls Tryz.prog 145 #[.agg #[.int .i64 b.f0, .int .i64 b.f1, .string b.f2, .slice Ab b.f3.length cb], .int .i64 1000000] W fun e w' => e = .returned (.bool rt) ∧ w' = W.alloc (.cells #[.int .i64 b.f0, .int .i64 b.f1, .string b.f2, .slice Ab b.f3.length cb] 24) := fun W => by rw [← ert]; exact isNum_is _ _ _ _ _ _ _ W
      have hca : ∀ W, Calls Tryz.prog 145 #[.agg #[.int .i64 a.f0, .int .i64 a.f1, .string a.f2, .slice Aa a.f3.length ca], .int .i64 1000000] W fun e w' => e = .returned (.bool lf) ∧ w' = W.alloc (.cells #[.int .i64 a.f0, .int .i64 a.f1, .string a.f2, .slice Aa a.f3.length ca] 24) := fun W => by rw [← elf]; exact isNum_is _ _ _ _ _ _ _ W
      have hw : Hid (idleWhich x.f0 a b = (rt, lf)) := Lib.hid (by rw [hop, ← ert, ← elf]; rfl)
      have HCA := Lib.hid hca; have HCB := Lib.hid hcb
      clear hca hcb ert elf hop
      go_wp2
      clear t7 t8 t9 p0 p1 p2 r0 r1 r2 r3 s0 s1 s2 s3
      have HI5 := Lib.hid (HI.out.below (below_drew (Below.refl _ _)))
      refine start_ (n := 6) (S := fun w' => (w'.cell? ⟨Ba, 0, none⟩ = some (.int .i64 a.f0) ∧ w'.cell? ⟨Ba, 1, none⟩ = some (.int .i64 a.f1) ∧ w'.cell? ⟨Ba, 2, none⟩ = some (.string a.f2) ∧ w'.cell? ⟨Ba, 3, none⟩ = some (.slice Aa a.f3.length ca)) ∧ (w'.cell? ⟨Bb, 0, none⟩ = some (.int .i64 b.f0) ∧ w'.cell? ⟨Bb, 1, none⟩ = some (.int .i64 b.f1) ∧ w'.cell? ⟨Bb, 2, none⟩ = some (.string b.f2) ∧ w'.cell? ⟨Bb, 3, none⟩ = some (.slice Ab b.f3.length cb))) (ds := []) (bm 6 0) (by kernel_rfl) rfl (by kernel_rfl) ⟨core_cells HI5.out.ba, core_cells HI5.out.bb⟩ (fun hHeld => ?_)
      generalize w4.drew = w5 at HI5 hHeld ⊢
      refine take_ (i := 0) (N := some 35) (v := ?_) (a' := ?_) (bm 6 1) rfl rfl (by kernel_rfl) (fun _ _ _ h => h) (Or.inl ⟨by rfl, ?_⟩) hHeld ?_ ?_
      rotate_left
      · rintro w' ⟨⟨s0, s1, s2, s3⟩, ⟨s4, s5, s6, s7⟩⟩
        go_simp
        with_reducible rfl
      rotate_left
      · simp only [Act.put, List.setIfInBounds_toArray, List.set_cons_zero, List.set_cons_succ, i64_w, i32_w]
        rfl
      refine take_ (i := 2) (N := some 37) (v := ?_) (a' := ?_) (bm 6 5) rfl rfl (by kernel_rfl) (fun _ _ _ h => h) (Or.inl ⟨by rfl, ?_⟩) hHeld ?_ ?_
      rotate_left
      · rintro w' ⟨⟨s0, s1, s2, s3⟩, ⟨s4, s5, s6, s7⟩⟩
        go_simp
        with_reducible rfl
      rotate_left
      · simp only [Act.put, List.setIfInBounds_toArray, List.set_cons_zero, List.set_cons_succ, i64_w, i32_w]
        rfl
      refine one_ (i := 1) (N := some 36) (bm 6 7) rfl rfl (by kernel_rfl) (by decide) (fun K hK => ?_)
      refine goes_ Tryz.func145 (by kernel_rfl) rfl #[.agg #[.int .i64 b.f0, .int .i64 b.f1, .string b.f2, .slice Ab b.f3.length cb], .int .i64 1000000] (by rfl) rfl rfl (by (try simp only [List.map_toArray, List.map_cons, List.map_nil]); first | done | rfl) ?_
      refine (HCB.out _).mono ?_
      rintro e w6 ⟨rfl, ew6⟩
      refine ⟨_, rfl, ?_⟩
      have HI6 := Lib.hid (HI5.out.below (W' := w6) (by rw [ew6]; exact below_alloc (Below.refl _ _) _))
      clear ew6
      refine hK.out _ _ ⟨core_cells HI6.out.ba, core_cells HI6.out.bb⟩ (fun hHeld => ?_)
      clear hK K
      refine norm_ (a' := ?_) ?_ ?_
      rotate_left
      · show Act.put _ (some 36) _ = _
        simp only [Act.put, List.setIfInBounds_toArray, List.set_cons_zero, List.set_cons_succ, i64_w, i32_w]
        rfl
      refine one_ (i := 3) (N := some 38) (bm 6 15) rfl rfl (by kernel_rfl) (by decide) (fun K hK => ?_)
      refine goes_ Tryz.func145 (by kernel_rfl) rfl #[.agg #[.int .i64 a.f0, .int .i64 a.f1, .string a.f2, .slice Aa a.f3.length ca], .int .i64 1000000] (by rfl) rfl rfl (by (try simp only [List.map_toArray, List.map_cons, List.map_nil]); first | done | rfl) ?_
      refine (HCA.out _).mono ?_
      rintro e w9 ⟨rfl, ew9⟩
      refine ⟨_, rfl, ?_⟩
      have H9 := Lib.hid (HI6.out.below (W' := w9) (by rw [ew9]; exact below_alloc (Below.refl _ _) _))
      clear ew9
      refine hK.out _ _ ⟨core_cells H9.out.ba, core_cells H9.out.bb⟩ (fun hHeld => ?_)
      clear hK K
      refine norm_ (a' := ?_) ?_ ?_
      rotate_left
      · show Act.put _ (some 38) _ = _
        simp only [Act.put, List.setIfInBounds_toArray, List.set_cons_zero, List.set_cons_succ, i64_w, i32_w]
        rfl
      refine pure_ (i := 4) (N := some 6) (v := ?_) (a' := ?_) (bm 6 31) rfl rfl (by kernel_rfl) (fun _ _ _ h => h) (Or.inl ⟨by rfl, ?_⟩) ?_ ?_
      rotate_left
      · intro w'
        go_simp
        with_reducible rfl
      rotate_left
      · simp only [Act.put, List.setIfInBounds_toArray, List.set_cons_zero, List.set_cons_succ, i64_w, i32_w]
        rfl
      refine pure_ (i := 5) (N := some 7) (v := ?_) (a' := ?_) (bm 6 63) rfl rfl (by kernel_rfl) (fun _ _ _ h => h) (Or.inl ⟨by rfl, ?_⟩) ?_ ?_
      rotate_left
      · intro w'
        go_simp
        with_reducible rfl
      rotate_left
      · simp only [Act.put, List.setIfInBounds_toArray, List.set_cons_zero, List.set_cons_succ, i64_w, i32_w]
        rfl
      refine done_ (by kernel_rfl) ?_
      clear hHeld HCA HCB HI5 HI6 HI
      obtain ⟨p0, p1, p2, p3⟩ := core_cells H9.out.d.b0
      obtain ⟨q0, q1, q2, q3⟩ := core_cells H9.out.d.b1
      obtain ⟨r0, r1, r2, r3⟩ := core_cells H9.out.ba
      obtain ⟨s0, s1, s2, s3⟩ := core_cells H9.out.bb
      have i0 := blk_frozen H9.out.d.b1 0; have i1 := blk_frozen H9.out.d.b1 1; have i2 := blk_frozen H9.out.d.b1 2; have i3 := blk_frozen H9.out.d.b1 3
      have hs9 : w.heap.size + 1 < w9.heap.size := blk_lt H9.out.d.b1
      rw [HLen.out] at p3
      cases lf
      · cases rt
        · have hh := H.out
          rw [hw.out] at hh
          simp only [Bool.false_eq_true, if_false, Prod.mk.injEq] at hh
          obtain ⟨rfl, rfl⟩ := hh
          clear H hw
          go_wp2
          refine bodyPost_ret (v := .tuple #[.agg #[.int .i64 x.f0, .int .i64 x.f1, .string x.f2, .slice (some ad) 2 c], .bool false]) (by simp [results, Tryz.f83, go_sem, q0, q1, q2, q3, hs9]) rfl ?_
          have hv := HV.out
          rw [HLen.out] at hv
          exact ⟨_, rfl, Kd.V_mono (V_put4 (Kd.V_step (Kd.V_bound hv) (fun k hk _ => H9.out.d.bel.block k hk.2)) (fun k hk => by have := hk.2; omega) _ _ _ _) (fun k hk => .inl hk.1), below_put4 H9.out.d.bel (by omega) _ _ _ _⟩
        · have hh := H.out
          rw [hw.out] at hh
          simp only [Bool.false_eq_true, if_false, if_true, Prod.mk.injEq] at hh
          obtain ⟨rfl, rfl⟩ := hh
          clear H hw
          go_wp2
          refine bodyPost_ret (v := .tuple #[.agg #[.int .i64 a.f0, .int .i64 a.f1, .string a.f2, .slice Aa a.f3.length ca], .bool true]) (by simp [results, Tryz.f83, go_sem, q0, q1, q2, q3, hs9]) rfl ?_
          exact ⟨_, rfl, Kd.V_mono (V_put4 (Kd.V_step (Kd.V_bound (Kd.V_mk (e := 24) (base := w.heap.size) hla HFa.out)) (fun k hk _ => H9.out.d.bel.block k hk.2)) (fun k hk => by have := hk.2; omega) _ _ _ _) (fun k hk => .inl hk.1), below_put4 H9.out.d.bel (by omega) _ _ _ _⟩
      · cases rt
        · have hh := H.out
          rw [hw.out] at hh
          simp only [if_true, Prod.mk.injEq] at hh
          obtain ⟨rfl, rfl⟩ := hh
          clear H hw
          go_wp2
          refine bodyPost_ret (v := .tuple #[.agg #[.int .i64 b.f0, .int .i64 b.f1, .string b.f2, .slice Ab b.f3.length cb], .bool true]) (by simp [results, Tryz.f83, go_sem, q0, q1, q2, q3, hs9]) rfl ?_
          exact ⟨_, rfl, Kd.V_mono (V_put4 (Kd.V_step (Kd.V_bound (Kd.V_mk (e := 24) (base := w.heap.size) hlb HFb.out)) (fun k hk _ => H9.out.d.bel.block k hk.2)) (fun k hk => by have := hk.2; omega) _ _ _ _) (fun k hk => .inl hk.1), below_put4 H9.out.d.bel (by omega) _ _ _ _⟩
        · have hh := H.out
          rw [hw.out] at hh
          simp only [if_true, Prod.mk.injEq] at hh
          obtain ⟨rfl, rfl⟩ := hh
          clear H hw
          go_wp2
          refine bodyPost_ret (v := .tuple #[.agg #[.int .i64 b.f0, .int .i64 b.f1, .string b.f2, .slice Ab b.f3.length cb], .bool true]) (by simp [results, Tryz.f83, go_sem, q0, q1, q2, q3, hs9]) rfl ?_
          exact ⟨_, rfl, Kd.V_mono (V_put4 (Kd.V_step (Kd.V_bound (Kd.V_mk (e := 24) (base := w.heap.size) hlb HFb.out)) (fun k hk _ => H9.out.d.bel.block k hk.2)) (fun k hk => by have := hk.2; omega) _ _ _ _) (fun k hk => .inl hk.1), below_put4 H9.out.d.bel (by omega) _ _ _ _⟩
    have ne9 := hop
    clear hop
    by_cases hop : x.f0 = 10
    · have t7 : (x.f0 == 7) = false := beq_eq_false_iff_ne.2 (by omega)
      have t8 : (x.f0 == 8) = false := beq_eq_false_iff_ne.2 (by omega)
      have t9 : (x.f0 == 9) = false := beq_eq_false_iff_ne.2 (by omega)
      have t10 : (x.f0 == 10) = true := beq_iff_eq.2 hop
      obtain ⟨rt, e1⟩ : ∃ rt, (b.f0 == 1 && b.f1 == 1000000) = rt := ⟨_, rfl⟩
      have hcb : ∀ W, Calls Tryz.prog 145 #[.agg #[.int .i64 b.f0, .int .i64 b.f1, .string b.f2, .slice Ab b.f3.length cb], .int .i64 1000000] W fun e w' => e = .returned (.bool rt) ∧ w' = W.alloc (.cells #[.int .i64 b.f0, .int .i64 b.f1, .string b.f2, .slice Ab b.f3.length cb] 24) := fun W => by rw [← e1]; exact isNum_is _ _ _ _ _ _ _ W
      have hw : Hid (idleWhich x.f0 a b = (rt, false)) := Lib.hid (by rw [hop, ← e1]; rfl)
      have HCB := Lib.hid hcb
      clear hcb e1 hop
      go_wp2_with fail
      refine (HCB.out _).mono ?_
      rintro e w9 ⟨rfl, ew9⟩
      have H9 := Lib.hid (HI.out.below (W' := w9) (by rw [ew9]; exact below_alloc (Below.refl _ _) _))
      clear ew9 t7 t8 t9 t10 p0 p1 p2 r0 r1 r2 r3 s0 s1 s2 s3
      obtain ⟨p0, p1, p2, p3⟩ := core_cells H9.out.d.b0
      obtain ⟨q0, q1, q2, q3⟩ := core_cells H9.out.d.b1
      obtain ⟨r0, r1, r2, r3⟩ := core_cells H9.out.ba
      obtain ⟨s0, s1, s2, s3⟩ := core_cells H9.out.bb
      have i0 := blk_frozen H9.out.d.b1 0; have i1 := blk_frozen H9.out.d.b1 1; have i2 := blk_frozen H9.out.d.b1 2; have i3 := blk_frozen H9.out.d.b1 3
      have hs9 : w.heap.size + 1 < w9.heap.size := blk_lt H9.out.d.b1
      rw [HLen.out] at p3
      cases rt
      · have hh := H.out
        rw [hw.out] at hh
        simp only [Bool.false_eq_true, if_false, Prod.mk.injEq] at hh
        obtain ⟨rfl, rfl⟩ := hh
        clear H hw
        go_wp2
        refine bodyPost_ret (v := .tuple #[.agg #[.int .i64 x.f0, .int .i64 x.f1, .string x.f2, .slice (some ad) 2 c], .bool false]) (by simp [results, Tryz.f83, go_sem, q0, q1, q2, q3, hs9]) rfl ?_
        have hv := HV.out
        rw [HLen.out] at hv
        exact ⟨_, rfl, Kd.V_mono (V_put4 (Kd.V_step (Kd.V_bound hv) (fun k hk _ => H9.out.d.bel.block k hk.2)) (fun k hk => by have := hk.2; omega) _ _ _ _) (fun k hk => .inl hk.1), below_put4 H9.out.d.bel (by omega) _ _ _ _⟩
      · have hh := H.out
        rw [hw.out] at hh
        simp only [Bool.false_eq_true, if_false, if_true, Prod.mk.injEq] at hh
        obtain ⟨rfl, rfl⟩ := hh
        clear H hw
        go_wp2
        refine bodyPost_ret (v := .tuple #[.agg #[.int .i64 a.f0, .int .i64 a.f1, .string a.f2, .slice Aa a.f3.length ca], .bool true]) (by simp [results, Tryz.f83, go_sem, q0, q1, q2, q3, hs9]) rfl ?_
        exact ⟨_, rfl, Kd.V_mono (V_put4 (Kd.V_step (Kd.V_bound (Kd.V_mk (e := 24) (base := w.heap.size) hla HFa.out)) (fun k hk _ => H9.out.d.bel.block k hk.2)) (fun k hk => by have := hk.2; omega) _ _ _ _) (fun k hk => .inl hk.1), below_put4 H9.out.d.bel (by omega) _ _ _ _⟩
    have ne10 := hop
    clear hop
    by_cases hop : x.f0 = 15
    · have t7 : (x.f0 == 7) = false := beq_eq_false_iff_ne.2 (by omega)
      have t8 : (x.f0 == 8) = false := beq_eq_false_iff_ne.2 (by omega)
      have t9 : (x.f0 == 9) = false := beq_eq_false_iff_ne.2 (by omega)
      have t10 : (x.f0 == 10) = false := beq_eq_false_iff_ne.2 (by omega)
      have t15 : (x.f0 == 15) = true := beq_iff_eq.2 hop
      obtain ⟨rt, ert⟩ : ∃ rt, (b.f0 == 2 && b.f1 == 1) = rt := ⟨_, rfl⟩
      obtain ⟨lf, elf⟩ : ∃ lf, (a.f0 == 2 && a.f1 == 1) = lf := ⟨_, rfl⟩
      have hcb : ∀ W, Calls Tryz.prog 146 #[.agg #[.int .i64 b.f0, .int .i64 b.f1, .string b.f2, .slice Ab b.f3.length cb], .int .i64 1] W fun e w' => e = .returned (.bool rt) ∧ w' = W.alloc (.cells #[.int .i64 b.f0, .int .i64 b.f1, .string b.f2, .slice Ab b.f3.length cb] 24) := fun W => by rw [← ert]; exact isBool_is _ _ _ _ _ _ _ W
      have hca : ∀ W, Calls Tryz.prog 146 #[.agg #[.int .i64 a.f0, .int .i64 a.f1, .string a.f2, .slice Aa a.f3.length ca], .int .i64 1] W fun e w' => e = .returned (.bool lf) ∧ w' = W.alloc (.cells #[.int .i64 a.f0, .int .i64 a.f1, .string a.f2, .slice Aa a.f3.length ca] 24) := fun W => by rw [← elf]; exact isBool_is _ _ _ _ _ _ _ W
      have hw : Hid (idleWhich x.f0 a b = (rt, lf)) := Lib.hid (by rw [hop, ← ert, ← elf]; rfl)
      have HCA := Lib.hid hca; have HCB := Lib.hid hcb
      clear hca hcb ert elf hop
      go_wp2
      clear t7 t8 t9 t10 t15 p0 p1 p2 r0 r1 r2 r3 s0 s1 s2 s3
      have HI5 := Lib.hid (HI.out.below (below_drew (Below.refl _ _)))
      refine start_ (n := 6) (S := fun w' => (w'.cell? ⟨Ba, 0, none⟩ = some (.int .i64 a.f0) ∧ w'.cell? ⟨Ba, 1, none⟩ = some (.int .i64 a.f1) ∧ w'.cell? ⟨Ba, 2, none⟩ = some (.string a.f2) ∧ w'.cell? ⟨Ba, 3, none⟩ = some (.slice Aa a.f3.length ca)) ∧ (w'.cell? ⟨Bb, 0, none⟩ = some (.int .i64 b.f0) ∧ w'.cell? ⟨Bb, 1, none⟩ = some (.int .i64 b.f1) ∧ w'.cell? ⟨Bb, 2, none⟩ = some (.string b.f2) ∧ w'.cell? ⟨Bb, 3, none⟩ = some (.slice Ab b.f3.length cb))) (ds := []) (bm 6 0) (by kernel_rfl) rfl (by kernel_rfl) ⟨core_cells HI5.out.ba, core_cells HI5.out.bb⟩ (fun hHeld => ?_)
      generalize w4.drew = w5 at HI5 hHeld ⊢
      refine take_ (i := 0) (N := some 45) (v := ?_) (a' := ?_) (bm 6 1) rfl rfl (by kernel_rfl) (fun _ _ _ h => h) (Or.inl ⟨by rfl, ?_⟩) hHeld ?_ ?_
      rotate_left
      · rintro w' ⟨⟨s0, s1, s2, s3⟩, ⟨s4, s5, s6, s7⟩⟩
        go_simp
        with_reducible rfl
      rotate_left
      · simp only [Act.put, List.setIfInBounds_toArray, List.set_cons_zero, List.set_cons_succ, i64_w, i32_w]
        rfl
      refine take_ (i := 2) (N := some 47) (v := ?_) (a' := ?_) (bm 6 5) rfl rfl (by kernel_rfl) (fun _ _ _ h => h) (Or.inl ⟨by rfl, ?_⟩) hHeld ?_ ?_
      rotate_left
      · rintro w' ⟨⟨s0, s1, s2, s3⟩, ⟨s4, s5, s6, s7⟩⟩
        go_simp
        with_reducible rfl
      rotate_left
      · simp only [Act.put, List.setIfInBounds_toArray, List.set_cons_zero, List.set_cons_succ, i64_w, i32_w]
        rfl
      refine one_ (i := 1) (N := some 46) (bm 6 7) rfl rfl (by kernel_rfl) (by decide) (fun K hK => ?_)
      refine goes_ Tryz.func146 (by kernel_rfl) rfl #[.agg #[.int .i64 b.f0, .int .i64 b.f1, .string b.f2, .slice Ab b.f3.length cb], .int .i64 1] (by rfl) rfl rfl (by (try simp only [List.map_toArray, List.map_cons, List.map_nil]); first | done | rfl) ?_
      refine (HCB.out _).mono ?_
      rintro e w6 ⟨rfl, ew6⟩
      refine ⟨_, rfl, ?_⟩
      have HI6 := Lib.hid (HI5.out.below (W' := w6) (by rw [ew6]; exact below_alloc (Below.refl _ _) _))
      clear ew6
      refine hK.out _ _ ⟨core_cells HI6.out.ba, core_cells HI6.out.bb⟩ (fun hHeld => ?_)
      clear hK K
      refine norm_ (a' := ?_) ?_ ?_
      rotate_left
      · show Act.put _ (some 46) _ = _
        simp only [Act.put, List.setIfInBounds_toArray, List.set_cons_zero, List.set_cons_succ, i64_w, i32_w]
        rfl
      refine one_ (i := 3) (N := some 48) (bm 6 15) rfl rfl (by kernel_rfl) (by decide) (fun K hK => ?_)
      refine goes_ Tryz.func146 (by kernel_rfl) rfl #[.agg #[.int .i64 a.f0, .int .i64 a.f1, .string a.f2, .slice Aa a.f3.length ca], .int .i64 1] (by rfl) rfl rfl (by (try simp only [List.map_toArray, List.map_cons, List.map_nil]); first | done | rfl) ?_
      refine (HCA.out _).mono ?_
      rintro e w9 ⟨rfl, ew9⟩
      refine ⟨_, rfl, ?_⟩
      have H9 := Lib.hid (HI6.out.below (W' := w9) (by rw [ew9]; exact below_alloc (Below.refl _ _) _))
      clear ew9
      refine hK.out _ _ ⟨core_cells H9.out.ba, core_cells H9.out.bb⟩ (fun hHeld => ?_)
      clear hK K
      refine norm_ (a' := ?_) ?_ ?_
      rotate_left
      · show Act.put _ (some 48) _ = _
        simp only [Act.put, List.setIfInBounds_toArray, List.set_cons_zero, List.set_cons_succ, i64_w, i32_w]
        rfl
      refine pure_ (i := 4) (N := some 6) (v := ?_) (a' := ?_) (bm 6 31) rfl rfl (by kernel_rfl) (fun _ _ _ h => h) (Or.inl ⟨by rfl, ?_⟩) ?_ ?_
      rotate_left
      · intro w'
        go_simp
        with_reducible rfl
      rotate_left
      · simp only [Act.put, List.setIfInBounds_toArray, List.set_cons_zero, List.set_cons_succ, i64_w, i32_w]
        rfl
      refine pure_ (i := 5) (N := some 7) (v := ?_) (a' := ?_) (bm 6 63) rfl rfl (by kernel_rfl) (fun _ _ _ h => h) (Or.inl ⟨by rfl, ?_⟩) ?_ ?_
      rotate_left
      · intro w'
        go_simp
        with_reducible rfl
      rotate_left
      · simp only [Act.put, List.setIfInBounds_toArray, List.set_cons_zero, List.set_cons_succ, i64_w, i32_w]
        rfl
      refine done_ (by kernel_rfl) ?_
      clear hHeld HCA HCB HI5 HI6 HI
      obtain ⟨p0, p1, p2, p3⟩ := core_cells H9.out.d.b0
      obtain ⟨q0, q1, q2, q3⟩ := core_cells H9.out.d.b1
      obtain ⟨r0, r1, r2, r3⟩ := core_cells H9.out.ba
      obtain ⟨s0, s1, s2, s3⟩ := core_cells H9.out.bb
      have i0 := blk_frozen H9.out.d.b1 0; have i1 := blk_frozen H9.out.d.b1 1; have i2 := blk_frozen H9.out.d.b1 2; have i3 := blk_frozen H9.out.d.b1 3
      have hs9 : w.heap.size + 1 < w9.heap.size := blk_lt H9.out.d.b1
      rw [HLen.out] at p3
      cases lf
      · cases rt
        · have hh := H.out
          rw [hw.out] at hh
          simp only [Bool.false_eq_true, if_false, Prod.mk.injEq] at hh
          obtain ⟨rfl, rfl⟩ := hh
          clear H hw
          go_wp2
          refine bodyPost_ret (v := .tuple #[.agg #[.int .i64 x.f0, .int .i64 x.f1, .string x.f2, .slice (some ad) 2 c], .bool false]) (by simp [results, Tryz.f83, go_sem, q0, q1, q2, q3, hs9]) rfl ?_
          have hv := HV.out
          rw [HLen.out] at hv
          exact ⟨_, rfl, Kd.V_mono (V_put4 (Kd.V_step (Kd.V_bound hv) (fun k hk _ => H9.out.d.bel.block k hk.2)) (fun k hk => by have := hk.2; omega) _ _ _ _) (fun k hk => .inl hk.1), below_put4 H9.out.d.bel (by omega) _ _ _ _⟩
        · have hh := H.out
          rw [hw.out] at hh
          simp only [Bool.false_eq_true, if_false, if_true, Prod.mk.injEq] at hh
          obtain ⟨rfl, rfl⟩ := hh
          clear H hw
          go_wp2
          refine bodyPost_ret (v := .tuple #[.agg #[.int .i64 a.f0, .int .i64 a.f1, .string a.f2, .slice Aa a.f3.length ca], .bool true]) (by simp [results, Tryz.f83, go_sem, q0, q1, q2, q3, hs9]) rfl ?_
          exact ⟨_, rfl, Kd.V_mono (V_put4 (Kd.V_step (Kd.V_bound (Kd.V_mk (e := 24) (base := w.heap.size) hla HFa.out)) (fun k hk _ => H9.out.d.bel.block k hk.2)) (fun k hk => by have := hk.2; omega) _ _ _ _) (fun k hk => .inl hk.1), below_put4 H9.out.d.bel (by omega) _ _ _ _⟩
      · cases rt
        · have hh := H.out
          rw [hw.out] at hh
          simp only [if_true, Prod.mk.injEq] at hh
          obtain ⟨rfl, rfl⟩ := hh
          clear H hw
          go_wp2
          refine bodyPost_ret (v := .tuple #[.agg #[.int .i64 b.f0, .int .i64 b.f1, .string b.f2, .slice Ab b.f3.length cb], .bool true]) (by simp [results, Tryz.f83, go_sem, q0, q1, q2, q3, hs9]) rfl ?_
          exact ⟨_, rfl, Kd.V_mono (V_put4 (Kd.V_step (Kd.V_bound (Kd.V_mk (e := 24) (base := w.heap.size) hlb HFb.out)) (fun k hk _ => H9.out.d.bel.block k hk.2)) (fun k hk => by have := hk.2; omega) _ _ _ _) (fun k hk => .inl hk.1), below_put4 H9.out.d.bel (by omega) _ _ _ _⟩
        · have hh := H.out
          rw [hw.out] at hh
          simp only [if_true, Prod.mk.injEq] at hh
          obtain ⟨rfl, rfl⟩ := hh
          clear H hw
          go_wp2
          refine bodyPost_ret (v := .tuple #[.agg #[.int .i64 b.f0, .int .i64 b.f1, .string b.f2, .slice Ab b.f3.length cb], .bool true]) (by simp [results, Tryz.f83, go_sem, q0, q1, q2, q3, hs9]) rfl ?_
          exact ⟨_, rfl, Kd.V_mono (V_put4 (Kd.V_step (Kd.V_bound (Kd.V_mk (e := 24) (base := w.heap.size) hlb HFb.out)) (fun k hk _ => H9.out.d.bel.block k hk.2)) (fun k hk => by have := hk.2; omega) _ _ _ _) (fun k hk => .inl hk.1), below_put4 H9.out.d.bel (by omega) _ _ _ _⟩
    have ne15 := hop
    clear hop
    by_cases hop : x.f0 = 16
    · have t7 : (x.f0 == 7) = false := beq_eq_false_iff_ne.2 (by omega)
      have t8 : (x.f0 == 8) = false := beq_eq_false_iff_ne.2 (by omega)
      have t9 : (x.f0 == 9) = false := beq_eq_false_iff_ne.2 (by omega)
      have t10 : (x.f0 == 10) = false := beq_eq_false_iff_ne.2 (by omega)
      have t15 : (x.f0 == 15) = false := beq_eq_false_iff_ne.2 (by omega)
      have t16 : (x.f0 == 16) = true := beq_iff_eq.2 hop
      obtain ⟨rt, ert⟩ : ∃ rt, (b.f0 == 2 && b.f1 == 0) = rt := ⟨_, rfl⟩
      obtain ⟨lf, elf⟩ : ∃ lf, (a.f0 == 2 && a.f1 == 0) = lf := ⟨_, rfl⟩
      have hcb : ∀ W, Calls Tryz.prog 146 #[.agg #[.int .i64 b.f0, .int .i64 b.f1, .string b.f2, .slice Ab b.f3.length cb], .int .i64 0] W fun e w' => e = .returned (.bool rt) ∧ w' = W.alloc (.cells #[.int .i64 b.f0, .int .i64 b.f1, .string b.f2, .slice Ab b.f3.length cb] 24) := fun W => by rw [← ert]; exact isBool_is _ _ _ _ _ _ _ W
      have hca : ∀ W, Calls Tryz.prog 146 #[.agg #[.int .i64 a.f0, .int .i64 a.f1, .string a.f2, .slice Aa a.f3.length ca], .int .i64 0] W fun e w' => e = .returned (.bool lf) ∧ w' = W.alloc (.cells #[.int .i64 a.f0, .int .i64 a.f1, .string a.f2, .slice Aa a.f3.length ca] 24) := fun W => by rw [← elf]; exact isBool_is _ _ _ _ _ _ _ W
      have hw : Hid (idleWhich x.f0 a b = (rt, lf)) := Lib.hid (by rw [hop, ← ert, ← elf]; rfl)
      have HCA := Lib.hid hca; have HCB := Lib.hid hcb
      clear hca hcb ert elf hop
      go_wp2
      clear t7 t8 t9 t10 t15 t16 p0 p1 p2 r0 r1 r2 r3 s0 s1 s2 s3
      have HI5 := Lib.hid (HI.out.below (below_drew (Below.refl _ _)))
      refine start_ (n := 6) (S := fun w' => (w'.cell? ⟨Ba, 0, none⟩ = some (.int .i64 a.f0) ∧ w'.cell? ⟨Ba, 1, none⟩ = some (.int .i64 a.f1) ∧ w'.cell? ⟨Ba, 2, none⟩ = some (.string a.f2) ∧ w'.cell? ⟨Ba, 3, none⟩ = some (.slice Aa a.f3.length ca)) ∧ (w'.cell? ⟨Bb, 0, none⟩ = some (.int .i64 b.f0) ∧ w'.cell? ⟨Bb, 1, none⟩ = some (.int .i64 b.f1) ∧ w'.cell? ⟨Bb, 2, none⟩ = some (.string b.f2) ∧ w'.cell? ⟨Bb, 3, none⟩ = some (.slice Ab b.f3.length cb))) (ds := []) (bm 6 0) (by kernel_rfl) rfl (by kernel_rfl) ⟨core_cells HI5.out.ba, core_cells HI5.out.bb⟩ (fun hHeld => ?_)
      generalize w4.drew = w5 at HI5 hHeld ⊢
      refine take_ (i := 0) (N := some 51) (v := ?_) (a' := ?_) (bm 6 1) rfl rfl (by kernel_rfl) (fun _ _ _ h => h) (Or.inl ⟨by rfl, ?_⟩) hHeld ?_ ?_
      rotate_left
      · rintro w' ⟨⟨s0, s1, s2, s3⟩, ⟨s4, s5, s6, s7⟩⟩
        go_simp
        with_reducible rfl
      rotate_left
      · simp only [Act.put, List.setIfInBounds_toArray, List.set_cons_zero, List.set_cons_succ, i64_w, i32_w]
        rfl
      refine take_ (i := 2) (N := some 53) (v := ?_) (a' := ?_) (bm 6 5) rfl rfl (by kernel_rfl) (fun _ _ _ h => h) (Or.inl ⟨by rfl, ?_⟩) hHeld ?_ ?_
      rotate_left
      · rintro w' ⟨⟨s0, s1, s2, s3⟩, ⟨s4, s5, s6, s7⟩⟩
        go_simp
        with_reducible rfl
      rotate_left
      · simp only [Act.put, List.setIfInBounds_toArray, List.set_cons_zero, List.set_cons_succ, i64_w, i32_w]
        rfl
      refine one_ (i := 1) (N := some 52) (bm 6 7) rfl rfl (by kernel_rfl) (by decide) (fun K hK => ?_)
      refine goes_ Tryz.func146 (by kernel_rfl) rfl #[.agg #[.int .i64 b.f0, .int .i64 b.f1, .string b.f2, .slice Ab b.f3.length cb], .int .i64 0] (by rfl) rfl rfl (by (try simp only [List.map_toArray, List.map_cons, List.map_nil]); first | done | rfl) ?_
      refine (HCB.out _).mono ?_
      rintro e w6 ⟨rfl, ew6⟩
      refine ⟨_, rfl, ?_⟩
      have HI6 := Lib.hid (HI5.out.below (W' := w6) (by rw [ew6]; exact below_alloc (Below.refl _ _) _))
      clear ew6
      refine hK.out _ _ ⟨core_cells HI6.out.ba, core_cells HI6.out.bb⟩ (fun hHeld => ?_)
      clear hK K
      refine norm_ (a' := ?_) ?_ ?_
      rotate_left
      · show Act.put _ (some 52) _ = _
        simp only [Act.put, List.setIfInBounds_toArray, List.set_cons_zero, List.set_cons_succ, i64_w, i32_w]
        rfl
      refine one_ (i := 3) (N := some 54) (bm 6 15) rfl rfl (by kernel_rfl) (by decide) (fun K hK => ?_)
      refine goes_ Tryz.func146 (by kernel_rfl) rfl #[.agg #[.int .i64 a.f0, .int .i64 a.f1, .string a.f2, .slice Aa a.f3.length ca], .int .i64 0] (by rfl) rfl rfl (by (try simp only [List.map_toArray, List.map_cons, List.map_nil]); first | done | rfl) ?_
      refine (HCA.out _).mono ?_
      rintro e w9 ⟨rfl, ew9⟩
      refine ⟨_, rfl, ?_⟩
      have H9 := Lib.hid (HI6.out.below (W' := w9) (by rw [ew9]; exact below_alloc (Below.refl _ _) _))
      clear ew9
      refine hK.out _ _ ⟨core_cells H9.out.ba, core_cells H9.out.bb⟩ (fun hHeld => ?_)
      clear hK K
      refine norm_ (a' := ?_) ?_ ?_
      rotate_left
      · show Act.put _ (some 54) _ = _
        simp only [Act.put, List.setIfInBounds_toArray, List.set_cons_zero, List.set_cons_succ, i64_w, i32_w]
        rfl
      refine pure_ (i := 4) (N := some 6) (v := ?_) (a' := ?_) (bm 6 31) rfl rfl (by kernel_rfl) (fun _ _ _ h => h) (Or.inl ⟨by rfl, ?_⟩) ?_ ?_
      rotate_left
      · intro w'
        go_simp
        with_reducible rfl
      rotate_left
      · simp only [Act.put, List.setIfInBounds_toArray, List.set_cons_zero, List.set_cons_succ, i64_w, i32_w]
        rfl
      refine pure_ (i := 5) (N := some 7) (v := ?_) (a' := ?_) (bm 6 63) rfl rfl (by kernel_rfl) (fun _ _ _ h => h) (Or.inl ⟨by rfl, ?_⟩) ?_ ?_
      rotate_left
      · intro w'
        go_simp
        with_reducible rfl
      rotate_left
      · simp only [Act.put, List.setIfInBounds_toArray, List.set_cons_zero, List.set_cons_succ, i64_w, i32_w]
        rfl
      refine done_ (by kernel_rfl) ?_
      clear hHeld HCA HCB HI5 HI6 HI
      obtain ⟨p0, p1, p2, p3⟩ := core_cells H9.out.d.b0
      obtain ⟨q0, q1, q2, q3⟩ := core_cells H9.out.d.b1
      obtain ⟨r0, r1, r2, r3⟩ := core_cells H9.out.ba
      obtain ⟨s0, s1, s2, s3⟩ := core_cells H9.out.bb
      have i0 := blk_frozen H9.out.d.b1 0; have i1 := blk_frozen H9.out.d.b1 1; have i2 := blk_frozen H9.out.d.b1 2; have i3 := blk_frozen H9.out.d.b1 3
      have hs9 : w.heap.size + 1 < w9.heap.size := blk_lt H9.out.d.b1
      rw [HLen.out] at p3
      cases lf
      · cases rt
        · have hh := H.out
          rw [hw.out] at hh
          simp only [Bool.false_eq_true, if_false, Prod.mk.injEq] at hh
          obtain ⟨rfl, rfl⟩ := hh
          clear H hw
          go_wp2
          refine bodyPost_ret (v := .tuple #[.agg #[.int .i64 x.f0, .int .i64 x.f1, .string x.f2, .slice (some ad) 2 c], .bool false]) (by simp [results, Tryz.f83, go_sem, q0, q1, q2, q3, hs9]) rfl ?_
          have hv := HV.out
          rw [HLen.out] at hv
          exact ⟨_, rfl, Kd.V_mono (V_put4 (Kd.V_step (Kd.V_bound hv) (fun k hk _ => H9.out.d.bel.block k hk.2)) (fun k hk => by have := hk.2; omega) _ _ _ _) (fun k hk => .inl hk.1), below_put4 H9.out.d.bel (by omega) _ _ _ _⟩
        · have hh := H.out
          rw [hw.out] at hh
          simp only [Bool.false_eq_true, if_false, if_true, Prod.mk.injEq] at hh
          obtain ⟨rfl, rfl⟩ := hh
          clear H hw
          go_wp2
          refine bodyPost_ret (v := .tuple #[.agg #[.int .i64 a.f0, .int .i64 a.f1, .string a.f2, .slice Aa a.f3.length ca], .bool true]) (by simp [results, Tryz.f83, go_sem, q0, q1, q2, q3, hs9]) rfl ?_
          exact ⟨_, rfl, Kd.V_mono (V_put4 (Kd.V_step (Kd.V_bound (Kd.V_mk (e := 24) (base := w.heap.size) hla HFa.out)) (fun k hk _ => H9.out.d.bel.block k hk.2)) (fun k hk => by have := hk.2; omega) _ _ _ _) (fun k hk => .inl hk.1), below_put4 H9.out.d.bel (by omega) _ _ _ _⟩
      · cases rt
        · have hh := H.out
          rw [hw.out] at hh
          simp only [if_true, Prod.mk.injEq] at hh
          obtain ⟨rfl, rfl⟩ := hh
          clear H hw
          go_wp2
          refine bodyPost_ret (v := .tuple #[.agg #[.int .i64 b.f0, .int .i64 b.f1, .string b.f2, .slice Ab b.f3.length cb], .bool true]) (by simp [results, Tryz.f83, go_sem, q0, q1, q2, q3, hs9]) rfl ?_
          exact ⟨_, rfl, Kd.V_mono (V_put4 (Kd.V_step (Kd.V_bound (Kd.V_mk (e := 24) (base := w.heap.size) hlb HFb.out)) (fun k hk _ => H9.out.d.bel.block k hk.2)) (fun k hk => by have := hk.2; omega) _ _ _ _) (fun k hk => .inl hk.1), below_put4 H9.out.d.bel (by omega) _ _ _ _⟩
        · have hh := H.out
          rw [hw.out] at hh
          simp only [if_true, Prod.mk.injEq] at hh
          obtain ⟨rfl, rfl⟩ := hh
          clear H hw
          go_wp2
          refine bodyPost_ret (v := .tuple #[.agg #[.int .i64 b.f0, .int .i64 b.f1, .string b.f2, .slice Ab b.f3.length cb], .bool true]) (by simp [results, Tryz.f83, go_sem, q0, q1, q2, q3, hs9]) rfl ?_
          exact ⟨_, rfl, Kd.V_mono (V_put4 (Kd.V_step (Kd.V_bound (Kd.V_mk (e := 24) (base := w.heap.size) hlb HFb.out)) (fun k hk _ => H9.out.d.bel.block k hk.2)) (fun k hk => by have := hk.2; omega) _ _ _ _) (fun k hk => .inl hk.1), below_put4 H9.out.d.bel (by omega) _ _ _ _⟩
    have ne16 := hop
    clear hop
    by_cases hop : x.f0 = 27
    · have t7 : (x.f0 == 7) = false := beq_eq_false_iff_ne.2 (by omega)
      have t8 : (x.f0 == 8) = false := beq_eq_false_iff_ne.2 (by omega)
      have t9 : (x.f0 == 9) = false := beq_eq_false_iff_ne.2 (by omega)
      have t10 : (x.f0 == 10) = false := beq_eq_false_iff_ne.2 (by omega)
      have t15 : (x.f0 == 15) = false := beq_eq_false_iff_ne.2 (by omega)
      have t16 : (x.f0 == 16) = false := beq_eq_false_iff_ne.2 (by omega)
      have t27 : (x.f0 == 27) = true := beq_iff_eq.2 hop
      obtain ⟨rt, ert⟩ : ∃ rt, (b.f0 == 23) = rt := ⟨_, rfl⟩
      obtain ⟨lf, elf⟩ : ∃ lf, (a.f0 == 23) = lf := ⟨_, rfl⟩
      have hw : Hid (idleWhich x.f0 a b = (rt, lf)) := Lib.hid (by rw [hop, ← ert, ← elf]; rfl)
      clear hop
      go_wp2
      clear t7 t8 t9 t10 t15 t16 t27 p0 p1 p2 r0 r1 r2 r3 s0 s1 s2 s3
      have HI5 := Lib.hid (HI.out.below (below_drew (Below.refl _ _)))
      refine start_ (n := 8) (S := fun w' => w'.cell? ⟨Ba, 0, none⟩ = some (.int .i64 a.f0) ∧ w'.cell? ⟨Bb, 0, none⟩ = some (.int .i64 b.f0)) (ds := []) (bm 8 0) (by kernel_rfl) rfl (by kernel_rfl) ⟨(core_cells HI5.out.ba).1, (core_cells HI5.out.bb).1⟩ (fun hHeld => ?_)
      generalize w4.drew = w9 at HI5 hHeld ⊢
      have H9 := HI5
      refine pure_ (i := 0) (N := some 57) (v := ?_) (a' := ?_) (bm 8 1) rfl rfl (by kernel_rfl) (fun _ _ _ h => h) (Or.inl ⟨by rfl, ?_⟩) ?_ ?_
      rotate_left
      · intro w'
        go_simp
        with_reducible rfl
      rotate_left
      · simp only [Act.put, List.setIfInBounds_toArray, List.set_cons_zero, List.set_cons_succ, i64_w, i32_w]
        rfl
      refine take_ (i := 1) (N := some 58) (v := ?_) (a' := ?_) (bm 8 3) rfl rfl (by kernel_rfl) (fun _ _ _ h => h) (Or.inl ⟨by rfl, ?_⟩) hHeld ?_ ?_
      rotate_left
      · rintro w' ⟨s0, s1⟩
        go_simp
        with_reducible rfl
      rotate_left
      · simp only [Act.put, List.setIfInBounds_toArray, List.set_cons_zero, List.set_cons_succ, i64_w, i32_w]
        rfl
      refine pure_ (i := 2) (N := some 59) (v := ?_) (a' := ?_) (bm 8 7) rfl rfl (by kernel_rfl) (fun _ _ _ h => h) (Or.inl ⟨by rfl, ?_⟩) ?_ ?_
      rotate_left
      · intro w'
        go_simp
        with_reducible rfl
      rotate_left
      · simp only [Act.put, List.setIfInBounds_toArray, List.set_cons_zero, List.set_cons_succ, i64_w, i32_w]
        rfl
      refine pure_ (i := 3) (N := some 60) (v := ?_) (a' := ?_) (bm 8 15) rfl rfl (by kernel_rfl) (fun _ _ _ h => h) (Or.inl ⟨by rfl, ?_⟩) ?_ ?_
      rotate_left
      · intro w'
        go_simp
        with_reducible rfl
      rotate_left
      · simp only [Act.put, List.setIfInBounds_toArray, List.set_cons_zero, List.set_cons_succ, i64_w, i32_w]
        rfl
      refine take_ (i := 4) (N := some 61) (v := ?_) (a' := ?_) (bm 8 31) rfl rfl (by kernel_rfl) (fun _ _ _ h => h) (Or.inl ⟨by rfl, ?_⟩) hHeld ?_ ?_
      rotate_left
      · rintro w' ⟨s0, s1⟩
        go_simp
        with_reducible rfl
      rotate_left
      · simp only [Act.put, List.setIfInBounds_toArray, List.set_cons_zero, List.set_cons_succ, i64_w, i32_w]
        rfl
      refine pure_ (i := 5) (N := some 62) (v := ?_) (a' := ?_) (bm 8 63) rfl rfl (by kernel_rfl) (fun _ _ _ h => h) (Or.inl ⟨by rfl, ?_⟩) ?_ ?_
      rotate_left
      · intro w'
        go_simp
        with_reducible rfl
      rotate_left
      · simp only [Act.put, List.setIfInBounds_toArray, List.set_cons_zero, List.set_cons_succ, i64_w, i32_w]
        rfl
      refine pure_ (i := 6) (N := some 6) (v := ?_) (a' := ?_) (bm 8 127) rfl rfl (by kernel_rfl) (fun _ _ _ h => h) (Or.inl ⟨by rfl, ?_⟩) ?_ ?_
      rotate_left
      · intro w'
        go_simp
        with_reducible rfl
      rotate_left
      · simp only [Act.put, List.setIfInBounds_toArray, List.set_cons_zero, List.set_cons_succ, i64_w, i32_w]
        rfl
      refine pure_ (i := 7) (N := some 7) (v := ?_) (a' := ?_) (bm 8 255) rfl rfl (by kernel_rfl) (fun _ _ _ h => h) (Or.inl ⟨by rfl, ?_⟩) ?_ ?_
      rotate_left
      · intro w'
        go_simp
        with_reducible rfl
      rotate_left
      · simp only [Act.put, List.setIfInBounds_toArray, List.set_cons_zero, List.set_cons_succ, i64_w, i32_w]
        rfl
      refine done_ (by kernel_rfl) ?_
      clear hHeld HI5 HI ert elf
      obtain ⟨p0, p1, p2, p3⟩ := core_cells H9.out.d.b0
      obtain ⟨q0, q1, q2, q3⟩ := core_cells H9.out.d.b1
      obtain ⟨r0, r1, r2, r3⟩ := core_cells H9.out.ba
      obtain ⟨s0, s1, s2, s3⟩ := core_cells H9.out.bb
      have i0 := blk_frozen H9.out.d.b1 0; have i1 := blk_frozen H9.out.d.b1 1; have i2 := blk_frozen H9.out.d.b1 2; have i3 := blk_frozen H9.out.d.b1 3
      have hs9 : w.heap.size + 1 < w9.heap.size := blk_lt H9.out.d.b1
      rw [HLen.out] at p3
      cases lf
      · cases rt
        · have hh := H.out
          rw [hw.out] at hh
          simp only [Bool.false_eq_true, if_false, Prod.mk.injEq] at hh
          obtain ⟨rfl, rfl⟩ := hh
          clear H hw
          go_wp2
          refine bodyPost_ret (v := .tuple #[.agg #[.int .i64 x.f0, .int .i64 x.f1, .string x.f2, .slice (some ad) 2 c], .bool false]) (by simp [results, Tryz.f83, go_sem, q0, q1, q2, q3, hs9]) rfl ?_
          have hv := HV.out
          rw [HLen.out] at hv
          exact ⟨_, rfl, Kd.V_mono (V_put4 (Kd.V_step (Kd.V_bound hv) (fun k hk _ => H9.out.d.bel.block k hk.2)) (fun k hk => by have := hk.2; omega) _ _ _ _) (fun k hk => .inl hk.1), below_put4 H9.out.d.bel (by omega) _ _ _ _⟩
        · have hh := H.out
          rw [hw.out] at hh
          simp only [Bool.false_eq_true, if_false, if_true, Prod.mk.injEq] at hh
          obtain ⟨rfl, rfl⟩ := hh
          clear H hw
          go_wp2
          refine bodyPost_ret (v := .tuple #[.agg #[.int .i64 a.f0, .int .i64 a.f1, .string a.f2, .slice Aa a.f3.length ca], .bool true]) (by simp [results, Tryz.f83, go_sem, q0, q1, q2, q3, hs9]) rfl ?_
          exact ⟨_, rfl, Kd.V_mono (V_put4 (Kd.V_step (Kd.V_bound (Kd.V_mk (e := 24) (base := w.heap.size) hla HFa.out)) (fun k hk _ => H9.out.d.bel.block k hk.2)) (fun k hk => by have := hk.2; omega) _ _ _ _) (fun k hk => .inl hk.1), below_put4 H9.out.d.bel (by omega) _ _ _ _⟩
      · cases rt
        · have hh := H.out
          rw [hw.out] at hh
          simp only [if_true, Prod.mk.injEq] at hh
          obtain ⟨rfl, rfl⟩ := hh
          clear H hw
          go_wp2
          refine bodyPost_ret (v := .tuple #[.agg #[.int .i64 b.f0, .int .i64 b.f1, .string b.f2, .slice Ab b.f3.length cb], .bool true]) (by simp [results, Tryz.f83, go_sem, q0, q1, q2, q3, hs9]) rfl ?_
          exact ⟨_, rfl, Kd.V_mono (V_put4 (Kd.V_step (Kd.V_bound (Kd.V_mk (e := 24) (base := w.heap.size) hlb HFb.out)) (fun k hk _ => H9.out.d.bel.block k hk.2)) (fun k hk => by have := hk.2; omega) _ _ _ _) (fun k hk => .inl hk.1), below_put4 H9.out.d.bel (by omega) _ _ _ _⟩
        · have hh := H.out
          rw [hw.out] at hh
          simp only [if_true, Prod.mk.injEq] at hh
          obtain ⟨rfl, rfl⟩ := hh
          clear H hw
          go_wp2
          refine bodyPost_ret (v := .tuple #[.agg #[.int .i64 b.f0, .int .i64 b.f1, .string b.f2, .slice Ab b.f3.length cb], .bool true]) (by simp [results, Tryz.f83, go_sem, q0, q1, q2, q3, hs9]) rfl ?_
          exact ⟨_, rfl, Kd.V_mono (V_put4 (Kd.V_step (Kd.V_bound (Kd.V_mk (e := 24) (base := w.heap.size) hlb HFb.out)) (fun k hk _ => H9.out.d.bel.block k hk.2)) (fun k hk => by have := hk.2; omega) _ _ _ _) (fun k hk => .inl hk.1), below_put4 H9.out.d.bel (by omega) _ _ _ _⟩
    have ne27 := hop
    clear hop
    by_cases hop : x.f0 = 26
    · have t7 : (x.f0 == 7) = false := beq_eq_false_iff_ne.2 (by omega)
      have t8 : (x.f0 == 8) = false := beq_eq_false_iff_ne.2 (by omega)
      have t9 : (x.f0 == 9) = false := beq_eq_false_iff_ne.2 (by omega)
      have t10 : (x.f0 == 10) = false := beq_eq_false_iff_ne.2 (by omega)
      have t15 : (x.f0 == 15) = false := beq_eq_false_iff_ne.2 (by omega)
      have t16 : (x.f0 == 16) = false := beq_eq_false_iff_ne.2 (by omega)
      have t27 : (x.f0 == 27) = false := beq_eq_false_iff_ne.2 (by omega)
      have t26 : (x.f0 == 26) = true := beq_iff_eq.2 hop
      obtain ⟨lf, elf⟩ : ∃ lf, isNumT a 1000000 = lf := ⟨_, rfl⟩
      have hca : ∀ W, Calls Tryz.prog 145 #[.agg #[.int .i64 a.f0, .int .i64 a.f1, .string a.f2, .slice Aa a.f3.length ca], .int .i64 1000000] W fun e w' => e = .returned (.bool lf) ∧ w' = W.alloc (.cells #[.int .i64 a.f0, .int .i64 a.f1, .string a.f2, .slice Aa a.f3.length ca] 24) := fun W => by rw [← elf]; exact isNum_is _ _ _ _ _ _ _ W
      have HCB := Lib.hid hca
      clear hca
      cases lf
      · by_cases g1 : a.f0 = 1
        · have u1 : (a.f0 == 1) = true := beq_iff_eq.2 g1
          by_cases g2 : b.f0 = 23
          · have u2 : (b.f0 == 23) = true := beq_iff_eq.2 g2
            have hw : Hid (idleWhich x.f0 a b = (false, true)) := Lib.hid (by rw [hop]; show (false, isNumT a 1000000 || (a.f0 == 1 && b.f0 == 23)) = _; rw [elf, u1, u2]; rfl)
            clear elf hop
            clear g1 g2
            go_wp2_with fail
            refine (HCB.out _).mono ?_
            rintro e w9 ⟨rfl, ew9⟩
            have H9 := Lib.hid (HI.out.below (W' := w9) (by rw [ew9]; exact below_alloc (Below.refl _ _) _))
            clear ew9 t7 t8 t9 t10 t15 t16 t27 t26 p0 p1 p2 r0 r1 r2 r3 s0 s1 s2 s3
            obtain ⟨p0, p1, p2, p3⟩ := core_cells H9.out.d.b0
            obtain ⟨q0, q1, q2, q3⟩ := core_cells H9.out.d.b1
            obtain ⟨r0, r1, r2, r3⟩ := core_cells H9.out.ba
            obtain ⟨s0, s1, s2, s3⟩ := core_cells H9.out.bb
            have i0 := blk_frozen H9.out.d.b1 0; have i1 := blk_frozen H9.out.d.b1 1; have i2 := blk_frozen H9.out.d.b1 2; have i3 := blk_frozen H9.out.d.b1 3
            have hs9 : w.heap.size + 1 < w9.heap.size := blk_lt H9.out.d.b1
            rw [HLen.out] at p3
            have hh := H.out
            rw [hw.out] at hh
            simp only [if_true, Prod.mk.injEq] at hh
            obtain ⟨rfl, rfl⟩ := hh
            clear H hw
            go_wp2
            refine bodyPost_ret (v := .tuple #[.agg #[.int .i64 b.f0, .int .i64 b.f1, .string b.f2, .slice Ab b.f3.length cb], .bool true]) (by simp [results, Tryz.f83, go_sem, q0, q1, q2, q3, hs9]) rfl ?_
            exact ⟨_, rfl, Kd.V_mono (V_put4 (Kd.V_step (Kd.V_bound (Kd.V_mk (e := 24) (base := w.heap.size) hlb HFb.out)) (fun k hk _ => H9.out.d.bel.block k hk.2)) (fun k hk => by have := hk.2; omega) _ _ _ _) (fun k hk => .inl hk.1), below_put4 H9.out.d.bel (by omega) _ _ _ _⟩
          · have u2 : (b.f0 == 23) = false := beq_eq_false_iff_ne.2 g2
            have hw : Hid (idleWhich x.f0 a b = (false, false)) := Lib.hid (by rw [hop]; show (false, isNumT a 1000000 || (a.f0 == 1 && b.f0 == 23)) = _; rw [elf, u1, u2]; rfl)
            clear elf hop
            clear g1 g2
            go_wp2_with fail
            refine (HCB.out _).mono ?_
            rintro e w9 ⟨rfl, ew9⟩
            have H9 := Lib.hid (HI.out.below (W' := w9) (by rw [ew9]; exact below_alloc (Below.refl _ _) _))
            clear ew9 t7 t8 t9 t10 t15 t16 t27 t26 p0 p1 p2 r0 r1 r2 r3 s0 s1 s2 s3
            obtain ⟨p0, p1, p2, p3⟩ := core_cells H9.out.d.b0
            obtain ⟨q0, q1, q2, q3⟩ := core_cells H9.out.d.b1
            obtain ⟨r0, r1, r2, r3⟩ := core_cells H9.out.ba
            obtain ⟨s0, s1, s2, s3⟩ := core_cells H9.out.bb
            have i0 := blk_frozen H9.out.d.b1 0; have i1 := blk_frozen H9.out.d.b1 1; have i2 := blk_frozen H9.out.d.b1 2; have i3 := blk_frozen H9.out.d.b1 3
            have hs9 : w.heap.size + 1 < w9.heap.size := blk_lt H9.out.d.b1
            rw [HLen.out] at p3
            have hh := H.out
            rw [hw.out] at hh
            simp only [Bool.false_eq_true, if_false, Prod.mk.injEq] at hh
            obtain ⟨rfl, rfl⟩ := hh
            clear H hw
            go_wp2
            refine bodyPost_ret (v := .tuple #[.agg #[.int .i64 x.f0, .int .i64 x.f1, .string x.f2, .slice (some ad) 2 c], .bool false]) (by simp [results, Tryz.f83, go_sem, q0, q1, q2, q3, hs9]) rfl ?_
            have hv := HV.out
            rw [HLen.out] at hv
            exact ⟨_, rfl, Kd.V_mono (V_put4 (Kd.V_step (Kd.V_bound hv) (fun k hk _ => H9.out.d.bel.block k hk.2)) (fun k hk => by have := hk.2; omega) _ _ _ _) (fun k hk => .inl hk.1), below_put4 H9.out.d.bel (by omega) _ _ _ _⟩
        · have u1 : (a.f0 == 1) = false := beq_eq_false_iff_ne.2 g1
          have hw : Hid (idleWhich x.f0 a b = (false, false)) := Lib.hid (by rw [hop]; show (false, isNumT a 1000000 || (a.f0 == 1 && b.f0 == 23)) = _; rw [elf, u1]; rfl)
          clear elf hop
          clear g1
          go_wp2_with fail
          refine (HCB.out _).mono ?_
          rintro e w9 ⟨rfl, ew9⟩
          have H9 := Lib.hid (HI.out.below (W' := w9) (by rw [ew9]; exact below_alloc (Below.refl _ _) _))
          clear ew9 t7 t8 t9 t10 t15 t16 t27 t26 p0 p1 p2 r0 r1 r2 r3 s0 s1 s2 s3
          obtain ⟨p0, p1, p2, p3⟩ := core_cells H9.out.d.b0
          obtain ⟨q0, q1, q2, q3⟩ := core_cells H9.out.d.b1
          obtain ⟨r0, r1, r2, r3⟩ := core_cells H9.out.ba
          obtain ⟨s0, s1, s2, s3⟩ := core_cells H9.out.bb
          have i0 := blk_frozen H9.out.d.b1 0; have i1 := blk_frozen H9.out.d.b1 1; have i2 := blk_frozen H9.out.d.b1 2; have i3 := blk_frozen H9.out.d.b1 3
          have hs9 : w.heap.size + 1 < w9.heap.size := blk_lt H9.out.d.b1
          rw [HLen.out] at p3
          have hh := H.out
          rw [hw.out] at hh
          simp only [Bool.false_eq_true, if_false, Prod.mk.injEq] at hh
          obtain ⟨rfl, rfl⟩ := hh
          clear H hw
          go_wp2
          refine bodyPost_ret (v := .tuple #[.agg #[.int .i64 x.f0, .int .i64 x.f1, .string x.f2, .slice (some ad) 2 c], .bool false]) (by simp [results, Tryz.f83, go_sem, q0, q1, q2, q3, hs9]) rfl ?_
          have hv := HV.out
          rw [HLen.out] at hv
          exact ⟨_, rfl, Kd.V_mono (V_put4 (Kd.V_step (Kd.V_bound hv) (fun k hk _ => H9.out.d.bel.block k hk.2)) (fun k hk => by have := hk.2; omega) _ _ _ _) (fun k hk => .inl hk.1), below_put4 H9.out.d.bel (by omega) _ _ _ _⟩
      · have hw : Hid (idleWhich x.f0 a b = (false, true)) := Lib.hid (by rw [hop]; show (false, isNumT a 1000000 || (a.f0 == 1 && b.f0 == 23)) = _; rw [elf]; rfl)
        clear elf hop
        go_wp2_with fail
        refine (HCB.out _).mono ?_
        rintro e w9 ⟨rfl, ew9⟩
        have H9 := Lib.hid (HI.out.below (W' := w9) (by rw [ew9]; exact below_alloc (Below.refl _ _) _))
        clear ew9 t7 t8 t9 t10 t15 t16 t27 t26 p0 p1 p2 r0 r1 r2 r3 s0 s1 s2 s3
        obtain ⟨p0, p1, p2, p3⟩ := core_cells H9.out.d.b0
        obtain ⟨q0, q1, q2, q3⟩ := core_cells H9.out.d.b1
        obtain ⟨r0, r1, r2, r3⟩ := core_cells H9.out.ba
        obtain ⟨s0, s1, s2, s3⟩ := core_cells H9.out.bb
        have i0 := blk_frozen H9.out.d.b1 0; have i1 := blk_frozen H9.out.d.b1 1; have i2 := blk_frozen H9.out.d.b1 2; have i3 := blk_frozen H9.out.d.b1 3
        have hs9 : w.heap.size + 1 < w9.heap.size := blk_lt H9.out.d.b1
        rw [HLen.out] at p3
        have hh := H.out
        rw [hw.out] at hh
        simp only [if_true, Prod.mk.injEq] at hh
        obtain ⟨rfl, rfl⟩ := hh
        clear H hw
        go_wp2
        refine bodyPost_ret (v := .tuple #[.agg #[.int .i64 b.f0, .int .i64 b.f1, .string b.f2, .slice Ab b.f3.length cb], .bool true]) (by simp [results, Tryz.f83, go_sem, q0, q1, q2, q3, hs9]) rfl ?_
        exact ⟨_, rfl, Kd.V_mono (V_put4 (Kd.V_step (Kd.V_bound (Kd.V_mk (e := 24) (base := w.heap.size) hlb HFb.out)) (fun k hk _ => H9.out.d.bel.block k hk.2)) (fun k hk => by have := hk.2; omega) _ _ _ _) (fun k hk => .inl hk.1), below_put4 H9.out.d.bel (by omega) _ _ _ _⟩

    have ne26 := hop
    clear hop
    have t7 : (x.f0 == 7) = false := beq_eq_false_iff_ne.2 (by omega)
    have t8 : (x.f0 == 8) = false := beq_eq_false_iff_ne.2 (by omega)
    have t9 : (x.f0 == 9) = false := beq_eq_false_iff_ne.2 (by omega)
    have t10 : (x.f0 == 10) = false := beq_eq_false_iff_ne.2 (by omega)
    have t15 : (x.f0 == 15) = false := beq_eq_false_iff_ne.2 (by omega)
    have t16 : (x.f0 == 16) = false := beq_eq_false_iff_ne.2 (by omega)
    have t27 : (x.f0 == 27) = false := beq_eq_false_iff_ne.2 (by omega)
    have t26 : (x.f0 == 26) = false := beq_eq_false_iff_ne.2 (by omega)
    have hw : Hid (idleWhich x.f0 a b = (false, false)) := Lib.hid (by unfold idleWhich; repeat rw [if_neg (by omega)])
    obtain ⟨w9, ew9⟩ : ∃ w9, w4 = w9 := ⟨_, rfl⟩
    subst ew9
    have H9 := HI
    clear p0 p1 p2 r0 r1 r2 r3 s0 s1 s2 s3 ne7 ne8 ne9 ne10 ne15 ne16 ne27 ne26
    obtain ⟨p0, p1, p2, p3⟩ := core_cells H9.out.d.b0
    obtain ⟨q0, q1, q2, q3⟩ := core_cells H9.out.d.b1
    obtain ⟨r0, r1, r2, r3⟩ := core_cells H9.out.ba
    obtain ⟨s0, s1, s2, s3⟩ := core_cells H9.out.bb
    have i0 := blk_frozen H9.out.d.b1 0; have i1 := blk_frozen H9.out.d.b1 1; have i2 := blk_frozen H9.out.d.b1 2; have i3 := blk_frozen H9.out.d.b1 3
    have hs9 : w.heap.size + 1 < w4.heap.size := blk_lt H9.out.d.b1
    rw [HLen.out] at p3
    have hh := H.out
    rw [hw.out] at hh
    simp only [Bool.false_eq_true, if_false, Prod.mk.injEq] at hh
    obtain ⟨rfl, rfl⟩ := hh
    clear H hw
    go_wp2
    refine bodyPost_ret (v := .tuple #[.agg #[.int .i64 x.f0, .int .i64 x.f1, .string x.f2, .slice (some ad) 2 c], .bool false]) (by simp [results, Tryz.f83, go_sem, q0, q1, q2, q3, hs9]) rfl ?_
    have hv := HV.out
    rw [HLen.out] at hv
    exact ⟨_, rfl, Kd.V_mono (V_put4 (Kd.V_step (Kd.V_bound hv) (fun k hk _ => H9.out.d.bel.block k hk.2)) (fun k hk => by have := hk.2; omega) _ _ _ _) (fun k hk => .inl hk.1), below_put4 H9.out.d.bel (by omega) _ _ _ _⟩
end Go.Proofs.YtniajhmbdbgmgaaGreatDoor.Q
