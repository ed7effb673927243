import Derived.Test.YtniajhmbdbgmgaaGreatDoorProg
import Derived.Below
import Derived.Deep.Draws
import Derived.Deep.AppendLies
import Derived.Maps.AppendAt
import Derived.OwnWalk
import Derived.Laws.BytesArg
import Derived.Laws.MakeOwn
import Derived.Laws.OwnMore
import Derived.Deep.OwnRows
import Derived.Tactics
import Derived.Lib.ConvBytes
import Derived.Laws.Slices
import Derived.WalkKit
import Derived.KernelRfl
import Derived.RowKit3
import Derived.Deep.LoopGhost
import Derived.Deep.QuietTactic
import Derived.BigQuiet
import Derived.WideLaws
import Derived.Deep.DeepCutAuto
import Derived.Deep.CutBlock
import Derived.Deep.RegionHeld3
import Derived.Laws.Rows
import Derived.Lib.AppendStr
import Derived.ArgAppend
import Derived.Laws.IdiomCopy
import Derived.OrdersHeld
import Derived.Laws.BitsLemmas
import Derived.RowKit
import Derived.Test.YtniajhmbdbgmgaaGreatDoorMOptLess0
import Derived.Test.YtniajhmbdbgmgaaGreatDoorMOptLess1
import Derived.ChangeArms
import Derived.ChangeOld
import Derived.WideShapes
import Derived.Lib.Hide
import Derived.RangeFuncNested
import Derived.RangeFuncBound
import Derived.RangeFuncCalls
import Derived.RangeFuncLeaves
import Derived.Shelf.Abstract
import Derived.Shelf.RegionOpen
import Derived.OwnWalkIn
import Derived.TacticsInMore
import Derived.LoopNIn
import Derived.LoopIn
import Derived.Laws.NewBlocks
import Derived.Laws.EntriesVeiled
import Derived.Shelf.Strings.Trim
import Derived.Shelf.Small.Utf8
import Derived.Shelf.Small.Bits
import Derived.Shelf.Small.Strs
import Derived.Shelf.Small.Wraps
import Derived.Shelf.Strconv.Itoa0
import Derived.Shelf.Strings.Search1
import Derived.Shelf.Strings.Search2
import Derived.Shelf.Strings.Search3
import Derived.Shelf.Strings.Cut
import Derived.Shelf.LaysM
import Derived.Shelf.Strings.Shaped
import Derived.Shelf.Strings.Runes
import Derived.Shelf.Strings.AsciiSet
import Derived.Shelf.Bits.Mul64
import Derived.Shelf.Unicode.DecodeSlow
import Derived.Shelf.Slices.Turned
import Derived.Ground.Names2Prog
import Derived.Shelf.Slices.SearchI
import Derived.LoopTactic
import Derived.Laws.Bits64b
import Derived.Laws.Shifts
import Derived.Outline
import Derived.Laws.ResultCell
import Derived.RegionTactic
namespace Go.Proofs.YtniajhmbdbgmgaaGreatDoor.Q
open Go.RowKit Go.Proofs.YtniajhmbdbgmgaaGreatDoorW.PrintWords Go.Proofs.YtniajhmbdbgmgaaGreatDoorW.PrintLast Go.Proofs.YtniajhmbdbgmgaaGreatDoorW.PrintMore
attribute [local go_sem] max2_int min2_int max_two min_two max_three min_three max_four min_four   -- for this text's walks alone
set_option linter.unusedVariables false
set_option linter.unusedSimpArgs false

def errW : Option Int → Value
  | none => .nilIface
  | some c => .iface 0 (.int .i64 c)
theorem errW_none : errW none = .nilIface := rfl
theorem errW_some (c : Int) : errW (some c) = .iface 0 (.int .i64 c) := rfl

theorem info3 : (Tryz.prog.info? 3).map (fun i => (i.zero, i.size, i.bytes)) = some (some (.int .i64 0), 1, 8) := by kernel_rfl
-- the values' own types
/-! #### struct type 24, nested in itself -/
structure S24 where
  f0 : Int
  f1 : Int
  f2 : ByteArray
  f3 : (List S24)
def z24 : S24 := ⟨(0 : Int), (0 : Int), (⟨#[]⟩ : ByteArray), ([] : List S24)⟩
def F24 (d : Kd S24) : Kd S24 := Kd.iso (Kd.pair (Kd.int .i64) (Kd.pair (Kd.int .i64) (Kd.pair Kd.string (Kd.slice 24 d)))) (fun x : S24 => (x.f0, x.f1, x.f2, x.f3))
theorem mono24 : Kd.Mono F24 := Kd.mono_iso _ (Kd.mono_pair (Kd.mono_const _) (Kd.mono_pair (Kd.mono_const _) (Kd.mono_pair (Kd.mono_const _) (Kd.mono_slice 24 Kd.mono_id))))
theorem sub24 : Kd.Sub F24 [24] := Kd.sub_iso _ (Kd.sub_pair (Kd.sub_const _ (by decide)) (Kd.sub_pair (Kd.sub_const _ (by decide)) (Kd.sub_pair (Kd.sub_const _ (by decide)) (Kd.sub_slice 24 (by decide) Kd.sub_id))))
theorem sz24 : ∀ n, (Kd.upto F24 4 [24] n).sz = 4 := Kd.upto_sz (fun _ => rfl)
def k24 : Kd S24 := Kd.fix F24 4 [24] sz24 (Kd.upto_E sub24)
theorem k24_heap : Kd.Heap k24 := Kd.heap_fix (fun _ h_ => Kd.heap_iso _ (Kd.heap_pair (Kd.heap_int .i64) (Kd.heap_pair (Kd.heap_int .i64) (Kd.heap_pair Kd.heap_string (Kd.heap_slice 24 h_)))))
theorem k24_open {w : World} {x : S24} {cs : List Value} (h : k24.K w x cs) : ∃ A3 c3, cs = [.int .i64 x.f0, .int .i64 x.f1, .string x.f2, .slice A3 x.f3.length c3] ∧ x.f3.length ≤ c3 ∧ k24.C w A3 x.f3.length x.f3 := by
  obtain ⟨n, h⟩ := h
  cases n with
  | zero => exact h.elim
  | succ n =>
    obtain ⟨_, _, rfl, rfl, ⟨_, _, rfl, rfl, ⟨_, _, rfl, rfl, ⟨A3, c3, rfl, l3, g3⟩⟩⟩⟩ := h
    exact ⟨A3, c3, rfl, l3, Kd.fix_C g3⟩
theorem k24_mk (w : World) (x : S24) {A3 : Option Addr} {c3 : Nat} (l3 : x.f3.length ≤ c3) (g3 : k24.C w A3 x.f3.length x.f3) : k24.K w x [.int .i64 x.f0, .int .i64 x.f1, .string x.f2, .slice A3 x.f3.length c3] := by
  obtain ⟨n3, q3⟩ := Kd.fix_C_back mono24 g3
  have r3 := Kd.upto_C_le mono24 sz24 (show n3 ≤ n3 by omega) q3
  exact ⟨n3 + 1, ⟨[.int .i64 x.f0], [.int .i64 x.f1, .string x.f2, .slice A3 x.f3.length c3], rfl, rfl, ⟨[.int .i64 x.f1], [.string x.f2, .slice A3 x.f3.length c3], rfl, rfl, ⟨[.string x.f2], [.slice A3 x.f3.length c3], rfl, rfl, ⟨A3, c3, rfl, l3, r3⟩⟩⟩⟩⟩
theorem k24_openF {W : World} {ok : Nat → Prop} {x : S24} {cs : List Value} (h : Kd.FK k24 W ok x cs) : ∃ A3 c3, cs = [.int .i64 x.f0, .int .i64 x.f1, .string x.f2, .slice A3 x.f3.length c3] ∧ x.f3.length ≤ c3 ∧ Kd.F k24 W ok A3 x.f3.length x.f3 := by
  obtain ⟨A3, c3, rfl, l3, _⟩ := k24_open (Kd.FK_now h)
  exact ⟨A3, c3, rfl, l3, (fun W' hW => by obtain ⟨A3_, c3_, he, l3_, g3_⟩ := k24_open (h W' hW); injection (Option.some.inj (show some (Value.slice A3 x.f3.length c3) = some (Value.slice A3_ x.f3.length c3_) from congrArg (fun l => l[3]?) he)) with ha_ _ _; rw [ha_]; exact g3_)⟩
theorem k24_mkF (W : World) (ok : Nat → Prop) (x : S24) {A3 : Option Addr} {c3 : Nat} (l3 : x.f3.length ≤ c3) (g3 : Kd.F k24 W ok A3 x.f3.length x.f3) : Kd.FK k24 W ok x [.int .i64 x.f0, .int .i64 x.f1, .string x.f2, .slice A3 x.f3.length c3] := fun W2 hW => k24_mk W2 x l3 (g3 W2 hW)
def rd_T24 (xs : List S24) (i : Int) : S24 := xs.getD i.toNat z24
theorem at_T24 {w : World} {A : Option Addr} {n : Nat} {xs : List S24} (h : Kd.C k24 w A n xs) (i : Int) (h0 : 0 ≤ i) (h1 : i < n) : ∃ ad A3 c3, A = some ad ∧ w.cell? (ad.add (i.toNat * 4)) = some (.int .i64 (rd_T24 xs i).f0) ∧ w.cell? ⟨(ad.add (i.toNat * 4)).block, (ad.add (i.toNat * 4)).off + 1, none⟩ = some (.int .i64 (rd_T24 xs i).f1) ∧ w.cell? ⟨(ad.add (i.toNat * 4)).block, (ad.add (i.toNat * 4)).off + 2, none⟩ = some (.string (rd_T24 xs i).f2) ∧ w.cell? ⟨(ad.add (i.toNat * 4)).block, (ad.add (i.toNat * 4)).off + 3, none⟩ = some (.slice A3 (rd_T24 xs i).f3.length c3) ∧ (rd_T24 xs i).f3.length ≤ c3 ∧ k24.C w A3 (rd_T24 xs i).f3.length (rd_T24 xs i).f3 := by
  obtain ⟨ad, c, e, _, hK, hc0⟩ := Kd.C_get h z24 i h0 h1
  have hc : ∀ j u, c[j]? = some u → w.cell? (ad.add (i.toNat * 4 + j)) = some u := hc0
  obtain ⟨A3, c3, rfl, l3, g3⟩ := k24_open hK
  exact ⟨ad, A3, c3, e, hc 0 _ rfl, by rw [← add_field _ _ 1 (by omega)]; exact hc 1 _ rfl, by rw [← add_field _ _ 2 (by omega)]; exact hc 2 _ rfl, by rw [← add_field _ _ 3 (by omega)]; exact hc 3 _ rfl, l3, g3⟩

end Go.Proofs.YtniajhmbdbgmgaaGreatDoor.Q

/- What a statement's argument reads as: slices of what can be read, and terms. -/
namespace Go.Proofs.YtniajhmbdbgmgaaGreatDoor.Q
open Go Go.RowKit Go.WideShapes Go.ChangeShapes Go.Proofs.YtniajhmbdbgmgaaGreatDoorW.PrintWords

section
variable {H : Type} {enc : TypeId × Value → H} {W : World} {sp : Nat → Bool} {held : Bool}
theorem cells_get {a : Addr} {n : Nat} {cs : List Value} (h : W.cells? 0 a n = some cs) : cs.length = n ∧ ∀ i u, cs[i]? = some u → W.cell? (a.add i) = some u := by
  unfold World.cells? at h
  rw [if_pos (Nat.zero_le _)] at h
  have hl := mapM_some_length h
  refine ⟨by simpa using hl, fun i u hu => ?_⟩
  have hi : i < n := by have := (List.getElem?_eq_some_iff.1 hu).1; simp at hl; omega
  have := mapM_some_get h i i (by simp [hi])
  rw [hu] at this
  exact this
/-- A slice of what can be read. -/
theorem open_slice {α : Type} {K : Kd α} {P : Program} {tS e : TypeId} (hS : P.underlying tS = some (.slice e)) (hsz : P.cellsOf e = K.sz) (n : Nat)
    (he : ∀ m, m < n → ∀ cs x, DataW.trod enc P W 0 sp held m e cs = some x → ∃ y, K.K W y cs) : ∀ cs x, DataW.trod enc P W 0 sp held n tS cs = some x →
    ∃ (A : Option Addr) (ys : List α) (c : Nat), cs = [.slice A ys.length c] ∧ ys.length ≤ c ∧ K.C W A ys.length ys := by
  intro cs x h
  rcases DataW.trod_slice hS h with ⟨rfl, _⟩ | ⟨a, len, cap, elems, rest, m, rfl, rfl, _, _, hlc, hcm, hel, hi, _, _⟩
  · exact ⟨none, [], 0, rfl, Nat.le_refl _, ⟨rfl, by simp, fun h => by simp at h⟩⟩
  · have hys : ∀ k, k ≤ len → ∃ ys : List α, ys.length = k ∧ ∀ j p, ys[j]? = some p → ∃ c, c.length = K.sz ∧ K.K W p c ∧ ∀ i u, c[i]? = some u → W.cell? (a.add (j * K.sz + i)) = some u := by
      intro k
      induction k with
      | zero => exact fun _ => ⟨[], rfl, fun j p hj => by simp at hj⟩
      | succ k ih =>
        intro hk
        obtain ⟨ys, hyl, hy⟩ := ih (by omega)
        have hk2 := hi k (by omega)
        obtain ⟨el, hel2⟩ : ∃ el, elems[k]? = some el := ⟨elems[k]'(by omega), List.getElem?_eq_getElem (by omega)⟩
        rw [hel2] at hk2
        obtain ⟨c, hc, ht⟩ := Option.bind_eq_some_iff.1 hk2
        obtain ⟨y, hK⟩ := he m (by omega) c el ht
        obtain ⟨hcl, hcc⟩ := cells_get hc
        refine ⟨ys ++ [y], by simp [hyl], fun j p hj => ?_⟩
        by_cases hjk : j < k
        · rw [List.getElem?_append_left (by omega)] at hj
          exact hy j p hj
        · have hjl : j = k := by
            have := (List.getElem?_eq_some_iff.1 hj).1
            simp [hyl] at this
            omega
          subst hjl
          rw [List.getElem?_append_right (by omega), hyl, Nat.sub_self] at hj
          simp only [List.getElem?_cons_zero, Option.some.injEq] at hj
          subst hj
          refine ⟨c, by rw [hcl, hsz], hK, fun i u hu => ?_⟩
          have h2 := hcc i u hu
          rw [hsz, add_add] at h2
          exact h2
    obtain ⟨ys, hyl, hy⟩ := hys len (Nat.le_refl _)
    subst hyl
    exact ⟨some a, ys, cap, rfl, hlc, ⟨rfl, by unfold maxLen at hcm; omega, fun _ => ⟨a, rfl, hy⟩⟩⟩

set_option maxRecDepth 100000 in
theorem open_core (n : Nat) : ∀ cs x, DataW.trod enc Tryz.prog W 0 sp held n 24 cs = some x → ∃ y : S24, k24.K W y cs := by
  induction n using Nat.strongRecOn with
  | _ n ih =>
    intro cs x h
    obtain ⟨xs, m, rfl, _, hlen, hxl, hf⟩ := DataW.trod_struct Tryz.underlying24 h
    have hc : Tryz.prog.cellsOf 24 = 4 := by kernel_rfl
    rw [hc] at hlen
    match cs, hlen with
    | [c0, c1, c2, c3], _ =>
      have hx4 : xs.length = 4 := hxl
      have l0 : xs[0]? = some (xs[0]'(by omega)) := List.getElem?_eq_getElem (by omega)
      have l1 : xs[1]? = some (xs[1]'(by omega)) := List.getElem?_eq_getElem (by omega)
      have l2 : xs[2]? = some (xs[2]'(by omega)) := List.getElem?_eq_getElem (by omega)
      have l3 : xs[3]? = some (xs[3]'(by omega)) := List.getElem?_eq_getElem (by omega)
      have z0 : Tryz.prog.cellsOf 3 = 1 := by kernel_rfl
      have z1 : Tryz.prog.cellsOf 2 = 1 := by kernel_rfl
      have z2 : Tryz.prog.cellsOf 9 = 1 := by kernel_rfl
      have z3 : Tryz.prog.cellsOf 22 = 1 := by kernel_rfl
      have f0 : DataW.trod enc Tryz.prog W 0 sp held m 3 (([c0, c1, c2, c3].drop 0).take (Tryz.prog.cellsOf 3)) = xs[0]? := hf 0 _ rfl
      have f1 : DataW.trod enc Tryz.prog W 0 sp held m 2 (([c0, c1, c2, c3].drop 1).take (Tryz.prog.cellsOf 2)) = xs[1]? := hf 1 _ rfl
      have f2 : DataW.trod enc Tryz.prog W 0 sp held m 9 (([c0, c1, c2, c3].drop 2).take (Tryz.prog.cellsOf 9)) = xs[2]? := hf 2 _ rfl
      have f3 : DataW.trod enc Tryz.prog W 0 sp held m 22 (([c0, c1, c2, c3].drop 3).take (Tryz.prog.cellsOf 22)) = xs[3]? := hf 3 _ rfl
      rw [z0] at f0
      rw [z1] at f1
      rw [z2] at f2
      rw [z3] at f3
      obtain ⟨a, h0, _, _⟩ := DataW.trod_int Tryz.underlying3 (f0.trans l0)
      obtain ⟨b, h1, _, _⟩ := DataW.trod_int Tryz.underlying2 (f1.trans l1)
      obtain ⟨s, h2, _, _⟩ := DataW.trod_string Tryz.underlying9 (f2.trans l2)
      obtain ⟨A, ys, c, h3, hl, hC⟩ := open_slice (K := k24) Tryz.underlying22 (by kernel_rfl) m (fun q hq => ih q (by omega)) _ _ (f3.trans l3)
      replace h0 := (List.cons.inj h0).1
      replace h1 := (List.cons.inj h1).1
      replace h2 := (List.cons.inj h2).1
      replace h3 := (List.cons.inj h3).1
      subst h0
      subst h1
      subst h2
      subst h3
      exact ⟨⟨a, b, s, ys⟩, k24_mk W ⟨a, b, s, ys⟩ hl hC⟩
set_option maxRecDepth 100000 in
/-- An argument that is a term. -/
theorem open_arg {base : Nat} {v : Value} {d : DataW H} {p : List MemPlace} (hval : Value.okWide Tryz.prog W .any base 24 v) (h : DataW.Trod enc Tryz.prog W 0 sp held 24 v d p) :
    ∃ (y : S24) (A : Option Addr) (c : Nat), v = .agg #[.int .i64 y.f0, .int .i64 y.f1, .string y.f2, .slice A y.f3.length c] ∧ y.f3.length ≤ c ∧ k24.C W A y.f3.length y.f3 := by
  obtain ⟨cs, rfl, _⟩ := okWide_struct Tryz.underlying24 hval
  obtain ⟨n, hn⟩ := h
  obtain ⟨y, hK⟩ := open_core n _ _ hn
  obtain ⟨A, c, he, hl, hC⟩ := k24_open hK
  refine ⟨y, A, c, ?_, hl, hC⟩
  have : cs.toList = [.int .i64 y.f0, .int .i64 y.f1, .string y.f2, .slice A y.f3.length c] := he
  have h2 : cs = #[.int .i64 y.f0, .int .i64 y.f1, .string y.f2, .slice A y.f3.length c] := Array.toList_inj.1 this
  rw [h2]
end
end Go.Proofs.YtniajhmbdbgmgaaGreatDoor.Q

/- Small words for the walks: draws, and the built-in min and max of two whole numbers. -/
namespace Go.Proofs.YtniajhmbdbgmgaaGreatDoor
open Go

/-- The world as it was, but for draws. -/
structure Dr (w w' : World) : Prop where
  out : ∃ n, w' = w.drewN n
theorem Dr.refl (w : World) : Dr w w := ⟨0, rfl⟩
theorem Dr.step {w w' : World} (h : Dr w w') (n : Nat) : Dr w (w'.drewN n) := by
  obtain ⟨m, rfl⟩ := h.out
  exact ⟨m + n, by rw [World.drewN_drewN]⟩
theorem belowN {B : Nat} {a w : World} (h : RowKit.Below B a w) (n : Nat) : RowKit.Below B a (w.drewN n) := ⟨h.os, h.tape, h.output, h.size, h.block⟩
theorem max2i (k k' : IntKind) (x y : Int) : Builtin.max2 (.int k x) (.int k' y) = pure (.int k (if x < y then y else x)) := by simp only [Builtin.max2, gt_iff_lt]
theorem min2i (k k' : IntKind) (x y : Int) : Builtin.min2 (.int k x) (.int k' y) = pure (.int k (if y < x then y else x)) := by simp only [Builtin.min2]
theorem maxTwo (ats : Array TypeId) (ty : TypeId) (a b : Value) : Builtin.max_ ats ty #[a, b] = (Builtin.max2 a b >>= fun s => pure s) := by simp only [Builtin.max_, List.foldlM_cons, List.foldlM_nil]
theorem minTwo (ats : Array TypeId) (ty : TypeId) (a b : Value) : Builtin.min_ ats ty #[a, b] = (Builtin.min2 a b >>= fun s => pure s) := by simp only [Builtin.min_, List.foldlM_cons, List.foldlM_nil]
/-- The built-in min and max of two whole numbers, closed to the walk. -/
def mn (x y : Int) : Int := if y < x then y else x
def mx (x y : Int) : Int := if x < y then y else x
theorem max2m (k k' : IntKind) (x y : Int) : Builtin.max2 (.int k x) (.int k' y) = pure (.int k (mx x y)) := max2i k k' x y
theorem min2m (k k' : IntKind) (x y : Int) : Builtin.min2 (.int k x) (.int k' y) = pure (.int k (mn x y)) := min2i k k' x y
theorem mn_le (x y : Int) : mn x y ≤ x ∧ mn x y ≤ y ∧ (mn x y = x ∨ mn x y = y) := by unfold mn; split <;> omega
end Go.Proofs.YtniajhmbdbgmgaaGreatDoor

/- The iterator over a term's terms hands on each of them, a term ahead of its kids. -/
namespace Go.Proofs.YtniajhmbdbgmgaaGreatDoor.Q
open Go Go.RowKit Go.Proofs Go.Proofs.YtniajhmbdbgmgaaGreatDoor Go.Shelf Go.Proofs.YtniajhmbdbgmgaaGreatDoorW.PrintWords Go.Proofs.YtniajhmbdbgmgaaGreatDoorW.PrintLast Go.Proofs.YtniajhmbdbgmgaaGreatDoorW.PrintMore
attribute [local go_sem] Oper.semAt_some

/-- Where no depth is asked the figures are all one. -/
theorem room_of_none {F : Fence} (hd : F.depth = none) (k : Nat) : F.room k := fun d h => by rw [hd] at h; cases h
theorem round_anyDepth {F : Fence} (hd : F.depth = none) {m m' : Nat} {P : Program} {l : Nat} {f : FuncId} {tmps : Array Value} {assign body : Code} {w : World} {R : Ending → World → Prop}
    (h : RoundIn F m P l f tmps assign body w R) : RoundIn F m' P l f tmps assign body w R := ⟨h.1, fun c cs _ => h.2 c cs (room_of_none hd _)⟩
theorem yield_anyDepth {F : Fence} (hd : F.depth = none) {m : Nat} (m' : Nat) {P : Program} {l : Nat} {args : Array Value} {W : World} {R : Ending → World → Prop} (h : YieldAt F m P l args W R) : YieldAt F m' P l args W R := by
  obtain ⟨fn, tmps, assign, body, hy, hR⟩ := h
  exact ⟨fn, tmps, assign, body, hy, round_anyDepth hd hR⟩

/-- What is handed on: how deep a term stands, and its cells. -/
structure Item where
  d : Int
  op : Int
  n : Int
  s : ByteArray
  A : Option Addr
  len : Nat
  cap : Nat
def Item.enc (x : Item) : Array Value := #[.int .i64 x.d, .agg #[.int .i64 x.op, .int .i64 x.n, .string x.s, .slice x.A x.len x.cap]]
def Item.key (x : Item) : Int × Int × Int × ByteArray := (x.d, x.op, x.n, x.s)

mutual
/-- A term's terms, a term ahead of its kids, with how deep each stands. -/
def preT (d : Int) : S24 → List (Int × Int × Int × ByteArray)
  | ⟨a, b, c, l⟩ => (d, a, b, c) :: preL (wrap64 (d + 1)) l
def preL (d : Int) : List S24 → List (Int × Int × Int × ByteArray)
  | [] => []
  | x :: l => preT d x ++ preL d l
end
theorem preT_eq (d : Int) (x : S24) : preT d x = (d, x.f0, x.f1, x.f2) :: preL (wrap64 (d + 1)) x.f3 := by cases x; rfl
theorem preL_append (d : Int) (l m : List S24) : preL d (l ++ m) = preL d l ++ preL d m := by
  induction l with
  | nil => rfl
  | cons x l ih => simp [preL, ih]
theorem preL_take (d : Int) (l : List S24) (j : Nat) (hj : j < l.length) : preL d (l.take (j + 1)) = preL d (l.take j) ++ preT d l[j] := by
  rw [List.take_add_one, preL_append, List.getElem?_eq_getElem hj]
  simp [preL]

/-- What a round that goes on keeps: all blocks below n₀ and all cells, but the loop's own variables. -/
structure KC (own : Nat → Prop) (n₀ : Nat) (W W' : World) : Prop where
  size : W.heap.size ≤ W'.heap.size
  low : ∀ k, k < n₀ → ¬ own k → W'.heap[k]? = W.heap[k]?
  cells : ∀ k o, W.heap[k]? = some o → o.isCells = true → ¬ own k → W'.heap[k]? = some o
theorem KC.refl (own : Nat → Prop) (n₀ : Nat) (W : World) : KC own n₀ W W := ⟨Nat.le_refl _, fun _ _ _ => rfl, fun _ _ h _ _ => h⟩
theorem KC.trans {own : Nat → Prop} {n₀ : Nat} {A B C : World} (h : KC own n₀ A B) (k : KC own n₀ B C) : KC own n₀ A C :=
  ⟨Nat.le_trans h.size k.size, fun i hi ho => (k.low i hi ho).trans (h.low i hi ho), fun i o hi hc ho => k.cells i o (h.cells i o hi hc ho) hc ho⟩
theorem KC.alloc {own : Nat → Prop} {n₀ : Nat} (W : World) (o : Obj) (hn : n₀ ≤ W.heap.size) : KC own n₀ W (W.alloc o) :=
  ⟨by simp, fun k hk _ => Below.heap_alloc W o k (by omega), fun k o' hk _ _ => (Below.heap_alloc W o k (Array.getElem?_eq_some_iff.1 hk).1).trans hk⟩
theorem KC.boxed {own : Nat → Prop} {n₀ : Nat} {W W' : World} (h : KC own n₀ W W') {B : Nat} {t : TypeId} {v : Value} (hb : Boxed W B t v) (ho : ¬ own B) : Boxed W' B t v := h.cells B _ hb rfl ho
theorem KC.tree {own : Nat → Prop} {n₀ : Nat} {W W' : World} (h : KC own n₀ W W') {A : Option Addr} {n : Nat} {xs : List S24} (hf : Kd.F k24 W (fun i => i < n₀ ∧ ¬ own i) A n xs) : Kd.F k24 W' (fun i => i < n₀ ∧ ¬ own i) A n xs :=
  Kd.F_step hf (fun k hk _ => h.low k hk.1 hk.2)

theorem kid_at {w : World} {ok : Nat → Prop} {A : Option Addr} {xs : List S24} (h : Kd.F k24 w ok A xs.length xs) (j : Nat) (hj : j < xs.length) :
    ∃ ad A3 c3, A = some ad ∧ w.cell? (ad.add (j * 4)) = some (.int .i64 xs[j].f0) ∧ w.cell? ⟨(ad.add (j * 4)).block, (ad.add (j * 4)).off + 1, none⟩ = some (.int .i64 xs[j].f1) ∧
      w.cell? ⟨(ad.add (j * 4)).block, (ad.add (j * 4)).off + 2, none⟩ = some (.string xs[j].f2) ∧ w.cell? ⟨(ad.add (j * 4)).block, (ad.add (j * 4)).off + 3, none⟩ = some (.slice A3 xs[j].f3.length c3) ∧
      xs[j].f3.length ≤ c3 ∧ Kd.F k24 w ok A3 xs[j].f3.length xs[j].f3 := by
  obtain ⟨ad, cs, e, _, hK, hc0, _⟩ := Kd.F_get h z24 (j : Int) (by omega) (by omega)
  have hx : xs.getD ((j : Int)).toNat z24 = xs[j] := by simp [List.getD_eq_getElem?_getD, hj]
  rw [hx] at hK
  obtain ⟨A3, c3, rfl, l3, g3⟩ := k24_openF hK
  have hc : ∀ i u, ([Value.int .i64 xs[j].f0, .int .i64 xs[j].f1, .string xs[j].f2, .slice A3 xs[j].f3.length c3] : List Value)[i]? = some u → w.cell? (ad.add (j * 4 + i)) = some u := hc0
  exact ⟨ad, A3, c3, e, hc 0 _ rfl, by rw [← add_field _ _ 1 (by omega)]; exact hc 1 _ rfl, by rw [← add_field _ _ 2 (by omega)]; exact hc 2 _ rfl, by rw [← add_field _ _ 3 (by omega)]; exact hc 3 _ rfl, l3, g3⟩

theorem boxed_cell {W : World} {B : Nat} {t : TypeId} {v : Value} (h : Boxed W B t v) : W.cell? ⟨B, 0, none⟩ = some v := by simp [World.cell?, show W.heap[B]? = _ from h]
theorem boxed_more {W : World} {B : Nat} {t : TypeId} {v : Value} (h : Boxed W B t v) (o : Obj) : Boxed (W.alloc o) B t v := (Below.heap_alloc W o B (Array.getElem?_eq_some_iff.1 h).1).trans h

set_option maxRecDepth 100000 in
set_option maxHeartbeats 4000000 in
/-- The closure that calls itself: by induction on the term. -/
theorem walk_in (F : Fence) (hd : F.depth = none) (hf : F.fn 133) (hro : F.round = none) (l n₀ Y Z N : Nat) (own : Nat → Prop) (hown : ∀ k, own k → k < n₀) (J Jx : List Item → World → Prop)
    (hJ : ∀ pre W o, J pre W → J pre (W.alloc o)) (hYo : ¬ own Y) (hZo : ¬ own Z)
    (hY : ∀ m pre x W, J pre W → pre.length < N → YieldAt F m Tryz.prog l x.enc W fun e W' =>
      (e = .returned (.bool true) ∧ J (pre ++ [x]) W' ∧ KC own n₀ W W') ∨ (e = .returned (.bool false) ∧ Jx (pre ++ [x]) W')) :
    ∀ (k : Nat) (x : S24), SizeOf.sizeOf x < k → ∀ (n : Nat) (A : Option Addr) (c : Nat) (d : Int) (pre : List Item) (W : World),
      Kd.F k24 W (fun i => i < n₀ ∧ ¬ own i) A x.f3.length x.f3 → x.f3.length ≤ c → Boxed W Y 185 (.func (.yield l) #[] #[]) →
      Boxed W Z 31 (.func (.func 133) #[] #[.pointer (some ⟨Y, 0, none⟩), .pointer (some ⟨Z, 0, none⟩)]) → n₀ ≤ W.heap.size → J pre W → pre.length + (preT d x).length ≤ N →
      CallsIn F n Tryz.prog 133 #[.agg #[.int .i64 x.f0, .int .i64 x.f1, .string x.f2, .slice A x.f3.length c], .int .i64 d, .pointer (some ⟨Y, 0, none⟩), .pointer (some ⟨Z, 0, none⟩)] W fun e W' =>
        (e = .returned (.bool true) ∧ (∃ q, q.map Item.key = preT d x ∧ J (pre ++ q) W') ∧ KC own n₀ W W') ∨ (e = .returned (.bool false) ∧ ∃ q, q.map Item.key <+: preT d x ∧ Jx (pre ++ q) W') := by
  intro k
  induction k with
  | zero => intro x hx; omega
  | succ k ih =>
    intro x hx n A c d pre W ht hc hbY hbZ hn hj hN
    have hdd : ∀ k : Nat, (F.depth.isSome = true → 1 ≤ k) := fun k h => by rw [hd] at h; cases h
    have hmax := Kd.F_max ht
    rw [preT_eq, List.length_cons] at hN
    obtain ⟨ob, eob⟩ : ∃ ob : Obj, ob = .cells #[.int .i64 x.f0, .int .i64 x.f1, .string x.f2, .slice A x.f3.length c] 24 := ⟨_, rfl⟩
    have hy := hY (n - 1) pre ⟨d, x.f0, x.f1, x.f2, A, x.f3.length, c⟩ (W.alloc ob) (hJ _ _ _ hj) (by omega)
    have hcY := boxed_cell (boxed_more hbY ob)
    rw [eob] at hy hcY
    obtain ⟨fn, tmps, assign, body, hy, hR⟩ := hy
    dsimp only [Item.enc] at hy
    refine callsIn_of_wp Tryz.func133 rfl hf ?_ hro
    simp only [Tryz.ntmps133, List.size_toArray, List.length_cons, List.length_nil, Nat.reduceAdd, Nat.reduceSub, Array.replicate_succ, Array.replicate_zero, List.push_toArray, List.append_toArray, List.nil_append, List.cons_append]
    obtain ⟨it, eit⟩ : ∃ it : Item, it = ⟨d, x.f0, x.f1, x.f2, A, x.f3.length, c⟩ := ⟨_, rfl⟩
    have hit : it.key = (d, x.f0, x.f1, x.f2) := by rw [eit]; rfl
    rw [← eit] at hR
    have hR2 := Lib.hid hR
    have hN2 := Lib.hid hN
    have ht2 := Lib.hid ht
    have hit2 := Lib.hid hit
    have hYZ := Lib.hid (And.intro hbY hbZ)
    have hjj := Lib.hid hj
    have hYy := Lib.hid hY
    clear hR hN ht hit eit hbY hbZ hj hY
    gi_wp2
    refine hR2.out.mono ?_
    rintro e W1 (⟨rfl, hJ1, hk1⟩ | ⟨rfl, hx1⟩)
    · have hb1 : W1.heap[W.heap.size]? = some (.cells #[.int .i64 x.f0, .int .i64 x.f1, .string x.f2, .slice A x.f3.length c] 24 (0, 0)) :=
        hk1.cells _ _ (by rw [← eob]; rw [eob]; exact World.alloc_heap_new W _) rfl (fun h => by have := hown _ h; omega)
      have hc3 : W1.cell? ⟨W.heap.size, 3, none⟩ = some (.slice A x.f3.length c) := by simp [World.cell?, hb1]
      have hK1 : KC own n₀ W W1 := (KC.alloc W _ hn).trans hk1
      have hK2 := Lib.hid hK1
      have hJ2 := Lib.hid hJ1
      clear hb1 hK1 hJ1 hk1
      gi_wp2
      gi_loopw [17] (fun i wr => ∃ (j : Nat) (q : List Item), j ≤ x.f3.length ∧ i = .int .i64 (j : Int) ∧ Hid (q.map Item.key = preL (wrap64 (d + 1)) (x.f3.take j)) ∧ Hid (J (pre ++ it :: q) wr) ∧ Hid (KC own n₀ W wr)) (fun i _ => x.f3.length - (intOf i).toNat)
      case atStart => exact ⟨0, [], by omega, rfl, Lib.hid (by simp [preL]), Lib.hid hJ2.out, hK2⟩
      case round =>
        obtain ⟨j, q, hj, rfl, hq, hJq, hKq⟩ := hrel
        by_cases hlt : j < x.f3.length
        · have t1 : decide (j < x.f3.length) = true := decide_eq_true hlt
          obtain ⟨ad, A3, c3, hA, d0, d1, d2, d3, hl3, hF3⟩ := kid_at (hKq.out.tree ht2.out) j hlt
          subst hA
          obtain ⟨kd, ekd⟩ : ∃ kd, x.f3[j] = kd := ⟨_, rfl⟩
          have hkdm : kd ∈ x.f3 := by rw [← ekd]; exact List.getElem_mem hlt
          have hpre := preL_take (wrap64 (d + 1)) x.f3 j hlt
          rw [ekd] at d0 d1 d2 d3 hl3 hF3 hpre
          have hsz : SizeOf.sizeOf kd < k := by
            have h1 := List.sizeOf_lt_of_mem hkdm
            cases x
            simp at hx h1
            omega
          have hlen : (pre ++ it :: q).length + (preT (wrap64 (d + 1)) kd).length ≤ N := by
            have h1 := congrArg List.length hq.out
            have h2 : (preL (wrap64 (d + 1)) (x.f3.take (j + 1))).length ≤ (preL (wrap64 (d + 1)) x.f3).length := by
              conv => rhs; rw [← List.take_append_drop (j + 1) x.f3, preL_append, List.length_append]
              omega
            rw [hpre, List.length_append] at h2
            rw [List.length_map] at h1
            have h3 := hN2.out
            simp only [List.length_append, List.length_cons]
            omega
          have hbz := hKq.out.boxed hYZ.out.2 hZo
          have hbz2 := boxed_cell (boxed_more hbz (.cells #[.int .i64 kd.f0, .int .i64 kd.f1, .string kd.f2, .slice A3 kd.f3.length c3] 24))
          have hc := ih kd hsz (n - 1) A3 c3 (wrap64 (d + 1)) (pre ++ it :: q) (wr.alloc (.cells #[.int .i64 kd.f0, .int .i64 kd.f1, .string kd.f2, .slice A3 kd.f3.length c3] 24))
            (Kd.F_alloc hF3 _) hl3 (boxed_more (hKq.out.boxed hYZ.out.1 hYo) _) (boxed_more hbz _) (by have := hKq.out.size; simp; omega) (hJ _ _ _ hJq.out) hlen
          have HC := Lib.hid hc
          have hPre := Lib.hid hpre
          clear hc hF3 hbz hsz hlen hkdm ekd hpre
          gi_wp2
          refine HC.out.mono ?_
          rintro e W2 (⟨rfl, ⟨q2, hq2, hJ3⟩, hk3⟩ | ⟨rfl, q2, hq2, hx3⟩)
          · have hK3 : KC own n₀ W W2 := hKq.out.trans ((KC.alloc wr _ (by have := hKq.out.size; omega)).trans hk3)
            have H1 := Lib.hid hq2; have H2 := Lib.hid hJ3; have H3 := Lib.hid hK3
            clear hq2 hJ3 hK3 hk3
            gi_wp2
            go_roundw
            case rel => exact ⟨j + 1, q ++ q2, hlt, by go_num, Lib.hid (by rw [List.map_append, hq.out, H1.out, hPre.out]), Lib.hid (by have := H2.out; simpa [List.append_assoc] using this), H3⟩
            case measure => simp [intOf]; omega
          · gi_wp2
            go_ret
            refine .inr ⟨rfl, it :: (q ++ q2), ?_, by simpa [List.append_assoc] using hx3⟩
            rw [preT_eq, List.map_cons, List.map_append, hit2.out, hq.out]
            obtain ⟨r, hr⟩ := hq2
            refine ⟨r ++ preL (wrap64 (d + 1)) (x.f3.drop (j + 1)), ?_⟩
            have h2 : preL (wrap64 (d + 1)) x.f3 = preL (wrap64 (d + 1)) (x.f3.take (j + 1)) ++ preL (wrap64 (d + 1)) (x.f3.drop (j + 1)) := by rw [← preL_append, List.take_append_drop]
            rw [h2, hPre.out, ← hr]
            simp [List.append_assoc]
        · have t1 : decide (j < x.f3.length) = false := decide_eq_false hlt
          obtain rfl : j = x.f3.length := by omega
          gi_wp2
          go_ret
          refine .inl ⟨rfl, ⟨it :: q, ?_, hJq.out⟩, hKq.out⟩
          have := hq.out
          rw [List.take_length] at this
          rw [List.map_cons, this, hit2.out, preT_eq]
    · gi_wp2
      go_ret
      exact .inr ⟨rfl, [it], by rw [preT_eq, List.map_singleton, hit2.out]; exact ⟨_, rfl⟩, hx1⟩

set_option maxRecDepth 100000 in
set_option maxHeartbeats 2000000 in
theorem all1_in (F : Fence) (hd : F.depth = none) (n : Nat) (h1 : F.fn 132) (h2 : F.fn 133) (hro : F.round = none) (l B n₀ : Nat) (own : Nat → Prop) (hown : ∀ k, own k → k < n₀) (x : S24) (A : Option Addr) (c : Nat) (J Jx : List Item → World → Prop)
    (hJ : ∀ pre W o, J pre W → J pre (W.alloc o))
    (hY : ∀ pre x' W, J pre W → pre.length < (preT 1 x).length → YieldAt F (n - 1) Tryz.prog l x'.enc W fun e W' =>
      (e = .returned (.bool true) ∧ J (pre ++ [x']) W' ∧ KC own n₀ W W') ∨ (e = .returned (.bool false) ∧ Jx (pre ++ [x']) W'))
    (W : World) (hB : W.heap[B]? = some (.cells #[.int .i64 x.f0, .int .i64 x.f1, .string x.f2, .slice A x.f3.length c] 24 (0, 0))) (ht : Kd.F k24 W (fun i => i < n₀ ∧ ¬ own i) A x.f3.length x.f3) (hc : x.f3.length ≤ c) (hn : n₀ ≤ W.heap.size) (h0 : J [] W) :
    CallsIn F n Tryz.prog 132 #[.func (.yield l) #[] #[], .pointer (some ⟨B, 0, none⟩)] W fun e W' => (∃ v, e = .returned v) ∧
      ((∃ ys : List Item, ys.map Item.key = preT 1 x ∧ J ys W') ∨ (∃ pre : List Item, pre.map Item.key <+: preT 1 x ∧ Jx pre W')) := by
  have hdd : ∀ k : Nat, (F.depth.isSome = true → 1 ≤ k) := fun k h => by rw [hd] at h; cases h
  have hlt : B < W.heap.size := (Array.getElem?_eq_some_iff.1 hB).1
  have e1 : W.cell? ⟨B, 0, none⟩ = some (.int .i64 x.f0) := by simp [World.cell?, hB]
  have e2 : W.cell? ⟨B, 1, none⟩ = some (.int .i64 x.f1) := by simp [World.cell?, hB]
  have e3 : W.cell? ⟨B, 2, none⟩ = some (.string x.f2) := by simp [World.cell?, hB]
  have e4 : W.cell? ⟨B, 3, none⟩ = some (.slice A x.f3.length c) := by simp [World.cell?, hB]
  have hw := walk_in F hd h2 hro l n₀ W.heap.size (W.heap.size + 1) (preT 1 x).length own hown J Jx hJ (fun h => by have := hown _ h; omega) (fun h => by have := hown _ h; omega)
    (fun m pre x' W hj hl => yield_anyDepth hd m (hY pre x' W hj hl)) (SizeOf.sizeOf x + 1) x (by omega) (n - 1) A c 1 []
    ((W.alloc (.cells #[.func (.yield l) #[] #[]] 185)).alloc (.cells #[.func (.func 133) #[] #[.pointer (some ⟨W.heap.size, 0, none⟩), .pointer (some ⟨W.heap.size + 1, 0, none⟩)]] 31))
    (Kd.F_alloc (Kd.F_alloc ht _) _) hc (boxed_more (Boxed.new W _ _) _) (by have := Boxed.new (W.alloc (.cells #[.func (.yield l) #[] #[]] 185)) 31 (.func (.func 133) #[] #[.pointer (some ⟨W.heap.size, 0, none⟩), .pointer (some ⟨W.heap.size + 1, 0, none⟩)]); rw [World.size_alloc] at this; exact this) (by simp; omega) (hJ _ _ _ (hJ _ _ _ h0)) (by simp)
  have HW := Lib.hid hw
  clear hw hY ht hJ h0 hB
  refine callsIn_of_wp Tryz.func132 rfl h1 ?_ hro
  simp only [Tryz.ntmps132, List.size_toArray, List.length_cons, List.length_nil, Nat.reduceAdd, Nat.reduceSub, Array.replicate_succ, Array.replicate_zero, List.push_toArray, List.append_toArray, List.nil_append, List.cons_append]
  gi_wp2
  refine HW.out.mono ?_
  rintro e W1 (⟨rfl, ⟨q, hq, hJ1⟩, _⟩ | ⟨rfl, q, hq, hx⟩)
  · gi_wp2
    go_end0
    exact ⟨⟨_, rfl⟩, .inl ⟨q, hq, by simpa using hJ1⟩⟩
  · gi_wp2
    go_end0
    exact ⟨⟨_, rfl⟩, .inr ⟨q, hq, by simpa using hx⟩⟩

theorem all_in (F : Fence) (n : Nat) (h : F.fn 78) (hro : F.round = none) (a b : Int) (s : ByteArray) (A : Option Addr) (m c : Nat) (w : World) :
    CallsIn F n Tryz.prog 78 #[.agg #[.int .i64 a, .int .i64 b, .string s, .slice A m c]] w fun e w' =>
      e = .returned (.func (.func 132) #[] #[.pointer (some ⟨w.heap.size, 0, none⟩)]) ∧ w' = w.alloc (.cells #[.int .i64 a, .int .i64 b, .string s, .slice A m c] 24) := by
  refine callsIn_of_wp Tryz.func78 rfl h ?_ hro
  simp only [Tryz.ntmps78, List.size_toArray, List.length_cons, List.length_nil, Nat.reduceAdd, Nat.reduceSub, Array.replicate_succ, Array.replicate_zero, List.push_toArray, List.append_toArray, List.nil_append, List.cons_append]
  gi_wp2
  go_ret
  exact ⟨rfl, rfl⟩

/-- all(c) hands back a value over which a loop may range. -/
theorem all_stops (F : Fence) (hd : F.depth = none) (n : Nat) (h1 : F.fn 132) (h2 : F.fn 133) (hro : F.round = none) (B n₀ : Nat) (own : Nat → Prop) (hown : ∀ k, own k → k < n₀) (x : S24) (A : Option Addr) (c : Nat)
    (w : World) (hB : w.heap[B]? = some (.cells #[.int .i64 x.f0, .int .i64 x.f1, .string x.f2, .slice A x.f3.length c] 24 (0, 0))) (ht : Kd.F k24 w (fun i => i < n₀ ∧ ¬ own i) A x.f3.length x.f3) (hc : x.f3.length ≤ c) (hn : n₀ ≤ w.heap.size) :
    SeqStopsK F n Tryz.prog 132 #[.pointer (some ⟨B, 0, none⟩)] Item.enc (KC own n₀) (fun ys => ys.map Item.key = preT 1 x) (fun pre => pre.map Item.key <+: preT 1 x) (preT 1 x).length w := fun l J Jx W hW hJ _ hY h0 =>
  all1_in F hd n h1 h2 hro l B n₀ own hown x A c J Jx (fun pre W o h => hJ pre W _ none h (World.grownBy_alloc W o none) (fun r e => by cases e)) hY W ((hW.block B (Array.getElem?_eq_some_iff.1 hB).1).trans hB) (Kd.F_below ht hW) hc (Nat.le_trans hn hW.size) h0
end Go.Proofs.YtniajhmbdbgmgaaGreatDoor.Q

/- Terms in plain Lean: how great and how deep they are, their types. -/
namespace Go.Proofs.YtniajhmbdbgmgaaGreatDoor.Q
open Go.RowKit (wrap64)
abbrev Core := S24

theorem ind_core {P : Core → Prop} (h : ∀ x : Core, (∀ k ∈ x.f3, P k) → P x) (x : Core) : P x := by
  have : ∀ n, ∀ x : Core, SizeOf.sizeOf x ≤ n → P x := by
    intro n
    induction n with
    | zero => intro x hx; cases x; simp at hx
    | succ n ih =>
      intro x hx
      refine h x (fun k hk => ih k ?_)
      have := List.sizeOf_lt_of_mem hk
      cases x
      simp at hx this
      omega
  exact this _ x (Nat.le_refl _)

mutual
def sizeT : Core → Nat
  | ⟨_, _, _, l⟩ => 1 + sizeL l
def sizeL : List Core → Nat
  | [] => 0
  | x :: l => sizeT x + sizeL l
end
mutual
def depthT : Core → Nat
  | ⟨_, _, _, l⟩ => 1 + depthL l
def depthL : List Core → Nat
  | [] => 0
  | x :: l => max (depthT x) (depthL l)
end
mutual
def allT (P : Int → Int → Prop) : Core → Prop
  | ⟨a, b, _, l⟩ => P a b ∧ allL P l
def allL (P : Int → Int → Prop) : List Core → Prop
  | [] => True
  | x :: l => allT P x ∧ allL P l
end
theorem sizeT_eq (x : Core) : sizeT x = 1 + sizeL x.f3 := by cases x; simp [sizeT]
theorem depthT_eq (x : Core) : depthT x = 1 + depthL x.f3 := by cases x; simp [depthT]
theorem allT_eq (P : Int → Int → Prop) (x : Core) : allT P x ↔ P x.f0 x.f1 ∧ allL P x.f3 := by cases x; simp [allT]
theorem allL_iff (P : Int → Int → Prop) (l : List Core) : allL P l ↔ ∀ x ∈ l, allT P x := by
  induction l with
  | nil => simp [allL]
  | cons x l ih => simp [allL, ih]
theorem sizeT_pos (x : Core) : 1 ≤ sizeT x := by rw [sizeT_eq]; omega
theorem sizeL_mem {l : List Core} {x : Core} (h : x ∈ l) : sizeT x ≤ sizeL l := by
  induction l with
  | nil => cases h
  | cons y l ih =>
    rcases List.mem_cons.1 h with rfl | h
    · simp [sizeL]
    · have := ih h; simp [sizeL]; omega
theorem depthL_le (l : List Core) (n : Nat) : depthL l ≤ n ↔ ∀ x ∈ l, depthT x ≤ n := by
  induction l with
  | nil => simp [depthL]
  | cons x l ih => simp only [depthL, List.forall_mem_cons, ← ih]; omega
theorem depthL_mem {l : List Core} {x : Core} (h : x ∈ l) : depthT x ≤ depthL l := (depthL_le l (depthL l)).1 (Nat.le_refl _) x h

/-! ### what the walk over all terms gives -/
theorem wrap_in {d : Int} (h0 : -9223372036854775808 ≤ d) (h1 : d ≤ 9223372036854775807) : wrap64 d = d := by unfold wrap64; omega
theorem preL_length_of (l : List Core) (h : ∀ x ∈ l, ∀ d, (preT d x).length = sizeT x) : ∀ d, (preL d l).length = sizeL l := by
  induction l with
  | nil => intro d; rfl
  | cons x l ih =>
    intro d
    rw [preL, List.length_append, h x (List.mem_cons_self ..), ih (fun y hy => h y (List.mem_cons_of_mem _ hy)), sizeL]
theorem preT_length (x : Core) : ∀ d, (preT d x).length = sizeT x := by
  refine ind_core (P := fun x => ∀ d, (preT d x).length = sizeT x) (fun x ih d => ?_) x
  have := preL_length_of x.f3 ih (wrap64 (d + 1))
  cases x
  simp only [preT, List.length_cons, sizeT] at *
  omega
theorem preL_mem {k : Int × Int × Int × ByteArray} {d : Int} {l : List Core} : k ∈ preL d l ↔ ∃ x ∈ l, k ∈ preT d x := by
  induction l with
  | nil => simp [preL]
  | cons x l ih => simp [preL, ih]
theorem pre_all (P : Int → Int → Prop) (x : Core) : ∀ d, (∀ k ∈ preT d x, P k.2.1 k.2.2.1) ↔ allT P x := by
  refine ind_core (P := fun x => ∀ d, (∀ k ∈ preT d x, P k.2.1 k.2.2.1) ↔ allT P x) (fun x ih d => ?_) x
  rw [allT_eq, allL_iff]
  cases x with | mk a b c l =>
  simp only [preT, List.forall_mem_cons]
  refine and_congr Iff.rfl ⟨fun h k hk => (ih k hk (wrap64 (d + 1))).1 (fun z hz => h z (preL_mem.2 ⟨k, hk, hz⟩)), fun h z hz => ?_⟩
  obtain ⟨k, hk, hz⟩ := preL_mem.1 hz
  exact (ih k hk (wrap64 (d + 1))).2 (h k hk) z hz
theorem pre_depth (x : Core) : ∀ d : Int, 0 ≤ d → d ≤ 201 → ((∀ k ∈ preT d x, k.1 ≤ 200) ↔ d + depthT x ≤ 201) := by
  refine ind_core (P := fun x => ∀ d : Int, 0 ≤ d → d ≤ 201 → ((∀ k ∈ preT d x, k.1 ≤ 200) ↔ d + depthT x ≤ 201)) (fun x ih d h0 h1 => ?_) x
  have e := depthT_eq x
  have hw : wrap64 (d + 1) = d + 1 := wrap_in (by omega) (by omega)
  cases x with | mk a b c l =>
  simp only [preT, List.forall_mem_cons, hw] at *
  by_cases hd : d ≤ 200
  · have hk : (∀ k ∈ preL (d + 1) l, k.1 ≤ 200) ↔ d + 1 + depthL l ≤ 201 := by
      have h3 : (d + 1 + depthL l ≤ 201) ↔ ∀ x ∈ l, d + 1 + depthT x ≤ 201 := by
        rw [show (d + 1 + (depthL l : Int) ≤ 201) ↔ depthL l ≤ (200 - d).toNat from by omega, depthL_le]
        exact ⟨fun h x hx => by have := h x hx; omega, fun h x hx => by have := h x hx; omega⟩
      rw [h3]
      refine ⟨fun h x hx => (ih x hx (d + 1) (by omega) (by omega)).1 (fun z hz => h z (preL_mem.2 ⟨x, hx, hz⟩)), fun h z hz => ?_⟩
      obtain ⟨x, hx, hz⟩ := preL_mem.1 hz
      exact (ih x hx (d + 1) (by omega) (by omega)).2 (h x hx) z hz
    rw [hk]
    omega
  · constructor
    · intro h; exact absurd h.1 hd
    · intro h; omega

/-! ### types -/
/-- What an operation's kids are, and what it is (OIf aside), by letters. -/
def sig (op : Int) : Option (List Int × Int) :=
  if op = 1 ∨ op = 4 then some ([], 110) else if op = 2 then some ([], 98) else if op = 3 ∨ op = 5 then some ([], 100)
  else if op = 6 then some ([110], 110) else if op = 7 ∨ op = 8 ∨ op = 9 ∨ op = 10 then some ([110, 110], 110) else if op = 11 ∨ op = 12 ∨ op = 13 then some ([110, 110], 98)
  else if op = 14 then some ([98], 98) else if op = 15 ∨ op = 16 then some ([98, 98], 98) else if op = 17 then some ([100, 100], 98) else if op = 18 ∨ op = 19 then some ([100, 110], 100)
  else if op = 20 ∨ op = 21 then some ([100, 100], 110) else if op = 23 ∨ op = 24 then some ([], 99) else if op = 25 ∨ op = 29 then some ([99], 99) else if op = 26 then some ([110, 99], 99)
  else if op = 27 ∨ op = 31 then some ([99, 99], 99) else if op = 28 then some ([98, 99, 99], 99) else if op = 30 then some ([98, 99], 99) else none
/-- The type of a term whose fields are right, of those of its kids; 0: there is none. -/
def nodeT (op : Int) (ts : List Int) : Int :=
  if op = 22 then (match ts with
    | [a, b, c] => if a = 98 ∧ b = c ∧ (b = 110 ∨ b = 98 ∨ b = 100) then b else 0
    | _ => 0)
  else match sig op with
    | some (ks, own) => if ts = ks then own else 0
    | none => 0
section
variable (fl : Int → Int → ByteArray → Bool)
mutual
/-- A term's type, by its letter; fl: are an operation's fields right? -/
def tyT : Core → Int
  | ⟨a, b, c, l⟩ => if fl a b c = true then nodeT a (tyL l) else 0
def tyL : List Core → List Int
  | [] => []
  | x :: l => tyT x :: tyL l
end
end
section
variable {fl : Int → Int → ByteArray → Bool}
theorem tyL_eq (l : List Core) : tyL fl l = l.map (tyT fl) := by
  induction l with
  | nil => rfl
  | cons x l ih => simp [tyL, ih]
theorem tyT_eq (x : Core) : tyT fl x = if fl x.f0 x.f1 x.f2 = true then nodeT x.f0 (x.f3.map (tyT fl)) else 0 := by cases x; simp [tyT, tyL_eq]
theorem sig_op {op : Int} {ks : List Int} {own : Int} (h : sig op = some (ks, own)) : 1 ≤ op ∧ op ≤ 31 ∧ op ≠ 22 := by
  refine Classical.byContradiction fun hn => ?_
  have : sig op = none := by unfold sig; repeat' rw [if_neg (by omega)]
  rw [this] at h
  cases h
def sigOk (n : Nat) : Bool := match sig (n : Int) with
    | some (ks, own) => (own == 110 || own == 98 || own == 100 || own == 99) && ((own == 99) == decide (23 ≤ (n : Int))) && ks.all (fun t => t == 110 || t == 98 || t == 100 || t == 99)
    | none => true
theorem sigOk_all : ∀ n < 32, sigOk n = true := by decide
theorem sig_own {op : Int} {ks : List Int} {own : Int} (h : sig op = some (ks, own)) : (own = 110 ∨ own = 98 ∨ own = 100 ∨ own = 99) ∧ (own = 99 ↔ 23 ≤ op) ∧ ∀ t ∈ ks, t = 110 ∨ t = 98 ∨ t = 100 ∨ t = 99 := by
  have ho := sig_op h
  obtain ⟨n, rfl⟩ : ∃ n : Nat, op = n := ⟨op.toNat, by omega⟩
  have := sigOk_all n (by omega)
  unfold sigOk at this
  rw [h] at this
  simp only [Bool.and_eq_true, Bool.or_eq_true, List.all_eq_true, or_assoc, Bool.beq_eq_decide_eq, decide_eq_true_eq] at this
  exact ⟨this.1.1, by simpa using this.1.2, this.2⟩
/-- What a right term's kids are. -/
theorem ty_sig {x : Core} (h : tyT fl x ≠ 0) (h22 : x.f0 ≠ 22) : fl x.f0 x.f1 x.f2 = true ∧ sig x.f0 = some (x.f3.map (tyT fl), tyT fl x) := by
  rw [tyT_eq] at h ⊢
  split at h
  case isFalse => exact absurd rfl h
  case isTrue hf =>
    rw [if_pos hf]
    refine ⟨hf, ?_⟩
    unfold nodeT at h ⊢
    rw [if_neg h22] at h ⊢
    cases hs : sig x.f0 with
    | none => rw [hs] at h; exact absurd rfl h
    | some p =>
      obtain ⟨ks, own⟩ := p
      rw [hs] at h
      simp only at h ⊢
      split at h
      case isFalse => exact absurd rfl h
      case isTrue he => rw [if_pos he, he]
theorem ty_if {x : Core} (h : tyT fl x ≠ 0) (h22 : x.f0 = 22) : fl x.f0 x.f1 x.f2 = true ∧ ∃ a b c, x.f3 = [a, b, c] ∧ tyT fl a = 98 ∧ tyT fl b = tyT fl x ∧ tyT fl c = tyT fl x ∧ (tyT fl x = 110 ∨ tyT fl x = 98 ∨ tyT fl x = 100) := by
  have e := tyT_eq (fl := fl) x
  rw [e] at h
  split at h
  case isFalse => exact absurd rfl h
  case isTrue hf =>
    rw [if_pos hf] at e
    refine ⟨hf, ?_⟩
    unfold nodeT at h e
    rw [if_pos h22] at h e
    match hl : x.f3 with
    | [] => rw [hl] at h; exact absurd rfl h
    | [_] => rw [hl] at h; exact absurd rfl h
    | [_, _] => rw [hl] at h; exact absurd rfl h
    | _ :: _ :: _ :: _ :: _ => rw [hl] at h; exact absurd rfl h
    | [a, b, c] =>
      rw [hl] at h e
      simp only [List.map_cons, List.map_nil] at h e
      split at h
      case isFalse => exact absurd rfl h
      case isTrue hc =>
        rw [if_pos hc] at e
        exact ⟨a, b, c, rfl, hc.1, e.symm, by rw [e, hc.2.1], by rw [e]; exact hc.2.2⟩
theorem map_one {l : List Core} {f : Core → Int} {t : Int} (h : l.map f = [t]) : ∃ a, l = [a] ∧ f a = t := by
  match l, h with
  | [a], h => exact ⟨a, rfl, by simpa using h⟩
theorem map_two {l : List Core} {f : Core → Int} {t u : Int} (h : l.map f = [t, u]) : ∃ a b, l = [a, b] ∧ f a = t ∧ f b = u := by
  match l, h with
  | [a, b], h => exact ⟨a, b, rfl, by simpa using h⟩
theorem map_three {l : List Core} {f : Core → Int} {t u v : Int} (h : l.map f = [t, u, v]) : ∃ a b c, l = [a, b, c] ∧ f a = t ∧ f b = u ∧ f c = v := by
  match l, h with
  | [a, b, c], h => exact ⟨a, b, c, rfl, by simpa using h⟩
theorem ty_own {x : Core} (h : tyT fl x ≠ 0) : tyT fl x = 110 ∨ tyT fl x = 98 ∨ tyT fl x = 100 ∨ tyT fl x = 99 := by
  by_cases h22 : x.f0 = 22
  · obtain ⟨_, a, b, c, _, _, _, _, h⟩ := ty_if h h22
    omega
  · exact (sig_own (ty_sig h h22).2).1
theorem ty_kids {x : Core} (h : tyT fl x ≠ 0) : ∀ k ∈ x.f3, tyT fl k ≠ 0 := by
  intro k hk
  by_cases h22 : x.f0 = 22
  · obtain ⟨_, a, b, c, hl, h1, h2, h3, h4⟩ := ty_if h h22
    rw [hl] at hk
    simp only [List.mem_cons, List.not_mem_nil, or_false] at hk
    rcases hk with rfl | rfl | rfl <;> omega
  · have := (sig_own (ty_sig h h22).2).2.2 (tyT fl k) (List.mem_map_of_mem hk)
    omega
def sigLen (n : Nat) : Bool := match sig (n : Int) with
    | some (ks, _) => decide (ks.length ≤ 3)
    | none => true
theorem sigLen_all : ∀ n < 32, sigLen n = true := by decide
/-- A right term has at most three kids. -/
theorem ty_len {x : Core} (h : tyT fl x ≠ 0) : x.f3.length ≤ 3 := by
  by_cases h22 : x.f0 = 22
  · obtain ⟨_, a, b, c, hl, _⟩ := ty_if h h22
    rw [hl]
    exact Nat.le_refl _
  · have hs := (ty_sig h h22).2
    have ho := sig_op hs
    obtain ⟨n, hn⟩ : ∃ n : Nat, x.f0 = n := ⟨x.f0.toNat, by omega⟩
    rw [hn] at hs ho
    have := sigLen_all n (by omega)
    unfold sigLen at this
    rw [hs] at this
    simpa using of_decide_eq_true this
/-- The type hangs on the kids' types alone. -/
theorem ty_congr {op n : Int} {s : ByteArray} {l m : List Core} (h : l.map (tyT fl) = m.map (tyT fl)) : tyT fl ⟨op, n, s, l⟩ = tyT fl ⟨op, n, s, m⟩ := by rw [tyT_eq, tyT_eq, h]
end
end Go.Proofs.YtniajhmbdbgmgaaGreatDoor.Q

/- The numbers of layer 1 in plain Lean: sums, products and quotients of decimals of six places, rounded and within their limits. -/
namespace Go.Proofs.YtniajhmbdbgmgaaGreatDoor.Num

def clamp (a : Int) : Int := if a < -1000000000000000 then -1000000000000000 else if 1000000000000000 < a then 1000000000000000 else a
/-- x y / d, rounded to the nearer, a half to the even one, at most 10^15. -/
def rnd (x y d : Nat) : Nat :=
  if x * y / d < 1000000000000000 then
    (if d < 2 * (x * y % d) ∨ (2 * (x * y % d) = d ∧ x * y / d % 2 = 1) then x * y / d + 1 else x * y / d)
  else 1000000000000000
def sgn (b : Bool) (n : Nat) : Int := if b then -(n : Int) else n
def below (a : Int) : Bool := decide (clamp a < 0)
def size (a : Int) : Nat := (clamp a).natAbs
def add (a b : Int) : Int := clamp (clamp a + clamp b)
def sub (a b : Int) : Int := clamp (clamp a - clamp b)
def neg (a : Int) : Int := -clamp a
def mul (a b : Int) : Int := sgn (!(below a == below b)) (rnd (size a) (size b) 1000000)
def div (a b : Int) : Int := if size b = 0 then 0 else sgn (!(below a == below b)) (rnd (size a) 1000000 (size b))
def whole (a : Int) : Int := (clamp a).tdiv 1000000

theorem clamp_le (a : Int) : -1000000000000000 ≤ clamp a ∧ clamp a ≤ 1000000000000000 := by unfold clamp; repeat' split <;> omega
theorem size_le (a : Int) : size a ≤ 1000000000000000 := by have := clamp_le a; unfold size; omega
theorem rnd_le (x y d : Nat) : rnd x y d ≤ 1000000000000000 := by
  unfold rnd; split
  · split <;> omega
  · omega
theorem sgn_le (b : Bool) (n : Nat) (h : n ≤ 1000000000000000) : -1000000000000000 ≤ sgn b n ∧ sgn b n ≤ 1000000000000000 := by
  cases b <;> simp [sgn] <;> omega
theorem mul_le (a b : Int) : -1000000000000000 ≤ mul a b ∧ mul a b ≤ 1000000000000000 := sgn_le _ _ (rnd_le _ _ _)
theorem div_le (a b : Int) : -1000000000000000 ≤ div a b ∧ div a b ≤ 1000000000000000 := by
  unfold div; split
  · omega
  · exact sgn_le _ _ (rnd_le _ _ _)
theorem neg_le (a : Int) : -1000000000000000 ≤ neg a ∧ neg a ≤ 1000000000000000 := by have := clamp_le a; unfold neg; omega
end Go.Proofs.YtniajhmbdbgmgaaGreatDoor.Num

/-
  DERIVED: THE SHELF's CONTRACTS AT THIS DUMP, IN PLAIN WORDS (tools/lay-plain.mjs out of 'TryzShelf.lean', which tools/lay-shelf.mjs wrote): THE SAME DECLARATIONS UNDER THE SAME NAMES: 'import', 'namespace', 'open', 'def', 'theorem' AND NOTHING ELSE: no command of the shelf's: FOR A HAND-IN. Each laying: the table of numbers ('.._ren') and one theorem, a field a fact of the dump's own or the kernel's comparison; each contract: ONE APPLICATION.
-/
namespace Go.Proofs
open Go.Shelf
def Tryz.lays160_ren : Go.Shelf.Ren := ⟨fun | 160 => 239 | 232 => 244 | 231 => 243 | 227 => 245 | 234 => 247 | 233 => 246 | 236 => 249 | 235 => 248 | 228 => 250 | 271 => 253 | 151 => 252 | 197 => 251 | 120 => 256 | 152 => 255 | 260 => 254 | 137 => 131 | 119 => 257 | 224 => 236 | 225 => 235 | 217 => 188 | 266 => 221 | n => n, fun | 9 => 9 | 4 => 4 | 3 => 3 | 5 => 5 | 117 => 253 | 116 => 252 | 0 => 0 | 124 => 256 | 21 => 21 | 105 => 257 | 46 => 172 | 119 => 261 | 139 => 264 | 138 => 263 | n => n, fun | 3 => 3 | 4 => 4 | n => n⟩
theorem Tryz.lays160 : Go.Proofs.Lays.n160 Tryz.prog Tryz.lays160_ren := {
  mixed := by kernel_rfl
  f119 := Tryz.func257.trans (congrArg some (by kernel_rfl))
  f120 := Tryz.func256.trans (congrArg some (by kernel_rfl))
  f137 := Tryz.func131.trans (congrArg some (by kernel_rfl))
  f151 := Tryz.func252.trans (congrArg some (by kernel_rfl))
  f152 := Tryz.func255.trans (congrArg some (by kernel_rfl))
  f160 := Tryz.func239.trans (congrArg some (by kernel_rfl))
  f197 := Tryz.func251.trans (congrArg some (by kernel_rfl))
  f217 := Tryz.func188.trans (congrArg some (by kernel_rfl))
  f224 := Tryz.func236.trans (congrArg some (by kernel_rfl))
  f225 := Tryz.func235.trans (congrArg some (by kernel_rfl))
  f227 := Tryz.func245.trans (congrArg some (by kernel_rfl))
  f228 := Tryz.func250.trans (congrArg some (by kernel_rfl))
  f231 := Tryz.func243.trans (congrArg some (by kernel_rfl))
  f232 := Tryz.func244.trans (congrArg some (by kernel_rfl))
  f233 := Tryz.func246.trans (congrArg some (by kernel_rfl))
  f234 := Tryz.func247.trans (congrArg some (by kernel_rfl))
  f235 := Tryz.func248.trans (congrArg some (by kernel_rfl))
  f236 := Tryz.func249.trans (congrArg some (by kernel_rfl))
  f260 := Tryz.func254.trans (congrArg some (by kernel_rfl))
  f266 := Tryz.func221.trans (congrArg some (by kernel_rfl))
  f271 := Tryz.func253.trans (congrArg some (by kernel_rfl))
  t0 := Tryz.underlying0
  a0 := Tryz.isAgg0
  z0 := Tryz.sizeOf0
  v0 := Tryz.zeroValue0
  t3 := Tryz.underlying3
  a3 := Tryz.isAgg3
  z3 := Tryz.sizeOf3
  v3 := Tryz.zeroValue3
  t4 := Tryz.underlying4
  a4 := Tryz.isAgg4
  z4 := Tryz.sizeOf4
  v4 := Tryz.zeroValue4
  t5 := Tryz.underlying5
  a5 := Tryz.isAgg5
  z5 := Tryz.sizeOf5
  v5 := Tryz.zeroValue5
  t9 := Tryz.underlying9
  a9 := Tryz.isAgg9
  z9 := Tryz.sizeOf9
  v9 := Tryz.zeroValue9
  t21 := Tryz.underlying21
  a21 := Tryz.isAgg21
  z21 := Tryz.sizeOf21
  v21 := Tryz.zeroValue21
  t46 := Tryz.underlying172
  a46 := Tryz.isAgg172
  z46 := Tryz.sizeOf172
  v46 := Tryz.zeroValue172
  t105 := Tryz.underlying257
  a105 := Tryz.isAgg257
  z105 := Tryz.sizeOf257
  v105 := Tryz.zeroValue257
  t116 := Tryz.underlying252
  a116 := Tryz.isAgg252
  z116 := Tryz.sizeOf252
  t117 := Tryz.underlying253
  a117 := Tryz.isAgg253
  z117 := Tryz.sizeOf253
  v117 := Tryz.zeroValue253
  t119 := Tryz.underlying261
  a119 := Tryz.isAgg261
  z119 := Tryz.sizeOf261
  t124 := Tryz.underlying256
  a124 := Tryz.isAgg256
  z124 := Tryz.sizeOf256
  v124 := Tryz.zeroValue256
  t138 := Tryz.underlying263
  a138 := Tryz.isAgg263
  z138 := Tryz.sizeOf263
  v138 := Tryz.zeroValue263
  t139 := Tryz.underlying264
  a139 := Tryz.isAgg264
  z139 := Tryz.sizeOf264
  v139 := Tryz.zeroValue264
  g3 := by kernel_rfl
  g4 := by kernel_rfl }
def Tryz.lays134_ren : Go.Shelf.Ren := ⟨fun | 134 => 227 | 129 => 240 | n => n, fun | 53 => 171 | 3 => 3 | 4 => 4 | 46 => 172 | 5 => 5 | 9 => 9 | n => n, fun | n => n⟩
theorem Tryz.lays134 : Go.Proofs.Lays.n134 Tryz.prog Tryz.lays134_ren := {
  mixed := by kernel_rfl
  f129 := Tryz.func240.trans (congrArg some (by kernel_rfl))
  f134 := Tryz.func227.trans (congrArg some (by kernel_rfl))
  t3 := Tryz.underlying3
  a3 := Tryz.isAgg3
  z3 := Tryz.sizeOf3
  v3 := Tryz.zeroValue3
  t4 := Tryz.underlying4
  a4 := Tryz.isAgg4
  z4 := Tryz.sizeOf4
  v4 := Tryz.zeroValue4
  t5 := Tryz.underlying5
  a5 := Tryz.isAgg5
  z5 := Tryz.sizeOf5
  v5 := Tryz.zeroValue5
  t9 := Tryz.underlying9
  a9 := Tryz.isAgg9
  z9 := Tryz.sizeOf9
  v9 := Tryz.zeroValue9
  t46 := Tryz.underlying172
  a46 := Tryz.isAgg172
  z46 := Tryz.sizeOf172
  v46 := Tryz.zeroValue172
  t53 := Tryz.underlying171
  a53 := Tryz.isAgg171
  z53 := Tryz.sizeOf171
  v53 := Tryz.zeroValue171 }
/-- bits.LeadingZeros64: "LeadingZeros64 returns the number of leading zero bits in x; the result is 64 for x == 0.": IT RETURNS '64 - Lib.bitLen x'; the world is as it was. ITS CALLEE bits.Len64 IS MET BY ITS OWN CONTRACT OFF THE SHELF (lay that first): entered in place it sends the kernel out of memory. (LAID: no walk: one application.) -/
theorem Tryz.bits_LeadingZeros64 (x : Int) (w : World) (h0 : 0 ≤ x) (h1 : x ≤ 18446744073709551615) :
    Calls Tryz.prog 227 #[.int .u64 x] w fun e w' => e = .returned (.int .i64 (64 - (Lib.bitLen x.toNat : Int))) ∧ w' = w := Any.bits_LeadingZeros64 Tryz.lays134 x w h0 h1
def Tryz.lays137_ren : Go.Shelf.Ren := ⟨fun | 137 => 131 | 217 => 188 | 266 => 221 | n => n, fun | 9 => 9 | 5 => 5 | 3 => 3 | n => n, fun | n => n⟩
theorem Tryz.lays137 : Go.Proofs.Lays.n137 Tryz.prog Tryz.lays137_ren := {
  mixed := by kernel_rfl
  f137 := Tryz.func131.trans (congrArg some (by kernel_rfl))
  f217 := Tryz.func188.trans (congrArg some (by kernel_rfl))
  f266 := Tryz.func221.trans (congrArg some (by kernel_rfl))
  t3 := Tryz.underlying3
  a3 := Tryz.isAgg3
  z3 := Tryz.sizeOf3
  v3 := Tryz.zeroValue3
  t5 := Tryz.underlying5
  a5 := Tryz.isAgg5
  z5 := Tryz.sizeOf5
  v5 := Tryz.zeroValue5
  t9 := Tryz.underlying9
  a9 := Tryz.isAgg9
  z9 := Tryz.sizeOf9
  v9 := Tryz.zeroValue9 }
open Go.RowKit in
/-- strings.IndexByte: "IndexByte returns the index of the first instance of c in s, or -1 if c is not present in s.": IT RETURNS 'Lib.indexByte s c'; the world is as it was. (LAID: no walk: one application.) -/
theorem Tryz.strings_IndexByte (s : ByteArray) (c : Int) (w : World) :
    Calls Tryz.prog 131 #[.string s, .int .u8 c] w fun e w' => e = .returned (.int .i64 (Lib.indexByte s.data.toList c.toNat.toUInt8)) ∧ w' = w := Any.strings_IndexByte Tryz.lays137 s c w
def Tryz.lays217_ren : Go.Shelf.Ren := ⟨fun | 217 => 188 | 266 => 221 | n => n, fun | 9 => 9 | 5 => 5 | 3 => 3 | n => n, fun | n => n⟩
theorem Tryz.lays217 : Go.Proofs.Lays.n217 Tryz.prog Tryz.lays217_ren := {
  mixed := by kernel_rfl
  f217 := Tryz.func188.trans (congrArg some (by kernel_rfl))
  f266 := Tryz.func221.trans (congrArg some (by kernel_rfl))
  t3 := Tryz.underlying3
  a3 := Tryz.isAgg3
  z3 := Tryz.sizeOf3
  v3 := Tryz.zeroValue3
  t5 := Tryz.underlying5
  a5 := Tryz.isAgg5
  z5 := Tryz.sizeOf5
  v5 := Tryz.zeroValue5
  t9 := Tryz.underlying9
  a9 := Tryz.isAgg9
  z9 := Tryz.sizeOf9
  v9 := Tryz.zeroValue9 }
open Go.RowKit Go.Lib in
/-- internal/stringslite.IndexByte (what strings.IndexByte calls): IT RETURNS 'Lib.indexByte s c'; the world is as it was. (LAID: no walk: one application.) -/
theorem Tryz.stringslite_IndexByte (s : ByteArray) (c : Int) (w : World) :
    Calls Tryz.prog 188 #[.string s, .int .u8 c] w fun e w' => e = .returned (.int .i64 (Lib.indexByte s.data.toList c.toNat.toUInt8)) ∧ w' = w := Any.stringslite_IndexByte Tryz.lays217 s c w
def Tryz.lays145_ren : Go.Shelf.Ren := ⟨fun | 145 => 185 | 220 => 217 | 219 => 214 | 217 => 188 | 225 => 235 | 224 => 236 | 267 => 237 | 266 => 221 | 314 => 242 | n => n, fun | 9 => 9 | 4 => 4 | 59 => 215 | 3 => 3 | 5 => 5 | 46 => 172 | 146 => 248 | 51 => 247 | n => n, fun | 1 => 2 | n => n⟩
theorem Tryz.lays145 : Go.Proofs.Lays.n145 Tryz.prog Tryz.lays145_ren := {
  mixed := by kernel_rfl
  f145 := Tryz.func185.trans (congrArg some (by kernel_rfl))
  f217 := Tryz.func188.trans (congrArg some (by kernel_rfl))
  f219 := Tryz.func214.trans (congrArg some (by kernel_rfl))
  f220 := Tryz.func217.trans (congrArg some (by kernel_rfl))
  f224 := Tryz.func236.trans (congrArg some (by kernel_rfl))
  f225 := Tryz.func235.trans (congrArg some (by kernel_rfl))
  f266 := Tryz.func221.trans (congrArg some (by kernel_rfl))
  f267 := Tryz.func237.trans (congrArg some (by kernel_rfl))
  f314 := Tryz.func242.trans (congrArg some (by kernel_rfl))
  t3 := Tryz.underlying3
  a3 := Tryz.isAgg3
  z3 := Tryz.sizeOf3
  v3 := Tryz.zeroValue3
  t4 := Tryz.underlying4
  a4 := Tryz.isAgg4
  z4 := Tryz.sizeOf4
  v4 := Tryz.zeroValue4
  t5 := Tryz.underlying5
  a5 := Tryz.isAgg5
  z5 := Tryz.sizeOf5
  v5 := Tryz.zeroValue5
  t9 := Tryz.underlying9
  a9 := Tryz.isAgg9
  z9 := Tryz.sizeOf9
  v9 := Tryz.zeroValue9
  t46 := Tryz.underlying172
  a46 := Tryz.isAgg172
  z46 := Tryz.sizeOf172
  v46 := Tryz.zeroValue172
  t51 := Tryz.underlying247
  a51 := Tryz.isAgg247
  z51 := Tryz.sizeOf247
  v51 := Tryz.zeroValue247
  t59 := Tryz.underlying215
  a59 := Tryz.isAgg215
  z59 := Tryz.sizeOf215
  v59 := Tryz.zeroValue215
  t146 := Tryz.underlying248
  a146 := Tryz.isAgg248
  z146 := Tryz.sizeOf248
  v146 := Tryz.zeroValue248
  g1 := by kernel_rfl }
open Go.RowKit Go.Lib in
/-- strings.Cut: "Cut slices s around the first instance of sep, returning the text before and after sep. The found result reports whether sep appears in s. If sep does not appear in s, cut returns s, "", false.": IT RETURNS 'Lib.cut s sep'; the world is as it was but for the count of draws. (LAID: no walk: one application.) -/
theorem Tryz.strings_Cut (s sep : ByteArray) (m : Int) (w : World) (hs : s.size < 4294967281) (hm : w.cell? ⟨2, 0, none⟩ = some (.int .i64 m)) :
    Calls Tryz.prog 185 #[.string s, .string sep] w fun e w' => e = .returned (.tuple #[.string ⟨(Lib.cut s.data.toList sep.data.toList).1.toArray⟩, .string ⟨(Lib.cut s.data.toList sep.data.toList).2.1.toArray⟩, .bool (Lib.cut s.data.toList sep.data.toList).2.2]) ∧ ∃ n, w' = w.drewN n := Any.strings_Cut Tryz.lays145 s sep m w hs hm
def Tryz.lays264_ren : Go.Shelf.Ren := ⟨fun | 264 => 200 | n => n, fun | 53 => 171 | 46 => 172 | n => n, fun | n => n⟩
theorem Tryz.lays264 : Go.Proofs.Lays.n264 Tryz.prog Tryz.lays264_ren := {
  mixed := by kernel_rfl
  f264 := Tryz.func200.trans (congrArg some (by kernel_rfl))
  t46 := Tryz.underlying172
  a46 := Tryz.isAgg172
  z46 := Tryz.sizeOf172
  v46 := Tryz.zeroValue172
  t53 := Tryz.underlying171
  a53 := Tryz.isAgg171
  z53 := Tryz.sizeOf171
  v53 := Tryz.zeroValue171 }
open Go.RowKit Go.Lib in
theorem Tryz.bits_Mul64 (x y : Nat) (hx : x < 18446744073709551616) (hy : y < 18446744073709551616) (w : World) :
    Calls Tryz.prog 200 #[.int .u64 x, .int .u64 y] w fun e w' => e = .returned (.tuple #[.int .u64 ((x * y / 18446744073709551616 : Nat) : Int), .int .u64 ((x * y % 18446744073709551616 : Nat) : Int)]) ∧ w' = w := Any.bits_Mul64 Tryz.lays264 x y hx hy w
end Go.Proofs

/- Plain arithmetic for math/bits.Div64 (Knuth's step with 32-bit digits): no program in sight. -/
namespace Go.Proofs.YtniajhmbdbgmgaaGreatDoor.PDiv

theorem qhat_le {U Y : Nat} (hY : 9223372036854775808 ≤ Y) (hY2 : Y < 18446744073709551616) (hU : U < Y) :
    U / (Y / 4294967296) ≤ 4294967297 := by
  have h1 : 2147483648 ≤ Y / 4294967296 := by omega
  have h2 : U < Y / 4294967296 * 4294967298 := by omega
  have h3 : U / (Y / 4294967296) < 4294967298 := Nat.div_lt_of_lt_mul h2
  omega

theorem start {U u Y : Nat} (hY : 9223372036854775808 ≤ Y) (hu : u < 4294967296) :
    (U * 4294967296 + u) / Y ≤ U / (Y / 4294967296) := by
  have h1 : 2147483648 ≤ Y / 4294967296 := by omega
  have h2 : Y / 4294967296 * 4294967296 ≤ Y := Nat.div_mul_le_self _ _
  generalize Y / 4294967296 = y1 at *
  apply Nat.le_of_lt_succ
  apply Nat.div_lt_of_lt_mul
  have h3 : U < y1 * (U / y1 + 1) := by
    have := Nat.lt_mul_div_succ U (b := y1) (by omega); omega
  generalize U / y1 = Q at *
  have h4 : (U + 1) * 4294967296 ≤ y1 * (Q + 1) * 4294967296 := Nat.mul_le_mul_right _ h3
  have h5 : y1 * (Q + 1) * 4294967296 = y1 * 4294967296 * (Q + 1) := by
    rw [Nat.mul_assoc, Nat.mul_comm (Q + 1), ← Nat.mul_assoc]
  have h6 : y1 * 4294967296 * (Q + 1) ≤ Y * (Q + 1) := Nat.mul_le_mul_right _ h2
  have : (Q + 1).succ = Q + 1 + 1 := rfl
  show U * 4294967296 + u < Y * (Q + 1)
  omega

theorem split {Q R U Y : Nat} (h : Q * (Y / 4294967296) + R = U) : Q * Y + R * 4294967296 = U * 4294967296 + Q * (Y % 4294967296) := by
  subst h
  have e : Y = Y / 4294967296 * 4294967296 + Y % 4294967296 := (Nat.div_add_mod' Y _).symm
  generalize Y / 4294967296 = a at *
  generalize Y % 4294967296 = b at *
  subst e
  rw [Nat.mul_add, Nat.add_mul, ← Nat.mul_assoc]
  omega

theorem small {U u Y : Nat} (hU : U < Y) (hu : u < 4294967296) : (U * 4294967296 + u) / Y < 4294967296 := by
  apply Nat.div_lt_of_lt_mul
  have : (U + 1) * 4294967296 ≤ Y * 4294967296 := Nat.mul_le_mul_right _ hU
  omega

theorem down {Q R U u Y : Nat} (hU : U < Y) (hu : u < 4294967296) (h : Q * (Y / 4294967296) + R = U)
    (hc : 4294967296 ≤ Q ∨ 4294967296 * R + u < Q * (Y % 4294967296)) : (U * 4294967296 + u) / Y < Q := by
  rcases hc with hc | hc
  · have := small hU hu; omega
  · have := split h
    apply Nat.div_lt_of_lt_mul
    have e := Nat.mul_comm Y Q
    omega

theorem up {Q R U u Y : Nat} (hU : U < Y) (h : Q * (Y / 4294967296) + R = U)
    (hc : Q * (Y % 4294967296) ≤ 4294967296 * R + u) : Q ≤ (U * 4294967296 + u) / Y := by
  have := split h
  rw [Nat.le_div_iff_mul_le (by omega)]
  omega

theorem up2 {Q R U u Y : Nat} (hU : U < Y) (h : Q * (Y / 4294967296) + R = U) (hQ : Q ≤ 4294967296) (hR : 4294967296 ≤ R) :
    Q ≤ (U * 4294967296 + u) / Y := by
  refine up hU h ?_
  have h1 : Q * (Y % 4294967296) ≤ 4294967296 * 4294967295 := Nat.mul_le_mul hQ (by omega)
  omega

/-- What is left behind a digit. -/
theorem rest {U u Y : Nat} (hY : 0 < Y) :
    (U * 4294967296 + u) % Y < Y ∧ (U * 4294967296 + u) / Y * Y + (U * 4294967296 + u) % Y = U * 4294967296 + u :=
  ⟨Nat.mod_lt _ hY, by have := Nat.div_add_mod (U * 4294967296 + u) Y; rw [Nat.mul_comm]; exact this⟩

/-- The whole: two digits of a scaled number are the quotient, what is left is the scaled rest. -/
theorem whole0 {n y k Y U b d1 d0 R q1 q0 R2 : Nat} (hk : 0 < k) (hY : Y = y * k) (hn : n * k = U * (b * b) + (d1 * b + d0))
    (h1 : q1 * Y + R = U * b + d1) (h0 : q0 * Y + R2 = R * b + d0) (hR2 : R2 < Y) :
    q1 * b + q0 = n / y ∧ R2 / k = n % y := by
  have e : n * k = (q1 * b + q0) * Y + R2 := by
    have h4 : (q1 * Y + R) * b = (U * b + d1) * b := by rw [h1]
    have h5 : (q1 * b + q0) * Y = q1 * Y * b + q0 * Y := by
      rw [Nat.add_mul, Nat.mul_assoc, Nat.mul_comm b Y, ← Nat.mul_assoc]
    rw [Nat.add_mul, Nat.add_mul, Nat.mul_assoc U] at h4
    omega
  have hY0 : 0 < Y := by omega
  have hR : R2 = n * k % Y := by
    rw [e, Nat.mul_add_mod_self_right, Nat.mod_eq_of_lt hR2]
  have hq : q1 * b + q0 = n * k / Y := by
    rw [e, Nat.mul_comm _ Y, Nat.mul_add_div hY0, Nat.div_eq_of_lt hR2, Nat.add_zero]
  subst hY
  refine ⟨?_, ?_⟩
  · rw [hq, Nat.mul_div_mul_right _ _ hk]
  · rw [hR, Nat.mul_mod_mul_right, Nat.mul_div_cancel _ hk]

theorem whole {n y k Y U w R q1 q0 : Nat} (hk : 0 < k) (hY : Y = y * k) (hn : n * k = U * 18446744073709551616 + w)
    (h1 : q1 * Y + R = U * 4294967296 + w / 4294967296) {R2 : Nat} (h0 : q0 * Y + R2 = R * 4294967296 + w % 4294967296) (hR2 : R2 < Y) :
    q1 * 4294967296 + q0 = n / y ∧ R2 / k = n % y :=
  whole0 hk hY (by rw [hn, Nat.div_add_mod']) h1 h0 hR2

/-- The scaled number's upper half. -/
theorem upper {hi lo y k : Nat} (hk : 0 < k) {j : Nat} (hkj : k * j = 18446744073709551616) (hlo : lo < 18446744073709551616) (hhi : hi < y) :
    (hi * 18446744073709551616 + lo) * k = (hi * k + lo / j) * 18446744073709551616 + lo * k % 18446744073709551616 ∧ hi * k + lo / j < y * k ∧ lo / j < k := by
  have hj : 0 < j := by
    rcases Nat.eq_zero_or_pos j with h | h
    · subst h; simp at hkj
    · exact h
  have h1 : lo / j < k := by
    apply Nat.div_lt_of_lt_mul; rw [Nat.mul_comm, hkj]; exact hlo
  have h2 : lo * k / 18446744073709551616 = lo / j := by
    rw [← hkj, Nat.mul_comm k j, Nat.mul_div_mul_right _ _ hk]
  refine ⟨?_, ?_, h1⟩
  · have h3 := Nat.div_add_mod (lo * k) 18446744073709551616
    rw [h2] at h3
    have h4 : (hi * 18446744073709551616 + lo) * k = hi * k * 18446744073709551616 + lo * k := by
      rw [Nat.add_mul, Nat.mul_assoc, Nat.mul_comm 18446744073709551616, ← Nat.mul_assoc]
    rw [h4]
    omega
  · have : (hi + 1) * k ≤ y * k := Nat.mul_le_mul_right _ hhi
    rw [Nat.add_mul] at this
    omega

end Go.Proofs.YtniajhmbdbgmgaaGreatDoor.PDiv

/- math/bits.Div64 answers the quotient and the rest of hi * 2^64 + lo by y, wherever hi < y. -/
namespace Go.Proofs.YtniajhmbdbgmgaaGreatDoor.XDiv
open Go Go.RowKit Go.Proofs

theorem wrapN (a : Nat) (ha : a < 18446744073709551616) : IntKind.u64.wrap (a : Int) = (a : Int) := by rw [IntKind.wrap_u64]; omega

set_option maxHeartbeats 1000000 in
theorem div_zero (lo y : Nat) (hy : 0 < y) (hlo : lo < 18446744073709551616) (w : World) :
    Calls Tryz.prog 201 #[.int .u64 0, .int .u64 lo, .int .u64 y] w fun e w' =>
      e = .returned (.tuple #[.int .u64 ((lo / y : Nat) : Int), .int .u64 ((lo % y : Nat) : Int)]) ∧ ∃ n, w' = w.drewN n := by
  have h1 : ((y : Int) == 0) = false := by rw [beq_eq_false_iff_ne]; omega
  have h2 : decide ((y : Int) ≤ 0) = false := by rw [decide_eq_false_iff_not]; omega
  have h3 : lo / y < 18446744073709551616 := Nat.lt_of_le_of_lt (Nat.div_le_self _ _) hlo
  go_enter Tryz.func201, Tryz.ntmps201
  go_wp2
  go_quiet (fail)
  go_wp2
  go_ret2
  refine ⟨?_, _, rfl⟩
  have e1 : IntKind.u64.wrap ((lo : Int) / (y : Int)) = ((lo / y : Nat) : Int) := by
    rw [← Int.natCast_ediv]; exact wrapN _ h3
  simp [e1]

theorem lz (y s : Nat) (hs : 64 - Lib.bitLen y = s) (hs2 : Lib.bitLen y ≤ 64) (hy2 : y < 18446744073709551616) (w : World) :
    Calls Tryz.prog 227 #[.int .u64 y] w fun e w' => e = .returned (.int .i64 (s : Int)) ∧ w' = w := by
  refine (Tryz.bits_LeadingZeros64 y w (by omega) (by omega)).mono ?_
  rintro e w' ⟨rfl, rfl⟩
  refine ⟨?_, rfl⟩
  have : ((64 : Int) - (Lib.bitLen (y : Int).toNat : Int)) = s := by rw [Int.toNat_natCast]; omega
  rw [this]

theorem next {Q R Y1 U : Nat} (h : Q * Y1 + R = U) (h0 : 0 < Q) : (Q - 1) * Y1 + (R + Y1) = U := by
  obtain ⟨k, rfl⟩ : ∃ k, Q = k + 1 := ⟨Q - 1, by omega⟩
  rw [Nat.add_mul] at h
  simp only [Nat.add_sub_cancel]
  omega

theorem prod {Q Y0 : Nat} (hQ : ¬ (4294967296 : Int) ≤ (Q : Int)) (hY : (Y0 : Int) < 4294967296) : Q * Y0 < 18446744073709551616 := by
  have := Nat.mul_le_mul (show Q ≤ 4294967295 by omega) (show Y0 ≤ 4294967295 by omega)
  omega

theorem prodw {Q Y0 : Nat} (hQ : ¬ (4294967296 : Int) ≤ (Q : Int)) (hY : (Y0 : Int) < 4294967296) : IntKind.u64.wrap ((Q : Int) * (Y0 : Int)) = ((Q * Y0 : Nat) : Int) := by
  rw [← Int.natCast_mul]; exact wrapN _ (prod hQ hY)

/-- What is known of one digit: the first guess, and when it falls and stands. -/
structure Digit (U W1 Y1 Y0 qa ra q : Nat) : Prop where
  eq : qa * Y1 + ra = U
  down : ∀ Q R, Q * Y1 + R = U → (4294967296 ≤ Q ∨ 4294967296 * R + W1 < Q * Y0) → q < Q
  up : ∀ Q R, Q * Y1 + R = U → Q * Y0 ≤ 4294967296 * R + W1 → Q ≤ q
  up2 : ∀ Q R, Q * Y1 + R = U → Q ≤ 4294967296 → 4294967296 ≤ R → Q ≤ q

set_option maxRecDepth 100000 in
set_option maxHeartbeats 4000000 in
/-- The walk, over the numbers that the code reckons: each with the equation that the machine's arithmetic gives for it. -/
theorem div_core (hi lo y s Y Y1 Y0 U1 W W1 W0 qa ma ra q1 A B C U0 qb mb rb q0 A2 B2 C2 D2 : Nat) (hhi : 0 < hi) (hlt : hi < y) (hs2 : Lib.bitLen y ≤ 64) (hy2 : Hid (y < 18446744073709551616))
    (HS : Hid (64 - Lib.bitLen y = s)) (hs3 : s < 64)
    (hY : IntKind.u64.wrap ((y : Int) * 2 ^ s) = (Y : Int)) (hY1 : (Y : Int) / 4294967296 = (Y1 : Int)) (hY0 : bits .and .u64 (Y : Int) 4294967295 = (Y0 : Int))
    (hU : bits .or .u64 (IntKind.u64.wrap ((hi : Int) * 2 ^ s)) ((lo : Int) / 2 ^ (64 - s)) = (U1 : Int))
    (hW : IntKind.u64.wrap ((lo : Int) * 2 ^ s) = (W : Int)) (hW1 : (W : Int) / 4294967296 = (W1 : Int)) (hW0 : bits .and .u64 (W : Int) 4294967295 = (W0 : Int))
    (hqa : IntKind.u64.wrap ((U1 : Int) / (Y1 : Int)) = (qa : Int)) (hma : IntKind.u64.wrap ((qa : Int) * (Y1 : Int)) = (ma : Int)) (hra : IntKind.u64.wrap ((U1 : Int) - (ma : Int)) = (ra : Int))
    (hA : IntKind.u64.wrap ((U1 : Int) * 4294967296) = (A : Int)) (hB : IntKind.u64.wrap ((A : Int) + (W1 : Int)) = (B : Int)) (hC : IntKind.u64.wrap ((q1 : Int) * (Y : Int)) = (C : Int)) (hU0 : IntKind.u64.wrap ((B : Int) - (C : Int)) = (U0 : Int))
    (hqb : IntKind.u64.wrap ((U0 : Int) / (Y1 : Int)) = (qb : Int)) (hmb : IntKind.u64.wrap ((qb : Int) * (Y1 : Int)) = (mb : Int)) (hrb : IntKind.u64.wrap ((U0 : Int) - (mb : Int)) = (rb : Int))
    (hA2 : IntKind.u64.wrap ((U0 : Int) * 4294967296) = (A2 : Int)) (hB2 : IntKind.u64.wrap ((A2 : Int) + (W0 : Int)) = (B2 : Int)) (hC2 : IntKind.u64.wrap ((q0 : Int) * (Y : Int)) = (C2 : Int)) (hD2 : IntKind.u64.wrap ((B2 : Int) - (C2 : Int)) = (D2 : Int))
    (b1 : (2147483648 : Int) ≤ (Y1 : Int)) (b2 : (Y1 : Int) < 4294967296) (b3 : (Y0 : Int) < 4294967296) (b4 : (W1 : Int) < 4294967296) (b5 : (W0 : Int) < 4294967296)
    (b6 : (q1 : Int) < 4294967296) (b7 : (q0 : Int) < 4294967296)
    (G1 : Digit U1 W1 Y1 Y0 qa ra q1) (hR1 : (ra : Int) < 4294967296) (hQ1 : (qa : Int) ≤ 4294967297) (hl1 : q1 ≤ qa)
    (G2 : Digit U0 W0 Y1 Y0 qb rb q0) (hR2 : (rb : Int) < 4294967296) (hQ2 : (qb : Int) ≤ 4294967297) (hl2 : q0 ≤ qb)
    (r1 r2 : Nat) (f1 : Hid (q1 * 4294967296 + q0 = r1)) (f2 : Hid (D2 / 2 ^ s = r2))
    (w : World) :
    Calls Tryz.prog 201 #[.int .u64 hi, .int .u64 lo, .int .u64 y] w fun e w' =>
      e = .returned (.tuple #[.int .u64 (r1 : Int), .int .u64 (r2 : Int)]) ∧ ∃ n, w' = w.drewN n := by
  have h1 : ((y : Int) == 0) = false := by rw [beq_eq_false_iff_ne]; omega
  have h2 : decide ((y : Int) ≤ (hi : Int)) = false := by rw [decide_eq_false_iff_not]; omega
  have h2' : decide (y ≤ hi) = false := by rw [decide_eq_false_iff_not]; omega
  have h3 : ((hi : Int) == 0) = false := by rw [beq_eq_false_iff_ne]; omega
  have h4 : ((Y1 : Int) == 0) = false := by rw [beq_eq_false_iff_ne]; omega
  have h4' : ¬ ((Y1 : Int) = 0) := by omega
  go_enter Tryz.func201, Tryz.ntmps201
  go_upto_block 0 with (go_at_call 227; refine (lz _ s HS.out hs2 hy2.out _).mono ?_; rintro e w' ⟨rfl, rfl⟩)
  go_cut [15, 16] (fun q r wr => q = .int .u64 (q1 : Int) ∧ wr = w')
  case first =>
    go_wp2_with fail
    go_loop [15, 16] (fun q r => ∃ Q R : Nat, q = .int .u64 (Q : Int) ∧ r = .int .u64 (R : Int) ∧ Hid (Q * Y1 + R = U1) ∧ (R : Int) < 4294967296 ∧ (Q : Int) ≤ 4294967297 ∧ q1 ≤ Q) (fun q _ => (intOf q).toNat)
    case atStart => exact ⟨_, _, rfl, rfl, Lib.hid G1.eq, hR1, hQ1, hl1⟩
    case round =>
      obtain ⟨Q, R, rfl, rfl, HE, hR, hQ, hl⟩ := hrel
      clear hY hY1 hY0 hU hW hW1 hW0 hqa hma hra hA hB hC hU0 hqb hmb hrb hA2 hB2 hC2 hD2 h1 h2 h2' h3 h4 h4'
      by_cases c1 : (4294967296 : Int) ≤ (Q : Int)
      · have c1b : decide ((4294967296 : Int) ≤ (Q : Int)) = true := decide_eq_true (by omega)
        have hd : q1 < Q := G1.down Q R HE.out (.inl (by omega))
        have HN : Hid ((Q - 1) * Y1 + (R + Y1) = U1) := Lib.hid (next HE.out (by omega))
        by_cases c3 : (4294967296 : Int) ≤ (R : Int) + (Y1 : Int)
        · have c3b : decide ((4294967296 : Int) ≤ (R : Int) + (Y1 : Int)) = true := decide_eq_true c3
          have hx := G1.up2 (Q - 1) (R + Y1) HN.out (by omega) (by omega)
          go_wp2
          go_meet
          case rel => exact ⟨by rw [show ((Q : Int) - 1) = (q1 : Int) from by omega], rfl⟩
        · have c3b : decide ((4294967296 : Int) ≤ (R : Int) + (Y1 : Int)) = false := decide_eq_false c3
          go_wp2
          go_round
          case rel => exact ⟨Q - 1, R + Y1, by rw [show ((Q : Int) - 1) = ((Q - 1 : Nat) : Int) from by omega], by go_num, HN, by omega, by omega, by omega⟩
          case measure => simp [intOf]; omega
      · have c1b : decide ((4294967296 : Int) ≤ (Q : Int)) = false := decide_eq_false c1
        have hP := prodw c1 b3
        have hP2 := prod c1 b3
        obtain ⟨Pn, ePn⟩ : ∃ Pn, Pn = Q * Y0 := ⟨_, rfl⟩
        rw [← ePn] at hP hP2
        have EP := Lib.hid ePn
        clear ePn
        by_cases c2 : (4294967296 : Int) * (R : Int) + (W1 : Int) < (Pn : Int)
        · have c2b : decide ((4294967296 : Int) * (R : Int) + (W1 : Int) < (Pn : Int)) = true := decide_eq_true c2
          have hd : q1 < Q := G1.down Q R HE.out (.inr (by rw [← EP.out]; omega))
          have HN : Hid ((Q - 1) * Y1 + (R + Y1) = U1) := Lib.hid (next HE.out (by omega))
          by_cases c3 : (4294967296 : Int) ≤ (R : Int) + (Y1 : Int)
          · have c3b : decide ((4294967296 : Int) ≤ (R : Int) + (Y1 : Int)) = true := decide_eq_true c3
            have hx := G1.up2 (Q - 1) (R + Y1) HN.out (by omega) (by omega)
            clear hP2
            go_wp2
            go_meet
            case rel => exact ⟨by rw [show ((Q : Int) - 1) = (q1 : Int) from by omega], rfl⟩
          · have c3b : decide ((4294967296 : Int) ≤ (R : Int) + (Y1 : Int)) = false := decide_eq_false c3
            clear hP2
            go_wp2
            go_round
            case rel => exact ⟨Q - 1, R + Y1, by rw [show ((Q : Int) - 1) = ((Q - 1 : Nat) : Int) from by omega], by go_num, HN, by omega, by omega, by omega⟩
            case measure => simp [intOf]; omega
        · have c2b : decide ((4294967296 : Int) * (R : Int) + (W1 : Int) < (Pn : Int)) = false := decide_eq_false c2
          have hx := G1.up Q R HE.out (by rw [← EP.out]; omega)
          clear hP2
          go_wp2
          go_meet
          case rel => exact ⟨by rw [show (Q : Int) = (q1 : Int) from by omega], rfl⟩
  obtain ⟨rfl, rfl⟩ := hcut
  go_upto_block 2 with fail
  go_cut [18, 16] (fun q r wr => q = .int .u64 (q0 : Int) ∧ wr = wc)
  case first =>
    go_wp2_with fail
    go_loop [18, 16] (fun q r => ∃ Q R : Nat, q = .int .u64 (Q : Int) ∧ r = .int .u64 (R : Int) ∧ Hid (Q * Y1 + R = U0) ∧ (R : Int) < 4294967296 ∧ (Q : Int) ≤ 4294967297 ∧ q0 ≤ Q) (fun q _ => (intOf q).toNat)
    case atStart => exact ⟨_, _, rfl, rfl, Lib.hid G2.eq, hR2, hQ2, hl2⟩
    case round =>
      obtain ⟨Q, R, rfl, rfl, HE, hR, hQ, hl⟩ := hrel
      clear hY hY1 hY0 hU hW hW1 hW0 hqa hma hra hA hB hC hU0 hqb hmb hrb hA2 hB2 hC2 hD2 h1 h2 h2' h3 h4 h4'
      by_cases c1 : (4294967296 : Int) ≤ (Q : Int)
      · have c1b : decide ((4294967296 : Int) ≤ (Q : Int)) = true := decide_eq_true (by omega)
        have hd : q0 < Q := G2.down Q R HE.out (.inl (by omega))
        have HN : Hid ((Q - 1) * Y1 + (R + Y1) = U0) := Lib.hid (next HE.out (by omega))
        by_cases c3 : (4294967296 : Int) ≤ (R : Int) + (Y1 : Int)
        · have c3b : decide ((4294967296 : Int) ≤ (R : Int) + (Y1 : Int)) = true := decide_eq_true c3
          have hx := G2.up2 (Q - 1) (R + Y1) HN.out (by omega) (by omega)
          go_wp2
          go_meet
          case rel => exact ⟨by rw [show ((Q : Int) - 1) = (q0 : Int) from by omega], rfl⟩
        · have c3b : decide ((4294967296 : Int) ≤ (R : Int) + (Y1 : Int)) = false := decide_eq_false c3
          go_wp2
          go_round
          case rel => exact ⟨Q - 1, R + Y1, by rw [show ((Q : Int) - 1) = ((Q - 1 : Nat) : Int) from by omega], by go_num, HN, by omega, by omega, by omega⟩
          case measure => simp [intOf]; omega
      · have c1b : decide ((4294967296 : Int) ≤ (Q : Int)) = false := decide_eq_false c1
        have hP := prodw c1 b3
        have hP2 := prod c1 b3
        obtain ⟨Pn, ePn⟩ : ∃ Pn, Pn = Q * Y0 := ⟨_, rfl⟩
        rw [← ePn] at hP hP2
        have EP := Lib.hid ePn
        clear ePn
        by_cases c2 : (4294967296 : Int) * (R : Int) + (W0 : Int) < (Pn : Int)
        · have c2b : decide ((4294967296 : Int) * (R : Int) + (W0 : Int) < (Pn : Int)) = true := decide_eq_true c2
          have hd : q0 < Q := G2.down Q R HE.out (.inr (by rw [← EP.out]; omega))
          have HN : Hid ((Q - 1) * Y1 + (R + Y1) = U0) := Lib.hid (next HE.out (by omega))
          by_cases c3 : (4294967296 : Int) ≤ (R : Int) + (Y1 : Int)
          · have c3b : decide ((4294967296 : Int) ≤ (R : Int) + (Y1 : Int)) = true := decide_eq_true c3
            have hx := G2.up2 (Q - 1) (R + Y1) HN.out (by omega) (by omega)
            clear hP2
            go_wp2
            go_meet
            case rel => exact ⟨by rw [show ((Q : Int) - 1) = (q0 : Int) from by omega], rfl⟩
          · have c3b : decide ((4294967296 : Int) ≤ (R : Int) + (Y1 : Int)) = false := decide_eq_false c3
            clear hP2
            go_wp2
            go_round
            case rel => exact ⟨Q - 1, R + Y1, by rw [show ((Q : Int) - 1) = ((Q - 1 : Nat) : Int) from by omega], by go_num, HN, by omega, by omega, by omega⟩
            case measure => simp [intOf]; omega
        · have c2b : decide ((4294967296 : Int) * (R : Int) + (W0 : Int) < (Pn : Int)) = false := decide_eq_false c2
          have hx := G2.up Q R HE.out (by rw [← EP.out]; omega)
          clear hP2
          go_wp2
          go_meet
          case rel => exact ⟨by rw [show (Q : Int) = (q0 : Int) from by omega], rfl⟩
  obtain ⟨rfl, rfl⟩ := hcut
  go_wp2
  go_ret2
  refine ⟨?_, 0, rfl⟩
  have e1 : ((q1 : Int) * 4294967296 + (q0 : Int)) = (r1 : Int) := by have := f1.out; omega
  have e2 : ((D2 : Int) / 2 ^ s) = (r2 : Int) := by rw [← f2.out]; simp
  simp [e1, e2]

theorem bitLen_pow (y : Nat) (h0 : 0 < y) (h : y < 18446744073709551616) :
    Lib.bitLen y ≤ 64 ∧ 0 < Lib.bitLen y ∧ y < 2 ^ Lib.bitLen y ∧ 2 ^ (Lib.bitLen y - 1) ≤ y := by
  have h64 := Lib.bitLen_le y 64 (by omega) (by omega)
  have key : ∀ k, k ≤ 64 → ∀ y, 0 < y → y < 2 ^ k → 0 < Lib.bitLen y ∧ y < 2 ^ Lib.bitLen y ∧ 2 ^ (Lib.bitLen y - 1) ≤ y := by
    intro k
    induction k with
    | zero => intro _ y h0 h1; simp at h1; omega
    | succ k ih =>
      intro hk y h0 h1
      have hb : y < 2 ^ 64 := Nat.lt_of_lt_of_le h1 (Nat.pow_le_pow_right (by omega) hk)
      have hh := Lib.bitLen_half y (by omega) hb
      by_cases h2 : y / 2 = 0
      · have hy1 : y = 1 := by omega
        subst hy1
        decide
      · obtain ⟨a1, a2, a3⟩ := ih (by omega) (y / 2) (by omega) (by rw [Nat.pow_succ] at h1; omega)
        rw [hh]
        generalize Lib.bitLen (y / 2) = m at *
        obtain ⟨m, rfl⟩ : ∃ j, m = j + 1 := ⟨m - 1, by omega⟩
        simp only [Nat.add_sub_cancel] at a3
        refine ⟨by omega, ?_, ?_⟩
        · rw [Nat.pow_add]; omega
        · rw [show 1 + (m + 1) - 1 = m + 1 from by omega, Nat.pow_succ]; omega
  obtain ⟨a1, a2, a3⟩ := key 64 (by omega) y h0 (by omega)
  exact ⟨h64, a1, a2, a3⟩

/-- The scaled divisor lies in the upper half. -/
theorem scaled_div (y : Nat) (h0 : 0 < y) (h : y < 18446744073709551616) :
    9223372036854775808 ≤ y * 2 ^ (64 - Lib.bitLen y) ∧ y * 2 ^ (64 - Lib.bitLen y) < 18446744073709551616 ∧ 64 - Lib.bitLen y < 64 := by
  obtain ⟨a0, a1, a2, a3⟩ := bitLen_pow y h0 h
  generalize Lib.bitLen y = m at *
  have e1 : 2 ^ m * 2 ^ (64 - m) = 18446744073709551616 := by rw [← Nat.pow_add, Nat.add_sub_cancel' a0]
  have e2 : 2 ^ (m - 1) * 2 ^ (64 - m) = 9223372036854775808 := by
    rw [← Nat.pow_add, show m - 1 + (64 - m) = 63 from by omega]
  refine ⟨?_, ?_, by omega⟩
  · rw [← e2]; exact Nat.mul_le_mul_right _ a3
  · rw [← e1]; exact Nat.mul_lt_mul_of_pos_right a2 (Nat.pow_pos (by omega))
end Go.Proofs.YtniajhmbdbgmgaaGreatDoor.XDiv

/- math/bits.Div64 answers the quotient and the rest of hi * 2^64 + lo by y, wherever hi < y: the numbers laid into the walk. -/
namespace Go.Proofs.YtniajhmbdbgmgaaGreatDoor.XDiv
open Go Go.RowKit Go.Proofs

theorem wrapM (a : Nat) : IntKind.u64.wrap (a : Int) = ((a % 18446744073709551616 : Nat) : Int) := by rw [IntKind.wrap_u64]; omega
theorem mulw (a b : Nat) : IntKind.u64.wrap ((a : Int) * (b : Int)) = ((a * b % 18446744073709551616 : Nat) : Int) := by
  rw [← Int.natCast_mul]; exact wrapM _
theorem mulw32 (a : Nat) : IntKind.u64.wrap ((a : Int) * 4294967296) = ((a * 4294967296 % 18446744073709551616 : Nat) : Int) := mulw a 4294967296
theorem addw (a b : Nat) : IntKind.u64.wrap (((a % 18446744073709551616 : Nat) : Int) + (b : Int)) = (((a + b) % 18446744073709551616 : Nat) : Int) := by
  rw [IntKind.wrap_u64]; omega
theorem subw (n c r : Nat) (h : c + r = n) (hr : r < 18446744073709551616) :
    IntKind.u64.wrap (((n % 18446744073709551616 : Nat) : Int) - ((c % 18446744073709551616 : Nat) : Int)) = (r : Int) := by
  rw [IntKind.wrap_u64]; omega
theorem quow (a b : Nat) (h : a < 18446744073709551616) : IntKind.u64.wrap ((a : Int) / (b : Int)) = ((a / b : Nat) : Int) := by
  rw [← Int.natCast_ediv]; exact wrapN _ (Nat.lt_of_le_of_lt (Nat.div_le_self _ _) h)
theorem powc (a s : Nat) : (a : Int) * 2 ^ s = ((a * 2 ^ s : Nat) : Int) := by simp
theorem powd (a s : Nat) : (a : Int) / 2 ^ s = ((a / 2 ^ s : Nat) : Int) := by simp

theorem digit {U W1 Y : Nat} (hU : U < Y) (hW : W1 < 4294967296) :
    Digit U W1 (Y / 4294967296) (Y % 4294967296) (U / (Y / 4294967296)) (U % (Y / 4294967296)) ((U * 4294967296 + W1) / Y) where
  eq := Nat.div_add_mod' _ _
  down _ _ h hc := PDiv.down hU hW h hc
  up _ _ h hc := PDiv.up hU h hc
  up2 _ _ h hQ hR := PDiv.up2 hU h hQ hR

theorem div_pos (hi lo y : Nat) (hhi : 0 < hi) (hlt : hi < y) (hlo : lo < 18446744073709551616) (hy2 : y < 18446744073709551616) (w : World) :
    Calls Tryz.prog 201 #[.int .u64 hi, .int .u64 lo, .int .u64 y] w fun e w' =>
      e = .returned (.tuple #[.int .u64 (((hi * 18446744073709551616 + lo) / y : Nat) : Int), .int .u64 (((hi * 18446744073709551616 + lo) % y : Nat) : Int)]) ∧ ∃ n, w' = w.drewN n := by
  have hy0 : 0 < y := by omega
  obtain ⟨a0, a1, a2, a3⟩ := bitLen_pow y hy0 hy2
  obtain ⟨y1, y2, y3⟩ := scaled_div y hy0 hy2
  obtain ⟨s, hs⟩ : ∃ s, 64 - Lib.bitLen y = s := ⟨_, rfl⟩
  rw [hs] at y1 y2 y3
  have hk : 0 < 2 ^ s := Nat.pow_pos (by omega)
  have hkj : 2 ^ s * 2 ^ (64 - s) = 18446744073709551616 := by
    rw [← Nat.pow_add, Nat.add_sub_cancel' (by omega)]
  obtain ⟨hn, hU, hl⟩ := PDiv.upper (hi := hi) (lo := lo) (y := y) hk hkj hlo hlt
  obtain ⟨Y, eY⟩ : ∃ Y, Y = y * 2 ^ s := ⟨_, rfl⟩
  rw [← eY] at y1 y2 hU
  obtain ⟨U1, eU⟩ : ∃ U1, U1 = hi * 2 ^ s + lo / 2 ^ (64 - s) := ⟨_, rfl⟩
  rw [← eU] at hU hn
  have hUM : U1 < 18446744073709551616 := by omega
  obtain ⟨W, eW⟩ : ∃ W, W = lo * 2 ^ s % 18446744073709551616 := ⟨_, rfl⟩
  rw [← eW] at hn
  have hWM : W < 18446744073709551616 := by rw [eW]; exact Nat.mod_lt _ (by omega)
  have hW1 : W / 4294967296 < 4294967296 := by omega
  have hW0 : W % 4294967296 < 4294967296 := by omega
  have hY1 : 2147483648 ≤ Y / 4294967296 ∧ Y / 4294967296 < 4294967296 := by omega
  obtain ⟨p1, p2⟩ := PDiv.rest (U := U1) (u := W / 4294967296) (Y := Y) (by omega)
  have hq1 := PDiv.small hU hW1
  have hU0M := p1
  obtain ⟨q1, eq1⟩ : ∃ q1, q1 = (U1 * 4294967296 + W / 4294967296) / Y := ⟨_, rfl⟩
  obtain ⟨U0, eU0⟩ : ∃ U0, U0 = (U1 * 4294967296 + W / 4294967296) % Y := ⟨_, rfl⟩
  rw [← eq1, ← eU0] at p2
  rw [← eU0] at p1 hU0M
  obtain ⟨p3, p4⟩ := PDiv.rest (U := U0) (u := W % 4294967296) (Y := Y) (by omega)
  have hq0 := PDiv.small p1 hW0
  obtain ⟨q0, eq0⟩ : ∃ q0, q0 = (U0 * 4294967296 + W % 4294967296) / Y := ⟨_, rfl⟩
  obtain ⟨D2, eD2⟩ : ∃ D2, D2 = (U0 * 4294967296 + W % 4294967296) % Y := ⟨_, rfl⟩
  rw [← eq0, ← eD2] at p4
  rw [← eD2] at p3
  obtain ⟨z1, z2⟩ := PDiv.whole hk eY hn p2 p4 p3
  have hU0M2 : U0 < 18446744073709551616 := by omega
  have hor : (hi * 2 ^ s ||| lo / 2 ^ (64 - s)) = U1 := by
    rw [eU, Nat.mul_comm hi, ← Nat.two_pow_add_eq_or_of_lt hl]
  have hhk : hi * 2 ^ s < 18446744073709551616 := by
    have : hi * 2 ^ s ≤ U1 := by rw [eU]; exact Nat.le_add_right _ _
    omega
  have hlj : lo / 2 ^ (64 - s) < 18446744073709551616 := Nat.lt_of_le_of_lt (Nat.div_le_self _ _) hlo
  have d1 : U1 / (Y / 4294967296) * (Y / 4294967296) ≤ U1 := Nat.div_mul_le_self _ _
  have d2 : U0 / (Y / 4294967296) * (Y / 4294967296) ≤ U0 := Nat.div_mul_le_self _ _
  refine div_core hi lo y s Y (Y / 4294967296) (Y % 4294967296) U1 W (W / 4294967296) (W % 4294967296)
    (U1 / (Y / 4294967296)) (U1 / (Y / 4294967296) * (Y / 4294967296)) (U1 % (Y / 4294967296)) q1
    (U1 * 4294967296 % 18446744073709551616) ((U1 * 4294967296 + W / 4294967296) % 18446744073709551616) (q1 * Y % 18446744073709551616) U0
    (U0 / (Y / 4294967296)) (U0 / (Y / 4294967296) * (Y / 4294967296)) (U0 % (Y / 4294967296)) q0
    (U0 * 4294967296 % 18446744073709551616) ((U0 * 4294967296 + W % 4294967296) % 18446744073709551616) (q0 * Y % 18446744073709551616) D2
    hhi hlt a0 (Lib.hid hy2) (Lib.hid hs) y3 ?_ ?_ ?_ ?_ ?_ ?_ ?_ (quow _ _ hUM) ?_ ?_ (mulw32 _) (addw _ _) (mulw _ _) (subw _ _ _ p2 hU0M2)
    (quow _ _ hU0M2) ?_ ?_ (mulw32 _) (addw _ _) (mulw _ _) (subw _ _ _ p4 (by omega))
    (by omega) (by omega) (by omega) (by omega) (by omega) (by omega) (by omega)
    (eq1 ▸ digit hU hW1) ?_ ?_ ?_ (eq0 ▸ digit p1 hW0) ?_ ?_ ?_ _ _ (Lib.hid z1) (Lib.hid z2) w
  · rw [powc, ← eY]; exact wrapN _ y2
  · omega
  · exact Mul64.maskN Y y2
  · rw [powc, powd, wrapN _ hhk, bits_or_u64_nat _ _ hhk hlj, hor]
  · rw [powc, wrapM, eW]
  · omega
  · exact Mul64.maskN W hWM
  · rw [← Int.natCast_mul]; exact wrapN _ (by omega)
  · have := Nat.div_add_mod' U1 (Y / 4294967296)
    have e : ((U1 : Int) - ((U1 / (Y / 4294967296) * (Y / 4294967296) : Nat) : Int)) = ((U1 % (Y / 4294967296) : Nat) : Int) := by omega
    rw [e]; exact wrapN _ (by have := Nat.mod_lt U1 (show 0 < Y / 4294967296 by omega); omega)
  · rw [← Int.natCast_mul]; exact wrapN _ (by omega)
  · have := Nat.div_add_mod' U0 (Y / 4294967296)
    have e : ((U0 : Int) - ((U0 / (Y / 4294967296) * (Y / 4294967296) : Nat) : Int)) = ((U0 % (Y / 4294967296) : Nat) : Int) := by omega
    rw [e]; exact wrapN _ (by have := Nat.mod_lt U0 (show 0 < Y / 4294967296 by omega); omega)
  · have := Nat.mod_lt U1 (show 0 < Y / 4294967296 by omega); omega
  · have := PDiv.qhat_le y1 y2 hU; omega
  · rw [eq1]; exact PDiv.start y1 hW1
  · have := Nat.mod_lt U0 (show 0 < Y / 4294967296 by omega); omega
  · have := PDiv.qhat_le y1 y2 p1; omega
  · rw [eq0]; exact PDiv.start y1 hW0

/-- bits.Div64, wherever it does not panic. -/
theorem div64 (hi lo y : Nat) (hlt : hi < y) (hlo : lo < 18446744073709551616) (hy2 : y < 18446744073709551616) (w : World) :
    Calls Tryz.prog 201 #[.int .u64 hi, .int .u64 lo, .int .u64 y] w fun e w' =>
      e = .returned (.tuple #[.int .u64 (((hi * 18446744073709551616 + lo) / y : Nat) : Int), .int .u64 (((hi * 18446744073709551616 + lo) % y : Nat) : Int)]) ∧ ∃ n, w' = w.drewN n := by
  by_cases h : hi = 0
  · subst h
    have := div_zero lo y (by omega) hlo w
    simpa using this
  · exact div_pos hi lo y (by omega) hlt hlo hy2 w
end Go.Proofs.YtniajhmbdbgmgaaGreatDoor.XDiv

/- The Go functions of layer 1 (num) answer what the plain ones say. -/
namespace Go.Proofs.YtniajhmbdbgmgaaGreatDoor.XNum
open Go Go.RowKit Go.Proofs Go.Proofs.YtniajhmbdbgmgaaGreatDoor
attribute [local go_sem] max2i min2i maxTwo minTwo

theorem ri {k : IntKind} {a b : Int} (h : a = b) : Ending.returned (.int k a) = .returned (.int k b) := by rw [h]

theorem clamp (a : Int) (w : World) : Calls Tryz.prog 45 #[.int .i64 a] w fun e w' => e = .returned (.int .i64 (Num.clamp a)) ∧ w = w' := by
  go_enter Tryz.func45, Tryz.ntmps45
  go_wp2
  all_goals
    go_ret
    refine ⟨ri ?_, rfl⟩
    show _ = Num.clamp a
    unfold Num.clamp
    repeat' split
    all_goals omega

theorem neg (a : Int) (w : World) : Calls Tryz.prog 91 #[.int .i64 a] w fun e w' => e = .returned (.int .i64 (Num.neg a)) ∧ w = w' := by
  have ha := Num.clamp_le a
  go_enter Tryz.func91, Tryz.ntmps91
  go_wp2_with (go_at_call 45; refine (clamp _ _).mono ?_; rintro e w' ⟨rfl, rfl⟩)
  go_ret
  exact ⟨by simp [Num.neg], rfl⟩

theorem split (a : Int) (w : World) : Calls Tryz.prog 153 #[.int .i64 a] w fun e w' => e = .returned (.tuple #[.int .u64 (Num.size a : Int), .bool (Num.below a)]) ∧ w = w' := by
  have ha := Num.clamp_le a
  by_cases h : Num.clamp a < 0
  · go_enter Tryz.func153, Tryz.ntmps153
    go_wp2_with (go_at_call 45; refine (clamp _ _).mono ?_; rintro e w' ⟨rfl, rfl⟩)
    go_ret2
    have e1 : ((Num.size a : Nat) : Int) = -Num.clamp a := by unfold Num.size; omega
    exact ⟨by simp [Num.below, h, e1], rfl⟩
  · go_enter Tryz.func153, Tryz.ntmps153
    go_wp2_with (go_at_call 45; refine (clamp _ _).mono ?_; rintro e w' ⟨rfl, rfl⟩)
    go_ret2
    have e1 : ((Num.size a : Nat) : Int) = Num.clamp a := by unfold Num.size; omega
    have h' : 0 ≤ Num.clamp a := by omega
    exact ⟨by simp [Num.below, h', e1], rfl⟩

theorem div64q (hi lo d q r : Nat) (hlt : hi < d) (hlo : lo < 18446744073709551616) (hd : d < 18446744073709551616)
    (hq : (hi * 18446744073709551616 + lo) / d = q) (hr : (hi * 18446744073709551616 + lo) % d = r) (w : World) :
    Calls Tryz.prog 201 #[.int .u64 hi, .int .u64 lo, .int .u64 d] w fun e w' => e = .returned (.tuple #[.int .u64 (q : Int), .int .u64 (r : Int)]) ∧ Dr w w' := by
  refine (XDiv.div64 hi lo d hlt hlo hd w).mono ?_
  rintro e w' ⟨rfl, n, rfl⟩
  rw [hq, hr]
  exact ⟨rfl, ⟨_, rfl⟩⟩

theorem mul64q (x y hi lo : Nat) (hx : x < 18446744073709551616) (hy : y < 18446744073709551616) (hhi : x * y / 18446744073709551616 = hi) (hlo : x * y % 18446744073709551616 = lo) (w : World) :
    Calls Tryz.prog 200 #[.int .u64 x, .int .u64 y] w fun e w' => e = .returned (.tuple #[.int .u64 (hi : Int), .int .u64 (lo : Int)]) ∧ w = w' := by
  refine (Tryz.bits_Mul64 x y hx hy w).mono ?_
  rintro e w' ⟨rfl, rfl⟩
  rw [hhi, hlo]
  exact ⟨rfl, rfl⟩

theorem scaled (x y d : Nat) (b : Bool) (hx : x < 18446744073709551616) (hy : y < 18446744073709551616) (hd0 : 0 < d) (hd : d < 18446744073709551616) (w : World) :
    Calls Tryz.prog 154 #[.int .u64 x, .int .u64 y, .int .u64 d, .bool b] w fun e w' => e = .returned (.int .i64 (Num.sgn b (Num.rnd x y d))) ∧ Dr w w' := by
  obtain ⟨hi, hhi⟩ : ∃ hi, x * y / 18446744073709551616 = hi := ⟨_, rfl⟩
  obtain ⟨lo, hlo⟩ : ∃ lo, x * y % 18446744073709551616 = lo := ⟨_, rfl⟩
  have hlo2 : lo < 18446744073709551616 := by omega
  have hxy : hi * 18446744073709551616 + lo = x * y := by omega
  obtain ⟨q, hq⟩ : ∃ q, x * y / d = q := ⟨_, rfl⟩
  obtain ⟨r, hr⟩ : ∃ r, x * y % d = r := ⟨_, rfl⟩
  have hr2 : r < d := by rw [← hr]; exact Nat.mod_lt _ hd0
  have HX := Lib.hid hx; have HY := Lib.hid hy; have HD := Lib.hid hd; have HLO := Lib.hid hlo2
  have Hhi := Lib.hid hhi; have Hlo := Lib.hid hlo
  have Hq : Hid ((hi * 18446744073709551616 + lo) / d = q) := Lib.hid (by rw [hxy]; exact hq)
  have Hr : Hid ((hi * 18446744073709551616 + lo) % d = r) := Lib.hid (by rw [hxy]; exact hr)
  have hrnd : Num.rnd x y d = if q < 1000000000000000 then (if d < 2 * r ∨ (2 * r = d ∧ q % 2 = 1) then q + 1 else q) else 1000000000000000 := by
    unfold Num.rnd; rw [hq, hr]
  have Hrnd := Lib.hid hrnd
  have hbig : d ≤ hi → 1000000000000000 ≤ q := fun h => by
    rw [← hq, Nat.le_div_iff_mul_le hd0, ← hxy]
    have := Nat.mul_le_mul_left 18446744073709551616 h
    omega
  have hbd : (d : Int) ≤ 18446744073709551615 := by omega
  clear hrnd hq hr hxy hhi hlo hx hy hd hlo2
  by_cases c1 : (hi : Int) < (d : Int)
  · have c1b : decide ((hi : Int) < (d : Int)) = true := decide_eq_true c1
    by_cases c2 : (q : Int) < 1000000000000000
    · have c2b : decide ((q : Int) < 1000000000000000) = true := decide_eq_true c2
      have key : ∀ n : Nat, (n : Int) ≤ 1000000000000000 → Num.rnd x y d = n → True := fun _ _ _ => trivial
      clear hbig key
      by_cases c3 : (d : Int) - (r : Int) < (r : Int)
      · have c3b : decide ((d : Int) - (r : Int) < (r : Int)) = true := decide_eq_true c3
        have hn : Hid (Num.rnd x y d = q + 1) := Lib.hid (by rw [Hrnd.out, if_pos (by omega), if_pos (.inl (by omega))])
        cases b
        all_goals
          go_enter Tryz.func154, Tryz.ntmps154
          go_wp2_with (first | (go_at_call 200; refine (mul64q _ _ hi lo HX.out HY.out Hhi.out Hlo.out _).mono ?_; rintro e w' ⟨rfl, rfl⟩) | (go_at_call 201; refine (div64q _ _ _ q r (by omega) HLO.out HD.out Hq.out Hr.out _).mono ?_; rintro e w' ⟨rfl, n, rfl⟩))
          go_ret
          exact ⟨by rw [hn.out]; simp [Num.sgn], ⟨_, rfl⟩⟩
      · have c3b : decide ((d : Int) - (r : Int) < (r : Int)) = false := decide_eq_false c3
        by_cases c4 : (r : Int) = (d : Int) - (r : Int)
        · have c4b : ((r : Int) == (d : Int) - (r : Int)) = true := beq_iff_eq.2 c4
          clear c4
          by_cases c5 : (q : Int) % 2 = 1
          · have c5b : ((q : Int) % 2 == 1) = true := beq_iff_eq.2 c5
            have hn : Hid (Num.rnd x y d = q + 1) := Lib.hid (by rw [Hrnd.out, if_pos (by omega), if_pos (.inr ⟨by rw [beq_iff_eq] at c4b; omega, by omega⟩)])
            clear c5
            cases b
            all_goals
              go_enter Tryz.func154, Tryz.ntmps154
              go_wp2_with (first | (go_at_call 200; refine (mul64q _ _ hi lo HX.out HY.out Hhi.out Hlo.out _).mono ?_; rintro e w' ⟨rfl, rfl⟩) | (go_at_call 201; refine (div64q _ _ _ q r (by omega) HLO.out HD.out Hq.out Hr.out _).mono ?_; rintro e w' ⟨rfl, n, rfl⟩))
              go_ret
              exact ⟨by rw [hn.out]; simp [Num.sgn], ⟨_, rfl⟩⟩
          · have c5b : ((q : Int) % 2 == 1) = false := beq_eq_false_iff_ne.2 c5
            have hn : Hid (Num.rnd x y d = q) := Lib.hid (by rw [Hrnd.out, if_pos (by omega), if_neg (by omega)])
            clear c5
            cases b
            all_goals
              go_enter Tryz.func154, Tryz.ntmps154
              go_wp2_with (first | (go_at_call 200; refine (mul64q _ _ hi lo HX.out HY.out Hhi.out Hlo.out _).mono ?_; rintro e w' ⟨rfl, rfl⟩) | (go_at_call 201; refine (div64q _ _ _ q r (by omega) HLO.out HD.out Hq.out Hr.out _).mono ?_; rintro e w' ⟨rfl, n, rfl⟩))
              go_ret
              exact ⟨by rw [hn.out]; simp [Num.sgn], ⟨_, rfl⟩⟩
        · have c4b : ((r : Int) == (d : Int) - (r : Int)) = false := beq_eq_false_iff_ne.2 c4
          have hn : Hid (Num.rnd x y d = q) := Lib.hid (by rw [Hrnd.out, if_pos (by omega), if_neg (by omega)])
          clear c4
          cases b
          all_goals
            go_enter Tryz.func154, Tryz.ntmps154
            go_wp2_with (first | (go_at_call 200; refine (mul64q _ _ hi lo HX.out HY.out Hhi.out Hlo.out _).mono ?_; rintro e w' ⟨rfl, rfl⟩) | (go_at_call 201; refine (div64q _ _ _ q r (by omega) HLO.out HD.out Hq.out Hr.out _).mono ?_; rintro e w' ⟨rfl, n, rfl⟩))
            go_ret
            exact ⟨by rw [hn.out]; simp [Num.sgn], ⟨_, rfl⟩⟩
    · have c2b : decide ((q : Int) < 1000000000000000) = false := decide_eq_false c2
      have hn : Hid (Num.rnd x y d = 1000000000000000) := Lib.hid (by rw [Hrnd.out, if_neg (by omega)])
      clear hbig
      cases b
      all_goals
        go_enter Tryz.func154, Tryz.ntmps154
        go_wp2_with (first | (go_at_call 200; refine (mul64q _ _ hi lo HX.out HY.out Hhi.out Hlo.out _).mono ?_; rintro e w' ⟨rfl, rfl⟩) | (go_at_call 201; refine (div64q _ _ _ q r (by omega) HLO.out HD.out Hq.out Hr.out _).mono ?_; rintro e w' ⟨rfl, n, rfl⟩))
        go_ret
        exact ⟨by rw [hn.out]; simp [Num.sgn], ⟨_, rfl⟩⟩
  · have c1b : decide ((hi : Int) < (d : Int)) = false := decide_eq_false c1
    have hb := hbig (by omega)
    have hn : Hid (Num.rnd x y d = 1000000000000000) := Lib.hid (by rw [Hrnd.out, if_neg (by omega)])
    clear hbig hb
    cases b
    all_goals
      go_enter Tryz.func154, Tryz.ntmps154
      go_wp2_with (go_at_call 200; refine (mul64q _ _ hi lo HX.out HY.out Hhi.out Hlo.out _).mono ?_; rintro e w' ⟨rfl, rfl⟩)
      go_ret
      exact ⟨by rw [hn.out]; simp [Num.sgn], ⟨0, rfl⟩⟩

theorem mul (a b : Int) (w : World) : Calls Tryz.prog 93 #[.int .i64 a, .int .i64 b] w fun e w' => e = .returned (.int .i64 (Num.mul a b)) ∧ Dr w w' := by
  have h1 := Num.size_le a
  have h2 := Num.size_le b
  have H1 : Hid (Num.size a < 18446744073709551616) := Lib.hid (by omega)
  have H2 : Hid (Num.size b < 18446744073709551616) := Lib.hid (by omega)
  clear h1 h2
  go_enter Tryz.func93, Tryz.ntmps93
  go_wp2_with (first | (go_at_call 153; refine (split _ _).mono ?_; rintro e w' ⟨rfl, rfl⟩) | (go_at_call 154; refine (scaled _ _ 1000000 _ H1.out H2.out (by omega) (by omega) _).mono ?_; rintro e w' ⟨rfl, n, rfl⟩))
  go_ret
  exact ⟨by simp [Num.mul], ⟨_, rfl⟩⟩

theorem div (a b : Int) (w : World) : Calls Tryz.prog 140 #[.int .i64 a, .int .i64 b] w fun e w' => e = .returned (.int .i64 (Num.div a b)) ∧ Dr w w' := by
  have h1 := Num.size_le a
  have h2 := Num.size_le b
  have H1 : Hid (Num.size a < 18446744073709551616) := Lib.hid (by omega)
  have H2 : Hid (Num.size b < 18446744073709551616) := Lib.hid (by omega)
  clear h1 h2
  by_cases h0 : Num.size b = 0
  · have hb : (((Num.size b : Nat) : Int) == 0) = true := beq_iff_eq.2 (by omega)
    have hn : Hid (Num.div a b = 0) := Lib.hid (by unfold Num.div; rw [if_pos h0])
    clear h0
    go_enter Tryz.func140, Tryz.ntmps140
    go_wp2_with (go_at_call 153; refine (split _ _).mono ?_; rintro e w' ⟨rfl, rfl⟩)
    go_ret
    exact ⟨by rw [hn.out]; simp, ⟨0, rfl⟩⟩
  · have hb : (((Num.size b : Nat) : Int) == 0) = false := beq_eq_false_iff_ne.2 (by omega)
    have hn : Hid (Num.div a b = Num.sgn (!(Num.below a == Num.below b)) (Num.rnd (Num.size a) 1000000 (Num.size b))) := Lib.hid (by unfold Num.div; rw [if_neg h0])
    go_enter Tryz.func140, Tryz.ntmps140
    go_wp2_with (first | (go_at_call 153; refine (split _ _).mono ?_; rintro e w' ⟨rfl, rfl⟩) | (go_at_call 154; refine (scaled _ 1000000 _ _ H1.out (by omega) (by omega) H2.out _).mono ?_; rintro e w' ⟨rfl, n, rfl⟩))
    go_ret
    exact ⟨by rw [hn.out]; simp, ⟨_, rfl⟩⟩
end Go.Proofs.YtniajhmbdbgmgaaGreatDoor.XNum

/- Sums and differences of layer 1 (num). -/
namespace Go.Proofs.YtniajhmbdbgmgaaGreatDoor.XNum
open Go Go.RowKit Go.Proofs Go.Proofs.YtniajhmbdbgmgaaGreatDoor

theorem add (a b : Int) (w : World) : Calls Tryz.prog 138 #[.int .i64 a, .int .i64 b] w fun e w' => e = .returned (.int .i64 (Num.add a b)) ∧ w = w' := by
  have ha := Num.clamp_le a
  have hb := Num.clamp_le b
  go_enter Tryz.func138, Tryz.ntmps138
  go_wp2_with (go_at_call 45; refine (clamp _ _).mono ?_; rintro e w' ⟨rfl, rfl⟩)
  go_ret
  exact ⟨by simp [Num.add], rfl⟩

theorem sub (a b : Int) (w : World) : Calls Tryz.prog 139 #[.int .i64 a, .int .i64 b] w fun e w' => e = .returned (.int .i64 (Num.sub a b)) ∧ w = w' := by
  have ha := Num.clamp_le a
  have hb := Num.clamp_le b
  go_enter Tryz.func139, Tryz.ntmps139
  go_wp2_with (go_at_call 45; refine (clamp _ _).mono ?_; rintro e w' ⟨rfl, rfl⟩)
  go_ret
  exact ⟨by simp [Num.sub], rfl⟩
end Go.Proofs.YtniajhmbdbgmgaaGreatDoor.XNum

/- Layer 3 in plain Lean: days of the calendar from 1900 to 2099. -/
namespace Go.Proofs.YtniajhmbdbgmgaaGreatDoor.Date

def leap (y : Int) : Bool := y % 4 == 0 && (!(y % 100 == 0) || y % 400 == 0)
def mlen (b : Bool) (m : Int) : Int := if m = 2 then (if b then 29 else 28) else if m = 4 ∨ m = 6 ∨ m = 9 ∨ m = 11 then 30 else 31
/-- The days of the first months of a year. -/
def cum (b : Bool) : Nat → Int
  | 0 => 0
  | k + 1 => cum b k + mlen b (k + 1)
def ahead (y : Int) : Int := 365 * (y - 1900) + (y - 1) / 4 - (y - 1) / 100 + (y - 1) / 400 - 460
def num (y m d : Int) : Int := ahead y + cum (leap y) (m - 1).toNat + d - 1
structure Valid (y m d : Int) : Prop where
  y1 : 1900 ≤ y
  y2 : y ≤ 2099
  m1 : 1 ≤ m
  m2 : m ≤ 12
  d1 : 1 ≤ d
  d2 : d ≤ mlen (leap y) m

theorem mlen_le (b : Bool) (m : Int) : 28 ≤ mlen b m ∧ mlen b m ≤ 31 := by
  unfold mlen; split
  · cases b <;> simp
  · split <;> omega
theorem cum_year (b : Bool) : cum b 12 = 365 + (if b then 1 else 0) := by cases b <;> decide
theorem cum_mono (b : Bool) {i j : Nat} (h : i ≤ j) : cum b i ≤ cum b j := by
  induction h with
  | refl => exact Int.le_refl _
  | @step k _ ih => have := mlen_le b ((k : Int) + 1); simp only [cum]; omega
theorem cum_nonneg (b : Bool) (i : Nat) : 0 ≤ cum b i := cum_mono b (Nat.zero_le i)
theorem leap_iff (y : Int) : leap y = true ↔ (y % 4 = 0 ∧ (¬ y % 100 = 0 ∨ y % 400 = 0)) := by
  simp [leap]
theorem ahead_succ (y : Int) : ahead (y + 1) = ahead y + 365 + (if leap y then 1 else 0) := by
  have h := leap_iff y
  unfold ahead
  by_cases hl : leap y = true
  · rw [if_pos hl]
    have := h.1 hl
    omega
  · rw [if_neg hl]
    have : ¬ (y % 4 = 0 ∧ (¬ y % 100 = 0 ∨ y % 400 = 0)) := fun h' => hl (h.2 h')
    omega
theorem ahead_le {y z : Int} (h : y ≤ z) : ahead y + 365 * (z - y) ≤ ahead z := by unfold ahead; omega
theorem ahead_ub {y : Int} (h : 1900 ≤ y) : ahead y ≤ 366 * (y - 1900) := by unfold ahead; omega
theorem ahead_lb {y : Int} (h : 1900 ≤ y) : 365 * (y - 1900) ≤ ahead y := by unfold ahead; omega
theorem ahead_1900 : ahead 1900 = 0 := by decide
theorem ahead_2100 : ahead 2100 = 73049 := by decide
theorem toNat_succ {b : Bool} {m : Int} (h1 : 1 ≤ m) : cum b m.toNat = cum b (m - 1).toNat + mlen b m := by
  obtain ⟨k, hk⟩ : ∃ k : Nat, m = (k : Int) + 1 := ⟨(m - 1).toNat, by omega⟩
  subst hk
  rw [show ((k : Int) + 1).toNat = k + 1 from by omega, show ((k : Int) + 1 - 1).toNat = k from by omega]
  rfl
/-- A date's day lies in its year, and in its month. -/
theorem Valid.in_year {y m d : Int} (h : Valid y m d) : ahead y ≤ num y m d ∧ num y m d < ahead (y + 1) := by
  have c0 := cum_nonneg (leap y) (m - 1).toNat
  have c1 := cum_mono (leap y) (i := m.toNat) (j := 12) (by have := h.m2; omega)
  have c2 := toNat_succ (b := leap y) h.m1
  have c3 := cum_year (leap y)
  have := h.d1; have := h.d2
  rw [ahead_succ]
  unfold num
  omega
theorem Valid.range {y m d : Int} (h : Valid y m d) : 0 ≤ num y m d ∧ num y m d ≤ 73048 := by
  have h1 := h.in_year
  have h2 := ahead_le h.y1
  have h3 := ahead_le (y := y + 1) (z := 2100) (by have := h.y2; omega)
  rw [ahead_1900] at h2
  rw [ahead_2100] at h3
  have := h.y1; have := h.y2
  omega
/-- One day, one date. -/
theorem Valid.inj {y m d y' m' d' : Int} (h : Valid y m d) (h' : Valid y' m' d') (e : num y m d = num y' m' d') : y = y' ∧ m = m' ∧ d = d' := by
  have h1 := h.in_year
  have h2 := h'.in_year
  have hy : y = y' := by
    rcases Int.lt_trichotomy y y' with hlt | heq | hgt
    · have := ahead_le (y := y + 1) (z := y') (by omega); omega
    · exact heq
    · have := ahead_le (y := y' + 1) (z := y) (by omega); omega
  subst hy
  have hm : m = m' := by
    rcases Int.lt_trichotomy m m' with hlt | heq | hgt
    · exfalso
      have c1 := cum_mono (leap y) (i := m.toNat) (j := (m' - 1).toNat) (by omega)
      have c2 := toNat_succ (b := leap y) h.m1
      have := h.d2; have := h'.d1
      unfold num at e
      omega
    · exact heq
    · exfalso
      have c1 := cum_mono (leap y) (i := m'.toNat) (j := (m - 1).toNat) (by omega)
      have c2 := toNat_succ (b := leap y) h'.m1
      have := h'.d2; have := h.d1
      unfold num at e
      omega
  subst hm
  refine ⟨rfl, rfl, ?_⟩
  unfold num at e
  omega
/-- Each day has a date. -/
theorem exists_year (n : Nat) : ∀ day : Int, 0 ≤ day → day < ahead (1900 + (n : Int)) → ∃ y : Int, 1900 ≤ y ∧ y < 1900 + (n : Int) ∧ ahead y ≤ day ∧ day < ahead (y + 1) := by
  induction n with
  | zero => intro day h0 h1; rw [show (1900 : Int) + ((0 : Nat) : Int) = 1900 from rfl, ahead_1900] at h1; omega
  | succ n ih =>
    intro day h0 h1
    by_cases h : day < ahead (1900 + n)
    · obtain ⟨y, a, b, c, d⟩ := ih day h0 h; exact ⟨y, a, by omega, c, d⟩
    · exact ⟨1900 + n, by omega, by omega, by omega, by rw [show (1900 : Int) + (n : Int) + 1 = 1900 + ((n + 1 : Nat) : Int) from by omega]; exact h1⟩
theorem exists_month (b : Bool) (n : Nat) : ∀ r : Int, 0 ≤ r → r < cum b n → ∃ k : Nat, k < n ∧ cum b k ≤ r ∧ r < cum b (k + 1) := by
  induction n with
  | zero => intro r h0 h1; simp [cum] at h1; omega
  | succ n ih =>
    intro r h0 h1
    by_cases h : r < cum b n
    · obtain ⟨k, a, c⟩ := ih r h0 h; exact ⟨k, by omega, c⟩
    · exact ⟨n, by omega, by omega, h1⟩
theorem exists_date (day : Int) (h0 : 0 ≤ day) (h1 : day ≤ 73048) : ∃ y m d, Valid y m d ∧ num y m d = day := by
  obtain ⟨y, a, b, c, e⟩ := exists_year 200 day h0 (by rw [show (1900 : Int) + ((200 : Nat) : Int) = 2100 from rfl, ahead_2100]; omega)
  rw [ahead_succ] at e
  obtain ⟨k, k1, k2, k3⟩ := exists_month (leap y) 12 (day - ahead y) (by omega) (by rw [cum_year]; omega)
  refine ⟨y, (k : Int) + 1, day - ahead y - cum (leap y) k + 1, ⟨a, by omega, by omega, by omega, by omega, ?_⟩, ?_⟩
  · simp only [cum] at k3; omega
  · unfold num; rw [show ((k : Int) + 1 - 1).toNat = k from by omega]; omega

def clamp (day : Int) : Int := if day < 0 then 0 else if 73048 < day then 73048 else day
theorem clamp_le (day : Int) : 0 ≤ clamp day ∧ clamp day ≤ 73048 := by unfold clamp; repeat' split <;> omega
def mn (x y : Int) : Int := if y < x then y else x
theorem mn_le (x y : Int) : mn x y ≤ x ∧ mn x y ≤ y ∧ (mn x y = x ∨ mn x y = y) := by unfold mn; split <;> omega
def within (n c : Int) : Int := if n < -c then -c else if c < n then c else n
/-- The date y m d, so many months later. -/
def monthsOf (y m d n : Int) : Int :=
  if 12 * y + m - 1 + within n 25188 < 22800 then 0 else if 25200 ≤ 12 * y + m - 1 + within n 25188 then 73048
  else num ((12 * y + m - 1 + within n 25188) / 12) ((12 * y + m - 1 + within n 25188) % 12 + 1) (mn d (mlen (leap ((12 * y + m - 1 + within n 25188) / 12)) ((12 * y + m - 1 + within n 25188) % 12 + 1)))
def years (a b : Int) : Int := Num.div ((clamp b - clamp a) * 1000000) 365000000
def days30 (y m d z n e : Int) : Int := 360 * (z - y) + 30 * (n - m) + mn e 30 - mn d 30
def years30 (y m d z n e : Int) : Int := Num.div (days30 y m d z n e * 1000000) 360000000
theorem valid_moved {k d : Int} (h1 : 22800 ≤ k) (h2 : k < 25200) (hd : 1 ≤ d) : Valid (k / 12) (k % 12 + 1) (mn d (mlen (leap (k / 12)) (k % 12 + 1))) := by
  have := mlen_le (leap (k / 12)) (k % 12 + 1)
  have := mn_le d (mlen (leap (k / 12)) (k % 12 + 1))
  exact ⟨by omega, by omega, by omega, by omega, by omega, by omega⟩
theorem days30_le {y m d z n e : Int} (h : Valid y m d) (h' : Valid z n e) : -72100 ≤ days30 y m d z n e ∧ days30 y m d z n e ≤ 72100 := by
  have := h.y1; have := h.y2; have := h.m1; have := h.m2; have := h.d1
  have := h'.y1; have := h'.y2; have := h'.m1; have := h'.m2; have := h'.d1
  have := mn_le e 30; have := mn_le d 30
  unfold days30
  omega
def plus (day n : Int) : Int := clamp (clamp day + (if n < -73048 then -73048 else if 73048 < n then 73048 else n))
end Go.Proofs.YtniajhmbdbgmgaaGreatDoor.Date

/- Small functions of layer 3 (date). -/
namespace Go.Proofs.YtniajhmbdbgmgaaGreatDoor.XDate
open Go Go.RowKit Go.Proofs Go.Proofs.YtniajhmbdbgmgaaGreatDoor
attribute [local go_sem] max2i min2i maxTwo minTwo

theorem leap (y : Int) (h1 : 1 ≤ y) (h2 : y ≤ 10000) (w : World) : Calls Tryz.prog 224 #[.int .i64 y] w fun e w' => e = .returned (.bool (Date.leap y)) ∧ w = w' := by
  obtain ⟨r, hr⟩ : ∃ r, Date.leap y = r := ⟨_, rfl⟩
  rw [hr]
  have Hr := Lib.hid hr
  clear hr
  by_cases c1 : y % 4 = 0
  · have c1b : (y % 4 == 0) = true := beq_iff_eq.2 c1
    by_cases c2 : y % 100 = 0
    · have c2b : (y % 100 != 0) = false := by rw [bne_eq_false_iff_eq]; exact c2
      by_cases c3 : y % 400 = 0
      · have c3b : (y % 400 == 0) = true := beq_iff_eq.2 c3
        have e1 : r = true := by rw [← Hr.out, Date.leap_iff]; omega
        clear c1 c2 c3
        subst e1
        go_enter Tryz.func224, Tryz.ntmps224
        go_wp2
        go_ret
        exact ⟨by simp, rfl⟩
      · have c3b : (y % 400 == 0) = false := beq_eq_false_iff_ne.2 c3
        have e1 : r = false := by rw [← Hr.out, Bool.eq_false_iff, Ne, Date.leap_iff]; omega
        clear c1 c2 c3
        subst e1
        go_enter Tryz.func224, Tryz.ntmps224
        go_wp2
        go_ret
        exact ⟨by simp, rfl⟩
    · have c2b : (y % 100 != 0) = true := by rw [bne_iff_ne]; exact c2
      have e1 : r = true := by rw [← Hr.out, Date.leap_iff]; omega
      clear c1 c2
      subst e1
      go_enter Tryz.func224, Tryz.ntmps224
      go_wp2
      go_ret
      exact ⟨by simp, rfl⟩
  · have c1b : (y % 4 == 0) = false := beq_eq_false_iff_ne.2 c1
    have e1 : r = false := by rw [← Hr.out, Bool.eq_false_iff, Ne, Date.leap_iff]; omega
    clear c1
    subst e1
    go_enter Tryz.func224, Tryz.ntmps224
    go_wp2
    go_ret
    exact ⟨by simp, rfl⟩

theorem days (y : Int) (h1 : 1 ≤ y) (h2 : y ≤ 10000) (w : World) : Calls Tryz.prog 223 #[.int .i64 y] w fun e w' => e = .returned (.int .i64 (365 + if Date.leap y then 1 else 0)) ∧ w = w' := by
  obtain ⟨b, hb⟩ : ∃ b, Date.leap y = b := ⟨_, rfl⟩
  have hl := fun w => leap y h1 h2 w
  rw [hb] at hl ⊢
  have HL := Lib.hid hl
  clear hl hb
  cases b
  all_goals
    go_enter Tryz.func223, Tryz.ntmps223
    go_wp2_with (go_at_call 224; refine (HL.out _).mono ?_; rintro e w' ⟨rfl, rfl⟩)
    go_ret
    exact ⟨by simp, rfl⟩

theorem ahead (y : Int) (h1 : 1 ≤ y) (h2 : y ≤ 10000) (w : World) : Calls Tryz.prog 222 #[.int .i64 y] w fun e w' => e = .returned (.int .i64 (Date.ahead y)) ∧ w = w' := by
  go_enter Tryz.func222, Tryz.ntmps222
  go_wp2
  go_ret
  refine ⟨XNum.ri ?_, rfl⟩
  show _ = Date.ahead y
  unfold Date.ahead
  simp
  omega

def lens (b : Bool) : Array Value := #[.int .i64 31, .int .i64 (if b then 29 else 28), .int .i64 31, .int .i64 30, .int .i64 31, .int .i64 30, .int .i64 31, .int .i64 31, .int .i64 30, .int .i64 31, .int .i64 30, .int .i64 31]

set_option maxHeartbeats 1000000 in
theorem lengths (y : Int) (h1 : 1 ≤ y) (h2 : y ≤ 10000) (w : World) : Calls Tryz.prog 192 #[.int .i64 y] w fun e w' => e = .returned (.agg (lens (Date.leap y))) ∧ Below w.heap.size w w' := by
  obtain ⟨b, hb⟩ : ∃ b, Date.leap y = b := ⟨_, rfl⟩
  have hl := fun w => leap y h1 h2 w
  rw [hb] at hl ⊢
  have HL := Lib.hid hl
  clear hl hb
  cases b
  all_goals
    go_enter Tryz.func192, Tryz.ntmps192
    go_wp2_with (go_at_call 224; refine (HL.out _).mono ?_; rintro e w' ⟨rfl, rfl⟩)
    refine bodyPost_ret (v := .agg (lens _)) (by simp [results, Tryz.results192, go_sem]; rfl) rfl ⟨rfl, ?_⟩
    exact ((Below.refl _ _).alloc (Nat.le_refl _) _).alloc (by simp) _

theorem lens0 (b : Bool) (w : World) : (Instr.index 222 (.agg (lens b)) (.int .i64 0)).run Tryz.prog w = .ok (.int .i64 31) w := by cases b <;> kernel_rfl
theorem lens1 (b : Bool) (w : World) : (Instr.index 222 (.agg (lens b)) (.int .i64 1)).run Tryz.prog w = .ok (.int .i64 (if b then 29 else 28)) w := by cases b <;> kernel_rfl
theorem lens2 (b : Bool) (w : World) : (Instr.index 222 (.agg (lens b)) (.int .i64 2)).run Tryz.prog w = .ok (.int .i64 31) w := by cases b <;> kernel_rfl
theorem lens3 (b : Bool) (w : World) : (Instr.index 222 (.agg (lens b)) (.int .i64 3)).run Tryz.prog w = .ok (.int .i64 30) w := by cases b <;> kernel_rfl
theorem lens4 (b : Bool) (w : World) : (Instr.index 222 (.agg (lens b)) (.int .i64 4)).run Tryz.prog w = .ok (.int .i64 31) w := by cases b <;> kernel_rfl
theorem lens5 (b : Bool) (w : World) : (Instr.index 222 (.agg (lens b)) (.int .i64 5)).run Tryz.prog w = .ok (.int .i64 30) w := by cases b <;> kernel_rfl
theorem lens6 (b : Bool) (w : World) : (Instr.index 222 (.agg (lens b)) (.int .i64 6)).run Tryz.prog w = .ok (.int .i64 31) w := by cases b <;> kernel_rfl
theorem lens7 (b : Bool) (w : World) : (Instr.index 222 (.agg (lens b)) (.int .i64 7)).run Tryz.prog w = .ok (.int .i64 31) w := by cases b <;> kernel_rfl
theorem lens8 (b : Bool) (w : World) : (Instr.index 222 (.agg (lens b)) (.int .i64 8)).run Tryz.prog w = .ok (.int .i64 30) w := by cases b <;> kernel_rfl
theorem lens9 (b : Bool) (w : World) : (Instr.index 222 (.agg (lens b)) (.int .i64 9)).run Tryz.prog w = .ok (.int .i64 31) w := by cases b <;> kernel_rfl
theorem lens10 (b : Bool) (w : World) : (Instr.index 222 (.agg (lens b)) (.int .i64 10)).run Tryz.prog w = .ok (.int .i64 30) w := by cases b <;> kernel_rfl
theorem lens11 (b : Bool) (w : World) : (Instr.index 222 (.agg (lens b)) (.int .i64 11)).run Tryz.prog w = .ok (.int .i64 31) w := by cases b <;> kernel_rfl
theorem lens_at (b : Bool) (i : Nat) (hi : i < 12) (w : World) :
    (Instr.index 222 (.agg (lens b)) (.int .i64 (i : Int))).run Tryz.prog w = .ok (.int .i64 (Date.mlen b ((i : Int) + 1))) w := by
  match i, hi with
  | 0, _ => exact lens0 b w
  | 1, _ => exact lens1 b w
  | 2, _ => exact lens2 b w
  | 3, _ => exact lens3 b w
  | 4, _ => exact lens4 b w
  | 5, _ => exact lens5 b w
  | 6, _ => exact lens6 b w
  | 7, _ => exact lens7 b w
  | 8, _ => exact lens8 b w
  | 9, _ => exact lens9 b w
  | 10, _ => exact lens10 b w
  | 11, _ => exact lens11 b w

theorem clamp (day : Int) (w : World) : Calls Tryz.prog 180 #[.int .i64 day] w fun e w' => e = .returned (.int .i64 (Date.clamp day)) ∧ w = w' := by
  go_enter Tryz.func180, Tryz.ntmps180
  go_wp2
  all_goals
    go_ret
    refine ⟨XNum.ri ?_, rfl⟩
    show _ = Date.clamp day
    unfold Date.clamp
    repeat' split
    all_goals omega
end Go.Proofs.YtniajhmbdbgmgaaGreatDoor.XDate

/- date.Parts tells a day's date. -/
namespace Go.Proofs.YtniajhmbdbgmgaaGreatDoor.XDate
open Go Go.RowKit Go.Proofs Go.Proofs.YtniajhmbdbgmgaaGreatDoor

/-- The steps of the first loop: a year is the day's, or the day lies behind it. -/
theorem year_step {y m d Y : Int} (hv : Date.Valid y m d) (hY : 1900 ≤ Y) (hYy : Y ≤ y) :
    0 ≤ Date.ahead Y ∧ Date.ahead Y ≤ 73048 ∧ (Y < y → 365 + (if Date.leap Y then 1 else 0) ≤ Date.num y m d - Date.ahead Y) ∧ (Y = y → Date.num y m d - Date.ahead Y < 365 + (if Date.leap Y then 1 else 0)) := by
  have h1 := hv.in_year
  have h2 := hv.range
  have h3 := Date.ahead_lb hY
  have h4 := Date.ahead_le hYy
  have h5 := Date.ahead_succ Y
  refine ⟨by omega, by omega, fun h => ?_, fun h => ?_⟩
  · have := Date.ahead_le (y := Y + 1) (z := y) (by omega); omega
  · subst h; omega

set_option maxHeartbeats 2000000 in
set_option maxRecDepth 100000 in
theorem parts (y m d : Int) (hv : Date.Valid y m d) (w : World) :
    Calls Tryz.prog 190 #[.int .i64 (Date.num y m d)] w fun e w' => e = .returned (.tuple #[.int .i64 y, .int .i64 m, .int .i64 d, .int .i64 0]) ∧ Below w.heap.size w w' := by
  obtain ⟨day, hday⟩ : ∃ day, Date.num y m d = day := ⟨_, rfl⟩
  have hr := hv.range
  have hst := fun Y => year_step (Y := Y) hv
  rw [hday] at hr hst ⊢
  obtain ⟨r1, r2⟩ := hr
  have HV := Lib.hid hv
  have HST := Lib.hid hst
  have hy1 := hv.y1
  have hy2 := hv.y2
  have hst0 : 1900 + day / 366 ≤ y := by
    have h1 := hv.in_year
    have h2 := Date.ahead_ub (y := y + 1) (by omega)
    omega
  have HD := Lib.hid hday
  clear hst hday hv
  have c1 : decide (day < 0) = false := decide_eq_false (by omega)
  have c2 : decide (73048 < day) = false := decide_eq_false (by omega)
  go_enter Tryz.func190, Tryz.ntmps190
  go_upto_block 0 with fail
  go_cut [8] (fun v wr => v = .int .i64 y ∧ wr = w)
  case first =>
    go_wp2_with fail
    go_loop [8] (fun v => ∃ Y : Int, v = .int .i64 Y ∧ 1900 ≤ Y ∧ Y ≤ y) (fun v => (y - intOf v).toNat)
    case atStart => exact ⟨_, rfl, by omega, hst0⟩
    case round =>
      obtain ⟨Y, rfl, hY1, hY2⟩ := hrel
      obtain ⟨a1, a2, a3, a4⟩ := HST.out Y hY1 hY2
      have hA := fun w => ahead Y (by omega) (by omega) w
      have hB := fun w => days Y (by omega) (by omega) w
      obtain ⟨A, eA⟩ : ∃ A, Date.ahead Y = A := ⟨_, rfl⟩
      obtain ⟨B, eB⟩ : ∃ B, (365 + (if Date.leap Y then 1 else 0) : Int) = B := ⟨_, rfl⟩
      rw [eA] at hA a1 a2 a3 a4
      rw [eB] at hB a3 a4
      have hB1 : B ≤ 366 ∧ 365 ≤ B := by rw [← eB]; split <;> omega
      obtain ⟨hB1, hB2⟩ := hB1
      have HA := Lib.hid hA; have HB := Lib.hid hB
      clear hA hB eA eB
      by_cases hlt : Y < y
      · have b1 := a3 hlt
        have b2 : decide (B ≤ day - A) = true := decide_eq_true b1
        clear a3 a4
        go_wp2_with (first | (go_at_call 222; refine (HA.out _).mono ?_; rintro e w' ⟨rfl, rfl⟩) | (go_at_call 223; refine (HB.out _).mono ?_; rintro e w' ⟨rfl, rfl⟩))
        go_round
        case rel => exact ⟨Y + 1, rfl, by omega, by omega⟩
        case measure => simp [intOf]; omega
      · obtain rfl : Y = y := by omega
        have b1 := a4 rfl
        have b2 : decide (B ≤ day - A) = false := decide_eq_false (by omega)
        clear a3 a4
        go_wp2_with (first | (go_at_call 222; refine (HA.out _).mono ?_; rintro e w' ⟨rfl, rfl⟩) | (go_at_call 223; refine (HB.out _).mono ?_; rintro e w' ⟨rfl, rfl⟩))
        go_meet
        case rel => exact ⟨rfl, rfl⟩
  case rest =>
    obtain ⟨rfl, rfl⟩ := hcut
    have hv := HV.out
    have hA := fun w => ahead y (by omega) (by omega) w
    have hL := fun w => lengths y (by omega) (by omega) w
    have hin := hv.in_year
    rw [HD.out] at hin
    have hA0 := Date.ahead_lb hy1
    have hm1 := hv.m1; have hm2 := hv.m2
    have hnum : Date.ahead y + Date.cum (Date.leap y) (m - 1).toNat + d - 1 = day := HD.out
    have hd1 := hv.d1; have hd2 := hv.d2
    obtain ⟨b, eb⟩ : ∃ b, Date.leap y = b := ⟨_, rfl⟩
    obtain ⟨A, eA⟩ : ∃ A, Date.ahead y = A := ⟨_, rfl⟩
    rw [eb] at hL hnum hd2
    rw [eA] at hA hin hA0 hnum
    have hAu : A ≤ day := hin.1
    have HA := Lib.hid hA; have HL := Lib.hid hL; have HN := Lib.hid hnum; have HD2 := Lib.hid hd2
    clear hA hL hin hv eb eA hnum hd2 HV HST hst0
    go_wp2_with (first | (go_at_call 222; refine (HA.out _).mono ?_; rintro e w' ⟨rfl, rfl⟩) | (go_at_call 192; refine (HL.out _).mono ?_; rintro e w' ⟨rfl, hb⟩))
    go_loop [0, 38] (fun v0 v => ∃ i : Nat, v = .int .i64 (i : Int) ∧ (i : Int) < m ∧ v0 = .int .i64 (day - A - Date.cum b i)) (fun _ v => (12 - intOf v).toNat)
    case atStart => exact ⟨0, rfl, by omega, by simp [Date.cum]⟩
    case round =>
      obtain ⟨i, rfl, hi, rfl⟩ := hrel
      have hidx := fun w => lens_at b i (by omega) w
      have hc0 := Date.cum_nonneg b i
      have hck := Date.cum_mono b (i := i) (j := (m - 1).toNat) (by omega)
      have hcs : Date.cum b (i + 1) = Date.cum b i + Date.mlen b ((i : Int) + 1) := rfl
      have hml := Date.mlen_le b ((i : Int) + 1)
      have hn := HN.out
      by_cases hlt : (i : Int) + 1 < m
      · have hck2 := Date.cum_mono b (i := i + 1) (j := (m - 1).toNat) (by omega)
        rw [hcs] at hck2
        have HCS := Lib.hid hcs
        clear hcs
        obtain ⟨c, ec⟩ : ∃ c, Date.cum b i = c := ⟨_, rfl⟩
        obtain ⟨l, el⟩ : ∃ l, Date.mlen b ((i : Int) + 1) = l := ⟨_, rfl⟩
        have HCS2 : Hid (Date.cum b (i + 1) = c + l) := Lib.hid (by rw [HCS.out, ec, el])
        rw [ec] at hc0 hck hck2 ⊢
        rw [el] at hidx hck2 hml
        have t1 : decide (day - A - c < l) = false := decide_eq_false (by omega)
        have t2 : decide ((i : Int) < 12) = true := decide_eq_true (by omega)
        have z1 : c ≤ 366 := by
          have := Date.cum_mono b (i := i) (j := 12) (by omega)
          rw [Date.cum_year, ec] at this
          cases b <;> simp at this <;> omega
        obtain ⟨l1, l2⟩ := hml
        clear hn HCS ec el hck hck2
        go_wp2
        go_round
        case rel => exact ⟨i + 1, by go_num, by omega, by rw [HCS2.out]; rw [show day - A - c - l = day - A - (c + l) from by omega]⟩
        case measure => simp [intOf]; omega
      · obtain ⟨c, ec⟩ : ∃ c, Date.cum b i = c := ⟨_, rfl⟩
        obtain ⟨l, el⟩ : ∃ l, Date.mlen b ((i : Int) + 1) = l := ⟨_, rfl⟩
        have hmi : (m - 1).toNat = i := by omega
        have hmi2 : m = (i : Int) + 1 := by omega
        have hd2 := HD2.out
        rw [hmi, ec] at hn
        rw [hmi2, el] at hd2
        rw [ec] at hc0 ⊢
        rw [el] at hidx
        have t1 : decide (day - A - c < l) = true := decide_eq_true (by omega)
        have t2 : decide ((i : Int) < 12) = true := decide_eq_true (by omega)
        have HR : Hid (day - A - c + 1 = d) := Lib.hid (by omega)
        have HM : Hid ((i : Int) + 1 = m) := Lib.hid hmi2.symm
        have z1 : day - A - c ≤ 31 := by omega
        have z2 : 0 ≤ day - A - c := by omega
        clear hn hmi hmi2 hd2 hck hcs hml ec el HN HD2 HD
        go_wp2
        refine bodyPost_ret (v := .tuple #[.int .i64 y, .int .i64 ((i : Int) + 1), .int .i64 (day - A - c + 1), .int .i64 0]) (by simp [results, Tryz.results190]) rfl ⟨?_, hb⟩
        rw [HR.out, HM.out]
end Go.Proofs.YtniajhmbdbgmgaaGreatDoor.XDate

/- date.Of tells a date's day. -/
namespace Go.Proofs.YtniajhmbdbgmgaaGreatDoor.XDate
open Go Go.RowKit Go.Proofs Go.Proofs.YtniajhmbdbgmgaaGreatDoor

theorem lensF (y : Int) (h1 : 1 ≤ y) (h2 : y ≤ 10000) (b : Bool) (hb : Date.leap y = b) (x : Int) (hx : (if b then 29 else 28) = x) (w : World) : Calls Tryz.prog 192 #[.int .i64 y] w fun e w' =>
    e = .returned (.agg #[.int .i64 31, .int .i64 x, .int .i64 31, .int .i64 30, .int .i64 31, .int .i64 30, .int .i64 31, .int .i64 31, .int .i64 30, .int .i64 31, .int .i64 30, .int .i64 31]) ∧ Below w.heap.size w w' := by
  have := lengths y h1 h2 w
  rw [hb] at this
  subst hx
  exact this

theorem lens_cell (W : World) (b : Bool) (x : Int) (hx : (if b then 29 else 28) = x) (T : TypeId) (i : Nat) (hi : i < 12) :
    (W.alloc (.cells #[.int .i64 31, .int .i64 x, .int .i64 31, .int .i64 30, .int .i64 31, .int .i64 30, .int .i64 31, .int .i64 31, .int .i64 30, .int .i64 31, .int .i64 30, .int .i64 31] T)).cell? ⟨W.heap.size, i, none⟩ =
      some (.int .i64 (Date.mlen b ((i : Int) + 1))) := by
  subst hx
  rw [World.cell?_alloc_new]
  match i, hi with
  | 0, _ => rfl
  | 1, _ => rfl
  | 2, _ => rfl
  | 3, _ => rfl
  | 4, _ => rfl
  | 5, _ => rfl
  | 6, _ => rfl
  | 7, _ => rfl
  | 8, _ => rfl
  | 9, _ => rfl
  | 10, _ => rfl
  | 11, _ => rfl

theorem arr12 : Tryz.prog.arrayLen 222 = 12 := by kernel_rfl
theorem size8 (w : World) : (sizeOf (Tryz.prog.elem 222)).run Tryz.prog w = .ok 1 w := by kernel_rfl
theorem slice12 (B k : Nat) (hk : k < 12) (w : World) : (Instr.sliceAt 222 (.pointer (some ⟨B, 0, none⟩)) none (some (.int .i64 (k : Int))) none).run Tryz.prog w = .ok (.slice (some ⟨B, 0, none⟩) k 12) w := by
  rw [run_sliceAt_array_h (P := Tryz.prog) w 222 ⟨B, 0, none⟩ (by kernel_rfl) .i64 (k : Int) (by omega) (by rw [arr12]; omega), size8]
  simp [Result.andThen, slicedAt, arr12, Addr.add]

set_option maxHeartbeats 2000000 in
set_option maxRecDepth 100000 in
theorem of (y m d : Int) (hv : Date.Valid y m d) (w : World) :
    Calls Tryz.prog 191 #[.int .i64 y, .int .i64 m, .int .i64 d] w fun e w' => e = .returned (.tuple #[.int .i64 (Date.num y m d), .int .i64 0]) ∧ Below w.heap.size w w' := by
  obtain ⟨day, hday⟩ : ∃ day, Date.num y m d = day := ⟨_, rfl⟩
  have hr := hv.range
  have hy1 := hv.y1; have hy2 := hv.y2; have hm1 := hv.m1; have hm2 := hv.m2; have hd1 := hv.d1; have hd2 := hv.d2
  rw [hday] at hr ⊢
  have hnum : Date.ahead y + Date.cum (Date.leap y) (m - 1).toNat + d - 1 = day := hday
  have hA := fun w => ahead y (by omega) (by omega) w
  have hL := fun w => lensF y (by omega) (by omega) _ rfl _ rfl w
  have hA0 := Date.ahead_lb hy1
  have hA1 := hv.in_year.1
  rw [hday] at hA1
  obtain ⟨b, eb⟩ : ∃ b, Date.leap y = b := ⟨_, rfl⟩
  obtain ⟨A, eA⟩ : ∃ A, Date.ahead y = A := ⟨_, rfl⟩
  rw [eb] at hL hnum hd2
  rw [eA] at hA hA0 hnum hA1
  obtain ⟨x, ex⟩ : ∃ x : Int, (if b then 29 else 28) = x := ⟨_, rfl⟩
  rw [ex] at hL
  obtain ⟨r1, r2⟩ := hr
  obtain ⟨k, ek⟩ : ∃ k : Nat, m = (k : Int) + 1 := ⟨(m - 1).toNat, by omega⟩
  subst ek
  have hk : (k : Int) < 12 := by omega
  have hml := Date.mlen_le b ((k : Int) + 1)
  have HN : Hid (A + Date.cum b k + d - 1 = day) := Lib.hid (by rw [show ((k : Int) + 1 - 1).toNat = k from by omega] at hnum; exact hnum)
  obtain ⟨l, el⟩ : ∃ l, Date.mlen b ((k : Int) + 1) = l := ⟨_, rfl⟩
  rw [el] at hd2 hml
  obtain ⟨l1, l2⟩ := hml
  have HA := Lib.hid hA; have HL := Lib.hid hL; have EL := Lib.hid el; have EX := Lib.hid ex
  have c1 : decide (y < 1900) = false := decide_eq_false (by omega)
  have c2 : decide (2099 < y) = false := decide_eq_false (by omega)
  have c3 : decide ((k : Int) + 1 < 1) = false := decide_eq_false (by omega)
  have c4 : decide (12 < (k : Int) + 1) = false := decide_eq_false (by omega)
  have c5 : decide (d < 1) = false := decide_eq_false (by omega)
  have c6 : decide (l < d) = false := decide_eq_false (by omega)
  have hadd : 365 * (y - 1900) ≤ 73048 := by omega
  clear hA hL eA eb el ex hnum hday hv
  go_enter Tryz.func191, Tryz.ntmps191
  go_upto_region 4 with (go_at_call 192; refine (HL.out _).mono ?_; rintro e w1 ⟨rfl, hb1⟩)
  have hcell := lens_cell w1 b x EX.out 222
  have hbW := hb1.alloc hb1.size (.cells #[.int .i64 31, .int .i64 x, .int .i64 31, .int .i64 30, .int .i64 31, .int .i64 30, .int .i64 31, .int .i64 31, .int .i64 30, .int .i64 31, .int .i64 30, .int .i64 31] 222)
  generalize w1.alloc (.cells #[.int .i64 31, .int .i64 x, .int .i64 31, .int .i64 30, .int .i64 31, .int .i64 30, .int .i64 31, .int .i64 31, .int .i64 30, .int .i64 31, .int .i64 30, .int .i64 31] 222) = W at hcell hbW ⊢
  generalize w1.heap.size = B at hcell ⊢
  have hck := hcell k (by omega)
  have HC := Lib.hid hcell
  clear hcell
  rw [EL.out] at hck
  have hsl := fun w => slice12 B k (by omega) w
  go_wp2_with (go_at_call 222; refine (HA.out _).mono ?_; rintro e w' ⟨rfl, rfl⟩)
  go_outline
  go_loop [9, 47] (fun v9 v => ∃ i : Nat, v = .int .i64 (i : Int) ∧ i ≤ k ∧ v9 = .int .i64 (A + d - 1 + Date.cum b i)) (fun _ v => (12 - intOf v).toNat)
  case atStart => exact ⟨0, rfl, by omega, by simp [Date.cum]⟩
  case round =>
    obtain ⟨i, rfl, hi, rfl⟩ := hrel
    clear hck hsl
    by_cases hlt : i < k
    · have hci := HC.out i (by omega)
      have t1 : decide (i < k) = true := decide_eq_true hlt
      have hcs : Hid (Date.cum b (i + 1) = Date.cum b i + Date.mlen b ((i : Int) + 1)) := Lib.hid rfl
      have hc0 := Date.cum_nonneg b i
      have hck := Date.cum_mono b (i := i) (j := 12) (by omega)
      rw [Date.cum_year] at hck
      have hml := Date.mlen_le b ((i : Int) + 1)
      obtain ⟨c, ec⟩ : ∃ c, Date.cum b i = c := ⟨_, rfl⟩
      obtain ⟨l', el⟩ : ∃ l', Date.mlen b ((i : Int) + 1) = l' := ⟨_, rfl⟩
      have HCS : Hid (Date.cum b (i + 1) = c + l') := Lib.hid (by rw [hcs.out, ec, el])
      rw [ec] at hc0 hck ⊢
      rw [el] at hci hml
      have hc1 : c ≤ 366 := by cases b <;> simp at hck <;> omega
      obtain ⟨l3, l4⟩ := hml
      clear hck hcs ec el
      go_wp2
      go_round
      case rel => exact ⟨i + 1, by go_num, by omega, by rw [HCS.out]; rw [show A + d - 1 + c + l' = A + d - 1 + (c + l') from by omega]⟩
      case measure => simp [intOf]; omega
    · obtain rfl : i = k := by omega
      have t1 : decide (i < i) = false := decide_eq_false (by omega)
      go_wp2
      go_ret2
      refine ⟨?_, hbW⟩
      have := HN.out
      simp
      omega
end Go.Proofs.YtniajhmbdbgmgaaGreatDoor.XDate

/- The moves of layer 3 (date). -/
namespace Go.Proofs.YtniajhmbdbgmgaaGreatDoor.XDate
open Go Go.RowKit Go.Proofs Go.Proofs.YtniajhmbdbgmgaaGreatDoor
attribute [local go_sem] max2m min2m maxTwo minTwo

theorem within_mx (n c : Int) (hc : 0 ≤ c) : mx (-c) (mn c n) = Date.within n c := by unfold mx mn Date.within; repeat' split <;> omega

theorem plus (day n : Int) (w : World) : Calls Tryz.prog 124 #[.int .i64 day, .int .i64 n] w fun e w' => e = .returned (.int .i64 (Date.plus day n)) ∧ w = w' := by
  have hc := Date.clamp_le day
  have h1 := within_mx n 73048 (by omega)
  have hb : -73048 ≤ Date.within n 73048 ∧ Date.within n 73048 ≤ 73048 := by unfold Date.within; repeat' split <;> omega
  have hp : Hid (Date.plus day n = Date.clamp (Date.clamp day + Date.within n 73048)) := Lib.hid rfl
  obtain ⟨c, ec⟩ : ∃ c, Date.within n 73048 = c := ⟨_, rfl⟩
  rw [ec] at h1 hb hp
  obtain ⟨hb1, hb2⟩ := hb
  obtain ⟨hc1, hc2⟩ := hc
  clear ec
  go_enter Tryz.func124, Tryz.ntmps124
  go_wp2_with (go_at_call 180; refine (clamp _ _).mono ?_; rintro e w' ⟨rfl, rfl⟩)
  go_ret
  exact ⟨by rw [hp.out]; simp, rfl⟩

theorem ratio (n d : Int) (hn : -1000000 ≤ n ∧ n ≤ 1000000) (hd : 0 ≤ d ∧ d ≤ 1000) (w : World) : Calls Tryz.prog 189 #[.int .i64 n, .int .i64 d] w fun e w' => e = .returned (.int .i64 (Num.div (n * 1000000) (d * 1000000))) ∧ Dr w w' := by
  obtain ⟨a, b⟩ := hn
  obtain ⟨c, f⟩ := hd
  go_enter Tryz.func189, Tryz.ntmps189
  go_wp2_with (go_at_call 140; refine (XNum.div _ _ _).mono ?_; rintro e w' ⟨rfl, n, rfl⟩)
  go_ret
  exact ⟨by simp, ⟨_, rfl⟩⟩

theorem years (a b : Int) (w : World) : Calls Tryz.prog 141 #[.int .i64 a, .int .i64 b] w fun e w' => e = .returned (.int .i64 (Date.years a b)) ∧ Dr w w' := by
  have ha := Date.clamp_le a
  have hb := Date.clamp_le b
  have hy : Hid (Date.years a b = Num.div ((Date.clamp b - Date.clamp a) * 1000000) (365 * 1000000)) := Lib.hid rfl
  obtain ⟨ha1, ha2⟩ := ha
  obtain ⟨hb1, hb2⟩ := hb
  go_enter Tryz.func141, Tryz.ntmps141
  go_wp2_with (first | (go_at_call 180; refine (clamp _ _).mono ?_; rintro e w' ⟨rfl, rfl⟩) | (go_at_call 189; refine (ratio _ _ (by omega) (by omega) _).mono ?_; rintro e w' ⟨rfl, n, rfl⟩))
  go_ret
  exact ⟨by rw [hy.out]; simp, ⟨_, rfl⟩⟩

/-- Parts of a clamped day. -/
theorem partsC (c y m d : Int) (hv : Date.Valid y m d) (e : Date.num y m d = c) (w : World) :
    Calls Tryz.prog 190 #[.int .i64 c] w fun e w' => e = .returned (.tuple #[.int .i64 y, .int .i64 m, .int .i64 d, .int .i64 0]) ∧ Below w.heap.size w w' := e ▸ parts y m d hv w

set_option maxHeartbeats 1000000 in
theorem years30 (a b y m d z n e : Int) (hv : Date.Valid y m d) (hva : Date.num y m d = Date.clamp a) (hw : Date.Valid z n e) (hwb : Date.num z n e = Date.clamp b) (w : World) :
    Calls Tryz.prog 142 #[.int .i64 a, .int .i64 b] w fun r w' => r = .returned (.int .i64 (Date.years30 y m d z n e)) ∧ Below w.heap.size w w' := by
  have k1 := hv.y1; have k2 := hv.y2; have k3 := hv.m1; have k4 := hv.m2; have k5 := hv.d1; have k6 := hv.d2; have k7 := (Date.mlen_le (Date.leap y) m).2
  have l1 := hw.y1; have l2 := hw.y2; have l3 := hw.m1; have l4 := hw.m2; have l5 := hw.d1; have l6 := hw.d2; have l7 := (Date.mlen_le (Date.leap z) n).2
  have k8 : d ≤ 31 := by omega
  have l8 : e ≤ 31 := by omega
  obtain ⟨b1, b2⟩ := Date.days30_le hv hw
  have h1 := fun w => partsC (Date.clamp a) y m d hv hva w
  have h2 := fun w => partsC (Date.clamp b) z n e hw hwb w
  obtain ⟨ca, eca⟩ : ∃ c, Date.clamp a = c := ⟨_, rfl⟩
  obtain ⟨cb, ecb⟩ : ∃ c, Date.clamp b = c := ⟨_, rfl⟩
  have g1 := fun w => clamp a w
  have g2 := fun w => clamp b w
  rw [eca] at h1 g1
  rw [ecb] at h2 g2
  obtain ⟨p, ep⟩ : ∃ p, mn e 30 = p := ⟨_, rfl⟩
  obtain ⟨q, eq⟩ : ∃ q, mn d 30 = q := ⟨_, rfl⟩
  have hp := mn_le e 30
  have hq := mn_le d 30
  rw [ep] at hp
  rw [eq] at hq
  have hr : Hid (Date.years30 y m d z n e = Num.div ((360 * (z - y) + 30 * (n - m) + p - q) * 1000000) (360 * 1000000)) := Lib.hid (by rw [← ep, ← eq]; rfl)
  have p1 : 1 ≤ p := by omega
  have p2 : p ≤ 30 := by omega
  have q1 : 1 ≤ q := by omega
  have q2 : q ≤ 30 := by omega
  have H1 := Lib.hid h1; have H2 := Lib.hid h2; have G1 := Lib.hid g1; have G2 := Lib.hid g2
  clear h1 h2 g1 g2 k6 k7 l6 l7 hp hq hva hwb eca ecb hv hw b1 b2
  go_enter Tryz.func142, Tryz.ntmps142
  go_wp2_with fail
  refine (G1.out _).mono ?_
  rintro r w1 ⟨rfl, rfl⟩
  go_wp2_with fail
  refine (H1.out _).mono ?_
  rintro r w1 ⟨rfl, hb1⟩
  go_wp2_with fail
  refine (G2.out _).mono ?_
  rintro r w2 ⟨rfl, rfl⟩
  go_wp2_with fail
  refine (H2.out _).mono ?_
  rintro r w3 ⟨rfl, hb3⟩
  go_wp2_with (go_at_call 189; refine (ratio _ _ (by omega) (by omega) _).mono ?_; rintro e w' ⟨rfl, n, rfl⟩)
  go_ret
  exact ⟨by rw [hr.out]; simp, belowN (hb1.trans (hb3.mono hb1.size)) _⟩
end Go.Proofs.YtniajhmbdbgmgaaGreatDoor.XDate

/- date.Months. -/
namespace Go.Proofs.YtniajhmbdbgmgaaGreatDoor.XDate
open Go Go.RowKit Go.Proofs Go.Proofs.YtniajhmbdbgmgaaGreatDoor
attribute [local go_sem] max2m min2m maxTwo minTwo

theorem lensC (y : Int) (h1 : 1 ≤ y) (h2 : y ≤ 10000) (b : Bool) (hb : Date.leap y = b) (w : World) : Calls Tryz.prog 192 #[.int .i64 y] w fun e w' =>
    e = .returned (.agg (lens b)) ∧ Below w.heap.size w w' := hb ▸ lengths y h1 h2 w
theorem lens_at' (b : Bool) (i : Int) (h0 : 0 ≤ i) (hi : i < 12) (l : Int) (hl : Date.mlen b (i + 1) = l) (w : World) :
    (Instr.index 222 (.agg (lens b)) (.int .i64 i)).run Tryz.prog w = .ok (.int .i64 l) w := by
  obtain ⟨k, rfl⟩ : ∃ k : Nat, i = (k : Int) := ⟨i.toNat, by omega⟩
  rw [lens_at b k (by omega) w, hl]
theorem ofC (y m d c : Int) (hv : Date.Valid y m d) (e : Date.num y m d = c) (w : World) :
    Calls Tryz.prog 191 #[.int .i64 y, .int .i64 m, .int .i64 d] w fun e w' => e = .returned (.tuple #[.int .i64 c, .int .i64 0]) ∧ Below w.heap.size w w' := e ▸ of y m d hv w

set_option maxHeartbeats 2000000 in
set_option maxRecDepth 100000 in
theorem months (a y m d n : Int) (hv : Date.Valid y m d) (hva : Date.num y m d = Date.clamp a) (w : World) :
    Calls Tryz.prog 144 #[.int .i64 a, .int .i64 n] w fun r w' => r = .returned (.int .i64 (Date.monthsOf y m d n)) ∧ Below w.heap.size w w' := by
  have k1 := hv.y1; have k2 := hv.y2; have k3 := hv.m1; have k4 := hv.m2; have k5 := hv.d1; have k6 := hv.d2; have k7 := (Date.mlen_le (Date.leap y) m).2
  have k8 : d ≤ 31 := by omega
  have h1 := fun w => partsC (Date.clamp a) y m d hv hva w
  obtain ⟨ca, eca⟩ : ∃ c, Date.clamp a = c := ⟨_, rfl⟩
  have g1 := fun w => clamp a w
  rw [eca] at h1 g1
  have hw1 := within_mx n 25188 (by omega)
  have hw2 : -25188 ≤ Date.within n 25188 ∧ Date.within n 25188 ≤ 25188 := by unfold Date.within; repeat' split <;> omega
  obtain ⟨r, er⟩ : ∃ r, Date.monthsOf y m d n = r := ⟨_, rfl⟩
  have er' := er
  unfold Date.monthsOf at er'
  rw [er]
  obtain ⟨wn, ew⟩ : ∃ c, Date.within n 25188 = c := ⟨_, rfl⟩
  rw [ew] at hw1 hw2 er'
  obtain ⟨hw2, hw3⟩ := hw2
  have H1 := Lib.hid h1; have G1 := Lib.hid g1
  clear h1 g1 k6 k7 hva eca hv ew er
  by_cases c1 : 12 * y + m - 1 + wn < 22800
  · have t1 : decide (12 * y + m - 1 + wn < 22800) = true := decide_eq_true c1
    rw [if_pos c1] at er'
    subst er'
    go_enter Tryz.func144, Tryz.ntmps144
    go_wp2_with (first | (go_at_call 180; refine (G1.out _).mono ?_; rintro r w1 ⟨rfl, rfl⟩) | (go_at_call 190; refine (H1.out _).mono ?_; rintro r w1 ⟨rfl, hb1⟩))
    go_ret
    exact ⟨by simp, hb1⟩
  · have t1 : decide (12 * y + m - 1 + wn < 22800) = false := decide_eq_false c1
    rw [if_neg c1] at er'
    by_cases c2 : 25200 ≤ 12 * y + m - 1 + wn
    · have t2 : decide (25200 ≤ 12 * y + m - 1 + wn) = true := decide_eq_true c2
      rw [if_pos c2] at er'
      subst er'
      go_enter Tryz.func144, Tryz.ntmps144
      go_wp2_with (first | (go_at_call 180; refine (G1.out _).mono ?_; rintro r w1 ⟨rfl, rfl⟩) | (go_at_call 190; refine (H1.out _).mono ?_; rintro r w1 ⟨rfl, hb1⟩))
      go_ret
      exact ⟨by simp, hb1⟩
    · have t2 : decide (25200 ≤ 12 * y + m - 1 + wn) = false := decide_eq_false c2
      rw [if_neg c2] at er'
      have hv2 := Date.valid_moved (k := 12 * y + m - 1 + wn) (d := d) (by omega) (by omega) k5
      obtain ⟨Y, eY⟩ : ∃ Y, (12 * y + m - 1 + wn) / 12 = Y := ⟨_, rfl⟩
      obtain ⟨M, eM⟩ : ∃ M, (12 * y + m - 1 + wn) % 12 = M := ⟨_, rfl⟩
      have yb : 1900 ≤ Y ∧ Y ≤ 2099 := by omega
      have mb : 0 ≤ M ∧ M < 12 := by omega
      rw [eY, eM] at er' hv2
      obtain ⟨b, eb⟩ : ∃ b, Date.leap Y = b := ⟨_, rfl⟩
      have hL := fun w => lensC Y (by omega) (by omega) b eb w
      obtain ⟨l, el⟩ : ∃ l, Date.mlen b (M + 1) = l := ⟨_, rfl⟩
      have hI := fun w => lens_at' b M (by omega) (by omega) l el w
      rw [eb, el] at er' hv2
      obtain ⟨p, ep⟩ : ∃ p, mn d l = p := ⟨_, rfl⟩
      have hO := fun w => ofC Y (M + 1) p r (by rw [← ep]; exact hv2) (by rw [← ep]; exact er') w
      have HL := Lib.hid hL; have HO := Lib.hid hO
      obtain ⟨yb1, yb2⟩ := yb
      obtain ⟨mb1, mb2⟩ := mb
      clear hL hO er' hv2 eb el
      go_enter Tryz.func144, Tryz.ntmps144
      go_wp2_with fail
      refine (G1.out _).mono ?_
      rintro e w1 ⟨rfl, rfl⟩
      go_wp2_with fail
      refine (H1.out _).mono ?_
      rintro e w1 ⟨rfl, hb1⟩
      go_wp2_with fail
      refine (HL.out _).mono ?_
      rintro e w2 ⟨rfl, hb2⟩
      go_wp2_with fail
      refine (HO.out _).mono ?_
      rintro e w3 ⟨rfl, hb3⟩
      go_wp2_with fail
      go_ret
      exact ⟨by simp, (hb1.trans (hb2.mono hb1.size)).trans (hb3.mono (Nat.le_trans hb1.size hb2.size))⟩
end Go.Proofs.YtniajhmbdbgmgaaGreatDoor.XDate

/- num.Mul, num.Div and the moves of a day in the print's form. -/
namespace Go.Proofs.YtniajhmbdbgmgaaGreatDoor.Q
open Go Go.RowKit Go.Proofs Go.Proofs.YtniajhmbdbgmgaaGreatDoor

theorem below_of_dr {w w' : World} (h : Dr w w') : Below w.heap.size w w' := by
  obtain ⟨n, rfl⟩ := h.out
  exact belowN (Below.refl _ _) n

/-- A day's date. -/
structure Ymd where
  y : Int
  m : Int
  d : Int
theorem date_of (a : Int) : ∃ p : Ymd, Date.Valid p.y p.m p.d ∧ Date.num p.y p.m p.d = Date.clamp a := by
  obtain ⟨y, m, d, h⟩ := Date.exists_date (Date.clamp a) (Date.clamp_le a).1 (Date.clamp_le a).2
  exact ⟨⟨y, m, d⟩, h⟩
noncomputable def ymd (a : Int) : Ymd := Classical.choose (date_of a)
theorem ymd_valid (a : Int) : Date.Valid (ymd a).y (ymd a).m (ymd a).d := (Classical.choose_spec (date_of a)).1
theorem ymd_num (a : Int) : Date.num (ymd a).y (ymd a).m (ymd a).d = Date.clamp a := (Classical.choose_spec (date_of a)).2

end Go.Proofs.YtniajhmbdbgmgaaGreatDoor.Q
