/- What a statement's argument reads as: slices of what can be read, and terms. Small words for the walks: draws, and the built-in min and max of two whole numbers. The iterator over a term's terms hands on each of them, a term ahead of its kids. Terms in plain Lean: how great and how deep they are, their types. The numbers of layer 1 in plain Lean: sums, products and quotients of decimals of six places, rounded and within their limits. DERIVED: THE SHELF's CONTRACTS AT THIS DUMP, IN PLAIN WORDS (tools/lay-plain.mjs out of 'TrydShelf.lean', which tools/lay-shelf.mjs wrote): THE SAME DECLARATIONS UNDER THE SAME NAMES: 'import', 'namespace', 'open', 'def', 'theorem' AND NOTHING ELSE: no command of the shelf's: FOR A HAND-IN. Each laying: the table of numbers ('.._ren') and one theorem, a field a fact of the dump's own or the kernel's comparison; each contract: ONE APPLICATION. Plain arithmetic for math/bits.Div64 (Knuth's step with 32-bit digits): no program in sight. math/bits.Div64 answers the quotient and the rest of hi * 2^64 + lo by y, wherever hi < y. -/
import Derived.Test.YtniajhmbdbgmgaaDoorProg
import Derived.Below
import Derived.Deep.Draws
import Derived.Deep.AppendLies
import Derived.Maps.AppendAt
import Derived.OwnWalk
import Derived.Laws.BytesArg
import Derived.Laws.MakeOwn
import Derived.Laws.OwnMore
import Derived.Deep.OwnRows
import Derived.Tactics
import Derived.Lib.ConvBytes
import Derived.Laws.Slices
import Derived.WalkKit
import Derived.KernelRfl
import Derived.RowKit3
import Derived.Deep.LoopGhost
import Derived.Deep.QuietTactic
import Derived.BigQuiet
import Derived.WideLaws
import Derived.Deep.DeepCutAuto
import Derived.Deep.CutBlock
import Derived.Deep.RegionHeld3
import Derived.Laws.Rows
import Derived.Lib.AppendStr
import Derived.ArgAppend
import Derived.Laws.IdiomCopy
import Derived.OrdersHeld
import Derived.Laws.BitsLemmas
import Derived.RowKit
import Derived.Test.YtniajhmbdbgmgaaDoorWWords
import Derived.Test.YtniajhmbdbgmgaaDoorWLast
import Derived.Test.YtniajhmbdbgmgaaDoorWTab
import Derived.Test.YtniajhmbdbgmgaaDoorWFour
import Derived.Test.YtniajhmbdbgmgaaDoorWQPut
import Derived.Test.YtniajhmbdbgmgaaDoorWApart
import Derived.Test.YtniajhmbdbgmgaaDoorWArr
import Derived.Test.YtniajhmbdbgmgaaDoorWZeros
import Derived.Test.YtniajhmbdbgmgaaDoorWFoot
import Derived.Test.YtniajhmbdbgmgaaDoorWKept
import Derived.Test.YtniajhmbdbgmgaaDoorWShare
import Derived.Test.YtniajhmbdbgmgaaDoorWN
import Derived.Test.YtniajhmbdbgmgaaDoorWFootNe
import Derived.Test.YtniajhmbdbgmgaaDoorWAt
import Derived.Test.YtniajhmbdbgmgaaDoorWEqStruct
import Derived.Test.YtniajhmbdbgmgaaDoorWRepsOne
import Derived.Test.YtniajhmbdbgmgaaDoorWInv
import Derived.Test.YtniajhmbdbgmgaaDoorWInvWords
import Derived.Test.YtniajhmbdbgmgaaDoorWGuard
import Derived.Test.YtniajhmbdbgmgaaDoorWNEv
import Derived.Test.YtniajhmbdbgmgaaDoorWMore
import Derived.ChangeArms
import Derived.ChangeOld
import Derived.WideShapes
import Derived.Lib.Hide
import Derived.RangeFuncNested
import Derived.RangeFuncBound
import Derived.RangeFuncCalls
import Derived.RangeFuncLeaves
import Derived.Shelf.Abstract
import Derived.Shelf.RegionOpen
import Derived.OwnWalkIn
import Derived.TacticsInMore
import Derived.LoopNIn
import Derived.LoopIn
import Derived.Laws.NewBlocks
import Derived.Laws.EntriesVeiled
import Derived.Shelf.Strings.Trim
import Derived.Shelf.Small.Utf8
import Derived.Shelf.Small.Bits
import Derived.Shelf.Small.Strs
import Derived.Shelf.Strconv.Itoa0
import Derived.Shelf.Strings.Search1
import Derived.Shelf.Strings.Search2
import Derived.Shelf.Strings.Search3
import Derived.Shelf.Strings.Cut
import Derived.Shelf.LaysM
import Derived.Shelf.Strings.Shaped
import Derived.Shelf.Strings.Runes
import Derived.Shelf.Strings.AsciiSet
import Derived.Shelf.Bits.Mul64
import Derived.Shelf.Unicode.DecodeSlow
import Derived.LoopTactic
import Derived.Laws.Bits64b
import Derived.Laws.Shifts
import Derived.Outline
namespace Go.Proofs.YtniajhmbdbgmgaaDoor.Q
open Go.RowKit Go.Proofs.YtniajhmbdbgmgaaDoorW.PrintWords Go.Proofs.YtniajhmbdbgmgaaDoorW.PrintLast Go.Proofs.YtniajhmbdbgmgaaDoorW.PrintMore
attribute [local go_sem] max2_int min2_int max_two min_two max_three min_three max_four min_four   -- for this text's walks alone
set_option linter.unusedVariables false
set_option linter.unusedSimpArgs false



def errW : Option Int → Value
  | none => .nilIface
  | some c => .iface 0 (.int .i64 c)
theorem errW_none : errW none = .nilIface := rfl
theorem errW_some (c : Int) : errW (some c) = .iface 0 (.int .i64 c) := rfl

theorem info24 : (Tryd.prog.info? 24).map (fun i => (i.zero, i.size, i.bytes)) = some (some (.agg #[(.int .i64 0), (.int .i64 0), (.string ⟨#[]⟩), (.slice none 0 0)]), 4, 56) := by kernel_rfl
theorem info83 : (Tryd.prog.info? 83).map (fun i => (i.zero, i.size, i.bytes)) = some (some (.agg #[(.string ⟨#[]⟩), (.slice none 0 0)]), 2, 40) := by kernel_rfl
theorem info85 : (Tryd.prog.info? 85).map (fun i => (i.zero, i.size, i.bytes)) = some (some (.agg #[(.int .i64 0), (.int .i64 0)]), 2, 16) := by kernel_rfl
-- the values' own types
/-! #### struct type 24, nested in itself -/
structure S24 where
  f0 : Int
  f1 : Int
  f2 : ByteArray
  f3 : (List S24)
def z24 : S24 := ⟨(0 : Int), (0 : Int), (⟨#[]⟩ : ByteArray), ([] : List S24)⟩
def F24 (d : Kd S24) : Kd S24 := Kd.iso (Kd.pair (Kd.int .i64) (Kd.pair (Kd.int .i64) (Kd.pair Kd.string (Kd.slice 24 d)))) (fun x : S24 => (x.f0, x.f1, x.f2, x.f3))
theorem mono24 : Kd.Mono F24 := Kd.mono_iso _ (Kd.mono_pair (Kd.mono_const _) (Kd.mono_pair (Kd.mono_const _) (Kd.mono_pair (Kd.mono_const _) (Kd.mono_slice 24 Kd.mono_id))))
theorem sub24 : Kd.Sub F24 [24] := Kd.sub_iso _ (Kd.sub_pair (Kd.sub_const _ (by decide)) (Kd.sub_pair (Kd.sub_const _ (by decide)) (Kd.sub_pair (Kd.sub_const _ (by decide)) (Kd.sub_slice 24 (by decide) Kd.sub_id))))
theorem sz24 : ∀ n, (Kd.upto F24 4 [24] n).sz = 4 := Kd.upto_sz (fun _ => rfl)
def k24 : Kd S24 := Kd.fix F24 4 [24] sz24 (Kd.upto_E sub24)
theorem k24_heap : Kd.Heap k24 := Kd.heap_fix (fun _ h_ => Kd.heap_iso _ (Kd.heap_pair (Kd.heap_int .i64) (Kd.heap_pair (Kd.heap_int .i64) (Kd.heap_pair Kd.heap_string (Kd.heap_slice 24 h_)))))
theorem k24_open {w : World} {x : S24} {cs : List Value} (h : k24.K w x cs) : ∃ A3 c3, cs = [.int .i64 x.f0, .int .i64 x.f1, .string x.f2, .slice A3 x.f3.length c3] ∧ x.f3.length ≤ c3 ∧ k24.C w A3 x.f3.length x.f3 := by
  obtain ⟨n, h⟩ := h
  cases n with
  | zero => exact h.elim
  | succ n =>
    obtain ⟨_, _, rfl, rfl, ⟨_, _, rfl, rfl, ⟨_, _, rfl, rfl, ⟨A3, c3, rfl, l3, g3⟩⟩⟩⟩ := h
    exact ⟨A3, c3, rfl, l3, Kd.fix_C g3⟩
theorem k24_openM {w : World} {base : Nat} {ok : Nat → Prop} {x : S24} {cs : List Value} (h : k24.M w base ok x cs) : ∃ v3, cs = [.int .i64 x.f0, .int .i64 x.f1, .string x.f2, v3] ∧ k24.R 24 w base ok v3 x.f3 := by
  obtain ⟨n, h⟩ := h
  cases n with
  | zero => exact h.elim
  | succ n =>
    obtain ⟨_, _, rfl, rfl, ⟨_, _, rfl, rfl, ⟨_, _, rfl, rfl, ⟨v3, rfl, g3⟩⟩⟩⟩ := h
    exact ⟨v3, rfl, Kd.fix_R g3⟩
theorem k24_mk (w : World) (x : S24) {A3 : Option Addr} {c3 : Nat} (l3 : x.f3.length ≤ c3) (g3 : k24.C w A3 x.f3.length x.f3) : k24.K w x [.int .i64 x.f0, .int .i64 x.f1, .string x.f2, .slice A3 x.f3.length c3] := by
  obtain ⟨n3, q3⟩ := Kd.fix_C_back mono24 g3
  have r3 := Kd.upto_C_le mono24 sz24 (show n3 ≤ n3 by omega) q3
  exact ⟨n3 + 1, ⟨[.int .i64 x.f0], [.int .i64 x.f1, .string x.f2, .slice A3 x.f3.length c3], rfl, rfl, ⟨[.int .i64 x.f1], [.string x.f2, .slice A3 x.f3.length c3], rfl, rfl, ⟨[.string x.f2], [.slice A3 x.f3.length c3], rfl, rfl, ⟨A3, c3, rfl, l3, r3⟩⟩⟩⟩⟩
theorem k24_mkM (w : World) (base : Nat) (ok : Nat → Prop) (x : S24) {v3 : Value} (g3 : k24.R 24 w base ok v3 x.f3) : k24.M w base ok x [.int .i64 x.f0, .int .i64 x.f1, .string x.f2, v3] := by
  obtain ⟨n3, q3⟩ := Kd.fix_R_back mono24 g3
  have r3 := Kd.upto_R_le mono24 sz24 (show n3 ≤ n3 by omega) q3
  exact ⟨n3 + 1, ⟨[.int .i64 x.f0], [.int .i64 x.f1, .string x.f2, v3], rfl, rfl, ⟨[.int .i64 x.f1], [.string x.f2, v3], rfl, rfl, ⟨[.string x.f2], [v3], rfl, rfl, ⟨v3, rfl, r3⟩⟩⟩⟩⟩
theorem k24_openF {W : World} {ok : Nat → Prop} {x : S24} {cs : List Value} (h : Kd.FK k24 W ok x cs) : ∃ A3 c3, cs = [.int .i64 x.f0, .int .i64 x.f1, .string x.f2, .slice A3 x.f3.length c3] ∧ x.f3.length ≤ c3 ∧ Kd.F k24 W ok A3 x.f3.length x.f3 := by
  obtain ⟨A3, c3, rfl, l3, _⟩ := k24_open (Kd.FK_now h)
  exact ⟨A3, c3, rfl, l3, (fun W' hW => by obtain ⟨A3_, c3_, he, l3_, g3_⟩ := k24_open (h W' hW); injection (Option.some.inj (show some (Value.slice A3 x.f3.length c3) = some (Value.slice A3_ x.f3.length c3_) from congrArg (fun l => l[3]?) he)) with ha_ _ _; rw [ha_]; exact g3_)⟩
theorem k24_mkF (W : World) (ok : Nat → Prop) (x : S24) {A3 : Option Addr} {c3 : Nat} (l3 : x.f3.length ≤ c3) (g3 : Kd.F k24 W ok A3 x.f3.length x.f3) : Kd.FK k24 W ok x [.int .i64 x.f0, .int .i64 x.f1, .string x.f2, .slice A3 x.f3.length c3] := fun W2 hW => k24_mk W2 x l3 (g3 W2 hW)
def rd_T24 (xs : List S24) (i : Int) : S24 := xs.getD i.toNat z24
theorem at_T24 {w : World} {A : Option Addr} {n : Nat} {xs : List S24} (h : Kd.C k24 w A n xs) (i : Int) (h0 : 0 ≤ i) (h1 : i < n) : ∃ ad A3 c3, A = some ad ∧ w.cell? (ad.add (i.toNat * 4)) = some (.int .i64 (rd_T24 xs i).f0) ∧ w.cell? ⟨(ad.add (i.toNat * 4)).block, (ad.add (i.toNat * 4)).off + 1, none⟩ = some (.int .i64 (rd_T24 xs i).f1) ∧ w.cell? ⟨(ad.add (i.toNat * 4)).block, (ad.add (i.toNat * 4)).off + 2, none⟩ = some (.string (rd_T24 xs i).f2) ∧ w.cell? ⟨(ad.add (i.toNat * 4)).block, (ad.add (i.toNat * 4)).off + 3, none⟩ = some (.slice A3 (rd_T24 xs i).f3.length c3) ∧ (rd_T24 xs i).f3.length ≤ c3 ∧ k24.C w A3 (rd_T24 xs i).f3.length (rd_T24 xs i).f3 := by
  obtain ⟨ad, c, e, _, hK, hc0⟩ := Kd.C_get h z24 i h0 h1
  have hc : ∀ j u, c[j]? = some u → w.cell? (ad.add (i.toNat * 4 + j)) = some u := hc0
  obtain ⟨A3, c3, rfl, l3, g3⟩ := k24_open hK
  exact ⟨ad, A3, c3, e, hc 0 _ rfl, by rw [← add_field _ _ 1 (by omega)]; exact hc 1 _ rfl, by rw [← add_field _ _ 2 (by omega)]; exact hc 2 _ rfl, by rw [← add_field _ _ 3 (by omega)]; exact hc 3 _ rfl, l3, g3⟩

/-! #### struct type 50 -/
structure S50 where
  f0 : Int
  f1 : Int
def z50 : S50 := ⟨(0 : Int), (0 : Int)⟩
def k50 : Kd S50 := Kd.iso (Kd.pair (Kd.int .i64) (Kd.int .i64)) (fun x : S50 => (x.f0, x.f1))
theorem k50_heap : Kd.Heap k50 := Kd.heap_iso _ (Kd.heap_pair (Kd.heap_int .i64) (Kd.heap_int .i64))
theorem k50_open {w : World} {x : S50} {cs : List Value} (h : k50.K w x cs) : cs = [.int .i64 x.f0, .int .i64 x.f1] := by
  obtain ⟨_, _, rfl, rfl, rfl⟩ := h
  exact rfl
theorem k50_openM {w : World} {base : Nat} {ok : Nat → Prop} {x : S50} {cs : List Value} (h : k50.M w base ok x cs) : cs = [.int .i64 x.f0, .int .i64 x.f1] := by
  obtain ⟨_, _, rfl, rfl, rfl⟩ := h
  exact rfl
theorem k50_mk (w : World) (x : S50)  : k50.K w x [.int .i64 x.f0, .int .i64 x.f1] := ⟨[.int .i64 x.f0], [.int .i64 x.f1], rfl, rfl, rfl⟩
theorem k50_mkM (w : World) (base : Nat) (ok : Nat → Prop) (x : S50)  : k50.M w base ok x [.int .i64 x.f0, .int .i64 x.f1] := ⟨[.int .i64 x.f0], [.int .i64 x.f1], rfl, rfl, rfl⟩
theorem k50_mkF (W : World) (ok : Nat → Prop) (x : S50) : Kd.FK k50 W ok x [.int .i64 x.f0, .int .i64 x.f1] := fun W2 _ => k50_mk W2 x
def rd_T50 (xs : List S50) (i : Int) : S50 := xs.getD i.toNat z50
theorem at_T50 {w : World} {A : Option Addr} {n : Nat} {xs : List S50} (h : Kd.C k50 w A n xs) (i : Int) (h0 : 0 ≤ i) (h1 : i < n) : ∃ ad , A = some ad ∧ w.cell? (ad.add (i.toNat * 2)) = some (.int .i64 (rd_T50 xs i).f0) ∧ w.cell? ⟨(ad.add (i.toNat * 2)).block, (ad.add (i.toNat * 2)).off + 1, none⟩ = some (.int .i64 (rd_T50 xs i).f1) := by
  obtain ⟨ad, c, e, _, hK, hc0⟩ := Kd.C_get h z50 i h0 h1
  have hc : ∀ j u, c[j]? = some u → w.cell? (ad.add (i.toNat * 2 + j)) = some u := hc0
  obtain rfl := k50_open hK
  exact ⟨ad, e, hc 0 _ rfl, by rw [← add_field _ _ 1 (by omega)]; exact hc 1 _ rfl⟩

/-! #### struct type 85 -/
structure S85 where
  f0 : Int
  f1 : Int
def z85 : S85 := ⟨(0 : Int), (0 : Int)⟩
def k85 : Kd S85 := Kd.iso (Kd.pair (Kd.int .i64) (Kd.int .i64)) (fun x : S85 => (x.f0, x.f1))
theorem k85_heap : Kd.Heap k85 := Kd.heap_iso _ (Kd.heap_pair (Kd.heap_int .i64) (Kd.heap_int .i64))
theorem k85_open {w : World} {x : S85} {cs : List Value} (h : k85.K w x cs) : cs = [.int .i64 x.f0, .int .i64 x.f1] := by
  obtain ⟨_, _, rfl, rfl, rfl⟩ := h
  exact rfl
theorem k85_openM {w : World} {base : Nat} {ok : Nat → Prop} {x : S85} {cs : List Value} (h : k85.M w base ok x cs) : cs = [.int .i64 x.f0, .int .i64 x.f1] := by
  obtain ⟨_, _, rfl, rfl, rfl⟩ := h
  exact rfl
theorem k85_mk (w : World) (x : S85)  : k85.K w x [.int .i64 x.f0, .int .i64 x.f1] := ⟨[.int .i64 x.f0], [.int .i64 x.f1], rfl, rfl, rfl⟩
theorem k85_mkM (w : World) (base : Nat) (ok : Nat → Prop) (x : S85)  : k85.M w base ok x [.int .i64 x.f0, .int .i64 x.f1] := ⟨[.int .i64 x.f0], [.int .i64 x.f1], rfl, rfl, rfl⟩
theorem k85_mkF (W : World) (ok : Nat → Prop) (x : S85) : Kd.FK k85 W ok x [.int .i64 x.f0, .int .i64 x.f1] := fun W2 _ => k85_mk W2 x
def rd_T85 (xs : List S85) (i : Int) : S85 := xs.getD i.toNat z85
theorem at_T85 {w : World} {A : Option Addr} {n : Nat} {xs : List S85} (h : Kd.C k85 w A n xs) (i : Int) (h0 : 0 ≤ i) (h1 : i < n) : ∃ ad , A = some ad ∧ w.cell? (ad.add (i.toNat * 2)) = some (.int .i64 (rd_T85 xs i).f0) ∧ w.cell? ⟨(ad.add (i.toNat * 2)).block, (ad.add (i.toNat * 2)).off + 1, none⟩ = some (.int .i64 (rd_T85 xs i).f1) := by
  obtain ⟨ad, c, e, _, hK, hc0⟩ := Kd.C_get h z85 i h0 h1
  have hc : ∀ j u, c[j]? = some u → w.cell? (ad.add (i.toNat * 2 + j)) = some u := hc0
  obtain rfl := k85_open hK
  exact ⟨ad, e, hc 0 _ rfl, by rw [← add_field _ _ 1 (by omega)]; exact hc 1 _ rfl⟩

def rd_L5 (xs : List (List S85)) (i : Int) : (List S85) := xs.getD i.toNat ([] : List S85)
theorem at_L5 {w : World} {A : Option Addr} {n : Nat} {xs : List (List S85)} (h : Kd.C (Kd.slice 85 k85) w A n xs) (i : Int) (h0 : 0 ≤ i) (h1 : i < n) : ∃ ad A0 c0, A = some ad ∧ w.cell? (ad.add i.toNat) = some (.slice A0 (rd_L5 xs i).length c0) ∧ (rd_L5 xs i).length ≤ c0 ∧ k85.C w A0 (rd_L5 xs i).length (rd_L5 xs i) := by
  obtain ⟨ad, c, e, _, hK, hc0⟩ := Kd.C_get h ([] : List S85) i h0 h1
  have hc : ∀ j u, c[j]? = some u → w.cell? (ad.add (i.toNat * 1 + j)) = some u := hc0
  obtain ⟨A0, c0, rfl, l0, g0⟩ := hK
  exact ⟨ad, A0, c0, e, by have hq := hc 0 _ rfl; rwa [Nat.mul_one, Nat.add_zero] at hq, l0, g0⟩

/-! #### struct type 83 -/
structure S83 where
  f0 : ByteArray
  f1 : (List S85)
def z83 : S83 := ⟨(⟨#[]⟩ : ByteArray), ([] : List S85)⟩
def k83 : Kd S83 := Kd.iso (Kd.pair Kd.string (Kd.slice 85 k85)) (fun x : S83 => (x.f0, x.f1))
theorem k83_heap : Kd.Heap k83 := Kd.heap_iso _ (Kd.heap_pair Kd.heap_string (Kd.heap_slice 85 k85_heap))
theorem k83_open {w : World} {x : S83} {cs : List Value} (h : k83.K w x cs) : ∃ A1 c1, cs = [.string x.f0, .slice A1 x.f1.length c1] ∧ x.f1.length ≤ c1 ∧ k85.C w A1 x.f1.length x.f1 := by
  obtain ⟨_, _, rfl, rfl, ⟨A1, c1, rfl, l1, g1⟩⟩ := h
  exact ⟨A1, c1, rfl, l1, g1⟩
theorem k83_openM {w : World} {base : Nat} {ok : Nat → Prop} {x : S83} {cs : List Value} (h : k83.M w base ok x cs) : ∃ v1, cs = [.string x.f0, v1] ∧ k85.R 85 w base ok v1 x.f1 := by
  obtain ⟨_, _, rfl, rfl, ⟨v1, rfl, g1⟩⟩ := h
  exact ⟨v1, rfl, g1⟩
theorem k83_mk (w : World) (x : S83) {A1 : Option Addr} {c1 : Nat} (l1 : x.f1.length ≤ c1) (g1 : k85.C w A1 x.f1.length x.f1) : k83.K w x [.string x.f0, .slice A1 x.f1.length c1] := ⟨[.string x.f0], [.slice A1 x.f1.length c1], rfl, rfl, ⟨A1, c1, rfl, l1, g1⟩⟩
theorem k83_mkM (w : World) (base : Nat) (ok : Nat → Prop) (x : S83) {v1 : Value} (g1 : k85.R 85 w base ok v1 x.f1) : k83.M w base ok x [.string x.f0, v1] := ⟨[.string x.f0], [v1], rfl, rfl, ⟨v1, rfl, g1⟩⟩
theorem k83_openF {W : World} {ok : Nat → Prop} {x : S83} {cs : List Value} (h : Kd.FK k83 W ok x cs) : ∃ A1 c1, cs = [.string x.f0, .slice A1 x.f1.length c1] ∧ x.f1.length ≤ c1 ∧ Kd.F k85 W ok A1 x.f1.length x.f1 := by
  obtain ⟨A1, c1, rfl, l1, _⟩ := k83_open (Kd.FK_now h)
  exact ⟨A1, c1, rfl, l1, (fun W' hW => by obtain ⟨A1_, c1_, he, l1_, g1_⟩ := k83_open (h W' hW); injection (Option.some.inj (show some (Value.slice A1 x.f1.length c1) = some (Value.slice A1_ x.f1.length c1_) from congrArg (fun l => l[1]?) he)) with ha_ _ _; rw [ha_]; exact g1_)⟩
theorem k83_mkF (W : World) (ok : Nat → Prop) (x : S83) {A1 : Option Addr} {c1 : Nat} (l1 : x.f1.length ≤ c1) (g1 : Kd.F k85 W ok A1 x.f1.length x.f1) : Kd.FK k83 W ok x [.string x.f0, .slice A1 x.f1.length c1] := fun W2 hW => k83_mk W2 x l1 (g1 W2 hW)
def rd_T83 (xs : List S83) (i : Int) : S83 := xs.getD i.toNat z83
theorem at_T83 {w : World} {A : Option Addr} {n : Nat} {xs : List S83} (h : Kd.C k83 w A n xs) (i : Int) (h0 : 0 ≤ i) (h1 : i < n) : ∃ ad A1 c1, A = some ad ∧ w.cell? (ad.add (i.toNat * 2)) = some (.string (rd_T83 xs i).f0) ∧ w.cell? ⟨(ad.add (i.toNat * 2)).block, (ad.add (i.toNat * 2)).off + 1, none⟩ = some (.slice A1 (rd_T83 xs i).f1.length c1) ∧ (rd_T83 xs i).f1.length ≤ c1 ∧ k85.C w A1 (rd_T83 xs i).f1.length (rd_T83 xs i).f1 := by
  obtain ⟨ad, c, e, _, hK, hc0⟩ := Kd.C_get h z83 i h0 h1
  have hc : ∀ j u, c[j]? = some u → w.cell? (ad.add (i.toNat * 2 + j)) = some u := hc0
  obtain ⟨A1, c1, rfl, l1, g1⟩ := k83_open hK
  exact ⟨ad, A1, c1, e, hc 0 _ rfl, by rw [← add_field _ _ 1 (by omega)]; exact hc 1 _ rfl, l1, g1⟩

/-! #### struct type 48 -/
structure S48 where
  f0 : Int
  f1 : ByteArray
  f2 : Int
def z48 : S48 := ⟨(0 : Int), (⟨#[]⟩ : ByteArray), (0 : Int)⟩
def k48 : Kd S48 := Kd.iso (Kd.pair (Kd.int .i64) (Kd.pair Kd.string (Kd.int .i64))) (fun x : S48 => (x.f0, x.f1, x.f2))
theorem k48_heap : Kd.Heap k48 := Kd.heap_iso _ (Kd.heap_pair (Kd.heap_int .i64) (Kd.heap_pair Kd.heap_string (Kd.heap_int .i64)))
theorem k48_open {w : World} {x : S48} {cs : List Value} (h : k48.K w x cs) : cs = [.int .i64 x.f0, .string x.f1, .int .i64 x.f2] := by
  obtain ⟨_, _, rfl, rfl, ⟨_, _, rfl, rfl, rfl⟩⟩ := h
  exact rfl
theorem k48_openM {w : World} {base : Nat} {ok : Nat → Prop} {x : S48} {cs : List Value} (h : k48.M w base ok x cs) : cs = [.int .i64 x.f0, .string x.f1, .int .i64 x.f2] := by
  obtain ⟨_, _, rfl, rfl, ⟨_, _, rfl, rfl, rfl⟩⟩ := h
  exact rfl
theorem k48_mk (w : World) (x : S48)  : k48.K w x [.int .i64 x.f0, .string x.f1, .int .i64 x.f2] := ⟨[.int .i64 x.f0], [.string x.f1, .int .i64 x.f2], rfl, rfl, ⟨[.string x.f1], [.int .i64 x.f2], rfl, rfl, rfl⟩⟩
theorem k48_mkM (w : World) (base : Nat) (ok : Nat → Prop) (x : S48)  : k48.M w base ok x [.int .i64 x.f0, .string x.f1, .int .i64 x.f2] := ⟨[.int .i64 x.f0], [.string x.f1, .int .i64 x.f2], rfl, rfl, ⟨[.string x.f1], [.int .i64 x.f2], rfl, rfl, rfl⟩⟩
theorem k48_mkF (W : World) (ok : Nat → Prop) (x : S48) : Kd.FK k48 W ok x [.int .i64 x.f0, .string x.f1, .int .i64 x.f2] := fun W2 _ => k48_mk W2 x
def rd_T48 (xs : List S48) (i : Int) : S48 := xs.getD i.toNat z48
theorem at_T48 {w : World} {A : Option Addr} {n : Nat} {xs : List S48} (h : Kd.C k48 w A n xs) (i : Int) (h0 : 0 ≤ i) (h1 : i < n) : ∃ ad , A = some ad ∧ w.cell? (ad.add (i.toNat * 3)) = some (.int .i64 (rd_T48 xs i).f0) ∧ w.cell? ⟨(ad.add (i.toNat * 3)).block, (ad.add (i.toNat * 3)).off + 1, none⟩ = some (.string (rd_T48 xs i).f1) ∧ w.cell? ⟨(ad.add (i.toNat * 3)).block, (ad.add (i.toNat * 3)).off + 2, none⟩ = some (.int .i64 (rd_T48 xs i).f2) := by
  obtain ⟨ad, c, e, _, hK, hc0⟩ := Kd.C_get h z48 i h0 h1
  have hc : ∀ j u, c[j]? = some u → w.cell? (ad.add (i.toNat * 3 + j)) = some u := hc0
  obtain rfl := k48_open hK
  exact ⟨ad, e, hc 0 _ rfl, by rw [← add_field _ _ 1 (by omega)]; exact hc 1 _ rfl, by rw [← add_field _ _ 2 (by omega)]; exact hc 2 _ rfl⟩

/-! #### struct type 88 -/
structure S88 where
  f0 : Int
  f1 : Int
  f2 : Int
  f3 : Int
  f4 : Int
  f5 : ByteArray
  f6 : Int
def z88 : S88 := ⟨(0 : Int), (0 : Int), (0 : Int), (0 : Int), (0 : Int), (⟨#[]⟩ : ByteArray), (0 : Int)⟩
def k88 : Kd S88 := Kd.iso (Kd.pair (Kd.int .i64) (Kd.pair (Kd.int .i64) (Kd.pair (Kd.int .i64) (Kd.pair (Kd.int .i64) (Kd.pair (Kd.int .i64) (Kd.pair Kd.string (Kd.int .i64))))))) (fun x : S88 => (x.f0, x.f1, x.f2, x.f3, x.f4, x.f5, x.f6))
theorem k88_heap : Kd.Heap k88 := Kd.heap_iso _ (Kd.heap_pair (Kd.heap_int .i64) (Kd.heap_pair (Kd.heap_int .i64) (Kd.heap_pair (Kd.heap_int .i64) (Kd.heap_pair (Kd.heap_int .i64) (Kd.heap_pair (Kd.heap_int .i64) (Kd.heap_pair Kd.heap_string (Kd.heap_int .i64)))))))
theorem k88_open {w : World} {x : S88} {cs : List Value} (h : k88.K w x cs) : cs = [.int .i64 x.f0, .int .i64 x.f1, .int .i64 x.f2, .int .i64 x.f3, .int .i64 x.f4, .string x.f5, .int .i64 x.f6] := by
  obtain ⟨_, _, rfl, rfl, ⟨_, _, rfl, rfl, ⟨_, _, rfl, rfl, ⟨_, _, rfl, rfl, ⟨_, _, rfl, rfl, ⟨_, _, rfl, rfl, rfl⟩⟩⟩⟩⟩⟩ := h
  exact rfl
theorem k88_openM {w : World} {base : Nat} {ok : Nat → Prop} {x : S88} {cs : List Value} (h : k88.M w base ok x cs) : cs = [.int .i64 x.f0, .int .i64 x.f1, .int .i64 x.f2, .int .i64 x.f3, .int .i64 x.f4, .string x.f5, .int .i64 x.f6] := by
  obtain ⟨_, _, rfl, rfl, ⟨_, _, rfl, rfl, ⟨_, _, rfl, rfl, ⟨_, _, rfl, rfl, ⟨_, _, rfl, rfl, ⟨_, _, rfl, rfl, rfl⟩⟩⟩⟩⟩⟩ := h
  exact rfl
theorem k88_mk (w : World) (x : S88)  : k88.K w x [.int .i64 x.f0, .int .i64 x.f1, .int .i64 x.f2, .int .i64 x.f3, .int .i64 x.f4, .string x.f5, .int .i64 x.f6] := ⟨[.int .i64 x.f0], [.int .i64 x.f1, .int .i64 x.f2, .int .i64 x.f3, .int .i64 x.f4, .string x.f5, .int .i64 x.f6], rfl, rfl, ⟨[.int .i64 x.f1], [.int .i64 x.f2, .int .i64 x.f3, .int .i64 x.f4, .string x.f5, .int .i64 x.f6], rfl, rfl, ⟨[.int .i64 x.f2], [.int .i64 x.f3, .int .i64 x.f4, .string x.f5, .int .i64 x.f6], rfl, rfl, ⟨[.int .i64 x.f3], [.int .i64 x.f4, .string x.f5, .int .i64 x.f6], rfl, rfl, ⟨[.int .i64 x.f4], [.string x.f5, .int .i64 x.f6], rfl, rfl, ⟨[.string x.f5], [.int .i64 x.f6], rfl, rfl, rfl⟩⟩⟩⟩⟩⟩
theorem k88_mkM (w : World) (base : Nat) (ok : Nat → Prop) (x : S88)  : k88.M w base ok x [.int .i64 x.f0, .int .i64 x.f1, .int .i64 x.f2, .int .i64 x.f3, .int .i64 x.f4, .string x.f5, .int .i64 x.f6] := ⟨[.int .i64 x.f0], [.int .i64 x.f1, .int .i64 x.f2, .int .i64 x.f3, .int .i64 x.f4, .string x.f5, .int .i64 x.f6], rfl, rfl, ⟨[.int .i64 x.f1], [.int .i64 x.f2, .int .i64 x.f3, .int .i64 x.f4, .string x.f5, .int .i64 x.f6], rfl, rfl, ⟨[.int .i64 x.f2], [.int .i64 x.f3, .int .i64 x.f4, .string x.f5, .int .i64 x.f6], rfl, rfl, ⟨[.int .i64 x.f3], [.int .i64 x.f4, .string x.f5, .int .i64 x.f6], rfl, rfl, ⟨[.int .i64 x.f4], [.string x.f5, .int .i64 x.f6], rfl, rfl, ⟨[.string x.f5], [.int .i64 x.f6], rfl, rfl, rfl⟩⟩⟩⟩⟩⟩
theorem k88_mkF (W : World) (ok : Nat → Prop) (x : S88) : Kd.FK k88 W ok x [.int .i64 x.f0, .int .i64 x.f1, .int .i64 x.f2, .int .i64 x.f3, .int .i64 x.f4, .string x.f5, .int .i64 x.f6] := fun W2 _ => k88_mk W2 x
def rd_T88 (xs : List S88) (i : Int) : S88 := xs.getD i.toNat z88
theorem at_T88 {w : World} {A : Option Addr} {n : Nat} {xs : List S88} (h : Kd.C k88 w A n xs) (i : Int) (h0 : 0 ≤ i) (h1 : i < n) : ∃ ad , A = some ad ∧ w.cell? (ad.add (i.toNat * 7)) = some (.int .i64 (rd_T88 xs i).f0) ∧ w.cell? ⟨(ad.add (i.toNat * 7)).block, (ad.add (i.toNat * 7)).off + 1, none⟩ = some (.int .i64 (rd_T88 xs i).f1) ∧ w.cell? ⟨(ad.add (i.toNat * 7)).block, (ad.add (i.toNat * 7)).off + 2, none⟩ = some (.int .i64 (rd_T88 xs i).f2) ∧ w.cell? ⟨(ad.add (i.toNat * 7)).block, (ad.add (i.toNat * 7)).off + 3, none⟩ = some (.int .i64 (rd_T88 xs i).f3) ∧ w.cell? ⟨(ad.add (i.toNat * 7)).block, (ad.add (i.toNat * 7)).off + 4, none⟩ = some (.int .i64 (rd_T88 xs i).f4) ∧ w.cell? ⟨(ad.add (i.toNat * 7)).block, (ad.add (i.toNat * 7)).off + 5, none⟩ = some (.string (rd_T88 xs i).f5) ∧ w.cell? ⟨(ad.add (i.toNat * 7)).block, (ad.add (i.toNat * 7)).off + 6, none⟩ = some (.int .i64 (rd_T88 xs i).f6) := by
  obtain ⟨ad, c, e, _, hK, hc0⟩ := Kd.C_get h z88 i h0 h1
  have hc : ∀ j u, c[j]? = some u → w.cell? (ad.add (i.toNat * 7 + j)) = some u := hc0
  obtain rfl := k88_open hK
  exact ⟨ad, e, hc 0 _ rfl, by rw [← add_field _ _ 1 (by omega)]; exact hc 1 _ rfl, by rw [← add_field _ _ 2 (by omega)]; exact hc 2 _ rfl, by rw [← add_field _ _ 3 (by omega)]; exact hc 3 _ rfl, by rw [← add_field _ _ 4 (by omega)]; exact hc 4 _ rfl, by rw [← add_field _ _ 5 (by omega)]; exact hc 5 _ rfl, by rw [← add_field _ _ 6 (by omega)]; exact hc 6 _ rfl⟩

/-! #### struct type 100 -/
structure S100 where
  f0 : Int
  f1 : Int
  f2 : ByteArray
  f3 : Int
  f4 : Int
def z100 : S100 := ⟨(0 : Int), (0 : Int), (⟨#[]⟩ : ByteArray), (0 : Int), (0 : Int)⟩
def k100 : Kd S100 := Kd.iso (Kd.pair (Kd.int .i64) (Kd.pair (Kd.int .i64) (Kd.pair Kd.string (Kd.pair (Kd.int .i64) (Kd.int .i64))))) (fun x : S100 => (x.f0, x.f1, x.f2, x.f3, x.f4))
theorem k100_heap : Kd.Heap k100 := Kd.heap_iso _ (Kd.heap_pair (Kd.heap_int .i64) (Kd.heap_pair (Kd.heap_int .i64) (Kd.heap_pair Kd.heap_string (Kd.heap_pair (Kd.heap_int .i64) (Kd.heap_int .i64)))))
theorem k100_open {w : World} {x : S100} {cs : List Value} (h : k100.K w x cs) : cs = [.int .i64 x.f0, .int .i64 x.f1, .string x.f2, .int .i64 x.f3, .int .i64 x.f4] := by
  obtain ⟨_, _, rfl, rfl, ⟨_, _, rfl, rfl, ⟨_, _, rfl, rfl, ⟨_, _, rfl, rfl, rfl⟩⟩⟩⟩ := h
  exact rfl
theorem k100_openM {w : World} {base : Nat} {ok : Nat → Prop} {x : S100} {cs : List Value} (h : k100.M w base ok x cs) : cs = [.int .i64 x.f0, .int .i64 x.f1, .string x.f2, .int .i64 x.f3, .int .i64 x.f4] := by
  obtain ⟨_, _, rfl, rfl, ⟨_, _, rfl, rfl, ⟨_, _, rfl, rfl, ⟨_, _, rfl, rfl, rfl⟩⟩⟩⟩ := h
  exact rfl
theorem k100_mk (w : World) (x : S100)  : k100.K w x [.int .i64 x.f0, .int .i64 x.f1, .string x.f2, .int .i64 x.f3, .int .i64 x.f4] := ⟨[.int .i64 x.f0], [.int .i64 x.f1, .string x.f2, .int .i64 x.f3, .int .i64 x.f4], rfl, rfl, ⟨[.int .i64 x.f1], [.string x.f2, .int .i64 x.f3, .int .i64 x.f4], rfl, rfl, ⟨[.string x.f2], [.int .i64 x.f3, .int .i64 x.f4], rfl, rfl, ⟨[.int .i64 x.f3], [.int .i64 x.f4], rfl, rfl, rfl⟩⟩⟩⟩
theorem k100_mkM (w : World) (base : Nat) (ok : Nat → Prop) (x : S100)  : k100.M w base ok x [.int .i64 x.f0, .int .i64 x.f1, .string x.f2, .int .i64 x.f3, .int .i64 x.f4] := ⟨[.int .i64 x.f0], [.int .i64 x.f1, .string x.f2, .int .i64 x.f3, .int .i64 x.f4], rfl, rfl, ⟨[.int .i64 x.f1], [.string x.f2, .int .i64 x.f3, .int .i64 x.f4], rfl, rfl, ⟨[.string x.f2], [.int .i64 x.f3, .int .i64 x.f4], rfl, rfl, ⟨[.int .i64 x.f3], [.int .i64 x.f4], rfl, rfl, rfl⟩⟩⟩⟩
theorem k100_mkF (W : World) (ok : Nat → Prop) (x : S100) : Kd.FK k100 W ok x [.int .i64 x.f0, .int .i64 x.f1, .string x.f2, .int .i64 x.f3, .int .i64 x.f4] := fun W2 _ => k100_mk W2 x
def rd_T100 (xs : List S100) (i : Int) : S100 := xs.getD i.toNat z100
theorem at_T100 {w : World} {A : Option Addr} {n : Nat} {xs : List S100} (h : Kd.C k100 w A n xs) (i : Int) (h0 : 0 ≤ i) (h1 : i < n) : ∃ ad , A = some ad ∧ w.cell? (ad.add (i.toNat * 5)) = some (.int .i64 (rd_T100 xs i).f0) ∧ w.cell? ⟨(ad.add (i.toNat * 5)).block, (ad.add (i.toNat * 5)).off + 1, none⟩ = some (.int .i64 (rd_T100 xs i).f1) ∧ w.cell? ⟨(ad.add (i.toNat * 5)).block, (ad.add (i.toNat * 5)).off + 2, none⟩ = some (.string (rd_T100 xs i).f2) ∧ w.cell? ⟨(ad.add (i.toNat * 5)).block, (ad.add (i.toNat * 5)).off + 3, none⟩ = some (.int .i64 (rd_T100 xs i).f3) ∧ w.cell? ⟨(ad.add (i.toNat * 5)).block, (ad.add (i.toNat * 5)).off + 4, none⟩ = some (.int .i64 (rd_T100 xs i).f4) := by
  obtain ⟨ad, c, e, _, hK, hc0⟩ := Kd.C_get h z100 i h0 h1
  have hc : ∀ j u, c[j]? = some u → w.cell? (ad.add (i.toNat * 5 + j)) = some u := hc0
  obtain rfl := k100_open hK
  exact ⟨ad, e, hc 0 _ rfl, by rw [← add_field _ _ 1 (by omega)]; exact hc 1 _ rfl, by rw [← add_field _ _ 2 (by omega)]; exact hc 2 _ rfl, by rw [← add_field _ _ 3 (by omega)]; exact hc 3 _ rfl, by rw [← add_field _ _ 4 (by omega)]; exact hc 4 _ rfl⟩

/-! #### struct type 94 -/
structure S94 where
  f0 : Int
  f1 : Int
def z94 : S94 := ⟨(0 : Int), (0 : Int)⟩
def k94 : Kd S94 := Kd.iso (Kd.pair (Kd.int .i64) (Kd.int .i64)) (fun x : S94 => (x.f0, x.f1))
theorem k94_heap : Kd.Heap k94 := Kd.heap_iso _ (Kd.heap_pair (Kd.heap_int .i64) (Kd.heap_int .i64))
theorem k94_open {w : World} {x : S94} {cs : List Value} (h : k94.K w x cs) : cs = [.int .i64 x.f0, .int .i64 x.f1] := by
  obtain ⟨_, _, rfl, rfl, rfl⟩ := h
  exact rfl
theorem k94_openM {w : World} {base : Nat} {ok : Nat → Prop} {x : S94} {cs : List Value} (h : k94.M w base ok x cs) : cs = [.int .i64 x.f0, .int .i64 x.f1] := by
  obtain ⟨_, _, rfl, rfl, rfl⟩ := h
  exact rfl
theorem k94_mk (w : World) (x : S94)  : k94.K w x [.int .i64 x.f0, .int .i64 x.f1] := ⟨[.int .i64 x.f0], [.int .i64 x.f1], rfl, rfl, rfl⟩
theorem k94_mkM (w : World) (base : Nat) (ok : Nat → Prop) (x : S94)  : k94.M w base ok x [.int .i64 x.f0, .int .i64 x.f1] := ⟨[.int .i64 x.f0], [.int .i64 x.f1], rfl, rfl, rfl⟩
theorem k94_mkF (W : World) (ok : Nat → Prop) (x : S94) : Kd.FK k94 W ok x [.int .i64 x.f0, .int .i64 x.f1] := fun W2 _ => k94_mk W2 x
def rd_T94 (xs : List S94) (i : Int) : S94 := xs.getD i.toNat z94
theorem at_T94 {w : World} {A : Option Addr} {n : Nat} {xs : List S94} (h : Kd.C k94 w A n xs) (i : Int) (h0 : 0 ≤ i) (h1 : i < n) : ∃ ad , A = some ad ∧ w.cell? (ad.add (i.toNat * 2)) = some (.int .i64 (rd_T94 xs i).f0) ∧ w.cell? ⟨(ad.add (i.toNat * 2)).block, (ad.add (i.toNat * 2)).off + 1, none⟩ = some (.int .i64 (rd_T94 xs i).f1) := by
  obtain ⟨ad, c, e, _, hK, hc0⟩ := Kd.C_get h z94 i h0 h1
  have hc : ∀ j u, c[j]? = some u → w.cell? (ad.add (i.toNat * 2 + j)) = some u := hc0
  obtain rfl := k94_open hK
  exact ⟨ad, e, hc 0 _ rfl, by rw [← add_field _ _ 1 (by omega)]; exact hc 1 _ rfl⟩

end Go.Proofs.YtniajhmbdbgmgaaDoor.Q

/- What a statement's argument reads as: slices of what can be read, and terms. -/
namespace Go.Proofs.YtniajhmbdbgmgaaDoor.Q
open Go Go.RowKit Go.WideShapes Go.ChangeShapes Go.Proofs.YtniajhmbdbgmgaaDoorW.PrintWords

section
variable {H : Type} {enc : TypeId × Value → H} {W : World} {sp : Nat → Bool} {held : Bool}
theorem cells_get {a : Addr} {n : Nat} {cs : List Value} (h : W.cells? 0 a n = some cs) : cs.length = n ∧ ∀ i u, cs[i]? = some u → W.cell? (a.add i) = some u := by
  unfold World.cells? at h
  rw [if_pos (Nat.zero_le _)] at h
  have hl := mapM_some_length h
  refine ⟨by simpa using hl, fun i u hu => ?_⟩
  have hi : i < n := by have := (List.getElem?_eq_some_iff.1 hu).1; simp at hl; omega
  have := mapM_some_get h i i (by simp [hi])
  rw [hu] at this
  exact this
/-- A slice of what can be read. -/
theorem open_slice {α : Type} {K : Kd α} {P : Program} {tS e : TypeId} (hS : P.underlying tS = some (.slice e)) (hsz : P.cellsOf e = K.sz) (n : Nat)
    (he : ∀ m, m < n → ∀ cs x, DataW.trod enc P W 0 sp held m e cs = some x → ∃ y, K.K W y cs) : ∀ cs x, DataW.trod enc P W 0 sp held n tS cs = some x →
    ∃ (A : Option Addr) (ys : List α) (c : Nat), cs = [.slice A ys.length c] ∧ ys.length ≤ c ∧ K.C W A ys.length ys := by
  intro cs x h
  rcases DataW.trod_slice hS h with ⟨rfl, _⟩ | ⟨a, len, cap, elems, rest, m, rfl, rfl, _, _, hlc, hcm, hel, hi, _, _⟩
  · exact ⟨none, [], 0, rfl, Nat.le_refl _, ⟨rfl, by simp, fun h => by simp at h⟩⟩
  · have hys : ∀ k, k ≤ len → ∃ ys : List α, ys.length = k ∧ ∀ j p, ys[j]? = some p → ∃ c, c.length = K.sz ∧ K.K W p c ∧ ∀ i u, c[i]? = some u → W.cell? (a.add (j * K.sz + i)) = some u := by
      intro k
      induction k with
      | zero => exact fun _ => ⟨[], rfl, fun j p hj => by simp at hj⟩
      | succ k ih =>
        intro hk
        obtain ⟨ys, hyl, hy⟩ := ih (by omega)
        have hk2 := hi k (by omega)
        obtain ⟨el, hel2⟩ : ∃ el, elems[k]? = some el := ⟨elems[k]'(by omega), List.getElem?_eq_getElem (by omega)⟩
        rw [hel2] at hk2
        obtain ⟨c, hc, ht⟩ := Option.bind_eq_some_iff.1 hk2
        obtain ⟨y, hK⟩ := he m (by omega) c el ht
        obtain ⟨hcl, hcc⟩ := cells_get hc
        refine ⟨ys ++ [y], by simp [hyl], fun j p hj => ?_⟩
        by_cases hjk : j < k
        · rw [List.getElem?_append_left (by omega)] at hj
          exact hy j p hj
        · have hjl : j = k := by
            have := (List.getElem?_eq_some_iff.1 hj).1
            simp [hyl] at this
            omega
          subst hjl
          rw [List.getElem?_append_right (by omega), hyl, Nat.sub_self] at hj
          simp only [List.getElem?_cons_zero, Option.some.injEq] at hj
          subst hj
          refine ⟨c, by rw [hcl, hsz], hK, fun i u hu => ?_⟩
          have h2 := hcc i u hu
          rw [hsz, add_add] at h2
          exact h2
    obtain ⟨ys, hyl, hy⟩ := hys len (Nat.le_refl _)
    subst hyl
    exact ⟨some a, ys, cap, rfl, hlc, ⟨rfl, by unfold maxLen at hcm; omega, fun _ => ⟨a, rfl, hy⟩⟩⟩

set_option maxRecDepth 100000 in
theorem open_core (n : Nat) : ∀ cs x, DataW.trod enc Tryd.prog W 0 sp held n 24 cs = some x → ∃ y : S24, k24.K W y cs := by
  induction n using Nat.strongRecOn with
  | _ n ih =>
    intro cs x h
    obtain ⟨xs, m, rfl, _, hlen, hxl, hf⟩ := DataW.trod_struct Tryd.underlying24 h
    have hc : Tryd.prog.cellsOf 24 = 4 := by kernel_rfl
    rw [hc] at hlen
    match cs, hlen with
    | [c0, c1, c2, c3], _ =>
      have hx4 : xs.length = 4 := hxl
      have l0 : xs[0]? = some (xs[0]'(by omega)) := List.getElem?_eq_getElem (by omega)
      have l1 : xs[1]? = some (xs[1]'(by omega)) := List.getElem?_eq_getElem (by omega)
      have l2 : xs[2]? = some (xs[2]'(by omega)) := List.getElem?_eq_getElem (by omega)
      have l3 : xs[3]? = some (xs[3]'(by omega)) := List.getElem?_eq_getElem (by omega)
      have z0 : Tryd.prog.cellsOf 3 = 1 := by kernel_rfl
      have z1 : Tryd.prog.cellsOf 2 = 1 := by kernel_rfl
      have z2 : Tryd.prog.cellsOf 9 = 1 := by kernel_rfl
      have z3 : Tryd.prog.cellsOf 22 = 1 := by kernel_rfl
      have f0 : DataW.trod enc Tryd.prog W 0 sp held m 3 (([c0, c1, c2, c3].drop 0).take (Tryd.prog.cellsOf 3)) = xs[0]? := hf 0 _ rfl
      have f1 : DataW.trod enc Tryd.prog W 0 sp held m 2 (([c0, c1, c2, c3].drop 1).take (Tryd.prog.cellsOf 2)) = xs[1]? := hf 1 _ rfl
      have f2 : DataW.trod enc Tryd.prog W 0 sp held m 9 (([c0, c1, c2, c3].drop 2).take (Tryd.prog.cellsOf 9)) = xs[2]? := hf 2 _ rfl
      have f3 : DataW.trod enc Tryd.prog W 0 sp held m 22 (([c0, c1, c2, c3].drop 3).take (Tryd.prog.cellsOf 22)) = xs[3]? := hf 3 _ rfl
      rw [z0] at f0
      rw [z1] at f1
      rw [z2] at f2
      rw [z3] at f3
      obtain ⟨a, h0, _, _⟩ := DataW.trod_int Tryd.underlying3 (f0.trans l0)
      obtain ⟨b, h1, _, _⟩ := DataW.trod_int Tryd.underlying2 (f1.trans l1)
      obtain ⟨s, h2, _, _⟩ := DataW.trod_string Tryd.underlying9 (f2.trans l2)
      obtain ⟨A, ys, c, h3, hl, hC⟩ := open_slice (K := k24) Tryd.underlying22 (by kernel_rfl) m (fun q hq => ih q (by omega)) _ _ (f3.trans l3)
      replace h0 := (List.cons.inj h0).1
      replace h1 := (List.cons.inj h1).1
      replace h2 := (List.cons.inj h2).1
      replace h3 := (List.cons.inj h3).1
      subst h0
      subst h1
      subst h2
      subst h3
      exact ⟨⟨a, b, s, ys⟩, k24_mk W ⟨a, b, s, ys⟩ hl hC⟩
set_option maxRecDepth 100000 in
/-- An argument that is a term. -/
theorem open_arg {base : Nat} {v : Value} {d : DataW H} {p : List MemPlace} (hval : Value.okWide Tryd.prog W .any base 24 v) (h : DataW.Trod enc Tryd.prog W 0 sp held 24 v d p) :
    ∃ (y : S24) (A : Option Addr) (c : Nat), v = .agg #[.int .i64 y.f0, .int .i64 y.f1, .string y.f2, .slice A y.f3.length c] ∧ y.f3.length ≤ c ∧ k24.C W A y.f3.length y.f3 := by
  obtain ⟨cs, rfl, _⟩ := okWide_struct Tryd.underlying24 hval
  obtain ⟨n, hn⟩ := h
  obtain ⟨y, hK⟩ := open_core n _ _ hn
  obtain ⟨A, c, he, hl, hC⟩ := k24_open hK
  refine ⟨y, A, c, ?_, hl, hC⟩
  have : cs.toList = [.int .i64 y.f0, .int .i64 y.f1, .string y.f2, .slice A y.f3.length c] := he
  have h2 : cs = #[.int .i64 y.f0, .int .i64 y.f1, .string y.f2, .slice A y.f3.length c] := Array.toList_inj.1 this
  rw [h2]
end
end Go.Proofs.YtniajhmbdbgmgaaDoor.Q

/- Small words for the walks: draws, and the built-in min and max of two whole numbers. -/
namespace Go.Proofs.YtniajhmbdbgmgaaDoor
open Go

/-- The world as it was, but for draws. -/
structure Dr (w w' : World) : Prop where
  out : ∃ n, w' = w.drewN n
theorem Dr.refl (w : World) : Dr w w := ⟨0, rfl⟩
theorem Dr.step {w w' : World} (h : Dr w w') (n : Nat) : Dr w (w'.drewN n) := by
  obtain ⟨m, rfl⟩ := h.out
  exact ⟨m + n, by rw [World.drewN_drewN]⟩
theorem belowN {B : Nat} {a w : World} (h : RowKit.Below B a w) (n : Nat) : RowKit.Below B a (w.drewN n) := ⟨h.os, h.tape, h.output, h.size, h.block⟩
theorem max2i (k k' : IntKind) (x y : Int) : Builtin.max2 (.int k x) (.int k' y) = pure (.int k (if x < y then y else x)) := by simp only [Builtin.max2, gt_iff_lt]
theorem min2i (k k' : IntKind) (x y : Int) : Builtin.min2 (.int k x) (.int k' y) = pure (.int k (if y < x then y else x)) := by simp only [Builtin.min2]
theorem maxTwo (ats : Array TypeId) (ty : TypeId) (a b : Value) : Builtin.max_ ats ty #[a, b] = (Builtin.max2 a b >>= fun s => pure s) := by simp only [Builtin.max_, List.foldlM_cons, List.foldlM_nil]
theorem minTwo (ats : Array TypeId) (ty : TypeId) (a b : Value) : Builtin.min_ ats ty #[a, b] = (Builtin.min2 a b >>= fun s => pure s) := by simp only [Builtin.min_, List.foldlM_cons, List.foldlM_nil]
/-- The built-in min and max of two whole numbers, closed to the walk. -/
def mn (x y : Int) : Int := if y < x then y else x
def mx (x y : Int) : Int := if x < y then y else x
theorem max2m (k k' : IntKind) (x y : Int) : Builtin.max2 (.int k x) (.int k' y) = pure (.int k (mx x y)) := max2i k k' x y
theorem min2m (k k' : IntKind) (x y : Int) : Builtin.min2 (.int k x) (.int k' y) = pure (.int k (mn x y)) := min2i k k' x y
theorem mn_le (x y : Int) : mn x y ≤ x ∧ mn x y ≤ y ∧ (mn x y = x ∨ mn x y = y) := by unfold mn; split <;> omega
theorem mx_le (x y : Int) : x ≤ mx x y ∧ y ≤ mx x y ∧ (mx x y = x ∨ mx x y = y) := by unfold mx; split <;> omega
end Go.Proofs.YtniajhmbdbgmgaaDoor

/- The iterator over a term's terms hands on each of them, a term ahead of its kids. -/
namespace Go.Proofs.YtniajhmbdbgmgaaDoor.Q
open Go Go.RowKit Go.Proofs Go.Proofs.YtniajhmbdbgmgaaDoor Go.Shelf Go.Proofs.YtniajhmbdbgmgaaDoorW.PrintWords Go.Proofs.YtniajhmbdbgmgaaDoorW.PrintLast Go.Proofs.YtniajhmbdbgmgaaDoorW.PrintMore
attribute [local go_sem] Oper.semAt_some

/-- Where no depth is asked the figures are all one. -/
theorem room_of_none {F : Fence} (hd : F.depth = none) (k : Nat) : F.room k := fun d h => by rw [hd] at h; cases h
theorem round_anyDepth {F : Fence} (hd : F.depth = none) {m m' : Nat} {P : Program} {l : Nat} {f : FuncId} {tmps : Array Value} {assign body : Code} {w : World} {R : Ending → World → Prop}
    (h : RoundIn F m P l f tmps assign body w R) : RoundIn F m' P l f tmps assign body w R := ⟨h.1, fun c cs _ => h.2 c cs (room_of_none hd _)⟩
theorem yield_anyDepth {F : Fence} (hd : F.depth = none) {m : Nat} (m' : Nat) {P : Program} {l : Nat} {args : Array Value} {W : World} {R : Ending → World → Prop} (h : YieldAt F m P l args W R) : YieldAt F m' P l args W R := by
  obtain ⟨fn, tmps, assign, body, hy, hR⟩ := h
  exact ⟨fn, tmps, assign, body, hy, round_anyDepth hd hR⟩

/-- What is handed on: how deep a term stands, and its cells. -/
structure Item where
  d : Int
  op : Int
  n : Int
  s : ByteArray
  A : Option Addr
  len : Nat
  cap : Nat
def Item.enc (x : Item) : Array Value := #[.int .i64 x.d, .agg #[.int .i64 x.op, .int .i64 x.n, .string x.s, .slice x.A x.len x.cap]]
def Item.key (x : Item) : Int × Int × Int × ByteArray := (x.d, x.op, x.n, x.s)

mutual
/-- A term's terms, a term ahead of its kids, with how deep each stands. -/
def preT (d : Int) : S24 → List (Int × Int × Int × ByteArray)
  | ⟨a, b, c, l⟩ => (d, a, b, c) :: preL (wrap64 (d + 1)) l
def preL (d : Int) : List S24 → List (Int × Int × Int × ByteArray)
  | [] => []
  | x :: l => preT d x ++ preL d l
end
theorem preT_eq (d : Int) (x : S24) : preT d x = (d, x.f0, x.f1, x.f2) :: preL (wrap64 (d + 1)) x.f3 := by cases x; rfl
theorem preL_append (d : Int) (l m : List S24) : preL d (l ++ m) = preL d l ++ preL d m := by
  induction l with
  | nil => rfl
  | cons x l ih => simp [preL, ih]
theorem preL_take (d : Int) (l : List S24) (j : Nat) (hj : j < l.length) : preL d (l.take (j + 1)) = preL d (l.take j) ++ preT d l[j] := by
  rw [List.take_add_one, preL_append, List.getElem?_eq_getElem hj]
  simp [preL]

/-- What a round that goes on keeps: all blocks below n₀ and all cells, but the loop's own variables. -/
structure KC (own : Nat → Prop) (n₀ : Nat) (W W' : World) : Prop where
  size : W.heap.size ≤ W'.heap.size
  low : ∀ k, k < n₀ → ¬ own k → W'.heap[k]? = W.heap[k]?
  cells : ∀ k o, W.heap[k]? = some o → o.isCells = true → ¬ own k → W'.heap[k]? = some o
theorem KC.refl (own : Nat → Prop) (n₀ : Nat) (W : World) : KC own n₀ W W := ⟨Nat.le_refl _, fun _ _ _ => rfl, fun _ _ h _ _ => h⟩
theorem KC.trans {own : Nat → Prop} {n₀ : Nat} {A B C : World} (h : KC own n₀ A B) (k : KC own n₀ B C) : KC own n₀ A C :=
  ⟨Nat.le_trans h.size k.size, fun i hi ho => (k.low i hi ho).trans (h.low i hi ho), fun i o hi hc ho => k.cells i o (h.cells i o hi hc ho) hc ho⟩
theorem KC.alloc {own : Nat → Prop} {n₀ : Nat} (W : World) (o : Obj) (hn : n₀ ≤ W.heap.size) : KC own n₀ W (W.alloc o) :=
  ⟨by simp, fun k hk _ => Below.heap_alloc W o k (by omega), fun k o' hk _ _ => (Below.heap_alloc W o k (Array.getElem?_eq_some_iff.1 hk).1).trans hk⟩
theorem KC.boxed {own : Nat → Prop} {n₀ : Nat} {W W' : World} (h : KC own n₀ W W') {B : Nat} {t : TypeId} {v : Value} (hb : Boxed W B t v) (ho : ¬ own B) : Boxed W' B t v := h.cells B _ hb rfl ho
theorem KC.tree {own : Nat → Prop} {n₀ : Nat} {W W' : World} (h : KC own n₀ W W') {A : Option Addr} {n : Nat} {xs : List S24} (hf : Kd.F k24 W (fun i => i < n₀ ∧ ¬ own i) A n xs) : Kd.F k24 W' (fun i => i < n₀ ∧ ¬ own i) A n xs :=
  Kd.F_step hf (fun k hk _ => h.low k hk.1 hk.2)

theorem kid_at {w : World} {ok : Nat → Prop} {A : Option Addr} {xs : List S24} (h : Kd.F k24 w ok A xs.length xs) (j : Nat) (hj : j < xs.length) :
    ∃ ad A3 c3, A = some ad ∧ w.cell? (ad.add (j * 4)) = some (.int .i64 xs[j].f0) ∧ w.cell? ⟨(ad.add (j * 4)).block, (ad.add (j * 4)).off + 1, none⟩ = some (.int .i64 xs[j].f1) ∧
      w.cell? ⟨(ad.add (j * 4)).block, (ad.add (j * 4)).off + 2, none⟩ = some (.string xs[j].f2) ∧ w.cell? ⟨(ad.add (j * 4)).block, (ad.add (j * 4)).off + 3, none⟩ = some (.slice A3 xs[j].f3.length c3) ∧
      xs[j].f3.length ≤ c3 ∧ Kd.F k24 w ok A3 xs[j].f3.length xs[j].f3 := by
  obtain ⟨ad, cs, e, _, hK, hc0, _⟩ := Kd.F_get h z24 (j : Int) (by omega) (by omega)
  have hx : xs.getD ((j : Int)).toNat z24 = xs[j] := by simp [List.getD_eq_getElem?_getD, hj]
  rw [hx] at hK
  obtain ⟨A3, c3, rfl, l3, g3⟩ := k24_openF hK
  have hc : ∀ i u, ([Value.int .i64 xs[j].f0, .int .i64 xs[j].f1, .string xs[j].f2, .slice A3 xs[j].f3.length c3] : List Value)[i]? = some u → w.cell? (ad.add (j * 4 + i)) = some u := hc0
  exact ⟨ad, A3, c3, e, hc 0 _ rfl, by rw [← add_field _ _ 1 (by omega)]; exact hc 1 _ rfl, by rw [← add_field _ _ 2 (by omega)]; exact hc 2 _ rfl, by rw [← add_field _ _ 3 (by omega)]; exact hc 3 _ rfl, l3, g3⟩

theorem boxed_cell {W : World} {B : Nat} {t : TypeId} {v : Value} (h : Boxed W B t v) : W.cell? ⟨B, 0, none⟩ = some v := by simp [World.cell?, show W.heap[B]? = _ from h]
theorem boxed_more {W : World} {B : Nat} {t : TypeId} {v : Value} (h : Boxed W B t v) (o : Obj) : Boxed (W.alloc o) B t v := (Below.heap_alloc W o B (Array.getElem?_eq_some_iff.1 h).1).trans h

set_option maxRecDepth 100000 in
set_option maxHeartbeats 4000000 in
/-- The closure that calls itself: by induction on the term. -/
theorem walk_in (F : Fence) (hd : F.depth = none) (hf : F.fn 79) (hro : F.round = none) (l n₀ Y Z N : Nat) (own : Nat → Prop) (hown : ∀ k, own k → k < n₀) (J Jx : List Item → World → Prop)
    (hJ : ∀ pre W o, J pre W → J pre (W.alloc o)) (hYo : ¬ own Y) (hZo : ¬ own Z)
    (hY : ∀ m pre x W, J pre W → pre.length < N → YieldAt F m Tryd.prog l x.enc W fun e W' =>
      (e = .returned (.bool true) ∧ J (pre ++ [x]) W' ∧ KC own n₀ W W') ∨ (e = .returned (.bool false) ∧ Jx (pre ++ [x]) W')) :
    ∀ (k : Nat) (x : S24), SizeOf.sizeOf x < k → ∀ (n : Nat) (A : Option Addr) (c : Nat) (d : Int) (pre : List Item) (W : World),
      Kd.F k24 W (fun i => i < n₀ ∧ ¬ own i) A x.f3.length x.f3 → x.f3.length ≤ c → Boxed W Y 128 (.func (.yield l) #[] #[]) →
      Boxed W Z 30 (.func (.func 79) #[] #[.pointer (some ⟨Y, 0, none⟩), .pointer (some ⟨Z, 0, none⟩)]) → n₀ ≤ W.heap.size → J pre W → pre.length + (preT d x).length ≤ N →
      CallsIn F n Tryd.prog 79 #[.agg #[.int .i64 x.f0, .int .i64 x.f1, .string x.f2, .slice A x.f3.length c], .int .i64 d, .pointer (some ⟨Y, 0, none⟩), .pointer (some ⟨Z, 0, none⟩)] W fun e W' =>
        (e = .returned (.bool true) ∧ (∃ q, q.map Item.key = preT d x ∧ J (pre ++ q) W') ∧ KC own n₀ W W') ∨ (e = .returned (.bool false) ∧ ∃ q, q.map Item.key <+: preT d x ∧ Jx (pre ++ q) W') := by
  intro k
  induction k with
  | zero => intro x hx; omega
  | succ k ih =>
    intro x hx n A c d pre W ht hc hbY hbZ hn hj hN
    have hdd : ∀ k : Nat, (F.depth.isSome = true → 1 ≤ k) := fun k h => by rw [hd] at h; cases h
    have hmax := Kd.F_max ht
    rw [preT_eq, List.length_cons] at hN
    obtain ⟨ob, eob⟩ : ∃ ob : Obj, ob = .cells #[.int .i64 x.f0, .int .i64 x.f1, .string x.f2, .slice A x.f3.length c] 24 := ⟨_, rfl⟩
    have hy := hY (n - 1) pre ⟨d, x.f0, x.f1, x.f2, A, x.f3.length, c⟩ (W.alloc ob) (hJ _ _ _ hj) (by omega)
    have hcY := boxed_cell (boxed_more hbY ob)
    rw [eob] at hy hcY
    obtain ⟨fn, tmps, assign, body, hy, hR⟩ := hy
    dsimp only [Item.enc] at hy
    refine callsIn_of_wp Tryd.func79 rfl hf ?_ hro
    simp only [Tryd.ntmps79, List.size_toArray, List.length_cons, List.length_nil, Nat.reduceAdd, Nat.reduceSub, Array.replicate_succ, Array.replicate_zero, List.push_toArray, List.append_toArray, List.nil_append, List.cons_append]
    obtain ⟨it, eit⟩ : ∃ it : Item, it = ⟨d, x.f0, x.f1, x.f2, A, x.f3.length, c⟩ := ⟨_, rfl⟩
    have hit : it.key = (d, x.f0, x.f1, x.f2) := by rw [eit]; rfl
    rw [← eit] at hR
    have hR2 := Lib.hid hR
    have hN2 := Lib.hid hN
    have ht2 := Lib.hid ht
    have hit2 := Lib.hid hit
    have hYZ := Lib.hid (And.intro hbY hbZ)
    have hjj := Lib.hid hj
    have hYy := Lib.hid hY
    clear hR hN ht hit eit hbY hbZ hj hY
    gi_wp2
    refine hR2.out.mono ?_
    rintro e W1 (⟨rfl, hJ1, hk1⟩ | ⟨rfl, hx1⟩)
    · have hb1 : W1.heap[W.heap.size]? = some (.cells #[.int .i64 x.f0, .int .i64 x.f1, .string x.f2, .slice A x.f3.length c] 24 (0, 0)) :=
        hk1.cells _ _ (by rw [← eob]; rw [eob]; exact World.alloc_heap_new W _) rfl (fun h => by have := hown _ h; omega)
      have hc3 : W1.cell? ⟨W.heap.size, 3, none⟩ = some (.slice A x.f3.length c) := by simp [World.cell?, hb1]
      have hK1 : KC own n₀ W W1 := (KC.alloc W _ hn).trans hk1
      have hK2 := Lib.hid hK1
      have hJ2 := Lib.hid hJ1
      clear hb1 hK1 hJ1 hk1
      gi_wp2
      gi_loopw [17] (fun i wr => ∃ (j : Nat) (q : List Item), j ≤ x.f3.length ∧ i = .int .i64 (j : Int) ∧ Hid (q.map Item.key = preL (wrap64 (d + 1)) (x.f3.take j)) ∧ Hid (J (pre ++ it :: q) wr) ∧ Hid (KC own n₀ W wr)) (fun i _ => x.f3.length - (intOf i).toNat)
      case atStart => exact ⟨0, [], by omega, rfl, Lib.hid (by simp [preL]), Lib.hid hJ2.out, hK2⟩
      case round =>
        obtain ⟨j, q, hj, rfl, hq, hJq, hKq⟩ := hrel
        by_cases hlt : j < x.f3.length
        · have t1 : decide (j < x.f3.length) = true := decide_eq_true hlt
          obtain ⟨ad, A3, c3, hA, d0, d1, d2, d3, hl3, hF3⟩ := kid_at (hKq.out.tree ht2.out) j hlt
          subst hA
          obtain ⟨kd, ekd⟩ : ∃ kd, x.f3[j] = kd := ⟨_, rfl⟩
          have hkdm : kd ∈ x.f3 := by rw [← ekd]; exact List.getElem_mem hlt
          have hpre := preL_take (wrap64 (d + 1)) x.f3 j hlt
          rw [ekd] at d0 d1 d2 d3 hl3 hF3 hpre
          have hsz : SizeOf.sizeOf kd < k := by
            have h1 := List.sizeOf_lt_of_mem hkdm
            cases x
            simp at hx h1
            omega
          have hlen : (pre ++ it :: q).length + (preT (wrap64 (d + 1)) kd).length ≤ N := by
            have h1 := congrArg List.length hq.out
            have h2 : (preL (wrap64 (d + 1)) (x.f3.take (j + 1))).length ≤ (preL (wrap64 (d + 1)) x.f3).length := by
              conv => rhs; rw [← List.take_append_drop (j + 1) x.f3, preL_append, List.length_append]
              omega
            rw [hpre, List.length_append] at h2
            rw [List.length_map] at h1
            have h3 := hN2.out
            simp only [List.length_append, List.length_cons]
            omega
          have hbz := hKq.out.boxed hYZ.out.2 hZo
          have hbz2 := boxed_cell (boxed_more hbz (.cells #[.int .i64 kd.f0, .int .i64 kd.f1, .string kd.f2, .slice A3 kd.f3.length c3] 24))
          have hc := ih kd hsz (n - 1) A3 c3 (wrap64 (d + 1)) (pre ++ it :: q) (wr.alloc (.cells #[.int .i64 kd.f0, .int .i64 kd.f1, .string kd.f2, .slice A3 kd.f3.length c3] 24))
            (Kd.F_alloc hF3 _) hl3 (boxed_more (hKq.out.boxed hYZ.out.1 hYo) _) (boxed_more hbz _) (by have := hKq.out.size; simp; omega) (hJ _ _ _ hJq.out) hlen
          have HC := Lib.hid hc
          have hPre := Lib.hid hpre
          clear hc hF3 hbz hsz hlen hkdm ekd hpre
          gi_wp2
          refine HC.out.mono ?_
          rintro e W2 (⟨rfl, ⟨q2, hq2, hJ3⟩, hk3⟩ | ⟨rfl, q2, hq2, hx3⟩)
          · have hK3 : KC own n₀ W W2 := hKq.out.trans ((KC.alloc wr _ (by have := hKq.out.size; omega)).trans hk3)
            have H1 := Lib.hid hq2; have H2 := Lib.hid hJ3; have H3 := Lib.hid hK3
            clear hq2 hJ3 hK3 hk3
            gi_wp2
            go_roundw
            case rel => exact ⟨j + 1, q ++ q2, hlt, by go_num, Lib.hid (by rw [List.map_append, hq.out, H1.out, hPre.out]), Lib.hid (by have := H2.out; simpa [List.append_assoc] using this), H3⟩
            case measure => simp [intOf]; omega
          · gi_wp2
            go_ret
            refine .inr ⟨rfl, it :: (q ++ q2), ?_, by simpa [List.append_assoc] using hx3⟩
            rw [preT_eq, List.map_cons, List.map_append, hit2.out, hq.out]
            obtain ⟨r, hr⟩ := hq2
            refine ⟨r ++ preL (wrap64 (d + 1)) (x.f3.drop (j + 1)), ?_⟩
            have h2 : preL (wrap64 (d + 1)) x.f3 = preL (wrap64 (d + 1)) (x.f3.take (j + 1)) ++ preL (wrap64 (d + 1)) (x.f3.drop (j + 1)) := by rw [← preL_append, List.take_append_drop]
            rw [h2, hPre.out, ← hr]
            simp [List.append_assoc]
        · have t1 : decide (j < x.f3.length) = false := decide_eq_false hlt
          obtain rfl : j = x.f3.length := by omega
          gi_wp2
          go_ret
          refine .inl ⟨rfl, ⟨it :: q, ?_, hJq.out⟩, hKq.out⟩
          have := hq.out
          rw [List.take_length] at this
          rw [List.map_cons, this, hit2.out, preT_eq]
    · gi_wp2
      go_ret
      exact .inr ⟨rfl, [it], by rw [preT_eq, List.map_singleton, hit2.out]; exact ⟨_, rfl⟩, hx1⟩

set_option maxRecDepth 100000 in
set_option maxHeartbeats 2000000 in
theorem all1_in (F : Fence) (hd : F.depth = none) (n : Nat) (h1 : F.fn 78) (h2 : F.fn 79) (hro : F.round = none) (l B n₀ : Nat) (own : Nat → Prop) (hown : ∀ k, own k → k < n₀) (x : S24) (A : Option Addr) (c : Nat) (J Jx : List Item → World → Prop)
    (hJ : ∀ pre W o, J pre W → J pre (W.alloc o))
    (hY : ∀ pre x' W, J pre W → pre.length < (preT 1 x).length → YieldAt F (n - 1) Tryd.prog l x'.enc W fun e W' =>
      (e = .returned (.bool true) ∧ J (pre ++ [x']) W' ∧ KC own n₀ W W') ∨ (e = .returned (.bool false) ∧ Jx (pre ++ [x']) W'))
    (W : World) (hB : W.heap[B]? = some (.cells #[.int .i64 x.f0, .int .i64 x.f1, .string x.f2, .slice A x.f3.length c] 24 (0, 0))) (ht : Kd.F k24 W (fun i => i < n₀ ∧ ¬ own i) A x.f3.length x.f3) (hc : x.f3.length ≤ c) (hn : n₀ ≤ W.heap.size) (h0 : J [] W) :
    CallsIn F n Tryd.prog 78 #[.func (.yield l) #[] #[], .pointer (some ⟨B, 0, none⟩)] W fun e W' => (∃ v, e = .returned v) ∧
      ((∃ ys : List Item, ys.map Item.key = preT 1 x ∧ J ys W') ∨ (∃ pre : List Item, pre.map Item.key <+: preT 1 x ∧ Jx pre W')) := by
  have hdd : ∀ k : Nat, (F.depth.isSome = true → 1 ≤ k) := fun k h => by rw [hd] at h; cases h
  have hlt : B < W.heap.size := (Array.getElem?_eq_some_iff.1 hB).1
  have e1 : W.cell? ⟨B, 0, none⟩ = some (.int .i64 x.f0) := by simp [World.cell?, hB]
  have e2 : W.cell? ⟨B, 1, none⟩ = some (.int .i64 x.f1) := by simp [World.cell?, hB]
  have e3 : W.cell? ⟨B, 2, none⟩ = some (.string x.f2) := by simp [World.cell?, hB]
  have e4 : W.cell? ⟨B, 3, none⟩ = some (.slice A x.f3.length c) := by simp [World.cell?, hB]
  have hw := walk_in F hd h2 hro l n₀ W.heap.size (W.heap.size + 1) (preT 1 x).length own hown J Jx hJ (fun h => by have := hown _ h; omega) (fun h => by have := hown _ h; omega)
    (fun m pre x' W hj hl => yield_anyDepth hd m (hY pre x' W hj hl)) (SizeOf.sizeOf x + 1) x (by omega) (n - 1) A c 1 []
    ((W.alloc (.cells #[.func (.yield l) #[] #[]] 128)).alloc (.cells #[.func (.func 79) #[] #[.pointer (some ⟨W.heap.size, 0, none⟩), .pointer (some ⟨W.heap.size + 1, 0, none⟩)]] 30))
    (Kd.F_alloc (Kd.F_alloc ht _) _) hc (boxed_more (Boxed.new W _ _) _) (by have := Boxed.new (W.alloc (.cells #[.func (.yield l) #[] #[]] 128)) 30 (.func (.func 79) #[] #[.pointer (some ⟨W.heap.size, 0, none⟩), .pointer (some ⟨W.heap.size + 1, 0, none⟩)]); rw [World.size_alloc] at this; exact this) (by simp; omega) (hJ _ _ _ (hJ _ _ _ h0)) (by simp)
  have HW := Lib.hid hw
  clear hw hY ht hJ h0 hB
  refine callsIn_of_wp Tryd.func78 rfl h1 ?_ hro
  simp only [Tryd.ntmps78, List.size_toArray, List.length_cons, List.length_nil, Nat.reduceAdd, Nat.reduceSub, Array.replicate_succ, Array.replicate_zero, List.push_toArray, List.append_toArray, List.nil_append, List.cons_append]
  gi_wp2
  refine HW.out.mono ?_
  rintro e W1 (⟨rfl, ⟨q, hq, hJ1⟩, _⟩ | ⟨rfl, q, hq, hx⟩)
  · gi_wp2
    go_end0
    exact ⟨⟨_, rfl⟩, .inl ⟨q, hq, by simpa using hJ1⟩⟩
  · gi_wp2
    go_end0
    exact ⟨⟨_, rfl⟩, .inr ⟨q, hq, by simpa using hx⟩⟩

theorem all_in (F : Fence) (n : Nat) (h : F.fn 49) (hro : F.round = none) (a b : Int) (s : ByteArray) (A : Option Addr) (m c : Nat) (w : World) :
    CallsIn F n Tryd.prog 49 #[.agg #[.int .i64 a, .int .i64 b, .string s, .slice A m c]] w fun e w' =>
      e = .returned (.func (.func 78) #[] #[.pointer (some ⟨w.heap.size, 0, none⟩)]) ∧ w' = w.alloc (.cells #[.int .i64 a, .int .i64 b, .string s, .slice A m c] 24) := by
  refine callsIn_of_wp Tryd.func49 rfl h ?_ hro
  simp only [Tryd.ntmps49, List.size_toArray, List.length_cons, List.length_nil, Nat.reduceAdd, Nat.reduceSub, Array.replicate_succ, Array.replicate_zero, List.push_toArray, List.append_toArray, List.nil_append, List.cons_append]
  gi_wp2
  go_ret
  exact ⟨rfl, rfl⟩

/-- all(c) hands back a value over which a loop may range. -/
theorem all_stops (F : Fence) (hd : F.depth = none) (n : Nat) (h1 : F.fn 78) (h2 : F.fn 79) (hro : F.round = none) (B n₀ : Nat) (own : Nat → Prop) (hown : ∀ k, own k → k < n₀) (x : S24) (A : Option Addr) (c : Nat)
    (w : World) (hB : w.heap[B]? = some (.cells #[.int .i64 x.f0, .int .i64 x.f1, .string x.f2, .slice A x.f3.length c] 24 (0, 0))) (ht : Kd.F k24 w (fun i => i < n₀ ∧ ¬ own i) A x.f3.length x.f3) (hc : x.f3.length ≤ c) (hn : n₀ ≤ w.heap.size) :
    SeqStopsK F n Tryd.prog 78 #[.pointer (some ⟨B, 0, none⟩)] Item.enc (KC own n₀) (fun ys => ys.map Item.key = preT 1 x) (fun pre => pre.map Item.key <+: preT 1 x) (preT 1 x).length w := fun l J Jx W hW hJ _ hY h0 =>
  all1_in F hd n h1 h2 hro l B n₀ own hown x A c J Jx (fun pre W o h => hJ pre W _ none h (World.grownBy_alloc W o none) (fun r e => by cases e)) hY W ((hW.block B (Array.getElem?_eq_some_iff.1 hB).1).trans hB) (Kd.F_below ht hW) hc (Nat.le_trans hn hW.size) h0
end Go.Proofs.YtniajhmbdbgmgaaDoor.Q

/- Terms in plain Lean: how great and how deep they are, their types. -/
namespace Go.Proofs.YtniajhmbdbgmgaaDoor.Q
open Go.RowKit (wrap64)
abbrev Core := S24

theorem ind_core {P : Core → Prop} (h : ∀ x : Core, (∀ k ∈ x.f3, P k) → P x) (x : Core) : P x := by
  have : ∀ n, ∀ x : Core, SizeOf.sizeOf x ≤ n → P x := by
    intro n
    induction n with
    | zero => intro x hx; cases x; simp at hx
    | succ n ih =>
      intro x hx
      refine h x (fun k hk => ih k ?_)
      have := List.sizeOf_lt_of_mem hk
      cases x
      simp at hx this
      omega
  exact this _ x (Nat.le_refl _)

mutual
def sizeT : Core → Nat
  | ⟨_, _, _, l⟩ => 1 + sizeL l
def sizeL : List Core → Nat
  | [] => 0
  | x :: l => sizeT x + sizeL l
end
mutual
def depthT : Core → Nat
  | ⟨_, _, _, l⟩ => 1 + depthL l
def depthL : List Core → Nat
  | [] => 0
  | x :: l => max (depthT x) (depthL l)
end
mutual
def allT (P : Int → Int → Prop) : Core → Prop
  | ⟨a, b, _, l⟩ => P a b ∧ allL P l
def allL (P : Int → Int → Prop) : List Core → Prop
  | [] => True
  | x :: l => allT P x ∧ allL P l
end
theorem sizeT_eq (x : Core) : sizeT x = 1 + sizeL x.f3 := by cases x; simp [sizeT]
theorem depthT_eq (x : Core) : depthT x = 1 + depthL x.f3 := by cases x; simp [depthT]
theorem allT_eq (P : Int → Int → Prop) (x : Core) : allT P x ↔ P x.f0 x.f1 ∧ allL P x.f3 := by cases x; simp [allT]
theorem allL_iff (P : Int → Int → Prop) (l : List Core) : allL P l ↔ ∀ x ∈ l, allT P x := by
  induction l with
  | nil => simp [allL]
  | cons x l ih => simp [allL, ih]
theorem sizeT_pos (x : Core) : 1 ≤ sizeT x := by rw [sizeT_eq]; omega
theorem sizeL_mem {l : List Core} {x : Core} (h : x ∈ l) : sizeT x ≤ sizeL l := by
  induction l with
  | nil => cases h
  | cons y l ih =>
    rcases List.mem_cons.1 h with rfl | h
    · simp [sizeL]
    · have := ih h; simp [sizeL]; omega
theorem depthL_le (l : List Core) (n : Nat) : depthL l ≤ n ↔ ∀ x ∈ l, depthT x ≤ n := by
  induction l with
  | nil => simp [depthL]
  | cons x l ih => simp only [depthL, List.forall_mem_cons, ← ih]; omega
theorem depthL_mem {l : List Core} {x : Core} (h : x ∈ l) : depthT x ≤ depthL l := (depthL_le l (depthL l)).1 (Nat.le_refl _) x h

/-! ### what the walk over all terms gives -/
theorem wrap_in {d : Int} (h0 : -9223372036854775808 ≤ d) (h1 : d ≤ 9223372036854775807) : wrap64 d = d := by unfold wrap64; omega
theorem preL_length_of (l : List Core) (h : ∀ x ∈ l, ∀ d, (preT d x).length = sizeT x) : ∀ d, (preL d l).length = sizeL l := by
  induction l with
  | nil => intro d; rfl
  | cons x l ih =>
    intro d
    rw [preL, List.length_append, h x (List.mem_cons_self ..), ih (fun y hy => h y (List.mem_cons_of_mem _ hy)), sizeL]
theorem preT_length (x : Core) : ∀ d, (preT d x).length = sizeT x := by
  refine ind_core (P := fun x => ∀ d, (preT d x).length = sizeT x) (fun x ih d => ?_) x
  have := preL_length_of x.f3 ih (wrap64 (d + 1))
  cases x
  simp only [preT, List.length_cons, sizeT] at *
  omega
theorem preL_mem {k : Int × Int × Int × ByteArray} {d : Int} {l : List Core} : k ∈ preL d l ↔ ∃ x ∈ l, k ∈ preT d x := by
  induction l with
  | nil => simp [preL]
  | cons x l ih => simp [preL, ih]
theorem pre_all (P : Int → Int → Prop) (x : Core) : ∀ d, (∀ k ∈ preT d x, P k.2.1 k.2.2.1) ↔ allT P x := by
  refine ind_core (P := fun x => ∀ d, (∀ k ∈ preT d x, P k.2.1 k.2.2.1) ↔ allT P x) (fun x ih d => ?_) x
  rw [allT_eq, allL_iff]
  cases x with | mk a b c l =>
  simp only [preT, List.forall_mem_cons]
  refine and_congr Iff.rfl ⟨fun h k hk => (ih k hk (wrap64 (d + 1))).1 (fun z hz => h z (preL_mem.2 ⟨k, hk, hz⟩)), fun h z hz => ?_⟩
  obtain ⟨k, hk, hz⟩ := preL_mem.1 hz
  exact (ih k hk (wrap64 (d + 1))).2 (h k hk) z hz
theorem pre_depth (x : Core) : ∀ d : Int, 0 ≤ d → d ≤ 201 → ((∀ k ∈ preT d x, k.1 ≤ 200) ↔ d + depthT x ≤ 201) := by
  refine ind_core (P := fun x => ∀ d : Int, 0 ≤ d → d ≤ 201 → ((∀ k ∈ preT d x, k.1 ≤ 200) ↔ d + depthT x ≤ 201)) (fun x ih d h0 h1 => ?_) x
  have e := depthT_eq x
  have hw : wrap64 (d + 1) = d + 1 := wrap_in (by omega) (by omega)
  cases x with | mk a b c l =>
  simp only [preT, List.forall_mem_cons, hw] at *
  by_cases hd : d ≤ 200
  · have hk : (∀ k ∈ preL (d + 1) l, k.1 ≤ 200) ↔ d + 1 + depthL l ≤ 201 := by
      have h3 : (d + 1 + depthL l ≤ 201) ↔ ∀ x ∈ l, d + 1 + depthT x ≤ 201 := by
        rw [show (d + 1 + (depthL l : Int) ≤ 201) ↔ depthL l ≤ (200 - d).toNat from by omega, depthL_le]
        exact ⟨fun h x hx => by have := h x hx; omega, fun h x hx => by have := h x hx; omega⟩
      rw [h3]
      refine ⟨fun h x hx => (ih x hx (d + 1) (by omega) (by omega)).1 (fun z hz => h z (preL_mem.2 ⟨x, hx, hz⟩)), fun h z hz => ?_⟩
      obtain ⟨x, hx, hz⟩ := preL_mem.1 hz
      exact (ih x hx (d + 1) (by omega) (by omega)).2 (h x hx) z hz
    rw [hk]
    omega
  · constructor
    · intro h; exact absurd h.1 hd
    · intro h; omega

/-! ### types -/
/-- What an operation's kids are, and what it is (OIf aside), by letters. -/
def sig (op : Int) : Option (List Int × Int) :=
  if op = 1 ∨ op = 4 then some ([], 110) else if op = 2 then some ([], 98) else if op = 3 ∨ op = 5 then some ([], 100)
  else if op = 6 then some ([110], 110) else if op = 7 ∨ op = 8 ∨ op = 9 ∨ op = 10 then some ([110, 110], 110) else if op = 11 ∨ op = 12 ∨ op = 13 then some ([110, 110], 98)
  else if op = 14 then some ([98], 98) else if op = 15 ∨ op = 16 then some ([98, 98], 98) else if op = 17 then some ([100, 100], 98) else if op = 18 ∨ op = 19 then some ([100, 110], 100)
  else if op = 20 ∨ op = 21 then some ([100, 100], 110) else if op = 23 ∨ op = 24 then some ([], 99) else if op = 25 ∨ op = 29 then some ([99], 99) else if op = 26 then some ([110, 99], 99)
  else if op = 27 ∨ op = 31 then some ([99, 99], 99) else if op = 28 then some ([98, 99, 99], 99) else if op = 30 then some ([98, 99], 99) else none
/-- The type of a term whose fields are right, of those of its kids; 0: there is none. -/
def nodeT (op : Int) (ts : List Int) : Int :=
  if op = 22 then (match ts with
    | [a, b, c] => if a = 98 ∧ b = c ∧ (b = 110 ∨ b = 98 ∨ b = 100) then b else 0
    | _ => 0)
  else match sig op with
    | some (ks, own) => if ts = ks then own else 0
    | none => 0
section
variable (fl : Int → Int → ByteArray → Bool)
mutual
/-- A term's type, by its letter; fl: are an operation's fields right? -/
def tyT : Core → Int
  | ⟨a, b, c, l⟩ => if fl a b c = true then nodeT a (tyL l) else 0
def tyL : List Core → List Int
  | [] => []
  | x :: l => tyT x :: tyL l
end
end
section
variable {fl : Int → Int → ByteArray → Bool}
theorem tyL_eq (l : List Core) : tyL fl l = l.map (tyT fl) := by
  induction l with
  | nil => rfl
  | cons x l ih => simp [tyL, ih]
theorem tyT_eq (x : Core) : tyT fl x = if fl x.f0 x.f1 x.f2 = true then nodeT x.f0 (x.f3.map (tyT fl)) else 0 := by cases x; simp [tyT, tyL_eq]
theorem sig_op {op : Int} {ks : List Int} {own : Int} (h : sig op = some (ks, own)) : 1 ≤ op ∧ op ≤ 31 ∧ op ≠ 22 := by
  refine Classical.byContradiction fun hn => ?_
  have : sig op = none := by unfold sig; repeat' rw [if_neg (by omega)]
  rw [this] at h
  cases h
def sigOk (n : Nat) : Bool := match sig (n : Int) with
    | some (ks, own) => (own == 110 || own == 98 || own == 100 || own == 99) && ((own == 99) == decide (23 ≤ (n : Int))) && ks.all (fun t => t == 110 || t == 98 || t == 100 || t == 99)
    | none => true
theorem sigOk_all : ∀ n < 32, sigOk n = true := by decide
theorem sig_own {op : Int} {ks : List Int} {own : Int} (h : sig op = some (ks, own)) : (own = 110 ∨ own = 98 ∨ own = 100 ∨ own = 99) ∧ (own = 99 ↔ 23 ≤ op) ∧ ∀ t ∈ ks, t = 110 ∨ t = 98 ∨ t = 100 ∨ t = 99 := by
  have ho := sig_op h
  obtain ⟨n, rfl⟩ : ∃ n : Nat, op = n := ⟨op.toNat, by omega⟩
  have := sigOk_all n (by omega)
  unfold sigOk at this
  rw [h] at this
  simp only [Bool.and_eq_true, Bool.or_eq_true, List.all_eq_true, or_assoc, Bool.beq_eq_decide_eq, decide_eq_true_eq] at this
  exact ⟨this.1.1, by simpa using this.1.2, this.2⟩
/-- What a right term's kids are. -/
theorem ty_sig {x : Core} (h : tyT fl x ≠ 0) (h22 : x.f0 ≠ 22) : fl x.f0 x.f1 x.f2 = true ∧ sig x.f0 = some (x.f3.map (tyT fl), tyT fl x) := by
  rw [tyT_eq] at h ⊢
  split at h
  case isFalse => exact absurd rfl h
  case isTrue hf =>
    rw [if_pos hf]
    refine ⟨hf, ?_⟩
    unfold nodeT at h ⊢
    rw [if_neg h22] at h ⊢
    cases hs : sig x.f0 with
    | none => rw [hs] at h; exact absurd rfl h
    | some p =>
      obtain ⟨ks, own⟩ := p
      rw [hs] at h
      simp only at h ⊢
      split at h
      case isFalse => exact absurd rfl h
      case isTrue he => rw [if_pos he, he]
theorem ty_if {x : Core} (h : tyT fl x ≠ 0) (h22 : x.f0 = 22) : fl x.f0 x.f1 x.f2 = true ∧ ∃ a b c, x.f3 = [a, b, c] ∧ tyT fl a = 98 ∧ tyT fl b = tyT fl x ∧ tyT fl c = tyT fl x ∧ (tyT fl x = 110 ∨ tyT fl x = 98 ∨ tyT fl x = 100) := by
  have e := tyT_eq (fl := fl) x
  rw [e] at h
  split at h
  case isFalse => exact absurd rfl h
  case isTrue hf =>
    rw [if_pos hf] at e
    refine ⟨hf, ?_⟩
    unfold nodeT at h e
    rw [if_pos h22] at h e
    match hl : x.f3 with
    | [] => rw [hl] at h; exact absurd rfl h
    | [_] => rw [hl] at h; exact absurd rfl h
    | [_, _] => rw [hl] at h; exact absurd rfl h
    | _ :: _ :: _ :: _ :: _ => rw [hl] at h; exact absurd rfl h
    | [a, b, c] =>
      rw [hl] at h e
      simp only [List.map_cons, List.map_nil] at h e
      split at h
      case isFalse => exact absurd rfl h
      case isTrue hc =>
        rw [if_pos hc] at e
        exact ⟨a, b, c, rfl, hc.1, e.symm, by rw [e, hc.2.1], by rw [e]; exact hc.2.2⟩
theorem map_one {l : List Core} {f : Core → Int} {t : Int} (h : l.map f = [t]) : ∃ a, l = [a] ∧ f a = t := by
  match l, h with
  | [a], h => exact ⟨a, rfl, by simpa using h⟩
theorem map_two {l : List Core} {f : Core → Int} {t u : Int} (h : l.map f = [t, u]) : ∃ a b, l = [a, b] ∧ f a = t ∧ f b = u := by
  match l, h with
  | [a, b], h => exact ⟨a, b, rfl, by simpa using h⟩
theorem map_three {l : List Core} {f : Core → Int} {t u v : Int} (h : l.map f = [t, u, v]) : ∃ a b c, l = [a, b, c] ∧ f a = t ∧ f b = u ∧ f c = v := by
  match l, h with
  | [a, b, c], h => exact ⟨a, b, c, rfl, by simpa using h⟩
theorem ty_own {x : Core} (h : tyT fl x ≠ 0) : tyT fl x = 110 ∨ tyT fl x = 98 ∨ tyT fl x = 100 ∨ tyT fl x = 99 := by
  by_cases h22 : x.f0 = 22
  · obtain ⟨_, a, b, c, _, _, _, _, h⟩ := ty_if h h22
    omega
  · exact (sig_own (ty_sig h h22).2).1
theorem ty_kids {x : Core} (h : tyT fl x ≠ 0) : ∀ k ∈ x.f3, tyT fl k ≠ 0 := by
  intro k hk
  by_cases h22 : x.f0 = 22
  · obtain ⟨_, a, b, c, hl, h1, h2, h3, h4⟩ := ty_if h h22
    rw [hl] at hk
    simp only [List.mem_cons, List.not_mem_nil, or_false] at hk
    rcases hk with rfl | rfl | rfl <;> omega
  · have := (sig_own (ty_sig h h22).2).2.2 (tyT fl k) (List.mem_map_of_mem hk)
    omega
theorem ty_op {x : Core} (h : tyT fl x ≠ 0) : 1 ≤ x.f0 ∧ x.f0 ≤ 31 := by
  by_cases h22 : x.f0 = 22
  · omega
  · have := sig_op (ty_sig h h22).2
    omega
def sigLen (n : Nat) : Bool := match sig (n : Int) with
    | some (ks, _) => decide (ks.length ≤ 3)
    | none => true
theorem sigLen_all : ∀ n < 32, sigLen n = true := by decide
/-- A right term has at most three kids. -/
theorem ty_len {x : Core} (h : tyT fl x ≠ 0) : x.f3.length ≤ 3 := by
  by_cases h22 : x.f0 = 22
  · obtain ⟨_, a, b, c, hl, _⟩ := ty_if h h22
    rw [hl]
    exact Nat.le_refl _
  · have hs := (ty_sig h h22).2
    have ho := sig_op hs
    obtain ⟨n, hn⟩ : ∃ n : Nat, x.f0 = n := ⟨x.f0.toNat, by omega⟩
    rw [hn] at hs ho
    have := sigLen_all n (by omega)
    unfold sigLen at this
    rw [hs] at this
    simpa using of_decide_eq_true this
/-- Contracts have the greater operations. -/
theorem ty_contract {x : Core} (h : tyT fl x ≠ 0) : tyT fl x = 99 ↔ 23 ≤ x.f0 := by
  by_cases h22 : x.f0 = 22
  · obtain ⟨_, a, b, c, _, _, _, _, h⟩ := ty_if h h22
    omega
  · exact (sig_own (ty_sig h h22).2).2.1
/-- The type hangs on the kids' types alone. -/
theorem ty_congr {op n : Int} {s : ByteArray} {l m : List Core} (h : l.map (tyT fl) = m.map (tyT fl)) : tyT fl ⟨op, n, s, l⟩ = tyT fl ⟨op, n, s, m⟩ := by rw [tyT_eq, tyT_eq, h]
end
end Go.Proofs.YtniajhmbdbgmgaaDoor.Q

/- The numbers of layer 1 in plain Lean: sums, products and quotients of decimals of six places, rounded and within their limits. -/
namespace Go.Proofs.YtniajhmbdbgmgaaDoor.Num

def clamp (a : Int) : Int := if a < -1000000000000000 then -1000000000000000 else if 1000000000000000 < a then 1000000000000000 else a
/-- x y / d, rounded to the nearer, a half to the even one, at most 10^15. -/
def rnd (x y d : Nat) : Nat :=
  if x * y / d < 1000000000000000 then
    (if d < 2 * (x * y % d) ∨ (2 * (x * y % d) = d ∧ x * y / d % 2 = 1) then x * y / d + 1 else x * y / d)
  else 1000000000000000
def sgn (b : Bool) (n : Nat) : Int := if b then -(n : Int) else n
def below (a : Int) : Bool := decide (clamp a < 0)
def size (a : Int) : Nat := (clamp a).natAbs
def add (a b : Int) : Int := clamp (clamp a + clamp b)
def sub (a b : Int) : Int := clamp (clamp a - clamp b)
def neg (a : Int) : Int := -clamp a
def mul (a b : Int) : Int := sgn (!(below a == below b)) (rnd (size a) (size b) 1000000)
def div (a b : Int) : Int := if size b = 0 then 0 else sgn (!(below a == below b)) (rnd (size a) 1000000 (size b))
def whole (a : Int) : Int := (clamp a).tdiv 1000000

theorem clamp_le (a : Int) : -1000000000000000 ≤ clamp a ∧ clamp a ≤ 1000000000000000 := by unfold clamp; repeat' split <;> omega
theorem size_le (a : Int) : size a ≤ 1000000000000000 := by have := clamp_le a; unfold size; omega
theorem rnd_le (x y d : Nat) : rnd x y d ≤ 1000000000000000 := by
  unfold rnd; split
  · split <;> omega
  · omega
theorem sgn_le (b : Bool) (n : Nat) (h : n ≤ 1000000000000000) : -1000000000000000 ≤ sgn b n ∧ sgn b n ≤ 1000000000000000 := by
  cases b <;> simp [sgn] <;> omega
theorem mul_le (a b : Int) : -1000000000000000 ≤ mul a b ∧ mul a b ≤ 1000000000000000 := sgn_le _ _ (rnd_le _ _ _)
theorem div_le (a b : Int) : -1000000000000000 ≤ div a b ∧ div a b ≤ 1000000000000000 := by
  unfold div; split
  · omega
  · exact sgn_le _ _ (rnd_le _ _ _)
theorem clamp_self {a : Int} (h : -1000000000000000 ≤ a ∧ a ≤ 1000000000000000) : clamp a = a := by unfold clamp; repeat' split <;> omega
theorem clamp_clamp (a : Int) : clamp (clamp a) = clamp a := clamp_self (clamp_le a)
theorem clamp_mul (a b : Int) : clamp (mul a b) = mul a b := clamp_self (mul_le a b)
theorem clamp_div (a b : Int) : clamp (div a b) = div a b := clamp_self (div_le a b)
theorem neg_le (a : Int) : -1000000000000000 ≤ neg a ∧ neg a ≤ 1000000000000000 := by have := clamp_le a; unfold neg; omega
end Go.Proofs.YtniajhmbdbgmgaaDoor.Num

/-
  DERIVED: THE SHELF's CONTRACTS AT THIS DUMP, IN PLAIN WORDS (tools/lay-plain.mjs out of 'TrydShelf.lean', which tools/lay-shelf.mjs wrote): THE SAME DECLARATIONS UNDER THE SAME NAMES: 'import', 'namespace', 'open', 'def', 'theorem' AND NOTHING ELSE: no command of the shelf's: FOR A HAND-IN. Each laying: the table of numbers ('.._ren') and one theorem, a field a fact of the dump's own or the kernel's comparison; each contract: ONE APPLICATION.
-/
namespace Go.Proofs
open Go.Shelf
def Tryd.lays231_ren : Go.Shelf.Ren := ⟨fun | 231 => 144 | n => n, fun | 9 => 9 | 5 => 5 | 3 => 3 | 4 => 4 | n => n, fun | n => n⟩
theorem Tryd.lays231 : Go.Proofs.Lays.n231 Tryd.prog Tryd.lays231_ren := {
  mixed := by kernel_rfl
  f231 := Tryd.func144.trans (congrArg some (by kernel_rfl))
  t3 := Tryd.underlying3
  a3 := Tryd.isAgg3
  z3 := Tryd.sizeOf3
  v3 := Tryd.zeroValue3
  t4 := Tryd.underlying4
  a4 := Tryd.isAgg4
  z4 := Tryd.sizeOf4
  v4 := Tryd.zeroValue4
  t5 := Tryd.underlying5
  a5 := Tryd.isAgg5
  z5 := Tryd.sizeOf5
  v5 := Tryd.zeroValue5
  t9 := Tryd.underlying9
  a9 := Tryd.isAgg9
  z9 := Tryd.sizeOf9
  v9 := Tryd.zeroValue9 }
open Go.RowKit in
/-- strings.trimLeftByte (no doc; what TrimLeft and Trim call at a cutset of one ASCII byte): the leading bytes that are c are cut off. The world is as it was. (LAID: no walk: one application.) -/
theorem Tryd.strings_trimLeftByte (s : ByteArray) (c : UInt8) (w : World) :
    Calls Tryd.prog 144 #[.string s, .int .u8 c.toNat] w fun e w' => e = .returned (.string ⟨(Lib.trimLeftB s.data.toList c).toArray⟩) ∧ w' = w := Any.strings_trimLeftByte Tryd.lays231 s c w
def Tryd.lays232_ren : Go.Shelf.Ren := ⟨fun | 232 => 145 | n => n, fun | 9 => 9 | 5 => 5 | 3 => 3 | 4 => 4 | n => n, fun | n => n⟩
theorem Tryd.lays232 : Go.Proofs.Lays.n232 Tryd.prog Tryd.lays232_ren := {
  mixed := by kernel_rfl
  f232 := Tryd.func145.trans (congrArg some (by kernel_rfl))
  t3 := Tryd.underlying3
  a3 := Tryd.isAgg3
  z3 := Tryd.sizeOf3
  v3 := Tryd.zeroValue3
  t4 := Tryd.underlying4
  a4 := Tryd.isAgg4
  z4 := Tryd.sizeOf4
  v4 := Tryd.zeroValue4
  t5 := Tryd.underlying5
  a5 := Tryd.isAgg5
  z5 := Tryd.sizeOf5
  v5 := Tryd.zeroValue5
  t9 := Tryd.underlying9
  a9 := Tryd.isAgg9
  z9 := Tryd.sizeOf9
  v9 := Tryd.zeroValue9 }
open Go.RowKit in
/-- strings.trimRightByte (no doc; what TrimRight and Trim call at a cutset of one ASCII byte): the trailing bytes that are c are cut off. The world is as it was. ('hs': a string's length is a number that an int holds.) (LAID: no walk: one application.) -/
theorem Tryd.strings_trimRightByte (s : ByteArray) (c : UInt8) (w : World) (hs : s.size ≤ 9223372036854775807) :
    Calls Tryd.prog 145 #[.string s, .int .u8 c.toNat] w fun e w' => e = .returned (.string ⟨(Lib.trimRightB s.data.toList c).toArray⟩) ∧ w' = w := Any.strings_trimRightByte Tryd.lays232 s c w hs
def Tryd.lays160_ren : Go.Shelf.Ren := ⟨fun | 160 => 139 | 232 => 145 | 231 => 144 | 227 => 146 | 234 => 148 | 233 => 147 | 236 => 150 | 235 => 149 | 228 => 152 | 271 => 155 | 151 => 154 | 197 => 153 | 120 => 158 | 152 => 157 | 260 => 156 | 137 => 77 | 119 => 159 | 224 => 142 | 225 => 141 | 217 => 111 | 266 => 131 | n => n, fun | 9 => 9 | 4 => 4 | 3 => 3 | 5 => 5 | 117 => 177 | 116 => 176 | 0 => 0 | 124 => 180 | 21 => 21 | 105 => 184 | 46 => 166 | 119 => 188 | 139 => 191 | 138 => 190 | n => n, fun | 3 => 3 | 4 => 4 | n => n⟩
theorem Tryd.lays160 : Go.Proofs.Lays.n160 Tryd.prog Tryd.lays160_ren := {
  mixed := by kernel_rfl
  f119 := Tryd.func159.trans (congrArg some (by kernel_rfl))
  f120 := Tryd.func158.trans (congrArg some (by kernel_rfl))
  f137 := Tryd.func77.trans (congrArg some (by kernel_rfl))
  f151 := Tryd.func154.trans (congrArg some (by kernel_rfl))
  f152 := Tryd.func157.trans (congrArg some (by kernel_rfl))
  f160 := Tryd.func139.trans (congrArg some (by kernel_rfl))
  f197 := Tryd.func153.trans (congrArg some (by kernel_rfl))
  f217 := Tryd.func111.trans (congrArg some (by kernel_rfl))
  f224 := Tryd.func142.trans (congrArg some (by kernel_rfl))
  f225 := Tryd.func141.trans (congrArg some (by kernel_rfl))
  f227 := Tryd.func146.trans (congrArg some (by kernel_rfl))
  f228 := Tryd.func152.trans (congrArg some (by kernel_rfl))
  f231 := Tryd.func144.trans (congrArg some (by kernel_rfl))
  f232 := Tryd.func145.trans (congrArg some (by kernel_rfl))
  f233 := Tryd.func147.trans (congrArg some (by kernel_rfl))
  f234 := Tryd.func148.trans (congrArg some (by kernel_rfl))
  f235 := Tryd.func149.trans (congrArg some (by kernel_rfl))
  f236 := Tryd.func150.trans (congrArg some (by kernel_rfl))
  f260 := Tryd.func156.trans (congrArg some (by kernel_rfl))
  f266 := Tryd.func131.trans (congrArg some (by kernel_rfl))
  f271 := Tryd.func155.trans (congrArg some (by kernel_rfl))
  t0 := Tryd.underlying0
  a0 := Tryd.isAgg0
  z0 := Tryd.sizeOf0
  v0 := Tryd.zeroValue0
  t3 := Tryd.underlying3
  a3 := Tryd.isAgg3
  z3 := Tryd.sizeOf3
  v3 := Tryd.zeroValue3
  t4 := Tryd.underlying4
  a4 := Tryd.isAgg4
  z4 := Tryd.sizeOf4
  v4 := Tryd.zeroValue4
  t5 := Tryd.underlying5
  a5 := Tryd.isAgg5
  z5 := Tryd.sizeOf5
  v5 := Tryd.zeroValue5
  t9 := Tryd.underlying9
  a9 := Tryd.isAgg9
  z9 := Tryd.sizeOf9
  v9 := Tryd.zeroValue9
  t21 := Tryd.underlying21
  a21 := Tryd.isAgg21
  z21 := Tryd.sizeOf21
  v21 := Tryd.zeroValue21
  t46 := Tryd.underlying166
  a46 := Tryd.isAgg166
  z46 := Tryd.sizeOf166
  v46 := Tryd.zeroValue166
  t105 := Tryd.underlying184
  a105 := Tryd.isAgg184
  z105 := Tryd.sizeOf184
  v105 := Tryd.zeroValue184
  t116 := Tryd.underlying176
  a116 := Tryd.isAgg176
  z116 := Tryd.sizeOf176
  t117 := Tryd.underlying177
  a117 := Tryd.isAgg177
  z117 := Tryd.sizeOf177
  v117 := Tryd.zeroValue177
  t119 := Tryd.underlying188
  a119 := Tryd.isAgg188
  z119 := Tryd.sizeOf188
  t124 := Tryd.underlying180
  a124 := Tryd.isAgg180
  z124 := Tryd.sizeOf180
  v124 := Tryd.zeroValue180
  t138 := Tryd.underlying190
  a138 := Tryd.isAgg190
  z138 := Tryd.sizeOf190
  v138 := Tryd.zeroValue190
  t139 := Tryd.underlying191
  a139 := Tryd.isAgg191
  z139 := Tryd.sizeOf191
  v139 := Tryd.zeroValue191
  g3 := by kernel_rfl
  g4 := by kernel_rfl }
open Go.RowKit in
/-- strings.Trim: "Trim returns a slice of the string s with all leading and trailing Unicode code points contained in cutset removed.": AT A cutset OF ONE ASCII BYTE. THE WORLD BEHIND IT: as it was, or (where s is not empty) with ONE DRAW MORE off the tape: the statement 'return trimLeftByte(trimRightByte(s, c), c)' draws its order of evaluation. (LAID: no walk: one application.) -/
theorem Tryd.strings_Trim_one (s : ByteArray) (c : UInt8) (hc : c.toNat < 128) (w : World) (hs : s.size ≤ 9223372036854775807) :
    Calls Tryd.prog 139 #[.string s, .string ⟨#[c]⟩] w fun e w' => e = .returned (.string ⟨(Lib.trimB s.data.toList c).toArray⟩) ∧ (w' = w ∨ w' = w.drew) := Any.strings_Trim_one Tryd.lays160 s c hc w hs
def Tryd.lays119_ren : Go.Shelf.Ren := ⟨fun | 119 => 159 | n => n, fun | 21 => 21 | 4 => 4 | n => n, fun | n => n⟩
theorem Tryd.lays119 : Go.Proofs.Lays.n119 Tryd.prog Tryd.lays119_ren := {
  mixed := by kernel_rfl
  f119 := Tryd.func159.trans (congrArg some (by kernel_rfl))
  t4 := Tryd.underlying4
  a4 := Tryd.isAgg4
  z4 := Tryd.sizeOf4
  v4 := Tryd.zeroValue4
  t21 := Tryd.underlying21
  a21 := Tryd.isAgg21
  z21 := Tryd.sizeOf21
  v21 := Tryd.zeroValue21 }
/-- utf8.ValidRune: "ValidRune reports whether r can be legally encoded as UTF-8. Code points that are out of range or a surrogate half are illegal.": IT RETURNS 'Lib.validRune r'; the world is as it was. (LAID: no walk: one application.) -/
theorem Tryd.utf8_ValidRune (r : Int) (w : World) :
    Calls Tryd.prog 159 #[.int .i32 r] w fun e w' => e = .returned (.bool (Lib.validRune r)) ∧ w' = w := Any.utf8_ValidRune Tryd.lays119 r w
def Tryd.lays120_ren : Go.Shelf.Ren := ⟨fun | 120 => 158 | n => n, fun | 5 => 5 | 4 => 4 | n => n, fun | n => n⟩
theorem Tryd.lays120 : Go.Proofs.Lays.n120 Tryd.prog Tryd.lays120_ren := {
  mixed := by kernel_rfl
  f120 := Tryd.func158.trans (congrArg some (by kernel_rfl))
  t4 := Tryd.underlying4
  a4 := Tryd.isAgg4
  z4 := Tryd.sizeOf4
  v4 := Tryd.zeroValue4
  t5 := Tryd.underlying5
  a5 := Tryd.isAgg5
  z5 := Tryd.sizeOf5
  v5 := Tryd.zeroValue5 }
/-- utf8.RuneStart: "RuneStart reports whether the byte could be the first byte of an encoded, possibly invalid rune. Second and subsequent bytes always have the top two bits set to 10.": IT RETURNS 'Lib.runeStart b'; the world is as it was. ('h0', 'h1': b is a byte: a caller has it of every byte that it was handed.) (LAID: no walk: one application.) -/
theorem Tryd.utf8_RuneStart (b : Int) (w : World) (h0 : 0 ≤ b) (h1 : b < 256) :
    Calls Tryd.prog 158 #[.int .u8 b] w fun e w' => e = .returned (.bool (Lib.runeStart b)) ∧ w' = w := Any.utf8_RuneStart Tryd.lays120 b w h0 h1
def Tryd.lays134_ren : Go.Shelf.Ren := ⟨fun | 134 => 137 | 129 => 140 | n => n, fun | 53 => 136 | 3 => 3 | 4 => 4 | 46 => 166 | 5 => 5 | 9 => 9 | n => n, fun | n => n⟩
theorem Tryd.lays134 : Go.Proofs.Lays.n134 Tryd.prog Tryd.lays134_ren := {
  mixed := by kernel_rfl
  f129 := Tryd.func140.trans (congrArg some (by kernel_rfl))
  f134 := Tryd.func137.trans (congrArg some (by kernel_rfl))
  t3 := Tryd.underlying3
  a3 := Tryd.isAgg3
  z3 := Tryd.sizeOf3
  v3 := Tryd.zeroValue3
  t4 := Tryd.underlying4
  a4 := Tryd.isAgg4
  z4 := Tryd.sizeOf4
  v4 := Tryd.zeroValue4
  t5 := Tryd.underlying5
  a5 := Tryd.isAgg5
  z5 := Tryd.sizeOf5
  v5 := Tryd.zeroValue5
  t9 := Tryd.underlying9
  a9 := Tryd.isAgg9
  z9 := Tryd.sizeOf9
  v9 := Tryd.zeroValue9
  t46 := Tryd.underlying166
  a46 := Tryd.isAgg166
  z46 := Tryd.sizeOf166
  v46 := Tryd.zeroValue166
  t53 := Tryd.underlying136
  a53 := Tryd.isAgg136
  z53 := Tryd.sizeOf136
  v53 := Tryd.zeroValue136 }
/-- bits.LeadingZeros64: "LeadingZeros64 returns the number of leading zero bits in x; the result is 64 for x == 0.": IT RETURNS '64 - Lib.bitLen x'; the world is as it was. ITS CALLEE bits.Len64 IS MET BY ITS OWN CONTRACT OFF THE SHELF (lay that first): entered in place it sends the kernel out of memory. (LAID: no walk: one application.) -/
theorem Tryd.bits_LeadingZeros64 (x : Int) (w : World) (h0 : 0 ≤ x) (h1 : x ≤ 18446744073709551615) :
    Calls Tryd.prog 137 #[.int .u64 x] w fun e w' => e = .returned (.int .i64 (64 - (Lib.bitLen x.toNat : Int))) ∧ w' = w := Any.bits_LeadingZeros64 Tryd.lays134 x w h0 h1
def Tryd.lays137_ren : Go.Shelf.Ren := ⟨fun | 137 => 77 | 217 => 111 | 266 => 131 | n => n, fun | 9 => 9 | 5 => 5 | 3 => 3 | n => n, fun | n => n⟩
theorem Tryd.lays137 : Go.Proofs.Lays.n137 Tryd.prog Tryd.lays137_ren := {
  mixed := by kernel_rfl
  f137 := Tryd.func77.trans (congrArg some (by kernel_rfl))
  f217 := Tryd.func111.trans (congrArg some (by kernel_rfl))
  f266 := Tryd.func131.trans (congrArg some (by kernel_rfl))
  t3 := Tryd.underlying3
  a3 := Tryd.isAgg3
  z3 := Tryd.sizeOf3
  v3 := Tryd.zeroValue3
  t5 := Tryd.underlying5
  a5 := Tryd.isAgg5
  z5 := Tryd.sizeOf5
  v5 := Tryd.zeroValue5
  t9 := Tryd.underlying9
  a9 := Tryd.isAgg9
  z9 := Tryd.sizeOf9
  v9 := Tryd.zeroValue9 }
open Go.RowKit in
/-- strings.IndexByte: "IndexByte returns the index of the first instance of c in s, or -1 if c is not present in s.": IT RETURNS 'Lib.indexByte s c'; the world is as it was. (LAID: no walk: one application.) -/
theorem Tryd.strings_IndexByte (s : ByteArray) (c : Int) (w : World) :
    Calls Tryd.prog 77 #[.string s, .int .u8 c] w fun e w' => e = .returned (.int .i64 (Lib.indexByte s.data.toList c.toNat.toUInt8)) ∧ w' = w := Any.strings_IndexByte Tryd.lays137 s c w
def Tryd.lays129_ren : Go.Shelf.Ren := ⟨fun | 129 => 140 | n => n, fun | 53 => 136 | 3 => 3 | 4 => 4 | 46 => 166 | 5 => 5 | 9 => 9 | n => n, fun | n => n⟩
theorem Tryd.lays129 : Go.Proofs.Lays.n129 Tryd.prog Tryd.lays129_ren := {
  mixed := by kernel_rfl
  f129 := Tryd.func140.trans (congrArg some (by kernel_rfl))
  t3 := Tryd.underlying3
  a3 := Tryd.isAgg3
  z3 := Tryd.sizeOf3
  v3 := Tryd.zeroValue3
  t4 := Tryd.underlying4
  a4 := Tryd.isAgg4
  z4 := Tryd.sizeOf4
  v4 := Tryd.zeroValue4
  t5 := Tryd.underlying5
  a5 := Tryd.isAgg5
  z5 := Tryd.sizeOf5
  v5 := Tryd.zeroValue5
  t9 := Tryd.underlying9
  a9 := Tryd.isAgg9
  z9 := Tryd.sizeOf9
  v9 := Tryd.zeroValue9
  t46 := Tryd.underlying166
  a46 := Tryd.isAgg166
  z46 := Tryd.sizeOf166
  v46 := Tryd.zeroValue166
  t53 := Tryd.underlying136
  a53 := Tryd.isAgg136
  z53 := Tryd.sizeOf136
  v53 := Tryd.zeroValue136 }
/-- bits.Len64: "Len64 returns the minimum number of bits required to represent x; the result is 0 for x == 0.": IT RETURNS 'Lib.bitLen x'; the world is as it was. ('h0', 'h1': x is a uint64.) (LAID: no walk: one application.) -/
theorem Tryd.bits_Len64 (x : Int) (w : World) (h0 : 0 ≤ x) (h1 : x ≤ 18446744073709551615) :
    Calls Tryd.prog 140 #[.int .u64 x] w fun e w' => e = .returned (.int .i64 (Lib.bitLen x.toNat)) ∧ w' = w := Any.bits_Len64 Tryd.lays129 x w h0 h1
def Tryd.lays217_ren : Go.Shelf.Ren := ⟨fun | 217 => 111 | 266 => 131 | n => n, fun | 9 => 9 | 5 => 5 | 3 => 3 | n => n, fun | n => n⟩
theorem Tryd.lays217 : Go.Proofs.Lays.n217 Tryd.prog Tryd.lays217_ren := {
  mixed := by kernel_rfl
  f217 := Tryd.func111.trans (congrArg some (by kernel_rfl))
  f266 := Tryd.func131.trans (congrArg some (by kernel_rfl))
  t3 := Tryd.underlying3
  a3 := Tryd.isAgg3
  z3 := Tryd.sizeOf3
  v3 := Tryd.zeroValue3
  t5 := Tryd.underlying5
  a5 := Tryd.isAgg5
  z5 := Tryd.sizeOf5
  v5 := Tryd.zeroValue5
  t9 := Tryd.underlying9
  a9 := Tryd.isAgg9
  z9 := Tryd.sizeOf9
  v9 := Tryd.zeroValue9 }
open Go.RowKit Go.Lib in
/-- internal/stringslite.IndexByte (what strings.IndexByte calls): IT RETURNS 'Lib.indexByte s c'; the world is as it was. (LAID: no walk: one application.) -/
theorem Tryd.stringslite_IndexByte (s : ByteArray) (c : Int) (w : World) :
    Calls Tryd.prog 111 #[.string s, .int .u8 c] w fun e w' => e = .returned (.int .i64 (Lib.indexByte s.data.toList c.toNat.toUInt8)) ∧ w' = w := Any.stringslite_IndexByte Tryd.lays217 s c w
def Tryd.lays224_ren : Go.Shelf.Ren := ⟨fun | 224 => 142 | n => n, fun | 3 => 3 | n => n, fun | n => n⟩
theorem Tryd.lays224 : Go.Proofs.Lays.n224 Tryd.prog Tryd.lays224_ren := {
  mixed := by kernel_rfl
  f224 := Tryd.func142.trans (congrArg some (by kernel_rfl))
  t3 := Tryd.underlying3
  a3 := Tryd.isAgg3
  z3 := Tryd.sizeOf3
  v3 := Tryd.zeroValue3 }
open Go.RowKit Go.Lib in
/-- internal/bytealg.Cutover: "Cutover reports the number of failures of IndexByte we should tolerate before switching over to Index. n is the number of bytes processed so far.": on amd64: (n + 16) / 8. (LAID: no walk: one application.) -/
theorem Tryd.bytealg_Cutover (n : Int) (h0 : 0 ≤ n) (h1 : n < 4611686018427387904) (w : World) :
    Calls Tryd.prog 142 #[.int .i64 n] w fun e w' => e = .returned (.int .i64 ((n + 16) / 8)) ∧ w' = w := Any.bytealg_Cutover Tryd.lays224 n h0 h1 w
def Tryd.lays314_ren : Go.Shelf.Ren := ⟨fun | 314 => 151 | n => n, fun | 9 => 9 | 51 => 181 | 3 => 3 | 4 => 4 | 5 => 5 | 46 => 166 | n => n, fun | n => n⟩
theorem Tryd.lays314 : Go.Proofs.Lays.n314 Tryd.prog Tryd.lays314_ren := {
  mixed := by kernel_rfl
  f314 := Tryd.func151.trans (congrArg some (by kernel_rfl))
  t3 := Tryd.underlying3
  a3 := Tryd.isAgg3
  z3 := Tryd.sizeOf3
  v3 := Tryd.zeroValue3
  t4 := Tryd.underlying4
  a4 := Tryd.isAgg4
  z4 := Tryd.sizeOf4
  v4 := Tryd.zeroValue4
  t5 := Tryd.underlying5
  a5 := Tryd.isAgg5
  z5 := Tryd.sizeOf5
  v5 := Tryd.zeroValue5
  t9 := Tryd.underlying9
  a9 := Tryd.isAgg9
  z9 := Tryd.sizeOf9
  v9 := Tryd.zeroValue9
  t46 := Tryd.underlying166
  a46 := Tryd.isAgg166
  z46 := Tryd.sizeOf166
  v46 := Tryd.zeroValue166
  t51 := Tryd.underlying181
  a51 := Tryd.isAgg181
  z51 := Tryd.sizeOf181
  v51 := Tryd.zeroValue181 }
open Go.RowKit Go.Lib in
/-- hashStr: "returns the hash and the appropriate multiplicative factor for use in Rabin-Karp algorithm": THE HASH OF ALL OF sep, AND 16777619 ^ len(sep), both in uint32. (LAID: no walk: one application.) -/
theorem Tryd.bytealg_hashStr (sep : ByteArray) (hs : sep.size < 4294967281) (w : World) :
    Calls Tryd.prog 151 #[.string sep] w fun e w' => e = .returned (.tuple #[.int .u32 (RK.H sep.data.toList % 4294967296), .int .u32 (16777619 ^ sep.size % 4294967296)]) ∧ w' = w := Any.bytealg_hashStr Tryd.lays314 sep hs w
def Tryd.lays267_ren : Go.Shelf.Ren := ⟨fun | 267 => 143 | 314 => 151 | n => n, fun | 9 => 9 | 3 => 3 | 146 => 182 | 51 => 181 | 4 => 4 | 5 => 5 | 46 => 166 | n => n, fun | n => n⟩
theorem Tryd.lays267 : Go.Proofs.Lays.n267 Tryd.prog Tryd.lays267_ren := {
  mixed := by kernel_rfl
  f267 := Tryd.func143.trans (congrArg some (by kernel_rfl))
  f314 := Tryd.func151.trans (congrArg some (by kernel_rfl))
  t3 := Tryd.underlying3
  a3 := Tryd.isAgg3
  z3 := Tryd.sizeOf3
  v3 := Tryd.zeroValue3
  t4 := Tryd.underlying4
  a4 := Tryd.isAgg4
  z4 := Tryd.sizeOf4
  v4 := Tryd.zeroValue4
  t5 := Tryd.underlying5
  a5 := Tryd.isAgg5
  z5 := Tryd.sizeOf5
  v5 := Tryd.zeroValue5
  t9 := Tryd.underlying9
  a9 := Tryd.isAgg9
  z9 := Tryd.sizeOf9
  v9 := Tryd.zeroValue9
  t46 := Tryd.underlying166
  a46 := Tryd.isAgg166
  z46 := Tryd.sizeOf166
  v46 := Tryd.zeroValue166
  t51 := Tryd.underlying181
  a51 := Tryd.isAgg181
  z51 := Tryd.sizeOf181
  v51 := Tryd.zeroValue181
  t146 := Tryd.underlying182
  a146 := Tryd.isAgg182
  z146 := Tryd.sizeOf182
  v146 := Tryd.zeroValue182 }
open Go.RowKit Go.Lib in
theorem Tryd.bytealg_IndexRabinKarp (s sep : ByteArray) (h1 : 1 ≤ sep.size) (h2 : sep.size ≤ s.size) (hs : s.size < 4294967281) (w : World) :
    Calls Tryd.prog 143 #[.string s, .string sep] w fun e w' => e = .returned (.int .i64 (Lib.index s.data.toList sep.data.toList)) ∧ w' = w := Any.bytealg_IndexRabinKarp Tryd.lays267 s sep h1 h2 hs w
def Tryd.lays219_ren : Go.Shelf.Ren := ⟨fun | 219 => 138 | 217 => 111 | 225 => 141 | 224 => 142 | 267 => 143 | 266 => 131 | 314 => 151 | n => n, fun | 9 => 9 | 3 => 3 | 4 => 4 | 5 => 5 | 46 => 166 | 146 => 182 | 51 => 181 | n => n, fun | 1 => 2 | n => n⟩
theorem Tryd.lays219 : Go.Proofs.Lays.n219 Tryd.prog Tryd.lays219_ren := {
  mixed := by kernel_rfl
  f217 := Tryd.func111.trans (congrArg some (by kernel_rfl))
  f219 := Tryd.func138.trans (congrArg some (by kernel_rfl))
  f224 := Tryd.func142.trans (congrArg some (by kernel_rfl))
  f225 := Tryd.func141.trans (congrArg some (by kernel_rfl))
  f266 := Tryd.func131.trans (congrArg some (by kernel_rfl))
  f267 := Tryd.func143.trans (congrArg some (by kernel_rfl))
  f314 := Tryd.func151.trans (congrArg some (by kernel_rfl))
  t3 := Tryd.underlying3
  a3 := Tryd.isAgg3
  z3 := Tryd.sizeOf3
  v3 := Tryd.zeroValue3
  t4 := Tryd.underlying4
  a4 := Tryd.isAgg4
  z4 := Tryd.sizeOf4
  v4 := Tryd.zeroValue4
  t5 := Tryd.underlying5
  a5 := Tryd.isAgg5
  z5 := Tryd.sizeOf5
  v5 := Tryd.zeroValue5
  t9 := Tryd.underlying9
  a9 := Tryd.isAgg9
  z9 := Tryd.sizeOf9
  v9 := Tryd.zeroValue9
  t46 := Tryd.underlying166
  a46 := Tryd.isAgg166
  z46 := Tryd.sizeOf166
  v46 := Tryd.zeroValue166
  t51 := Tryd.underlying181
  a51 := Tryd.isAgg181
  z51 := Tryd.sizeOf181
  v51 := Tryd.zeroValue181
  t146 := Tryd.underlying182
  a146 := Tryd.isAgg182
  z146 := Tryd.sizeOf182
  v146 := Tryd.zeroValue182
  g1 := by kernel_rfl }
open Go.RowKit Go.Lib in
/-- internal/stringslite.Index (what strings.Index calls) AT A substr OF ONE BYTE c: IT RETURNS 'Lib.indexByte s c'; the world is as it was. (LAID: no walk: one application.) -/
theorem Tryd.stringslite_Index_one (s : ByteArray) (c : UInt8) (w : World) :
    Calls Tryd.prog 138 #[.string s, .string ⟨#[c]⟩] w fun e w' => e = .returned (.int .i64 (Lib.indexByte s.data.toList c)) ∧ w' = w := Any.stringslite_Index_one Tryd.lays219 s c w
open Go.RowKit Go.Lib in
/-- internal/stringslite.Index (what strings.Index calls) AT A substr OF WHATEVER LENGTH: IT RETURNS 'Lib.index s substr'; the world is as it was. 'm': what internal/bytealg.MaxLen holds: whatever. (LAID: no walk: one application.) -/
theorem Tryd.stringslite_Index (s sub : ByteArray) (m : Int) (w : World) (hs : s.size < 4294967281) (hm : w.cell? ⟨2, 0, none⟩ = some (.int .i64 m)) :
    Calls Tryd.prog 138 #[.string s, .string sub] w fun e w' => e = .returned (.int .i64 (Lib.index s.data.toList sub.data.toList)) ∧ w' = w := Any.stringslite_Index Tryd.lays219 s sub m w hs hm
def Tryd.lays143_ren : Go.Shelf.Ren := ⟨fun | 143 => 126 | 219 => 138 | 217 => 111 | 225 => 141 | 224 => 142 | 267 => 143 | 266 => 131 | 314 => 151 | n => n, fun | 9 => 9 | 3 => 3 | 4 => 4 | 5 => 5 | 46 => 166 | 146 => 182 | 51 => 181 | n => n, fun | 1 => 2 | n => n⟩
theorem Tryd.lays143 : Go.Proofs.Lays.n143 Tryd.prog Tryd.lays143_ren := {
  mixed := by kernel_rfl
  f143 := Tryd.func126.trans (congrArg some (by kernel_rfl))
  f217 := Tryd.func111.trans (congrArg some (by kernel_rfl))
  f219 := Tryd.func138.trans (congrArg some (by kernel_rfl))
  f224 := Tryd.func142.trans (congrArg some (by kernel_rfl))
  f225 := Tryd.func141.trans (congrArg some (by kernel_rfl))
  f266 := Tryd.func131.trans (congrArg some (by kernel_rfl))
  f267 := Tryd.func143.trans (congrArg some (by kernel_rfl))
  f314 := Tryd.func151.trans (congrArg some (by kernel_rfl))
  t3 := Tryd.underlying3
  a3 := Tryd.isAgg3
  z3 := Tryd.sizeOf3
  v3 := Tryd.zeroValue3
  t4 := Tryd.underlying4
  a4 := Tryd.isAgg4
  z4 := Tryd.sizeOf4
  v4 := Tryd.zeroValue4
  t5 := Tryd.underlying5
  a5 := Tryd.isAgg5
  z5 := Tryd.sizeOf5
  v5 := Tryd.zeroValue5
  t9 := Tryd.underlying9
  a9 := Tryd.isAgg9
  z9 := Tryd.sizeOf9
  v9 := Tryd.zeroValue9
  t46 := Tryd.underlying166
  a46 := Tryd.isAgg166
  z46 := Tryd.sizeOf166
  v46 := Tryd.zeroValue166
  t51 := Tryd.underlying181
  a51 := Tryd.isAgg181
  z51 := Tryd.sizeOf181
  v51 := Tryd.zeroValue181
  t146 := Tryd.underlying182
  a146 := Tryd.isAgg182
  z146 := Tryd.sizeOf182
  v146 := Tryd.zeroValue182
  g1 := by kernel_rfl }
open Go.RowKit Go.Lib in
/-- strings.Index: "Index returns the index of the first instance of substr in s, or -1 if substr is not present in s.": AT A substr OF ONE BYTE c: IT RETURNS 'Lib.indexByte s c'; the world is as it was. (LAID: no walk: one application.) -/
theorem Tryd.strings_Index_one (s : ByteArray) (c : UInt8) (w : World) :
    Calls Tryd.prog 126 #[.string s, .string ⟨#[c]⟩] w fun e w' => e = .returned (.int .i64 (Lib.indexByte s.data.toList c)) ∧ w' = w := Any.strings_Index_one Tryd.lays143 s c w
open Go.RowKit Go.Lib in
/-- strings.Index: "Index returns the index of the first instance of substr in s, or -1 if substr is not present in s.": IT RETURNS 'Lib.index s substr'; the world is as it was. (LAID: no walk: one application.) -/
theorem Tryd.strings_Index (s sub : ByteArray) (m : Int) (w : World) (hs : s.size < 4294967281) (hm : w.cell? ⟨2, 0, none⟩ = some (.int .i64 m)) :
    Calls Tryd.prog 126 #[.string s, .string sub] w fun e w' => e = .returned (.int .i64 (Lib.index s.data.toList sub.data.toList)) ∧ w' = w := Any.strings_Index Tryd.lays143 s sub m w hs hm
def Tryd.lays144_ren : Go.Shelf.Ren := ⟨fun | 144 => 101 | 143 => 126 | 219 => 138 | 217 => 111 | 225 => 141 | 224 => 142 | 267 => 143 | 266 => 131 | 314 => 151 | n => n, fun | 9 => 9 | 4 => 4 | 3 => 3 | 5 => 5 | 46 => 166 | 146 => 182 | 51 => 181 | n => n, fun | 1 => 2 | n => n⟩
theorem Tryd.lays144 : Go.Proofs.Lays.n144 Tryd.prog Tryd.lays144_ren := {
  mixed := by kernel_rfl
  f143 := Tryd.func126.trans (congrArg some (by kernel_rfl))
  f144 := Tryd.func101.trans (congrArg some (by kernel_rfl))
  f217 := Tryd.func111.trans (congrArg some (by kernel_rfl))
  f219 := Tryd.func138.trans (congrArg some (by kernel_rfl))
  f224 := Tryd.func142.trans (congrArg some (by kernel_rfl))
  f225 := Tryd.func141.trans (congrArg some (by kernel_rfl))
  f266 := Tryd.func131.trans (congrArg some (by kernel_rfl))
  f267 := Tryd.func143.trans (congrArg some (by kernel_rfl))
  f314 := Tryd.func151.trans (congrArg some (by kernel_rfl))
  t3 := Tryd.underlying3
  a3 := Tryd.isAgg3
  z3 := Tryd.sizeOf3
  v3 := Tryd.zeroValue3
  t4 := Tryd.underlying4
  a4 := Tryd.isAgg4
  z4 := Tryd.sizeOf4
  v4 := Tryd.zeroValue4
  t5 := Tryd.underlying5
  a5 := Tryd.isAgg5
  z5 := Tryd.sizeOf5
  v5 := Tryd.zeroValue5
  t9 := Tryd.underlying9
  a9 := Tryd.isAgg9
  z9 := Tryd.sizeOf9
  v9 := Tryd.zeroValue9
  t46 := Tryd.underlying166
  a46 := Tryd.isAgg166
  z46 := Tryd.sizeOf166
  v46 := Tryd.zeroValue166
  t51 := Tryd.underlying181
  a51 := Tryd.isAgg181
  z51 := Tryd.sizeOf181
  v51 := Tryd.zeroValue181
  t146 := Tryd.underlying182
  a146 := Tryd.isAgg182
  z146 := Tryd.sizeOf182
  v146 := Tryd.zeroValue182
  g1 := by kernel_rfl }
open Go.RowKit Go.Lib in
/-- strings.Contains: "Contains reports whether substr is within s.": AT A substr OF ONE BYTE c: IT RETURNS 'decide (0 ≤ Lib.indexByte s c)'; the world is as it was. (LAID: no walk: one application.) -/
theorem Tryd.strings_Contains_one (s : ByteArray) (c : UInt8) (w : World) :
    Calls Tryd.prog 101 #[.string s, .string ⟨#[c]⟩] w fun e w' => e = .returned (.bool (decide (0 ≤ Lib.indexByte s.data.toList c))) ∧ w' = w := Any.strings_Contains_one Tryd.lays144 s c w
open Go.RowKit Go.Lib in
/-- strings.Contains: "Contains reports whether substr is within s.": IT RETURNS 'Lib.contains s substr'; the world is as it was. (LAID: no walk: one application.) -/
theorem Tryd.strings_Contains (s sub : ByteArray) (m : Int) (w : World) (hs : s.size < 4294967281) (hm : w.cell? ⟨2, 0, none⟩ = some (.int .i64 m)) :
    Calls Tryd.prog 101 #[.string s, .string sub] w fun e w' => e = .returned (.bool (Lib.contains s.data.toList sub.data.toList)) ∧ w' = w := Any.strings_Contains Tryd.lays144 s sub m w hs hm
def Tryd.lays220_ren : Go.Shelf.Ren := ⟨fun | 220 => 127 | 219 => 138 | 217 => 111 | 225 => 141 | 224 => 142 | 267 => 143 | 266 => 131 | 314 => 151 | n => n, fun | 9 => 9 | 4 => 4 | 3 => 3 | 5 => 5 | 46 => 166 | 146 => 182 | 51 => 181 | n => n, fun | 1 => 2 | n => n⟩
theorem Tryd.lays220 : Go.Proofs.Lays.n220 Tryd.prog Tryd.lays220_ren := {
  mixed := by kernel_rfl
  f217 := Tryd.func111.trans (congrArg some (by kernel_rfl))
  f219 := Tryd.func138.trans (congrArg some (by kernel_rfl))
  f220 := Tryd.func127.trans (congrArg some (by kernel_rfl))
  f224 := Tryd.func142.trans (congrArg some (by kernel_rfl))
  f225 := Tryd.func141.trans (congrArg some (by kernel_rfl))
  f266 := Tryd.func131.trans (congrArg some (by kernel_rfl))
  f267 := Tryd.func143.trans (congrArg some (by kernel_rfl))
  f314 := Tryd.func151.trans (congrArg some (by kernel_rfl))
  t3 := Tryd.underlying3
  a3 := Tryd.isAgg3
  z3 := Tryd.sizeOf3
  v3 := Tryd.zeroValue3
  t4 := Tryd.underlying4
  a4 := Tryd.isAgg4
  z4 := Tryd.sizeOf4
  v4 := Tryd.zeroValue4
  t5 := Tryd.underlying5
  a5 := Tryd.isAgg5
  z5 := Tryd.sizeOf5
  v5 := Tryd.zeroValue5
  t9 := Tryd.underlying9
  a9 := Tryd.isAgg9
  z9 := Tryd.sizeOf9
  v9 := Tryd.zeroValue9
  t46 := Tryd.underlying166
  a46 := Tryd.isAgg166
  z46 := Tryd.sizeOf166
  v46 := Tryd.zeroValue166
  t51 := Tryd.underlying181
  a51 := Tryd.isAgg181
  z51 := Tryd.sizeOf181
  v51 := Tryd.zeroValue181
  t146 := Tryd.underlying182
  a146 := Tryd.isAgg182
  z146 := Tryd.sizeOf182
  v146 := Tryd.zeroValue182
  g1 := by kernel_rfl }
open Go.RowKit Go.Lib in
/-- internal/stringslite.Cut (what strings.Cut calls): IT RETURNS 'Lib.cut s sep'; the world is as it was but for the count of draws. (LAID: no walk: one application.) -/
theorem Tryd.stringslite_Cut (s sep : ByteArray) (m : Int) (w : World) (hs : s.size < 4294967281) (hm : w.cell? ⟨2, 0, none⟩ = some (.int .i64 m)) :
    Calls Tryd.prog 127 #[.string s, .string sep] w fun e w' => e = .returned (.tuple #[.string ⟨(Lib.cut s.data.toList sep.data.toList).1.toArray⟩, .string ⟨(Lib.cut s.data.toList sep.data.toList).2.1.toArray⟩, .bool (Lib.cut s.data.toList sep.data.toList).2.2]) ∧ ∃ n, w' = w.drewN n := Any.stringslite_Cut Tryd.lays220 s sep m w hs hm
def Tryd.lays145_ren : Go.Shelf.Ren := ⟨fun | 145 => 108 | 220 => 127 | 219 => 138 | 217 => 111 | 225 => 141 | 224 => 142 | 267 => 143 | 266 => 131 | 314 => 151 | n => n, fun | 9 => 9 | 4 => 4 | 59 => 146 | 3 => 3 | 5 => 5 | 46 => 166 | 146 => 182 | 51 => 181 | n => n, fun | 1 => 2 | n => n⟩
theorem Tryd.lays145 : Go.Proofs.Lays.n145 Tryd.prog Tryd.lays145_ren := {
  mixed := by kernel_rfl
  f145 := Tryd.func108.trans (congrArg some (by kernel_rfl))
  f217 := Tryd.func111.trans (congrArg some (by kernel_rfl))
  f219 := Tryd.func138.trans (congrArg some (by kernel_rfl))
  f220 := Tryd.func127.trans (congrArg some (by kernel_rfl))
  f224 := Tryd.func142.trans (congrArg some (by kernel_rfl))
  f225 := Tryd.func141.trans (congrArg some (by kernel_rfl))
  f266 := Tryd.func131.trans (congrArg some (by kernel_rfl))
  f267 := Tryd.func143.trans (congrArg some (by kernel_rfl))
  f314 := Tryd.func151.trans (congrArg some (by kernel_rfl))
  t3 := Tryd.underlying3
  a3 := Tryd.isAgg3
  z3 := Tryd.sizeOf3
  v3 := Tryd.zeroValue3
  t4 := Tryd.underlying4
  a4 := Tryd.isAgg4
  z4 := Tryd.sizeOf4
  v4 := Tryd.zeroValue4
  t5 := Tryd.underlying5
  a5 := Tryd.isAgg5
  z5 := Tryd.sizeOf5
  v5 := Tryd.zeroValue5
  t9 := Tryd.underlying9
  a9 := Tryd.isAgg9
  z9 := Tryd.sizeOf9
  v9 := Tryd.zeroValue9
  t46 := Tryd.underlying166
  a46 := Tryd.isAgg166
  z46 := Tryd.sizeOf166
  v46 := Tryd.zeroValue166
  t51 := Tryd.underlying181
  a51 := Tryd.isAgg181
  z51 := Tryd.sizeOf181
  v51 := Tryd.zeroValue181
  t59 := Tryd.underlying146
  a59 := Tryd.isAgg146
  z59 := Tryd.sizeOf146
  v59 := Tryd.zeroValue146
  t146 := Tryd.underlying182
  a146 := Tryd.isAgg182
  z146 := Tryd.sizeOf182
  v146 := Tryd.zeroValue182
  g1 := by kernel_rfl }
open Go.RowKit Go.Lib in
/-- strings.Cut: "Cut slices s around the first instance of sep, returning the text before and after sep. The found result reports whether sep appears in s. If sep does not appear in s, cut returns s, "", false.": IT RETURNS 'Lib.cut s sep'; the world is as it was but for the count of draws. (LAID: no walk: one application.) -/
theorem Tryd.strings_Cut (s sep : ByteArray) (m : Int) (w : World) (hs : s.size < 4294967281) (hm : w.cell? ⟨2, 0, none⟩ = some (.int .i64 m)) :
    Calls Tryd.prog 108 #[.string s, .string sep] w fun e w' => e = .returned (.tuple #[.string ⟨(Lib.cut s.data.toList sep.data.toList).1.toArray⟩, .string ⟨(Lib.cut s.data.toList sep.data.toList).2.1.toArray⟩, .bool (Lib.cut s.data.toList sep.data.toList).2.2]) ∧ ∃ n, w' = w.drewN n := Any.strings_Cut Tryd.lays145 s sep m w hs hm
def Tryd.laysM219_ren : Go.Shelf.Ren := ⟨fun | 219 => 138 | 217 => 111 | 225 => 141 | 224 => 142 | 267 => 143 | 266 => 131 | 314 => 151 | n => n, fun | 9 => 9 | 3 => 3 | 4 => 4 | 5 => 5 | 46 => 166 | 146 => 182 | 51 => 181 | n => n, fun | 1 => 2 | n => n⟩
theorem Tryd.laysM219 : Go.Proofs.LaysM.n219 Tryd.prog Tryd.laysM219_ren := {
  mixed := by kernel_rfl
  f217 := Tryd.func111.trans (congrArg some (by kernel_rfl))
  f219 := Tryd.func138.trans (congrArg some (by kernel_rfl))
  f224 := Tryd.func142.trans (congrArg some (by kernel_rfl))
  f225 := Tryd.func141.trans (congrArg some (by kernel_rfl))
  f266 := Tryd.func131.trans (congrArg some (by kernel_rfl))
  f267 := Tryd.func143.trans (congrArg some (by kernel_rfl))
  f314 := Tryd.func151.trans (congrArg some (by kernel_rfl))
  t3 := Tryd.underlying3
  a3 := Tryd.isAgg3
  z3 := Tryd.sizeOf3
  v3 := Tryd.zeroValue3
  t4 := Tryd.underlying4
  a4 := Tryd.isAgg4
  z4 := Tryd.sizeOf4
  v4 := Tryd.zeroValue4
  t5 := Tryd.underlying5
  a5 := Tryd.isAgg5
  z5 := Tryd.sizeOf5
  v5 := Tryd.zeroValue5
  t9 := Tryd.underlying9
  a9 := Tryd.isAgg9
  z9 := Tryd.sizeOf9
  v9 := Tryd.zeroValue9
  t46 := Tryd.underlying166
  a46 := Tryd.isAgg166
  z46 := Tryd.sizeOf166
  v46 := Tryd.zeroValue166
  t51 := Tryd.underlying181
  a51 := Tryd.isAgg181
  z51 := Tryd.sizeOf181
  v51 := Tryd.zeroValue181
  t146 := Tryd.underlying182
  a146 := Tryd.isAgg182
  z146 := Tryd.sizeOf182
  v146 := Tryd.zeroValue182
  g1 := by kernel_rfl
  i3 := by kernel_rfl
  i4 := by kernel_rfl
  i5 := by kernel_rfl
  i9 := by kernel_rfl
  i46 := by kernel_rfl
  i51 := by kernel_rfl
  i146 := by kernel_rfl
  m1 := by kernel_rfl
  s1_3 := fun w h => Go.Proofs.cell_of_shapedOpen_int (zero := #[.int .i64 0]) (t := 3) h (of_decide_eq_true (by kernel_rfl)) (by kernel_rfl) rfl (by kernel_rfl) (by kernel_rfl) Tryd.underlying3 }
open Go.RowKit Go.Lib in
theorem Tryd.stringslite_Index_shaped (s sub : ByteArray) (w : World) (h : w.ShapedOpen Tryd.prog) (hs : s.size < 4294967281) :
    Calls Tryd.prog 138 #[.string s, .string sub] w fun e w' => e = .returned (.int .i64 (Lib.index s.data.toList sub.data.toList)) ∧ w' = w := Any.stringslite_Index_shaped Tryd.laysM219 s sub w h hs
def Tryd.laysM143_ren : Go.Shelf.Ren := ⟨fun | 143 => 126 | 219 => 138 | 217 => 111 | 225 => 141 | 224 => 142 | 267 => 143 | 266 => 131 | 314 => 151 | n => n, fun | 9 => 9 | 3 => 3 | 4 => 4 | 5 => 5 | 46 => 166 | 146 => 182 | 51 => 181 | n => n, fun | 1 => 2 | n => n⟩
theorem Tryd.laysM143 : Go.Proofs.LaysM.n143 Tryd.prog Tryd.laysM143_ren := {
  mixed := by kernel_rfl
  f143 := Tryd.func126.trans (congrArg some (by kernel_rfl))
  f217 := Tryd.func111.trans (congrArg some (by kernel_rfl))
  f219 := Tryd.func138.trans (congrArg some (by kernel_rfl))
  f224 := Tryd.func142.trans (congrArg some (by kernel_rfl))
  f225 := Tryd.func141.trans (congrArg some (by kernel_rfl))
  f266 := Tryd.func131.trans (congrArg some (by kernel_rfl))
  f267 := Tryd.func143.trans (congrArg some (by kernel_rfl))
  f314 := Tryd.func151.trans (congrArg some (by kernel_rfl))
  t3 := Tryd.underlying3
  a3 := Tryd.isAgg3
  z3 := Tryd.sizeOf3
  v3 := Tryd.zeroValue3
  t4 := Tryd.underlying4
  a4 := Tryd.isAgg4
  z4 := Tryd.sizeOf4
  v4 := Tryd.zeroValue4
  t5 := Tryd.underlying5
  a5 := Tryd.isAgg5
  z5 := Tryd.sizeOf5
  v5 := Tryd.zeroValue5
  t9 := Tryd.underlying9
  a9 := Tryd.isAgg9
  z9 := Tryd.sizeOf9
  v9 := Tryd.zeroValue9
  t46 := Tryd.underlying166
  a46 := Tryd.isAgg166
  z46 := Tryd.sizeOf166
  v46 := Tryd.zeroValue166
  t51 := Tryd.underlying181
  a51 := Tryd.isAgg181
  z51 := Tryd.sizeOf181
  v51 := Tryd.zeroValue181
  t146 := Tryd.underlying182
  a146 := Tryd.isAgg182
  z146 := Tryd.sizeOf182
  v146 := Tryd.zeroValue182
  g1 := by kernel_rfl
  i3 := by kernel_rfl
  i4 := by kernel_rfl
  i5 := by kernel_rfl
  i9 := by kernel_rfl
  i46 := by kernel_rfl
  i51 := by kernel_rfl
  i146 := by kernel_rfl
  m1 := by kernel_rfl
  s1_3 := fun w h => Go.Proofs.cell_of_shapedOpen_int (zero := #[.int .i64 0]) (t := 3) h (of_decide_eq_true (by kernel_rfl)) (by kernel_rfl) rfl (by kernel_rfl) (by kernel_rfl) Tryd.underlying3 }
open Go.RowKit Go.Lib in
theorem Tryd.strings_Index_shaped (s sub : ByteArray) (w : World) (h : w.ShapedOpen Tryd.prog) (hs : s.size < 4294967281) :
    Calls Tryd.prog 126 #[.string s, .string sub] w fun e w' => e = .returned (.int .i64 (Lib.index s.data.toList sub.data.toList)) ∧ w' = w := Any.strings_Index_shaped Tryd.laysM143 s sub w h hs
def Tryd.laysM144_ren : Go.Shelf.Ren := ⟨fun | 144 => 101 | 143 => 126 | 219 => 138 | 217 => 111 | 225 => 141 | 224 => 142 | 267 => 143 | 266 => 131 | 314 => 151 | n => n, fun | 9 => 9 | 4 => 4 | 3 => 3 | 5 => 5 | 46 => 166 | 146 => 182 | 51 => 181 | n => n, fun | 1 => 2 | n => n⟩
theorem Tryd.laysM144 : Go.Proofs.LaysM.n144 Tryd.prog Tryd.laysM144_ren := {
  mixed := by kernel_rfl
  f143 := Tryd.func126.trans (congrArg some (by kernel_rfl))
  f144 := Tryd.func101.trans (congrArg some (by kernel_rfl))
  f217 := Tryd.func111.trans (congrArg some (by kernel_rfl))
  f219 := Tryd.func138.trans (congrArg some (by kernel_rfl))
  f224 := Tryd.func142.trans (congrArg some (by kernel_rfl))
  f225 := Tryd.func141.trans (congrArg some (by kernel_rfl))
  f266 := Tryd.func131.trans (congrArg some (by kernel_rfl))
  f267 := Tryd.func143.trans (congrArg some (by kernel_rfl))
  f314 := Tryd.func151.trans (congrArg some (by kernel_rfl))
  t3 := Tryd.underlying3
  a3 := Tryd.isAgg3
  z3 := Tryd.sizeOf3
  v3 := Tryd.zeroValue3
  t4 := Tryd.underlying4
  a4 := Tryd.isAgg4
  z4 := Tryd.sizeOf4
  v4 := Tryd.zeroValue4
  t5 := Tryd.underlying5
  a5 := Tryd.isAgg5
  z5 := Tryd.sizeOf5
  v5 := Tryd.zeroValue5
  t9 := Tryd.underlying9
  a9 := Tryd.isAgg9
  z9 := Tryd.sizeOf9
  v9 := Tryd.zeroValue9
  t46 := Tryd.underlying166
  a46 := Tryd.isAgg166
  z46 := Tryd.sizeOf166
  v46 := Tryd.zeroValue166
  t51 := Tryd.underlying181
  a51 := Tryd.isAgg181
  z51 := Tryd.sizeOf181
  v51 := Tryd.zeroValue181
  t146 := Tryd.underlying182
  a146 := Tryd.isAgg182
  z146 := Tryd.sizeOf182
  v146 := Tryd.zeroValue182
  g1 := by kernel_rfl
  i3 := by kernel_rfl
  i4 := by kernel_rfl
  i5 := by kernel_rfl
  i9 := by kernel_rfl
  i46 := by kernel_rfl
  i51 := by kernel_rfl
  i146 := by kernel_rfl
  m1 := by kernel_rfl
  s1_3 := fun w h => Go.Proofs.cell_of_shapedOpen_int (zero := #[.int .i64 0]) (t := 3) h (of_decide_eq_true (by kernel_rfl)) (by kernel_rfl) rfl (by kernel_rfl) (by kernel_rfl) Tryd.underlying3 }
open Go.RowKit Go.Lib in
theorem Tryd.strings_Contains_shaped (s sub : ByteArray) (w : World) (h : w.ShapedOpen Tryd.prog) (hs : s.size < 4294967281) :
    Calls Tryd.prog 101 #[.string s, .string sub] w fun e w' => e = .returned (.bool (Lib.contains s.data.toList sub.data.toList)) ∧ w' = w := Any.strings_Contains_shaped Tryd.laysM144 s sub w h hs
def Tryd.laysM220_ren : Go.Shelf.Ren := ⟨fun | 220 => 127 | 219 => 138 | 217 => 111 | 225 => 141 | 224 => 142 | 267 => 143 | 266 => 131 | 314 => 151 | n => n, fun | 9 => 9 | 4 => 4 | 3 => 3 | 5 => 5 | 46 => 166 | 146 => 182 | 51 => 181 | n => n, fun | 1 => 2 | n => n⟩
theorem Tryd.laysM220 : Go.Proofs.LaysM.n220 Tryd.prog Tryd.laysM220_ren := {
  mixed := by kernel_rfl
  f217 := Tryd.func111.trans (congrArg some (by kernel_rfl))
  f219 := Tryd.func138.trans (congrArg some (by kernel_rfl))
  f220 := Tryd.func127.trans (congrArg some (by kernel_rfl))
  f224 := Tryd.func142.trans (congrArg some (by kernel_rfl))
  f225 := Tryd.func141.trans (congrArg some (by kernel_rfl))
  f266 := Tryd.func131.trans (congrArg some (by kernel_rfl))
  f267 := Tryd.func143.trans (congrArg some (by kernel_rfl))
  f314 := Tryd.func151.trans (congrArg some (by kernel_rfl))
  t3 := Tryd.underlying3
  a3 := Tryd.isAgg3
  z3 := Tryd.sizeOf3
  v3 := Tryd.zeroValue3
  t4 := Tryd.underlying4
  a4 := Tryd.isAgg4
  z4 := Tryd.sizeOf4
  v4 := Tryd.zeroValue4
  t5 := Tryd.underlying5
  a5 := Tryd.isAgg5
  z5 := Tryd.sizeOf5
  v5 := Tryd.zeroValue5
  t9 := Tryd.underlying9
  a9 := Tryd.isAgg9
  z9 := Tryd.sizeOf9
  v9 := Tryd.zeroValue9
  t46 := Tryd.underlying166
  a46 := Tryd.isAgg166
  z46 := Tryd.sizeOf166
  v46 := Tryd.zeroValue166
  t51 := Tryd.underlying181
  a51 := Tryd.isAgg181
  z51 := Tryd.sizeOf181
  v51 := Tryd.zeroValue181
  t146 := Tryd.underlying182
  a146 := Tryd.isAgg182
  z146 := Tryd.sizeOf182
  v146 := Tryd.zeroValue182
  g1 := by kernel_rfl
  i3 := by kernel_rfl
  i4 := by kernel_rfl
  i5 := by kernel_rfl
  i9 := by kernel_rfl
  i46 := by kernel_rfl
  i51 := by kernel_rfl
  i146 := by kernel_rfl
  m1 := by kernel_rfl
  s1_3 := fun w h => Go.Proofs.cell_of_shapedOpen_int (zero := #[.int .i64 0]) (t := 3) h (of_decide_eq_true (by kernel_rfl)) (by kernel_rfl) rfl (by kernel_rfl) (by kernel_rfl) Tryd.underlying3 }
open Go.RowKit Go.Lib in
theorem Tryd.stringslite_Cut_shaped (s sep : ByteArray) (w : World) (h : w.ShapedOpen Tryd.prog) (hs : s.size < 4294967281) :
    Calls Tryd.prog 127 #[.string s, .string sep] w fun e w' => e = .returned (.tuple #[.string ⟨(Lib.cut s.data.toList sep.data.toList).1.toArray⟩, .string ⟨(Lib.cut s.data.toList sep.data.toList).2.1.toArray⟩, .bool (Lib.cut s.data.toList sep.data.toList).2.2]) ∧ ∃ n, w' = w.drewN n := Any.stringslite_Cut_shaped Tryd.laysM220 s sep w h hs
def Tryd.laysM145_ren : Go.Shelf.Ren := ⟨fun | 145 => 108 | 220 => 127 | 219 => 138 | 217 => 111 | 225 => 141 | 224 => 142 | 267 => 143 | 266 => 131 | 314 => 151 | n => n, fun | 9 => 9 | 4 => 4 | 59 => 146 | 3 => 3 | 5 => 5 | 46 => 166 | 146 => 182 | 51 => 181 | n => n, fun | 1 => 2 | n => n⟩
theorem Tryd.laysM145 : Go.Proofs.LaysM.n145 Tryd.prog Tryd.laysM145_ren := {
  mixed := by kernel_rfl
  f145 := Tryd.func108.trans (congrArg some (by kernel_rfl))
  f217 := Tryd.func111.trans (congrArg some (by kernel_rfl))
  f219 := Tryd.func138.trans (congrArg some (by kernel_rfl))
  f220 := Tryd.func127.trans (congrArg some (by kernel_rfl))
  f224 := Tryd.func142.trans (congrArg some (by kernel_rfl))
  f225 := Tryd.func141.trans (congrArg some (by kernel_rfl))
  f266 := Tryd.func131.trans (congrArg some (by kernel_rfl))
  f267 := Tryd.func143.trans (congrArg some (by kernel_rfl))
  f314 := Tryd.func151.trans (congrArg some (by kernel_rfl))
  t3 := Tryd.underlying3
  a3 := Tryd.isAgg3
  z3 := Tryd.sizeOf3
  v3 := Tryd.zeroValue3
  t4 := Tryd.underlying4
  a4 := Tryd.isAgg4
  z4 := Tryd.sizeOf4
  v4 := Tryd.zeroValue4
  t5 := Tryd.underlying5
  a5 := Tryd.isAgg5
  z5 := Tryd.sizeOf5
  v5 := Tryd.zeroValue5
  t9 := Tryd.underlying9
  a9 := Tryd.isAgg9
  z9 := Tryd.sizeOf9
  v9 := Tryd.zeroValue9
  t46 := Tryd.underlying166
  a46 := Tryd.isAgg166
  z46 := Tryd.sizeOf166
  v46 := Tryd.zeroValue166
  t51 := Tryd.underlying181
  a51 := Tryd.isAgg181
  z51 := Tryd.sizeOf181
  v51 := Tryd.zeroValue181
  t59 := Tryd.underlying146
  a59 := Tryd.isAgg146
  z59 := Tryd.sizeOf146
  v59 := Tryd.zeroValue146
  t146 := Tryd.underlying182
  a146 := Tryd.isAgg182
  z146 := Tryd.sizeOf182
  v146 := Tryd.zeroValue182
  g1 := by kernel_rfl
  i3 := by kernel_rfl
  i4 := by kernel_rfl
  i5 := by kernel_rfl
  i9 := by kernel_rfl
  i46 := by kernel_rfl
  i51 := by kernel_rfl
  i59 := by kernel_rfl
  i146 := by kernel_rfl
  m1 := by kernel_rfl
  s1_3 := fun w h => Go.Proofs.cell_of_shapedOpen_int (zero := #[.int .i64 0]) (t := 3) h (of_decide_eq_true (by kernel_rfl)) (by kernel_rfl) rfl (by kernel_rfl) (by kernel_rfl) Tryd.underlying3 }
open Go.RowKit Go.Lib in
theorem Tryd.strings_Cut_shaped (s sep : ByteArray) (w : World) (h : w.ShapedOpen Tryd.prog) (hs : s.size < 4294967281) :
    Calls Tryd.prog 108 #[.string s, .string sep] w fun e w' => e = .returned (.tuple #[.string ⟨(Lib.cut s.data.toList sep.data.toList).1.toArray⟩, .string ⟨(Lib.cut s.data.toList sep.data.toList).2.1.toArray⟩, .bool (Lib.cut s.data.toList sep.data.toList).2.2]) ∧ ∃ n, w' = w.drewN n := Any.strings_Cut_shaped Tryd.laysM145 s sep w h hs
def Tryd.lays152_ren : Go.Shelf.Ren := ⟨fun | 152 => 157 | 137 => 77 | 119 => 159 | 224 => 142 | 225 => 141 | 217 => 111 | 266 => 131 | n => n, fun | 9 => 9 | 21 => 21 | 3 => 3 | 4 => 4 | 5 => 5 | 0 => 0 | 46 => 166 | n => n, fun | n => n⟩
theorem Tryd.lays152 : Go.Proofs.Lays.n152 Tryd.prog Tryd.lays152_ren := {
  mixed := by kernel_rfl
  f119 := Tryd.func159.trans (congrArg some (by kernel_rfl))
  f137 := Tryd.func77.trans (congrArg some (by kernel_rfl))
  f152 := Tryd.func157.trans (congrArg some (by kernel_rfl))
  f217 := Tryd.func111.trans (congrArg some (by kernel_rfl))
  f224 := Tryd.func142.trans (congrArg some (by kernel_rfl))
  f225 := Tryd.func141.trans (congrArg some (by kernel_rfl))
  f266 := Tryd.func131.trans (congrArg some (by kernel_rfl))
  t0 := Tryd.underlying0
  a0 := Tryd.isAgg0
  z0 := Tryd.sizeOf0
  v0 := Tryd.zeroValue0
  t3 := Tryd.underlying3
  a3 := Tryd.isAgg3
  z3 := Tryd.sizeOf3
  v3 := Tryd.zeroValue3
  t4 := Tryd.underlying4
  a4 := Tryd.isAgg4
  z4 := Tryd.sizeOf4
  v4 := Tryd.zeroValue4
  t5 := Tryd.underlying5
  a5 := Tryd.isAgg5
  z5 := Tryd.sizeOf5
  v5 := Tryd.zeroValue5
  t9 := Tryd.underlying9
  a9 := Tryd.isAgg9
  z9 := Tryd.sizeOf9
  v9 := Tryd.zeroValue9
  t21 := Tryd.underlying21
  a21 := Tryd.isAgg21
  z21 := Tryd.sizeOf21
  v21 := Tryd.zeroValue21
  t46 := Tryd.underlying166
  a46 := Tryd.isAgg166
  z46 := Tryd.sizeOf166
  v46 := Tryd.zeroValue166 }
open Go.RowKit Go.Lib in
theorem Tryd.strings_IndexRune_ascii (s : ByteArray) (r : Int) (w : World) (h0 : 0 ≤ r) (h1 : r < 128) :
    Calls Tryd.prog 157 #[.string s, .int .i32 r] w fun e w' => e = .returned (.int .i64 (Lib.indexByte s.data.toList r.toNat.toUInt8)) ∧ w' = w := Any.strings_IndexRune_ascii Tryd.lays152 s r w h0 h1
def Tryd.lays151_ren : Go.Shelf.Ren := ⟨fun | 151 => 154 | 152 => 157 | 137 => 77 | 119 => 159 | 224 => 142 | 225 => 141 | 217 => 111 | 266 => 131 | n => n, fun | 9 => 9 | 21 => 21 | 4 => 4 | 3 => 3 | 5 => 5 | 0 => 0 | 46 => 166 | n => n, fun | n => n⟩
theorem Tryd.lays151 : Go.Proofs.Lays.n151 Tryd.prog Tryd.lays151_ren := {
  mixed := by kernel_rfl
  f119 := Tryd.func159.trans (congrArg some (by kernel_rfl))
  f137 := Tryd.func77.trans (congrArg some (by kernel_rfl))
  f151 := Tryd.func154.trans (congrArg some (by kernel_rfl))
  f152 := Tryd.func157.trans (congrArg some (by kernel_rfl))
  f217 := Tryd.func111.trans (congrArg some (by kernel_rfl))
  f224 := Tryd.func142.trans (congrArg some (by kernel_rfl))
  f225 := Tryd.func141.trans (congrArg some (by kernel_rfl))
  f266 := Tryd.func131.trans (congrArg some (by kernel_rfl))
  t0 := Tryd.underlying0
  a0 := Tryd.isAgg0
  z0 := Tryd.sizeOf0
  v0 := Tryd.zeroValue0
  t3 := Tryd.underlying3
  a3 := Tryd.isAgg3
  z3 := Tryd.sizeOf3
  v3 := Tryd.zeroValue3
  t4 := Tryd.underlying4
  a4 := Tryd.isAgg4
  z4 := Tryd.sizeOf4
  v4 := Tryd.zeroValue4
  t5 := Tryd.underlying5
  a5 := Tryd.isAgg5
  z5 := Tryd.sizeOf5
  v5 := Tryd.zeroValue5
  t9 := Tryd.underlying9
  a9 := Tryd.isAgg9
  z9 := Tryd.sizeOf9
  v9 := Tryd.zeroValue9
  t21 := Tryd.underlying21
  a21 := Tryd.isAgg21
  z21 := Tryd.sizeOf21
  v21 := Tryd.zeroValue21
  t46 := Tryd.underlying166
  a46 := Tryd.isAgg166
  z46 := Tryd.sizeOf166
  v46 := Tryd.zeroValue166 }
open Go.RowKit Go.Lib in
theorem Tryd.strings_ContainsRune_ascii (s : ByteArray) (r : Int) (w : World) (h0 : 0 ≤ r) (h1 : r < 128) :
    Calls Tryd.prog 154 #[.string s, .int .i32 r] w fun e w' => e = .returned (.bool (decide (0 ≤ Lib.indexByte s.data.toList r.toNat.toUInt8))) ∧ w' = w := Any.strings_ContainsRune_ascii Tryd.lays151 s r w h0 h1
def Tryd.lays227_ren : Go.Shelf.Ren := ⟨fun | 227 => 146 | n => n, fun | 9 => 9 | 116 => 176 | 4 => 4 | 0 => 0 | 3 => 3 | 5 => 5 | n => n, fun | n => n⟩
theorem Tryd.lays227 : Go.Proofs.Lays.n227 Tryd.prog Tryd.lays227_ren := {
  mixed := by kernel_rfl
  f227 := Tryd.func146.trans (congrArg some (by kernel_rfl))
  t0 := Tryd.underlying0
  a0 := Tryd.isAgg0
  z0 := Tryd.sizeOf0
  v0 := Tryd.zeroValue0
  t3 := Tryd.underlying3
  a3 := Tryd.isAgg3
  z3 := Tryd.sizeOf3
  v3 := Tryd.zeroValue3
  t4 := Tryd.underlying4
  a4 := Tryd.isAgg4
  z4 := Tryd.sizeOf4
  v4 := Tryd.zeroValue4
  t5 := Tryd.underlying5
  a5 := Tryd.isAgg5
  z5 := Tryd.sizeOf5
  v5 := Tryd.zeroValue5
  t9 := Tryd.underlying9
  a9 := Tryd.isAgg9
  z9 := Tryd.sizeOf9
  v9 := Tryd.zeroValue9
  t116 := Tryd.underlying176
  a116 := Tryd.isAgg176
  z116 := Tryd.sizeOf176 }
open Go.RowKit Go.Lib in
theorem Tryd.strings_makeASCIISet (hv116 : ∀ w, (zeroValue 176).run Tryd.prog w = .ok (.agg (Array.replicate 256 (.bool false))) w) (chars : ByteArray) (w : World) (hs : chars.size < 4294967281) (hascii : ∀ (j : Nat) b, chars.data.toList[j]? = some b → b.toNat < 128) :
    Calls Tryd.prog 146 #[.string chars] w fun e w' => e = .returned (.tuple #[.agg (Lib.setCells chars.data.toList), .bool true]) ∧ w' = w.alloc (.cells (Lib.setCells chars.data.toList) 176) := Any.strings_makeASCIISet Tryd.lays227 hv116 (by kernel_rfl) chars w hs hascii
def Tryd.lays228_ren : Go.Shelf.Ren := ⟨fun | 228 => 152 | n => n, fun | 124 => 180 | 5 => 5 | 4 => 4 | 0 => 0 | 116 => 176 | n => n, fun | n => n⟩
theorem Tryd.lays228 : Go.Proofs.Lays.n228 Tryd.prog Tryd.lays228_ren := {
  mixed := by kernel_rfl
  f228 := Tryd.func152.trans (congrArg some (by kernel_rfl))
  t0 := Tryd.underlying0
  a0 := Tryd.isAgg0
  z0 := Tryd.sizeOf0
  v0 := Tryd.zeroValue0
  t4 := Tryd.underlying4
  a4 := Tryd.isAgg4
  z4 := Tryd.sizeOf4
  v4 := Tryd.zeroValue4
  t5 := Tryd.underlying5
  a5 := Tryd.isAgg5
  z5 := Tryd.sizeOf5
  v5 := Tryd.zeroValue5
  t116 := Tryd.underlying176
  a116 := Tryd.isAgg176
  z116 := Tryd.sizeOf176
  t124 := Tryd.underlying180
  a124 := Tryd.isAgg180
  z124 := Tryd.sizeOf180
  v124 := Tryd.zeroValue180 }
open Go.RowKit Go.Lib in
/-- '(as *asciiSet) contains(c)': 'as[c]': the set lies at block b, whole. (LAID: no walk: one application.) -/
theorem Tryd.asciiSet_contains (b : Nat) (x : UInt8) (v : Bool) (w : World) (hc : w.cell? ⟨b, x.toNat, none⟩ = some (.bool v)) :
    Calls Tryd.prog 152 #[.pointer (some ⟨b, 0, none⟩), .int .u8 x.toNat] w fun e w' => e = .returned (.bool v) ∧ w' = w := Any.asciiSet_contains Tryd.lays228 b x v w hc
def Tryd.lays264_ren : Go.Shelf.Ren := ⟨fun | 264 => 123 | n => n, fun | 53 => 136 | 46 => 166 | n => n, fun | n => n⟩
theorem Tryd.lays264 : Go.Proofs.Lays.n264 Tryd.prog Tryd.lays264_ren := {
  mixed := by kernel_rfl
  f264 := Tryd.func123.trans (congrArg some (by kernel_rfl))
  t46 := Tryd.underlying166
  a46 := Tryd.isAgg166
  z46 := Tryd.sizeOf166
  v46 := Tryd.zeroValue166
  t53 := Tryd.underlying136
  a53 := Tryd.isAgg136
  z53 := Tryd.sizeOf136
  v53 := Tryd.zeroValue136 }
open Go.RowKit Go.Lib in
theorem Tryd.bits_Mul64 (x y : Nat) (hx : x < 18446744073709551616) (hy : y < 18446744073709551616) (w : World) :
    Calls Tryd.prog 123 #[.int .u64 x, .int .u64 y] w fun e w' => e = .returned (.tuple #[.int .u64 ((x * y / 18446744073709551616 : Nat) : Int), .int .u64 ((x * y % 18446744073709551616 : Nat) : Int)]) ∧ w' = w := Any.bits_Mul64 Tryd.lays264 x y hx hy w
def Tryd.lays260_ren : Go.Shelf.Ren := ⟨fun | 260 => 156 | n => n, fun | 9 => 9 | 21 => 21 | 3 => 3 | 4 => 4 | 5 => 5 | 119 => 188 | 0 => 0 | 46 => 166 | 139 => 191 | 138 => 190 | n => n, fun | 3 => 3 | 4 => 4 | n => n⟩
theorem Tryd.lays260 : Go.Proofs.Lays.n260 Tryd.prog Tryd.lays260_ren := {
  mixed := by kernel_rfl
  f260 := Tryd.func156.trans (congrArg some (by kernel_rfl))
  t0 := Tryd.underlying0
  a0 := Tryd.isAgg0
  z0 := Tryd.sizeOf0
  v0 := Tryd.zeroValue0
  t3 := Tryd.underlying3
  a3 := Tryd.isAgg3
  z3 := Tryd.sizeOf3
  v3 := Tryd.zeroValue3
  t4 := Tryd.underlying4
  a4 := Tryd.isAgg4
  z4 := Tryd.sizeOf4
  v4 := Tryd.zeroValue4
  t5 := Tryd.underlying5
  a5 := Tryd.isAgg5
  z5 := Tryd.sizeOf5
  v5 := Tryd.zeroValue5
  t9 := Tryd.underlying9
  a9 := Tryd.isAgg9
  z9 := Tryd.sizeOf9
  v9 := Tryd.zeroValue9
  t21 := Tryd.underlying21
  a21 := Tryd.isAgg21
  z21 := Tryd.sizeOf21
  v21 := Tryd.zeroValue21
  t46 := Tryd.underlying166
  a46 := Tryd.isAgg166
  z46 := Tryd.sizeOf166
  v46 := Tryd.zeroValue166
  t119 := Tryd.underlying188
  a119 := Tryd.isAgg188
  z119 := Tryd.sizeOf188
  t138 := Tryd.underlying190
  a138 := Tryd.isAgg190
  z138 := Tryd.sizeOf190
  v138 := Tryd.zeroValue190
  t139 := Tryd.underlying191
  a139 := Tryd.isAgg191
  z139 := Tryd.sizeOf191
  v139 := Tryd.zeroValue191
  g3 := by kernel_rfl
  g4 := by kernel_rfl }
open Go.RowKit Go.Lib in
theorem Tryd.utf8_decodeRuneInStringSlow (s : ByteArray) (w : World) (hT : Lib.Utf8Tabs 3 4 w) :
    Calls Tryd.prog 156 #[.string s] w fun e w' => e = .returned (.tuple #[.int .i32 (Lib.decodeGo s).1, .int .i64 (Lib.decodeGo s).2]) ∧ Below w.heap.size w w' := Any.utf8_decodeRuneInStringSlow Tryd.lays260 s w hT
end Go.Proofs

/- Plain arithmetic for math/bits.Div64 (Knuth's step with 32-bit digits): no program in sight. -/
namespace Go.Proofs.YtniajhmbdbgmgaaDoor.PDiv

theorem qhat_le {U Y : Nat} (hY : 9223372036854775808 ≤ Y) (hY2 : Y < 18446744073709551616) (hU : U < Y) :
    U / (Y / 4294967296) ≤ 4294967297 := by
  have h1 : 2147483648 ≤ Y / 4294967296 := by omega
  have h2 : U < Y / 4294967296 * 4294967298 := by omega
  have h3 : U / (Y / 4294967296) < 4294967298 := Nat.div_lt_of_lt_mul h2
  omega

theorem start {U u Y : Nat} (hY : 9223372036854775808 ≤ Y) (hu : u < 4294967296) :
    (U * 4294967296 + u) / Y ≤ U / (Y / 4294967296) := by
  have h1 : 2147483648 ≤ Y / 4294967296 := by omega
  have h2 : Y / 4294967296 * 4294967296 ≤ Y := Nat.div_mul_le_self _ _
  generalize Y / 4294967296 = y1 at *
  apply Nat.le_of_lt_succ
  apply Nat.div_lt_of_lt_mul
  have h3 : U < y1 * (U / y1 + 1) := by
    have := Nat.lt_mul_div_succ U (b := y1) (by omega); omega
  generalize U / y1 = Q at *
  have h4 : (U + 1) * 4294967296 ≤ y1 * (Q + 1) * 4294967296 := Nat.mul_le_mul_right _ h3
  have h5 : y1 * (Q + 1) * 4294967296 = y1 * 4294967296 * (Q + 1) := by
    rw [Nat.mul_assoc, Nat.mul_comm (Q + 1), ← Nat.mul_assoc]
  have h6 : y1 * 4294967296 * (Q + 1) ≤ Y * (Q + 1) := Nat.mul_le_mul_right _ h2
  have : (Q + 1).succ = Q + 1 + 1 := rfl
  show U * 4294967296 + u < Y * (Q + 1)
  omega

theorem split {Q R U Y : Nat} (h : Q * (Y / 4294967296) + R = U) : Q * Y + R * 4294967296 = U * 4294967296 + Q * (Y % 4294967296) := by
  subst h
  have e : Y = Y / 4294967296 * 4294967296 + Y % 4294967296 := (Nat.div_add_mod' Y _).symm
  generalize Y / 4294967296 = a at *
  generalize Y % 4294967296 = b at *
  subst e
  rw [Nat.mul_add, Nat.add_mul, ← Nat.mul_assoc]
  omega

theorem small {U u Y : Nat} (hU : U < Y) (hu : u < 4294967296) : (U * 4294967296 + u) / Y < 4294967296 := by
  apply Nat.div_lt_of_lt_mul
  have : (U + 1) * 4294967296 ≤ Y * 4294967296 := Nat.mul_le_mul_right _ hU
  omega

theorem down {Q R U u Y : Nat} (hU : U < Y) (hu : u < 4294967296) (h : Q * (Y / 4294967296) + R = U)
    (hc : 4294967296 ≤ Q ∨ 4294967296 * R + u < Q * (Y % 4294967296)) : (U * 4294967296 + u) / Y < Q := by
  rcases hc with hc | hc
  · have := small hU hu; omega
  · have := split h
    apply Nat.div_lt_of_lt_mul
    have e := Nat.mul_comm Y Q
    omega

theorem up {Q R U u Y : Nat} (hU : U < Y) (h : Q * (Y / 4294967296) + R = U)
    (hc : Q * (Y % 4294967296) ≤ 4294967296 * R + u) : Q ≤ (U * 4294967296 + u) / Y := by
  have := split h
  rw [Nat.le_div_iff_mul_le (by omega)]
  omega

theorem up2 {Q R U u Y : Nat} (hU : U < Y) (h : Q * (Y / 4294967296) + R = U) (hQ : Q ≤ 4294967296) (hR : 4294967296 ≤ R) :
    Q ≤ (U * 4294967296 + u) / Y := by
  refine up hU h ?_
  have h1 : Q * (Y % 4294967296) ≤ 4294967296 * 4294967295 := Nat.mul_le_mul hQ (by omega)
  omega

/-- What is left behind a digit. -/
theorem rest {U u Y : Nat} (hY : 0 < Y) :
    (U * 4294967296 + u) % Y < Y ∧ (U * 4294967296 + u) / Y * Y + (U * 4294967296 + u) % Y = U * 4294967296 + u :=
  ⟨Nat.mod_lt _ hY, by have := Nat.div_add_mod (U * 4294967296 + u) Y; rw [Nat.mul_comm]; exact this⟩

/-- The whole: two digits of a scaled number are the quotient, what is left is the scaled rest. -/
theorem whole0 {n y k Y U b d1 d0 R q1 q0 R2 : Nat} (hk : 0 < k) (hY : Y = y * k) (hn : n * k = U * (b * b) + (d1 * b + d0))
    (h1 : q1 * Y + R = U * b + d1) (h0 : q0 * Y + R2 = R * b + d0) (hR2 : R2 < Y) :
    q1 * b + q0 = n / y ∧ R2 / k = n % y := by
  have e : n * k = (q1 * b + q0) * Y + R2 := by
    have h4 : (q1 * Y + R) * b = (U * b + d1) * b := by rw [h1]
    have h5 : (q1 * b + q0) * Y = q1 * Y * b + q0 * Y := by
      rw [Nat.add_mul, Nat.mul_assoc, Nat.mul_comm b Y, ← Nat.mul_assoc]
    rw [Nat.add_mul, Nat.add_mul, Nat.mul_assoc U] at h4
    omega
  have hY0 : 0 < Y := by omega
  have hR : R2 = n * k % Y := by
    rw [e, Nat.mul_add_mod_self_right, Nat.mod_eq_of_lt hR2]
  have hq : q1 * b + q0 = n * k / Y := by
    rw [e, Nat.mul_comm _ Y, Nat.mul_add_div hY0, Nat.div_eq_of_lt hR2, Nat.add_zero]
  subst hY
  refine ⟨?_, ?_⟩
  · rw [hq, Nat.mul_div_mul_right _ _ hk]
  · rw [hR, Nat.mul_mod_mul_right, Nat.mul_div_cancel _ hk]

theorem whole {n y k Y U w R q1 q0 : Nat} (hk : 0 < k) (hY : Y = y * k) (hn : n * k = U * 18446744073709551616 + w)
    (h1 : q1 * Y + R = U * 4294967296 + w / 4294967296) {R2 : Nat} (h0 : q0 * Y + R2 = R * 4294967296 + w % 4294967296) (hR2 : R2 < Y) :
    q1 * 4294967296 + q0 = n / y ∧ R2 / k = n % y :=
  whole0 hk hY (by rw [hn, Nat.div_add_mod']) h1 h0 hR2

/-- The scaled number's upper half. -/
theorem upper {hi lo y k : Nat} (hk : 0 < k) {j : Nat} (hkj : k * j = 18446744073709551616) (hlo : lo < 18446744073709551616) (hhi : hi < y) :
    (hi * 18446744073709551616 + lo) * k = (hi * k + lo / j) * 18446744073709551616 + lo * k % 18446744073709551616 ∧ hi * k + lo / j < y * k ∧ lo / j < k := by
  have hj : 0 < j := by
    rcases Nat.eq_zero_or_pos j with h | h
    · subst h; simp at hkj
    · exact h
  have h1 : lo / j < k := by
    apply Nat.div_lt_of_lt_mul; rw [Nat.mul_comm, hkj]; exact hlo
  have h2 : lo * k / 18446744073709551616 = lo / j := by
    rw [← hkj, Nat.mul_comm k j, Nat.mul_div_mul_right _ _ hk]
  refine ⟨?_, ?_, h1⟩
  · have h3 := Nat.div_add_mod (lo * k) 18446744073709551616
    rw [h2] at h3
    have h4 : (hi * 18446744073709551616 + lo) * k = hi * k * 18446744073709551616 + lo * k := by
      rw [Nat.add_mul, Nat.mul_assoc, Nat.mul_comm 18446744073709551616, ← Nat.mul_assoc]
    rw [h4]
    omega
  · have : (hi + 1) * k ≤ y * k := Nat.mul_le_mul_right _ hhi
    rw [Nat.add_mul] at this
    omega

end Go.Proofs.YtniajhmbdbgmgaaDoor.PDiv

/- math/bits.Div64 answers the quotient and the rest of hi * 2^64 + lo by y, wherever hi < y. -/
namespace Go.Proofs.YtniajhmbdbgmgaaDoor.XDiv
open Go Go.RowKit Go.Proofs

theorem wrapN (a : Nat) (ha : a < 18446744073709551616) : IntKind.u64.wrap (a : Int) = (a : Int) := by rw [IntKind.wrap_u64]; omega

set_option maxHeartbeats 1000000 in
theorem div_zero (lo y : Nat) (hy : 0 < y) (hlo : lo < 18446744073709551616) (w : World) :
    Calls Tryd.prog 124 #[.int .u64 0, .int .u64 lo, .int .u64 y] w fun e w' =>
      e = .returned (.tuple #[.int .u64 ((lo / y : Nat) : Int), .int .u64 ((lo % y : Nat) : Int)]) ∧ ∃ n, w' = w.drewN n := by
  have h1 : ((y : Int) == 0) = false := by rw [beq_eq_false_iff_ne]; omega
  have h2 : decide ((y : Int) ≤ 0) = false := by rw [decide_eq_false_iff_not]; omega
  have h3 : lo / y < 18446744073709551616 := Nat.lt_of_le_of_lt (Nat.div_le_self _ _) hlo
  go_enter Tryd.func124, Tryd.ntmps124
  go_wp2
  go_quiet (fail)
  go_wp2
  go_ret2
  refine ⟨?_, _, rfl⟩
  have e1 : IntKind.u64.wrap ((lo : Int) / (y : Int)) = ((lo / y : Nat) : Int) := by
    rw [← Int.natCast_ediv]; exact wrapN _ h3
  simp [e1]

theorem lz (y s : Nat) (hs : 64 - Lib.bitLen y = s) (hs2 : Lib.bitLen y ≤ 64) (hy2 : y < 18446744073709551616) (w : World) :
    Calls Tryd.prog 137 #[.int .u64 y] w fun e w' => e = .returned (.int .i64 (s : Int)) ∧ w' = w := by
  refine (Tryd.bits_LeadingZeros64 y w (by omega) (by omega)).mono ?_
  rintro e w' ⟨rfl, rfl⟩
  refine ⟨?_, rfl⟩
  have : ((64 : Int) - (Lib.bitLen (y : Int).toNat : Int)) = s := by rw [Int.toNat_natCast]; omega
  rw [this]

theorem next {Q R Y1 U : Nat} (h : Q * Y1 + R = U) (h0 : 0 < Q) : (Q - 1) * Y1 + (R + Y1) = U := by
  obtain ⟨k, rfl⟩ : ∃ k, Q = k + 1 := ⟨Q - 1, by omega⟩
  rw [Nat.add_mul] at h
  simp only [Nat.add_sub_cancel]
  omega

theorem prod {Q Y0 : Nat} (hQ : ¬ (4294967296 : Int) ≤ (Q : Int)) (hY : (Y0 : Int) < 4294967296) : Q * Y0 < 18446744073709551616 := by
  have := Nat.mul_le_mul (show Q ≤ 4294967295 by omega) (show Y0 ≤ 4294967295 by omega)
  omega

theorem prodw {Q Y0 : Nat} (hQ : ¬ (4294967296 : Int) ≤ (Q : Int)) (hY : (Y0 : Int) < 4294967296) : IntKind.u64.wrap ((Q : Int) * (Y0 : Int)) = ((Q * Y0 : Nat) : Int) := by
  rw [← Int.natCast_mul]; exact wrapN _ (prod hQ hY)

/-- What is known of one digit: the first guess, and when it falls and stands. -/
structure Digit (U W1 Y1 Y0 qa ra q : Nat) : Prop where
  eq : qa * Y1 + ra = U
  down : ∀ Q R, Q * Y1 + R = U → (4294967296 ≤ Q ∨ 4294967296 * R + W1 < Q * Y0) → q < Q
  up : ∀ Q R, Q * Y1 + R = U → Q * Y0 ≤ 4294967296 * R + W1 → Q ≤ q
  up2 : ∀ Q R, Q * Y1 + R = U → Q ≤ 4294967296 → 4294967296 ≤ R → Q ≤ q

set_option maxRecDepth 100000 in
set_option maxHeartbeats 4000000 in
/-- The walk, over the numbers that the code reckons: each with the equation that the machine's arithmetic gives for it. -/
theorem div_core (hi lo y s Y Y1 Y0 U1 W W1 W0 qa ma ra q1 A B C U0 qb mb rb q0 A2 B2 C2 D2 : Nat) (hhi : 0 < hi) (hlt : hi < y) (hs2 : Lib.bitLen y ≤ 64) (hy2 : Hid (y < 18446744073709551616))
    (HS : Hid (64 - Lib.bitLen y = s)) (hs3 : s < 64)
    (hY : IntKind.u64.wrap ((y : Int) * 2 ^ s) = (Y : Int)) (hY1 : (Y : Int) / 4294967296 = (Y1 : Int)) (hY0 : bits .and .u64 (Y : Int) 4294967295 = (Y0 : Int))
    (hU : bits .or .u64 (IntKind.u64.wrap ((hi : Int) * 2 ^ s)) ((lo : Int) / 2 ^ (64 - s)) = (U1 : Int))
    (hW : IntKind.u64.wrap ((lo : Int) * 2 ^ s) = (W : Int)) (hW1 : (W : Int) / 4294967296 = (W1 : Int)) (hW0 : bits .and .u64 (W : Int) 4294967295 = (W0 : Int))
    (hqa : IntKind.u64.wrap ((U1 : Int) / (Y1 : Int)) = (qa : Int)) (hma : IntKind.u64.wrap ((qa : Int) * (Y1 : Int)) = (ma : Int)) (hra : IntKind.u64.wrap ((U1 : Int) - (ma : Int)) = (ra : Int))
    (hA : IntKind.u64.wrap ((U1 : Int) * 4294967296) = (A : Int)) (hB : IntKind.u64.wrap ((A : Int) + (W1 : Int)) = (B : Int)) (hC : IntKind.u64.wrap ((q1 : Int) * (Y : Int)) = (C : Int)) (hU0 : IntKind.u64.wrap ((B : Int) - (C : Int)) = (U0 : Int))
    (hqb : IntKind.u64.wrap ((U0 : Int) / (Y1 : Int)) = (qb : Int)) (hmb : IntKind.u64.wrap ((qb : Int) * (Y1 : Int)) = (mb : Int)) (hrb : IntKind.u64.wrap ((U0 : Int) - (mb : Int)) = (rb : Int))
    (hA2 : IntKind.u64.wrap ((U0 : Int) * 4294967296) = (A2 : Int)) (hB2 : IntKind.u64.wrap ((A2 : Int) + (W0 : Int)) = (B2 : Int)) (hC2 : IntKind.u64.wrap ((q0 : Int) * (Y : Int)) = (C2 : Int)) (hD2 : IntKind.u64.wrap ((B2 : Int) - (C2 : Int)) = (D2 : Int))
    (b1 : (2147483648 : Int) ≤ (Y1 : Int)) (b2 : (Y1 : Int) < 4294967296) (b3 : (Y0 : Int) < 4294967296) (b4 : (W1 : Int) < 4294967296) (b5 : (W0 : Int) < 4294967296)
    (b6 : (q1 : Int) < 4294967296) (b7 : (q0 : Int) < 4294967296)
    (G1 : Digit U1 W1 Y1 Y0 qa ra q1) (hR1 : (ra : Int) < 4294967296) (hQ1 : (qa : Int) ≤ 4294967297) (hl1 : q1 ≤ qa)
    (G2 : Digit U0 W0 Y1 Y0 qb rb q0) (hR2 : (rb : Int) < 4294967296) (hQ2 : (qb : Int) ≤ 4294967297) (hl2 : q0 ≤ qb)
    (r1 r2 : Nat) (f1 : Hid (q1 * 4294967296 + q0 = r1)) (f2 : Hid (D2 / 2 ^ s = r2))
    (w : World) :
    Calls Tryd.prog 124 #[.int .u64 hi, .int .u64 lo, .int .u64 y] w fun e w' =>
      e = .returned (.tuple #[.int .u64 (r1 : Int), .int .u64 (r2 : Int)]) ∧ ∃ n, w' = w.drewN n := by
  have h1 : ((y : Int) == 0) = false := by rw [beq_eq_false_iff_ne]; omega
  have h2 : decide ((y : Int) ≤ (hi : Int)) = false := by rw [decide_eq_false_iff_not]; omega
  have h2' : decide (y ≤ hi) = false := by rw [decide_eq_false_iff_not]; omega
  have h3 : ((hi : Int) == 0) = false := by rw [beq_eq_false_iff_ne]; omega
  have h4 : ((Y1 : Int) == 0) = false := by rw [beq_eq_false_iff_ne]; omega
  have h4' : ¬ ((Y1 : Int) = 0) := by omega
  go_enter Tryd.func124, Tryd.ntmps124
  go_upto_block 0 with (go_at_call 137; refine (lz _ s HS.out hs2 hy2.out _).mono ?_; rintro e w' ⟨rfl, rfl⟩)
  go_cut [15, 16] (fun q r wr => q = .int .u64 (q1 : Int) ∧ wr = w')
  case first =>
    go_wp2_with fail
    go_loop [15, 16] (fun q r => ∃ Q R : Nat, q = .int .u64 (Q : Int) ∧ r = .int .u64 (R : Int) ∧ Hid (Q * Y1 + R = U1) ∧ (R : Int) < 4294967296 ∧ (Q : Int) ≤ 4294967297 ∧ q1 ≤ Q) (fun q _ => (intOf q).toNat)
    case atStart => exact ⟨_, _, rfl, rfl, Lib.hid G1.eq, hR1, hQ1, hl1⟩
    case round =>
      obtain ⟨Q, R, rfl, rfl, HE, hR, hQ, hl⟩ := hrel
      clear hY hY1 hY0 hU hW hW1 hW0 hqa hma hra hA hB hC hU0 hqb hmb hrb hA2 hB2 hC2 hD2 h1 h2 h2' h3 h4 h4'
      by_cases c1 : (4294967296 : Int) ≤ (Q : Int)
      · have c1b : decide ((4294967296 : Int) ≤ (Q : Int)) = true := decide_eq_true (by omega)
        have hd : q1 < Q := G1.down Q R HE.out (.inl (by omega))
        have HN : Hid ((Q - 1) * Y1 + (R + Y1) = U1) := Lib.hid (next HE.out (by omega))
        by_cases c3 : (4294967296 : Int) ≤ (R : Int) + (Y1 : Int)
        · have c3b : decide ((4294967296 : Int) ≤ (R : Int) + (Y1 : Int)) = true := decide_eq_true c3
          have hx := G1.up2 (Q - 1) (R + Y1) HN.out (by omega) (by omega)
          go_wp2
          go_meet
          case rel => exact ⟨by rw [show ((Q : Int) - 1) = (q1 : Int) from by omega], rfl⟩
        · have c3b : decide ((4294967296 : Int) ≤ (R : Int) + (Y1 : Int)) = false := decide_eq_false c3
          go_wp2
          go_round
          case rel => exact ⟨Q - 1, R + Y1, by rw [show ((Q : Int) - 1) = ((Q - 1 : Nat) : Int) from by omega], by go_num, HN, by omega, by omega, by omega⟩
          case measure => simp [intOf]; omega
      · have c1b : decide ((4294967296 : Int) ≤ (Q : Int)) = false := decide_eq_false c1
        have hP := prodw c1 b3
        have hP2 := prod c1 b3
        obtain ⟨Pn, ePn⟩ : ∃ Pn, Pn = Q * Y0 := ⟨_, rfl⟩
        rw [← ePn] at hP hP2
        have EP := Lib.hid ePn
        clear ePn
        by_cases c2 : (4294967296 : Int) * (R : Int) + (W1 : Int) < (Pn : Int)
        · have c2b : decide ((4294967296 : Int) * (R : Int) + (W1 : Int) < (Pn : Int)) = true := decide_eq_true c2
          have hd : q1 < Q := G1.down Q R HE.out (.inr (by rw [← EP.out]; omega))
          have HN : Hid ((Q - 1) * Y1 + (R + Y1) = U1) := Lib.hid (next HE.out (by omega))
          by_cases c3 : (4294967296 : Int) ≤ (R : Int) + (Y1 : Int)
          · have c3b : decide ((4294967296 : Int) ≤ (R : Int) + (Y1 : Int)) = true := decide_eq_true c3
            have hx := G1.up2 (Q - 1) (R + Y1) HN.out (by omega) (by omega)
            clear hP2
            go_wp2
            go_meet
            case rel => exact ⟨by rw [show ((Q : Int) - 1) = (q1 : Int) from by omega], rfl⟩
          · have c3b : decide ((4294967296 : Int) ≤ (R : Int) + (Y1 : Int)) = false := decide_eq_false c3
            clear hP2
            go_wp2
            go_round
            case rel => exact ⟨Q - 1, R + Y1, by rw [show ((Q : Int) - 1) = ((Q - 1 : Nat) : Int) from by omega], by go_num, HN, by omega, by omega, by omega⟩
            case measure => simp [intOf]; omega
        · have c2b : decide ((4294967296 : Int) * (R : Int) + (W1 : Int) < (Pn : Int)) = false := decide_eq_false c2
          have hx := G1.up Q R HE.out (by rw [← EP.out]; omega)
          clear hP2
          go_wp2
          go_meet
          case rel => exact ⟨by rw [show (Q : Int) = (q1 : Int) from by omega], rfl⟩
  obtain ⟨rfl, rfl⟩ := hcut
  go_upto_block 2 with fail
  go_cut [18, 16] (fun q r wr => q = .int .u64 (q0 : Int) ∧ wr = wc)
  case first =>
    go_wp2_with fail
    go_loop [18, 16] (fun q r => ∃ Q R : Nat, q = .int .u64 (Q : Int) ∧ r = .int .u64 (R : Int) ∧ Hid (Q * Y1 + R = U0) ∧ (R : Int) < 4294967296 ∧ (Q : Int) ≤ 4294967297 ∧ q0 ≤ Q) (fun q _ => (intOf q).toNat)
    case atStart => exact ⟨_, _, rfl, rfl, Lib.hid G2.eq, hR2, hQ2, hl2⟩
    case round =>
      obtain ⟨Q, R, rfl, rfl, HE, hR, hQ, hl⟩ := hrel
      clear hY hY1 hY0 hU hW hW1 hW0 hqa hma hra hA hB hC hU0 hqb hmb hrb hA2 hB2 hC2 hD2 h1 h2 h2' h3 h4 h4'
      by_cases c1 : (4294967296 : Int) ≤ (Q : Int)
      · have c1b : decide ((4294967296 : Int) ≤ (Q : Int)) = true := decide_eq_true (by omega)
        have hd : q0 < Q := G2.down Q R HE.out (.inl (by omega))
        have HN : Hid ((Q - 1) * Y1 + (R + Y1) = U0) := Lib.hid (next HE.out (by omega))
        by_cases c3 : (4294967296 : Int) ≤ (R : Int) + (Y1 : Int)
        · have c3b : decide ((4294967296 : Int) ≤ (R : Int) + (Y1 : Int)) = true := decide_eq_true c3
          have hx := G2.up2 (Q - 1) (R + Y1) HN.out (by omega) (by omega)
          go_wp2
          go_meet
          case rel => exact ⟨by rw [show ((Q : Int) - 1) = (q0 : Int) from by omega], rfl⟩
        · have c3b : decide ((4294967296 : Int) ≤ (R : Int) + (Y1 : Int)) = false := decide_eq_false c3
          go_wp2
          go_round
          case rel => exact ⟨Q - 1, R + Y1, by rw [show ((Q : Int) - 1) = ((Q - 1 : Nat) : Int) from by omega], by go_num, HN, by omega, by omega, by omega⟩
          case measure => simp [intOf]; omega
      · have c1b : decide ((4294967296 : Int) ≤ (Q : Int)) = false := decide_eq_false c1
        have hP := prodw c1 b3
        have hP2 := prod c1 b3
        obtain ⟨Pn, ePn⟩ : ∃ Pn, Pn = Q * Y0 := ⟨_, rfl⟩
        rw [← ePn] at hP hP2
        have EP := Lib.hid ePn
        clear ePn
        by_cases c2 : (4294967296 : Int) * (R : Int) + (W0 : Int) < (Pn : Int)
        · have c2b : decide ((4294967296 : Int) * (R : Int) + (W0 : Int) < (Pn : Int)) = true := decide_eq_true c2
          have hd : q0 < Q := G2.down Q R HE.out (.inr (by rw [← EP.out]; omega))
          have HN : Hid ((Q - 1) * Y1 + (R + Y1) = U0) := Lib.hid (next HE.out (by omega))
          by_cases c3 : (4294967296 : Int) ≤ (R : Int) + (Y1 : Int)
          · have c3b : decide ((4294967296 : Int) ≤ (R : Int) + (Y1 : Int)) = true := decide_eq_true c3
            have hx := G2.up2 (Q - 1) (R + Y1) HN.out (by omega) (by omega)
            clear hP2
            go_wp2
            go_meet
            case rel => exact ⟨by rw [show ((Q : Int) - 1) = (q0 : Int) from by omega], rfl⟩
          · have c3b : decide ((4294967296 : Int) ≤ (R : Int) + (Y1 : Int)) = false := decide_eq_false c3
            clear hP2
            go_wp2
            go_round
            case rel => exact ⟨Q - 1, R + Y1, by rw [show ((Q : Int) - 1) = ((Q - 1 : Nat) : Int) from by omega], by go_num, HN, by omega, by omega, by omega⟩
            case measure => simp [intOf]; omega
        · have c2b : decide ((4294967296 : Int) * (R : Int) + (W0 : Int) < (Pn : Int)) = false := decide_eq_false c2
          have hx := G2.up Q R HE.out (by rw [← EP.out]; omega)
          clear hP2
          go_wp2
          go_meet
          case rel => exact ⟨by rw [show (Q : Int) = (q0 : Int) from by omega], rfl⟩
  obtain ⟨rfl, rfl⟩ := hcut
  go_wp2
  go_ret2
  refine ⟨?_, 0, rfl⟩
  have e1 : ((q1 : Int) * 4294967296 + (q0 : Int)) = (r1 : Int) := by have := f1.out; omega
  have e2 : ((D2 : Int) / 2 ^ s) = (r2 : Int) := by rw [← f2.out]; simp
  simp [e1, e2]

theorem bitLen_pow (y : Nat) (h0 : 0 < y) (h : y < 18446744073709551616) :
    Lib.bitLen y ≤ 64 ∧ 0 < Lib.bitLen y ∧ y < 2 ^ Lib.bitLen y ∧ 2 ^ (Lib.bitLen y - 1) ≤ y := by
  have h64 := Lib.bitLen_le y 64 (by omega) (by omega)
  have key : ∀ k, k ≤ 64 → ∀ y, 0 < y → y < 2 ^ k → 0 < Lib.bitLen y ∧ y < 2 ^ Lib.bitLen y ∧ 2 ^ (Lib.bitLen y - 1) ≤ y := by
    intro k
    induction k with
    | zero => intro _ y h0 h1; simp at h1; omega
    | succ k ih =>
      intro hk y h0 h1
      have hb : y < 2 ^ 64 := Nat.lt_of_lt_of_le h1 (Nat.pow_le_pow_right (by omega) hk)
      have hh := Lib.bitLen_half y (by omega) hb
      by_cases h2 : y / 2 = 0
      · have hy1 : y = 1 := by omega
        subst hy1
        decide
      · obtain ⟨a1, a2, a3⟩ := ih (by omega) (y / 2) (by omega) (by rw [Nat.pow_succ] at h1; omega)
        rw [hh]
        generalize Lib.bitLen (y / 2) = m at *
        obtain ⟨m, rfl⟩ : ∃ j, m = j + 1 := ⟨m - 1, by omega⟩
        simp only [Nat.add_sub_cancel] at a3
        refine ⟨by omega, ?_, ?_⟩
        · rw [Nat.pow_add]; omega
        · rw [show 1 + (m + 1) - 1 = m + 1 from by omega, Nat.pow_succ]; omega
  obtain ⟨a1, a2, a3⟩ := key 64 (by omega) y h0 (by omega)
  exact ⟨h64, a1, a2, a3⟩

/-- The scaled divisor lies in the upper half. -/
theorem scaled_div (y : Nat) (h0 : 0 < y) (h : y < 18446744073709551616) :
    9223372036854775808 ≤ y * 2 ^ (64 - Lib.bitLen y) ∧ y * 2 ^ (64 - Lib.bitLen y) < 18446744073709551616 ∧ 64 - Lib.bitLen y < 64 := by
  obtain ⟨a0, a1, a2, a3⟩ := bitLen_pow y h0 h
  generalize Lib.bitLen y = m at *
  have e1 : 2 ^ m * 2 ^ (64 - m) = 18446744073709551616 := by rw [← Nat.pow_add, Nat.add_sub_cancel' a0]
  have e2 : 2 ^ (m - 1) * 2 ^ (64 - m) = 9223372036854775808 := by
    rw [← Nat.pow_add, show m - 1 + (64 - m) = 63 from by omega]
  refine ⟨?_, ?_, by omega⟩
  · rw [← e2]; exact Nat.mul_le_mul_right _ a3
  · rw [← e1]; exact Nat.mul_lt_mul_of_pos_right a2 (Nat.pow_pos (by omega))
end Go.Proofs.YtniajhmbdbgmgaaDoor.XDiv
