/- What the statements of layer 1 look at first: one and a half is written 1.5. -/
import Derived.Test.YtoiodfiphighgaaDoorNumB
import Derived.RegionTactic
import Derived.ChangeAlike
import Derived.BigRegion
import Derived.StillTailTactics
import Derived.Lib.ConvBytes
import Derived.Laws.Runes
import Derived.WalkSpells
import Derived.LoopN
namespace Go.Proofs.YtoiodfiphighgaaDoor.XShow1
open Go Go.RowKit Go.Proofs Go.Proofs.YtoiodfiphighgaaDoor

/-- What the text's variable holds, in a block of the call's own. -/
structure Dig (g : Nat) (s : ByteArray) (n : Nat) (w0 w : World) : Prop where
  c0 : w.cell? ⟨g, 0, none⟩ = some (.string s)
  c1 : w.cell? ⟨g, 1, none⟩ = some (.int .u64 (n : Int))
  f0 : w.frozen? ⟨g, 0, none⟩ = false
  f1 : w.frozen? ⟨g, 1, none⟩ = false
  b : Below w0.heap.size w0 w
  g : w0.heap.size ≤ g

theorem Dig.drewN {g : Nat} {s : ByteArray} {n : Nat} {w0 w : World} (h : Dig g s n w0 w) (k : Nat) : Dig g s n w0 (w.drewN k) :=
  ⟨h.c0, h.c1, h.f0, h.f1, ⟨h.b.os, h.b.tape, h.b.output, h.b.size, h.b.block⟩, h.g⟩
theorem Dig.put {g : Nat} {s : ByteArray} {n : Nat} {w0 w : World} (h : Dig g s n w0 w) (s' : ByteArray) (n' : Nat) :
    Dig g s' n' w0 ((w.setCell ⟨g, 0, none⟩ (.string s')).setCell ⟨g, 1, none⟩ (.int .u64 (n' : Int))) where
  c0 := by rw [World.cell?_setCell_other _ _ _ _ (by simp)]; exact World.cell?_setCell_same _ _ _ h.c0
  c1 := World.cell?_setCell_same _ _ _ (u := .int .u64 (n : Int)) (by rw [World.cell?_setCell_other _ _ _ _ (by simp)]; exact h.c1)
  f0 := by simp [h.f0]
  f1 := by simp [h.f1]
  b := (h.b.setCell (p := ⟨g, 0, none⟩) h.g _).setCell (p := ⟨g, 1, none⟩) h.g _
  g := h.g
theorem Dig.put0 {g : Nat} {s : ByteArray} {n : Nat} {w0 w : World} (h : Dig g s n w0 w) (s' : ByteArray) :
    Dig g s' n w0 (w.setCell ⟨g, 0, none⟩ (.string s')) where
  c0 := World.cell?_setCell_same _ _ _ h.c0
  c1 := by rw [World.cell?_setCell_other _ _ _ _ (by simp)]; exact h.c1
  f0 := by simp [h.f0]
  f1 := by simp [h.f1]
  b := h.b.setCell (p := ⟨g, 0, none⟩) h.g _
  g := h.g

set_option maxHeartbeats 1000000 in
theorem next (g : Nat) (s D : ByteArray) (n m : Nat) (w0 w : World) (h : Dig g s n w0 w) (hs : (s.size : Int) < 1000) (hn : (n : Int) < 1000000000000)
    (hD : Utf8.encode (48 + (n : Int) % 10) = D) (hDs : (D.size : Int) ≤ 4) (hm : Hid (n / 10 = m)) :
    Calls Tryd.prog 39 #[.pointer (some ⟨g, 0, none⟩)] w fun e w' => e = .returned (.tuple #[]) ∧ Dig g (D ++ s) m w0 w' := by
  have h0 := h.c0
  have h1 := h.c1
  have f0 := h.f0
  have f1 := h.f1
  go_enter Tryd.func39, Tryd.ntmps39
  go_wp2
  go_region
  all_goals go_wp2
  all_goals go_end0
  all_goals
    refine ⟨rfl, ?_⟩
    have := (h.put (D ++ s) m).drewN 1
    rw [show ((n : Int) / 10) = (m : Int) from by have := hm.out; omega]
    exact this

def digs (x : Nat) : Nat → ByteArray
  | 0 => ⟨#[]⟩
  | k + 1 => Utf8.encode (48 + ((x / 10 ^ k : Nat) : Int) % 10) ++ digs x k

theorem split15 (w : World) : Calls Tryd.prog 25 #[.int .i64 1500000] w fun e w' => e = .returned (.tuple #[.int .u64 1500000, .bool false]) ∧ w = w' := by
  refine (XNum.split 1500000 w).mono ?_
  rintro e w' ⟨rfl, rfl⟩
  exact ⟨rfl, rfl⟩

theorem step6 (k : Nat) (hk : k < 6) : (digs 1500000 k).size ≤ 6 ∧ (Utf8.encode (48 + ((1500000 / 10 ^ k : Nat) : Int) % 10)).size ≤ 4 := by
  match k, hk with
  | 0, _ => decide +kernel
  | 1, _ => decide +kernel
  | 2, _ => decide +kernel
  | 3, _ => decide +kernel
  | 4, _ => decide +kernel
  | 5, _ => decide +kernel

theorem next6 (g k : Nat) (hk : k < 6) (w0 w : World) (h : Dig g (digs 1500000 k) (1500000 / 10 ^ k) w0 w) :
    Calls Tryd.prog 39 #[.pointer (some ⟨g, 0, none⟩)] w fun e w' => e = .returned (.tuple #[]) ∧ Dig g (digs 1500000 (k + 1)) (1500000 / 10 ^ (k + 1)) w0 w' := by
  have hz := step6 k hk
  have hle : 1500000 / 10 ^ k ≤ 1500000 := Nat.div_le_self _ _
  exact next g _ _ _ _ w0 w h (by omega) (by omega) rfl (by omega) (Lib.hid (by rw [Nat.pow_succ, Nat.div_div_eq_div_mul]))

theorem Dig.new (w : World) (T : TypeId) (s : ByteArray) (n : Nat) : Dig w.heap.size s n w (w.alloc (.cells #[.string s, .int .u64 (n : Int)] T)) where
  c0 := by simp
  c1 := by simp
  f0 := by simp
  f1 := by simp
  b := (Below.refl _ _).alloc (Nat.le_refl _) _
  g := Nat.le_refl _

theorem trim15 (w : World) : Calls Tryd.prog 40 #[.string (digs 1500000 6), .string ⟨#[48]⟩] w fun e w' => e = .returned (.string ⟨#[53]⟩) ∧ w = w' := by
  refine (Tryd.strings_TrimRight_one (digs 1500000 6) 48 (by decide) w (by decide +kernel)).mono ?_
  rintro e w' ⟨rfl, rfl⟩
  refine ⟨?_, rfl⟩
  have : Lib.trimRightB (digs 1500000 6).data.toList 48 = [53] := by decide +kernel
  rw [this]

theorem nextA (g : Nat) (w0 w : World) (h : Dig g ⟨#[]⟩ 1 w0 w) :
    Calls Tryd.prog 39 #[.pointer (some ⟨g, 0, none⟩)] w fun e w' => e = .returned (.tuple #[]) ∧ Dig g ⟨#[49]⟩ 0 w0 w' := by
  have := next g _ ⟨#[49]⟩ 1 0 w0 w h (by decide) (by decide) (by decide +kernel) (by decide) (Lib.hid rfl)
  exact this

set_option maxHeartbeats 1000000 in
theorem show15 (w : World) : Calls Tryd.prog 24 #[.int .i64 1500000] w fun e w' => e = .returned (.string ⟨#[49, 46, 53]⟩) ∧ Below w.heap.size w w' := by
  have hg : Dig w.heap.size (digs 1500000 0) (1500000 / 10 ^ 0) w (w.alloc (.cells #[.string ⟨#[]⟩, .int .u64 1500000] 51)) := Dig.new w _ _ 1500000
  go_enter Tryd.func24, Tryd.ntmps24
  go_wp2_with (go_at_call 25; refine (split15 _).mono ?_; rintro e w' ⟨rfl, rfl⟩)
  obtain ⟨g, eg⟩ : ∃ g, g = w.heap.size := ⟨_, rfl⟩
  rw [← eg] at hg ⊢
  have HG := Lib.hid eg
  clear eg
  go_loopw [19] (fun i wr => ∃ k : Nat, k ≤ 6 ∧ i = .int .i64 (k : Int) ∧ Dig g (digs 1500000 k) (1500000 / 10 ^ k) w wr) (fun i _ => 6 - (intOf i).toNat)
  case atStart => exact ⟨0, by omega, rfl, hg⟩
  case round =>
    obtain ⟨k, hk, rfl, hd⟩ := hrel
    clear hg
    by_cases hlt : k < 6
    · go_wp2_with (go_at_call 39; refine (next6 g k hlt w _ hd).mono ?_; rintro e w' ⟨rfl, hd'⟩)
      go_roundw
      case rel => exact ⟨k + 1, by omega, by go_num, hd'⟩
      case measure => simp [intOf]; omega
    · obtain rfl : k = 6 := by omega
      obtain ⟨s6, es6⟩ : ∃ s6, s6 = digs 1500000 6 := ⟨_, rfl⟩
      have ht := trim15
      rw [← es6] at ht hd
      have HT := Lib.hid ht
      have hd1 : Dig g s6 1 w wr := hd
      clear ht hd es6
      have h0 := hd1.c0
      have h1 := hd1.c1
      have f0 := hd1.f0
      have f1 := hd1.f1
      have hd2 := hd1.put0 ⟨#[]⟩
      go_wp2_with (go_at_call 40; refine (HT.out _).mono ?_; rintro e w' ⟨rfl, rfl⟩)
      refine wp_loop_rounds 2 ?_
      rw [rounds_succ]
      go_wp2_with (go_at_call 39; refine (nextA g w _ hd2).mono ?_; rintro e w' ⟨rfl, hd3⟩)
      have h0' := hd3.c0
      have h1' := hd3.c1
      rw [rounds_succ]
      go_wp2_with fail
      go_ret
      exact ⟨by simp; decide +kernel, hd3.b⟩

theorem add5 (w : World) : Calls Tryd.prog 10 #[.int .i64 500000, .int .i64 500000] w fun e w' => e = .returned (.int .i64 1000000) ∧ w = w' := by
  refine (XNum.add 500000 500000 w).mono ?_
  rintro e w' ⟨rfl, rfl⟩
  exact ⟨rfl, rfl⟩

theorem shown (w : World) : Calls Tryd.prog 7 #[] w fun e w' => e = .returned (.bool true) ∧ Below w.heap.size w w' := by
  go_enter Tryd.func7, Tryd.ntmps7
  go_wp2_with (first | (go_at_call 10; refine (add5 _).mono ?_; rintro e w' ⟨rfl, rfl⟩) | (go_at_call 24; refine (show15 _).mono ?_; rintro e w' ⟨rfl, hb⟩))
  go_ret
  exact ⟨by simp, hb⟩
end Go.Proofs.YtoiodfiphighgaaDoor.XShow1
