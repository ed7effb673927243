/- What the rows' list gives: strconv's table reads as it should. -/
import Derived.Test.YtoiodfiphighgaaDoorRows
import Derived.Test.YtoiodfiphighgaaDoorShow3
import Derived.Lib.LaidTab
import Derived.OpenShut
namespace Go.Proofs.YtoiodfiphighgaaDoor.XTab
open Go Go.RowKit Go.Proofs Go.Proofs.YtoiodfiphighgaaDoor

theorem tab {W : World} (h : laidMet Tryd.prog Rows.dateSumsRow.laid W) : XShow3.Tab W.heap.size W := by
  refine Lib.tabBelow_of_tabIs ?_
  obtain ⟨ps, ⟨g0, t0, cs0, f0, p0, q0, hg0, ht0, hv0, hd0, ⟨g1, t1, cs1, f1, p1, q1, hg1, ht1, hv1, hd1, ⟨g2, t2, cs2, f2, p2, q2, hg2, ht2, hv2, hd2, _, _⟩, _⟩, _⟩, _, _⟩ := h
  obtain rfl := Option.some.inj ((show Tryd.prog.globalNamed "internal/strconv.uint64pow10" = some 2 by kernel_rfl).symm.trans hg2)
  obtain rfl := Option.some.inj ((show (Tryd.prog.globals[2]?).map (·.type) = some 86 by kernel_rfl).symm.trans ht2)
  unfold Lib.TabIs
  rw [hv2, ← Lib.cells_of_tab (zs := Lib.pow10Tab) Tryd.underlying86 Tryd.underlying34 (by kernel_rfl) (by kernel_rfl) hd2]

theorem bnd {a : Int} (h : (Lit.int .i64 a).wf = true) : -9223372036854775808 ≤ a ∧ a ≤ 9223372036854775807 := bounds_i64 h
end Go.Proofs.YtoiodfiphighgaaDoor.XTab
