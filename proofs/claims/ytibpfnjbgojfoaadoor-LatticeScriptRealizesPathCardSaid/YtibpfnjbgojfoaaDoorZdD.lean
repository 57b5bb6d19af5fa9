/- Lattice: swaps. -/
import Derived.Test.YtibpfnjbgojfoaaDoorZdC
set_option linter.all false
namespace Go.Vm.L
open Go Go.Vm
def swapB (x : Inp) (m : Nat) : Bool := decide (x.swap > 0) && (match x.cols[m]?, x.cols[m + 1]? with
  | some a, some b => decide (a.kind ≥ 0) && decide (b.kind ≥ 0)
  | _, _ => false)
theorem Swappable38 (x : Inp) (m : Nat) (hb : x.cols.length < 4611686018427387904) (hm' : m ≤ x.cols.length) :
    Pure prog 30 [.d (dInp x), .d (.int .i64 m)] (.d (.bool (swapB x m))) := by
  refine fn_of e30 hm (by rfl) (vs := [.d (dInp x), .d (.int .i64 m), .undef, .undef]) rfl ?_
  unfold c30
  have hw : IntKind.i64.wrap ((m : Int) + 1) = (m : Int) + 1 := wrap64 (by omega) (by omega)
  by_cases h1 : m + 1 < x.cols.length
  · have h1' : (m : Int) + 1 < x.cols.length := by omega
    have h2 : m < x.cols.length := by omega
    repeat' (first | (with_reducible first | refine st_reg ?_ | refine sN (by conv => lhs; simp [dInp, dCol, getD_map_lt, *]) ?_ | refine rN ?_ ?_ | refine rO ?_ ?_ | refine rF ?_ ?_ | refine sG (by conv => lhs; simp [dInp, dCol, getD_map_lt, *]) ?_ | refine gF ?_ | refine gS rfl (by conv => lhs; simp [dInp, dCol, getD_map_lt, *]) ?_ ?_ | (refine st_gef0 ?_ ?_; focus (conv => (lhs; simp [dInp, dCol, getD_map_lt, *])); done) | refine sE (by conv => lhs; simp [dInp, dCol, getD_map_lt, *]) ?_ | refine Nx.go ?_ | refine st_blke' (by decide) ?_ | refine st_seq ?_ | refine st_blk ?_ | refine st_cond (by conv => lhs; simp [dInp, dCol, getD_map_lt, *]) (by conv => lhs; simp [dInp, dCol, getD_map_lt, *]) ?_ ?_ ?_ | refine st_lexit ?_) | (intro h_; try simp only [reduceCtorEq, y1, y2, y3, y4, y5, y6, y7, y8, y9, z1, z2, z3, z4, z5, z6, z7, ne_eq] at h_))
    all_goals try (first | contradiction | exact True.intro | omega | rfl | (simp [AV.fits, AV.cells, AV.one, DV.fits, DV.cells, DV.one, DV.conf, confL, DV.conf1]; done) | (simp [AV.fits, AV.cells, AV.one, DV.fits, DV.cells, DV.one, DV.conf, confL, DV.conf1, *] <;> omega))
    refine atEnd_pure ⟨trivial, trivial⟩ ?_ rfl
    show AV.d (DV.bool _) = _
    simp [swapB, List.getElem?_eq_getElem h1, List.getElem?_eq_getElem h2, Bool.and_assoc]
  · have h1' : ¬ ((m : Int) + 1 < x.cols.length) := by omega
    repeat' (first | (with_reducible first | refine st_reg ?_ | refine sN (by conv => lhs; simp [dInp, dCol, *]) ?_ | refine rN ?_ ?_ | refine rO ?_ ?_ | refine rF ?_ ?_ | refine sG (by conv => lhs; simp [dInp, dCol, *]) ?_ | refine gF ?_ | refine gS rfl (by conv => lhs; simp [dInp, dCol, *]) ?_ ?_ | (refine st_gef0 ?_ ?_; focus (conv => (lhs; simp [dInp, dCol, *])); done) | refine sE (by conv => lhs; simp [dInp, dCol, *]) ?_ | refine Nx.go ?_ | refine st_blke' (by decide) ?_ | refine st_seq ?_ | refine st_blk ?_ | refine st_cond (by conv => lhs; simp [dInp, dCol, *]) (by conv => lhs; simp [dInp, dCol, *]) ?_ ?_ ?_ | refine st_lexit ?_) | (intro h_; try simp only [reduceCtorEq, y1, y2, y3, y4, y5, y6, y7, y8, y9, z1, z2, z3, z4, z5, z6, z7, ne_eq] at h_))
    all_goals try (first | contradiction | exact True.intro | omega | rfl | (simp [AV.fits, AV.cells, AV.one, DV.fits, DV.cells, DV.one, DV.conf, confL, DV.conf1]; done) | (simp [AV.fits, AV.cells, AV.one, DV.fits, DV.cells, DV.one, DV.conf, confL, DV.conf1, *] <;> omega))
    refine atEnd_pure ⟨trivial, trivial⟩ ?_ rfl
    show AV.d (DV.bool _) = _
    have : x.cols[m + 1]? = none := List.getElem?_eq_none (by omega)
    cases hx : x.cols[m]? <;> simp [swapB, this, hx]
end Go.Vm.L
