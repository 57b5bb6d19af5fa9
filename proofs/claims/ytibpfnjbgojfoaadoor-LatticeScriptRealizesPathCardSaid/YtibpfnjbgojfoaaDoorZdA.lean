/- Lattice: leaf functions. -/
import Derived.Test.YtibpfnjbgojfoaaDoorZdT
set_option linter.all false
namespace Go.Vm.L
open Go Go.Vm
structure Op where
  kind : Int
  term : Int
  deriving DecidableEq, Repr
structure Arc where
  frm : Int
  to : Int
  term : Int
  cost : Int
  ops : List Op
  deriving DecidableEq, Repr
@[simp] def dOp (o : Op) : DV := .agg [.int .i64 o.kind, .int .i64 o.term]
@[simp] def dArc (a : Arc) : DV := .agg [.int .i64 a.frm, .int .i64 a.to, .int .i64 a.term, .int .i64 a.cost, .vs (a.ops.map dOp)]

def beforeB (a b : Arc) : Bool := if a.frm ≠ b.frm then decide (a.frm < b.frm) else if a.to ≠ b.to then decide (a.to < b.to) else decide (a.term < b.term)

theorem Before39 (a b : Arc) : Pure prog 42 [.d (dArc a), .d (dArc b)] (.d (.bool (beforeB a b))) := by
  refine fn_of e42 hm (by rfl) (vs := [.d (dArc a), .d (dArc b), .undef, .undef, .undef, .undef, .undef]) rfl ?_
  unfold c42
  repeat' (first | (with_reducible first | refine st_reg ?_ | refine sN (by conv => lhs; simp [dArc, dOp]) ?_ | refine rN ?_ ?_ | refine rO ?_ ?_ | refine rF ?_ ?_ | refine sG (by conv => lhs; simp [dArc, dOp]) ?_ | refine gF ?_ | refine gS rfl (by conv => lhs; simp [dArc, dOp]) ?_ ?_ | (refine st_gef0 ?_ ?_; focus (conv => (lhs; simp [dArc, dOp])); done) | refine sE (by conv => lhs; simp) ?_ | refine Nx.go ?_ | refine st_blke' (by decide) ?_ | refine st_seq ?_ | refine st_blk ?_ | refine st_cond (by conv => lhs; simp) (by conv => lhs; simp [dArc, dOp]) ?_ ?_ ?_ | refine st_lexit ?_) | (intro h_; try simp only [reduceCtorEq, y1, y2, y3, y4, y5, y6, y7, y8, y9, z1, z2, z3, z4, z5, z6, z7, ne_eq] at h_))
  all_goals try (first | contradiction | exact True.intro | omega | rfl | (simp [AV.fits, AV.cells, AV.one, DV.fits, DV.cells, DV.one, DV.conf, confL, DV.conf1]; done) | (simp [AV.fits, AV.cells, AV.one, DV.fits, DV.cells, DV.one, DV.conf, confL, DV.conf1, *] <;> omega))
  all_goals (refine atEnd_pure ⟨trivial, trivial⟩ ?_ rfl)
  all_goals (show AV.d (DV.bool _) = _)
  all_goals simp [beforeB, *]

theorem SameOps22 (xs ys : List Op) (hb : xs.length < 4611686018427387904) : Pure prog 17 [.d (.vs (xs.map dOp)), .d (.vs (ys.map dOp))] (.d (.bool (decide (xs = ys)))) := by
  refine fn_of e17 hm (by rfl) (vs := [.d (.vs (xs.map dOp)), .d (.vs (ys.map dOp)), .undef, .undef, .undef, .undef, .undef]) rfl ?_
  unfold c17
  repeat' (first | (with_reducible first | refine st_reg ?_ | refine sN (by conv => lhs; simp) ?_ | refine rN ?_ ?_ | refine rO ?_ ?_ | refine rF ?_ ?_ | refine sG (by conv => lhs; simp) ?_ | refine gF ?_ | refine gS rfl (by conv => lhs; simp) ?_ ?_ | (refine st_gef0 ?_ ?_; focus (conv => (lhs; simp)); done) | refine sE (by conv => lhs; simp) ?_ | refine Nx.go ?_ | refine st_blke' (by decide) ?_ | refine st_seq ?_ | refine st_blk ?_ | refine st_cond (by conv => lhs; simp) (by conv => lhs; simp) ?_ ?_ ?_ | refine st_lexit ?_) | (intro h_; try simp only [reduceCtorEq, y1, y2, y3, y4, y5, y6, y7, y8, y9, z1, z2, z3, z4, z5, z6, z7, ne_eq] at h_))
  all_goals try (first | contradiction | exact True.intro | omega | rfl | (simp [AV.fits, AV.cells, AV.one, DV.fits, DV.cells, DV.one, DV.conf, confL, DV.conf1]; done) | (simp [AV.fits, AV.cells, AV.one, DV.fits, DV.cells, DV.one, DV.conf, confL, DV.conf1, *] <;> omega))
  · refine atEnd_pure ⟨trivial, trivial⟩ ?_ rfl
    show AV.d (DV.bool false) = _
    rw [decide_eq_false]
    rintro rfl; exact h_ rfl
  · refine st_loop (fun s => ∃ i : Nat, i ≤ xs.length ∧ xs.take i = ys.take i ∧ s = ⟨[.d (.vs (xs.map dOp)), .d (.vs (ys.map dOp)), .d (.bool false), .d (.int .i64 i), .undef, .undef, .undef], []⟩) (fun s => xs.length - (s.int 3).toNat)
      (ys := [.d (.vs (xs.map dOp)), .d (.vs (ys.map dOp)), .d (.bool false), .d (.int .i64 (0 : Nat)), .undef, .undef, .undef]) (by simp [weak]) ⟨0, by omega, by simp, rfl⟩ ?_
    rintro _ ⟨i, hi, hk, rfl⟩
    repeat' (first | (with_reducible first | refine st_reg ?_ | refine sN (by conv => lhs; simp [getD_map_lt, dOp, *]) ?_ | refine rN ?_ ?_ | refine rO ?_ ?_ | refine rF ?_ ?_ | refine sG (by conv => lhs; simp [getD_map_lt, dOp, *]) ?_ | refine gF ?_ | refine gS rfl (by conv => lhs; simp [getD_map_lt, dOp, *]) ?_ ?_ | (refine st_gef0 ?_ ?_; focus (conv => (lhs; simp [getD_map_lt, dOp, *])); done) | refine sE (by conv => lhs; simp [getD_map_lt, dOp, *]) ?_ | refine Nx.go ?_ | refine st_blke' (by decide) ?_ | refine st_seq ?_ | refine st_blk ?_ | refine st_cond (by conv => lhs; simp [getD_map_lt, dOp, *]) (by conv => lhs; simp [getD_map_lt, dOp, *]) ?_ ?_ ?_ | refine st_lexit ?_) | (intro h_; try simp only [reduceCtorEq, y1, y2, y3, y4, y5, y6, y7, y8, y9, z1, z2, z3, z4, z5, z6, z7, ne_eq] at h_))
    all_goals try (first | contradiction | exact True.intro | omega | rfl | (simp [AV.fits, AV.cells, AV.one, DV.fits, DV.cells, DV.one, DV.conf, confL, DV.conf1]; done) | (simp [AV.fits, AV.cells, AV.one, DV.fits, DV.cells, DV.one, DV.conf, confL, DV.conf1, *] <;> omega))
    · refine atEnd_pure ⟨trivial, trivial⟩ ?_ rfl
      show AV.d (DV.bool false) = _
      rw [decide_eq_false]
      rintro rfl; simp at h_
    · refine st_lnormw (ys := [.d (.vs (xs.map dOp)), .d (.vs (ys.map dOp)), .d (.bool false), .d (.int .i64 (i + 1 : Nat)), .undef, .undef, .undef]) ?_ ⟨i + 1, by omega, ?_, rfl⟩ ?_
      · simp only [weak, and_true, true_or, or_true, true_and]
        exact .inr (by rw [show ((i + 1 : Nat) : Int) = (i : Int) + 1 from by simp, wrap64 (by omega) (by omega)])
      · have h1 : i < xs.length := by omega
        rename_i hl hy
        rw [List.take_add_one, List.take_add_one, hk]
        have he : xs[i] = ys[i] := by
          cases hx : xs[i]; cases hy' : ys[i]; rw [hx, hy'] at h_; simp at h_; simp [h_]
        simp only [List.getElem?_eq_getElem h1, List.getElem?_eq_getElem hy, he]
      · simp [St.int]; omega
    · refine atEnd_pure ⟨trivial, trivial⟩ ?_ rfl
      show AV.d (DV.bool true) = _
      rw [decide_eq_true]
      have h1 : i = xs.length := by omega
      subst h1
      rename_i hl
      rw [List.take_of_length_le (Nat.le_refl _), List.take_of_length_le (by omega)] at hk
      exact hk


theorem SameArc23 (a b : Arc) (hb : a.ops.length < 4611686018427387904) : Pure prog 15 [.d (dArc a), .d (dArc b)] (.d (.bool (decide (a = b)))) := by
  refine fn_of e15 hm (by rfl) (vs := [.d (dArc a), .d (dArc b), .undef, .undef, .undef]) rfl ?_
  unfold c15
  repeat' (first | (with_reducible first | refine st_reg ?_ | refine sN (by conv => lhs; simp [dArc, dOp]) ?_ | refine rN ?_ ?_ | refine rO ?_ ?_ | refine rF ?_ ?_ | refine sG (by conv => lhs; simp [dArc, dOp]) ?_ | refine gF ?_ | refine gS rfl (by conv => lhs; simp [dArc, dOp]) ?_ ?_ | (refine st_gef0 ?_ ?_; focus (conv => (lhs; simp [dArc, dOp])); done) | refine sE (by conv => lhs; simp) ?_ | refine Nx.go ?_ | refine st_blke' (by decide) ?_ | refine st_seq ?_ | refine st_blk ?_ | refine st_cond (by conv => lhs; simp) (by conv => lhs; simp [dArc, dOp]) ?_ ?_ ?_ | refine st_lexit ?_) | (intro h_; try simp only [reduceCtorEq, y1, y2, y3, y4, y5, y6, y7, y8, y9, z1, z2, z3, z4, z5, z6, z7, ne_eq] at h_))
  all_goals try (first | contradiction | exact True.intro | omega | rfl | (simp [AV.fits, AV.cells, AV.one, DV.fits, DV.cells, DV.one, DV.conf, confL, DV.conf1]; done) | (simp [AV.fits, AV.cells, AV.one, DV.fits, DV.cells, DV.one, DV.conf, confL, DV.conf1, *] <;> omega))
  refine st_ge (by conv => lhs; simp) (fun he => ?_) (fun he => ?_)
  · refine st_call (xs := [.d (.vs (a.ops.map dOp)), .d (.vs (b.ops.map dOp))]) (ys := [.d (.vs (a.ops.map dOp)), .d (.vs (b.ops.map dOp))]) ?_ (by simp) (SameOps22 a.ops b.ops hb) (by simp [argsM, AV.ren]) trivial ?_
    · simp [solidOk]; simp at he; omega
    · simp at he
      repeat' (first | (with_reducible first | refine st_reg ?_ | refine sN (by conv => lhs; simp [dArc, dOp, *]) ?_ | refine rN ?_ ?_ | refine rO ?_ ?_ | refine rF ?_ ?_ | refine sG (by conv => lhs; simp [dArc, dOp, *]) ?_ | refine gF ?_ | refine gS rfl (by conv => lhs; simp [dArc, dOp, *]) ?_ ?_ | (refine st_gef0 ?_ ?_; focus (conv => (lhs; simp [dArc, dOp, *])); done) | refine sE (by conv => lhs; simp [dArc, dOp, *]) ?_ | refine Nx.go ?_ | refine st_blke' (by decide) ?_ | refine st_seq ?_ | refine st_blk ?_ | refine st_cond (by conv => lhs; simp [dArc, dOp, *]) (by conv => lhs; simp [dArc, dOp, *]) ?_ ?_ ?_ | refine st_lexit ?_) | (intro h_; try simp only [reduceCtorEq, y1, y2, y3, y4, y5, y6, y7, y8, y9, z1, z2, z3, z4, z5, z6, z7, ne_eq] at h_))
      all_goals try (first | contradiction | exact True.intro | omega | rfl | (simp [AV.fits, AV.cells, AV.one, DV.fits, DV.cells, DV.one, DV.conf, confL, DV.conf1]; done) | (simp [AV.fits, AV.cells, AV.one, DV.fits, DV.cells, DV.one, DV.conf, confL, DV.conf1, *] <;> omega))
      refine atEnd_pure ⟨trivial, trivial⟩ ?_ rfl
      show AV.d (DV.bool _) = _
      cases a; cases b; simp_all
  · refine ⟨trivial, ?_⟩
    simp at he
    repeat' (first | (with_reducible first | refine st_reg ?_ | refine sN (by conv => lhs; simp [dArc, dOp]) ?_ | refine rN ?_ ?_ | refine rO ?_ ?_ | refine rF ?_ ?_ | refine sG (by conv => lhs; simp [dArc, dOp]) ?_ | refine gF ?_ | refine gS rfl (by conv => lhs; simp [dArc, dOp]) ?_ ?_ | (refine st_gef0 ?_ ?_; focus (conv => (lhs; simp [dArc, dOp])); done) | refine sE (by conv => lhs; simp) ?_ | refine Nx.go ?_ | refine st_blke' (by decide) ?_ | refine st_seq ?_ | refine st_blk ?_ | refine st_cond (by conv => lhs; simp) (by conv => lhs; simp [dArc, dOp]) ?_ ?_ ?_ | refine st_lexit ?_) | (intro h_; try simp only [reduceCtorEq, y1, y2, y3, y4, y5, y6, y7, y8, y9, z1, z2, z3, z4, z5, z6, z7, ne_eq] at h_))
    all_goals try (first | contradiction | exact True.intro | omega | rfl | (simp [AV.fits, AV.cells, AV.one, DV.fits, DV.cells, DV.one, DV.conf, confL, DV.conf1]; done) | (simp [AV.fits, AV.cells, AV.one, DV.fits, DV.cells, DV.one, DV.conf, confL, DV.conf1, *] <;> omega))
    refine atEnd_pure ⟨trivial, trivial⟩ ?_ rfl
    show AV.d (DV.bool _) = _
    cases a; cases b; simp_all
end Go.Vm.L
