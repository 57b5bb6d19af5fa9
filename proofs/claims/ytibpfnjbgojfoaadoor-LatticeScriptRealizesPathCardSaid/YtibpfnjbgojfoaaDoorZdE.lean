/- Lattice: cmp. -/
import Derived.Test.YtibpfnjbgojfoaaDoorZdD
set_option linter.all false
namespace Go.Vm.L
open Go Go.Vm
theorem isNaN71 (a : Int) : Pure prog 56 [.d (.int .i64 a)] (.d (.bool false)) := by
  refine fn_of e56 hm (by rfl) (vs := [.d (.int .i64 a), .undef]) rfl ?_
  unfold c56
  repeat' (first | (with_reducible first | refine st_reg ?_ | refine sN (by conv => lhs; simp) ?_ | refine rN ?_ ?_ | refine rO ?_ ?_ | refine rF ?_ ?_ | refine sG (by conv => lhs; simp) ?_ | refine gF ?_ | refine gS rfl (by conv => lhs; simp) ?_ ?_ | (refine st_gef0 ?_ ?_; focus (conv => (lhs; simp)); done) | refine sE (by conv => lhs; simp) ?_ | refine Nx.go ?_ | refine st_blke' (by decide) ?_ | refine st_seq ?_ | refine st_blk ?_ | refine st_cond (by conv => lhs; simp) (by conv => lhs; simp) ?_ ?_ ?_ | refine st_lexit ?_) | (intro h_; try simp only [reduceCtorEq, y1, y2, y3, y4, y5, y6, y7, y8, y9, z1, z2, z3, z4, z5, z6, z7, ne_eq] at h_))
  all_goals try (first | contradiction | exact True.intro | omega | rfl | (simp [AV.fits, AV.cells, AV.one, DV.fits, DV.cells, DV.one, DV.conf, confL, DV.conf1]; done) | (simp [AV.fits, AV.cells, AV.one, DV.fits, DV.cells, DV.one, DV.conf, confL, DV.conf1, *] <;> omega))
  refine atEnd_pure ⟨trivial, trivial⟩ ?_ rfl
  rfl
def cmpI (a b : Int) : Int := if a < b then -1 else if a > b then 1 else 0
theorem Compare54 (a b : Int) : Pure prog 41 [.d (.int .i64 a), .d (.int .i64 b)] (.d (.int .i64 (cmpI a b))) := by
  refine fn_of e41 hm (by rfl) (vs := [.d (.int .i64 a), .d (.int .i64 b), .undef, .undef, .undef, .undef, .undef, .undef, .undef, .undef]) rfl ?_
  unfold c41
  repeat' (first | (with_reducible first | refine st_reg ?_ | refine sN (by conv => lhs; simp) ?_ | refine rN ?_ ?_ | refine rO ?_ ?_ | refine rF ?_ ?_ | refine sG (by conv => lhs; simp) ?_ | refine gF ?_ | refine gS rfl (by conv => lhs; simp) ?_ ?_ | (refine st_gef0 ?_ ?_; focus (conv => (lhs; simp)); done) | refine sE (by conv => lhs; simp) ?_ | refine Nx.go ?_ | refine st_blke' (by decide) ?_ | refine st_seq ?_ | refine st_blk ?_ | refine st_cond (by conv => lhs; simp) (by conv => lhs; simp) ?_ ?_ ?_ | refine st_lexit ?_) | (intro h_; try simp only [reduceCtorEq, y1, y2, y3, y4, y5, y6, y7, y8, y9, z1, z2, z3, z4, z5, z6, z7, ne_eq] at h_))
  all_goals try (first | contradiction | exact True.intro | omega | rfl | (simp [AV.fits, AV.cells, AV.one, DV.fits, DV.cells, DV.one, DV.conf, confL, DV.conf1]; done) | (simp [AV.fits, AV.cells, AV.one, DV.fits, DV.cells, DV.one, DV.conf, confL, DV.conf1, *] <;> omega))
  refine st_e (st_call (xs := [.d (.int .i64 a)]) (ys := [.d (.int .i64 a)]) (by simp [solidOk]) (by simp) (isNaN71 a) (by simp [argsM, AV.ren]) (pendOk_refl _) ?_)
  repeat' (first | (with_reducible first | refine st_reg ?_ | refine sN (by conv => lhs; simp) ?_ | refine rN ?_ ?_ | refine rO ?_ ?_ | refine rF ?_ ?_ | refine sG (by conv => lhs; simp) ?_ | refine gF ?_ | refine gS rfl (by conv => lhs; simp) ?_ ?_ | (refine st_gef0 ?_ ?_; focus (conv => (lhs; simp)); done) | refine sE (by conv => lhs; simp) ?_ | refine Nx.go ?_ | refine st_blke' (by decide) ?_ | refine st_seq ?_ | refine st_blk ?_ | refine st_cond (by conv => lhs; simp) (by conv => lhs; simp) ?_ ?_ ?_ | refine st_lexit ?_) | (intro h_; try simp only [reduceCtorEq, y1, y2, y3, y4, y5, y6, y7, y8, y9, z1, z2, z3, z4, z5, z6, z7, ne_eq] at h_))
  all_goals try (first | contradiction | exact True.intro | omega | rfl | (simp [AV.fits, AV.cells, AV.one, DV.fits, DV.cells, DV.one, DV.conf, confL, DV.conf1]; done) | (simp [AV.fits, AV.cells, AV.one, DV.fits, DV.cells, DV.one, DV.conf, confL, DV.conf1, *] <;> omega))
  refine st_e (st_call (xs := [.d (.int .i64 b)]) (ys := [.d (.int .i64 b)]) (by simp [solidOk]) (by simp) (isNaN71 b) (by simp [argsM, AV.ren]) (pendOk_refl _) ?_)
  repeat' (first | (with_reducible first | refine st_reg ?_ | refine sN (by conv => lhs; simp) ?_ | refine rN ?_ ?_ | refine rO ?_ ?_ | refine rF ?_ ?_ | refine sG (by conv => lhs; simp) ?_ | refine gF ?_ | refine gS rfl (by conv => lhs; simp) ?_ ?_ | (refine st_gef0 ?_ ?_; focus (conv => (lhs; simp)); done) | refine sE (by conv => lhs; simp) ?_ | refine Nx.go ?_ | refine st_blke' (by decide) ?_ | refine st_seq ?_ | refine st_blk ?_ | refine st_cond (by conv => lhs; simp) (by conv => lhs; simp) ?_ ?_ ?_ | refine st_lexit ?_) | (intro h_; try simp only [reduceCtorEq, y1, y2, y3, y4, y5, y6, y7, y8, y9, z1, z2, z3, z4, z5, z6, z7, ne_eq] at h_))
  all_goals try (first | contradiction | exact True.intro | omega | rfl | (simp [AV.fits, AV.cells, AV.one, DV.fits, DV.cells, DV.one, DV.conf, confL, DV.conf1]; done) | (simp [AV.fits, AV.cells, AV.one, DV.fits, DV.cells, DV.one, DV.conf, confL, DV.conf1, *] <;> omega))
  all_goals (try contradiction)
  all_goals (refine atEnd_pure ⟨trivial, trivial⟩ ?_ rfl)
  all_goals (show AV.d (DV.int _ _) = _)
  all_goals (unfold cmpI; congr 2; (repeat' split) <;> omega)

def orI : List Int → Int
  | [] => 0
  | x :: r => if x ≠ 0 then x else orI r
theorem Or53 (xs : List Int) (hb : xs.length < 4611686018427387904) : Pure prog 40 [.d (.vs (xs.map dI))] (.d (.int .i64 (orI xs))) := by
  refine fn_of e40 hm (by rfl) (vs := [.d (.vs (xs.map dI)), .undef, .undef, .undef, .undef, .undef, .undef, .undef, .undef]) rfl ?_
  unfold c40
  repeat' (first | (with_reducible first | refine st_reg ?_ | refine sN (by conv => lhs; simp) ?_ | refine rN ?_ ?_ | refine rO ?_ ?_ | refine rF ?_ ?_ | refine sG (by conv => lhs; simp) ?_ | refine gF ?_ | refine gS rfl (by conv => lhs; simp) ?_ ?_ | (refine st_gef0 ?_ ?_; focus (conv => (lhs; simp)); done) | refine sE (by conv => lhs; simp) ?_ | refine Nx.go ?_ | refine st_blke' (by decide) ?_ | refine st_seq ?_ | refine st_blk ?_ | refine st_cond (by conv => lhs; simp) (by conv => lhs; simp) ?_ ?_ ?_ | refine st_lexit ?_) | (intro h_; try simp only [reduceCtorEq, y1, y2, y3, y4, y5, y6, y7, y8, y9, z1, z2, z3, z4, z5, z6, z7, ne_eq] at h_))
  all_goals try (first | contradiction | exact True.intro | omega | rfl | (simp [AV.fits, AV.cells, AV.one, DV.fits, DV.cells, DV.one, DV.conf, confL, DV.conf1]; done) | (simp [AV.fits, AV.cells, AV.one, DV.fits, DV.cells, DV.one, DV.conf, confL, DV.conf1, *] <;> omega))
  refine st_loop (fun s => ∃ i : Nat, i ≤ xs.length ∧ orI xs = orI (xs.drop i) ∧ ∃ y, s = ⟨[.d (.vs (xs.map dI)), .d (.int .i64 0), .d (.int .i64 0), y, .d (.vs (xs.map dI)), .d (.int .i64 xs.length), .d (.int .i64 i), .undef, .undef], []⟩) (fun s => xs.length - (s.int 6).toNat)
    (ys := [.d (.vs (xs.map dI)), .d (.int .i64 0), .d (.int .i64 0), .undef, .d (.vs (xs.map dI)), .d (.int .i64 xs.length), .d (.int .i64 (0 : Nat)), .undef, .undef]) (by simp [weak]) ⟨0, by omega, by simp, _, rfl⟩ ?_
  rintro _ ⟨i, hi, hk, y, rfl⟩
  rcases Nat.lt_or_ge i xs.length with hil | hil
  · skip
    repeat' (first | (with_reducible first | refine st_reg ?_ | refine sN (by conv => lhs; simp [getD_map_lt, dI, *]) ?_ | refine rN ?_ ?_ | refine rO ?_ ?_ | refine rF ?_ ?_ | refine sG (by conv => lhs; simp [getD_map_lt, dI, *]) ?_ | refine gF ?_ | refine gS rfl (by conv => lhs; simp [getD_map_lt, dI, *]) ?_ ?_ | (refine st_gef0 ?_ ?_; focus (conv => (lhs; simp [getD_map_lt, dI, *])); done) | refine sE (by conv => lhs; simp [getD_map_lt, dI, *]) ?_ | refine Nx.go ?_ | refine st_blke' (by decide) ?_ | refine st_seq ?_ | refine st_blk ?_ | refine st_cond (by conv => lhs; simp [getD_map_lt, dI, *]) (by conv => lhs; simp [getD_map_lt, dI, *]) ?_ ?_ ?_ | refine st_lexit ?_) | (intro h_; try simp only [reduceCtorEq, y1, y2, y3, y4, y5, y6, y7, y8, y9, z1, z2, z3, z4, z5, z6, z7, ne_eq] at h_))
    all_goals try (first | contradiction | exact True.intro | omega | rfl | (simp [AV.fits, AV.cells, AV.one, DV.fits, DV.cells, DV.one, DV.conf, confL, DV.conf1]; done) | (simp [AV.fits, AV.cells, AV.one, DV.fits, DV.cells, DV.one, DV.conf, confL, DV.conf1, *] <;> omega))
    · refine atEnd_pure ⟨trivial, trivial⟩ ?_ rfl
      show AV.d (DV.int _ _) = _
      rw [hk, List.drop_eq_getElem_cons hil, orI, if_pos h_]
    · refine st_lnormw (ys := [.d (.vs (xs.map dI)), .d (.int .i64 0), .d (.int .i64 0), .d (.int .i64 0), .d (.vs (xs.map dI)), .d (.int .i64 xs.length), .d (.int .i64 (i + 1 : Nat)), .undef, .undef]) ?_ ⟨i + 1, by omega, ?_, _, rfl⟩ ?_
      · simp only [weak, and_true, true_or, or_true, true_and]
        exact .inr (by rw [show ((i + 1 : Nat) : Int) = (i : Int) + 1 from by simp, wrap64 (by omega) (by omega)])
      · rw [hk, List.drop_eq_getElem_cons hil, orI, if_neg (fun h => h h_)]
      · simp [St.int]; omega
  · skip
    repeat' (first | (with_reducible first | refine st_reg ?_ | refine sN (by conv => lhs; simp [dI]) ?_ | refine rN ?_ ?_ | refine rO ?_ ?_ | refine rF ?_ ?_ | refine sG (by conv => lhs; simp [dI]) ?_ | refine gF ?_ | refine gS rfl (by conv => lhs; simp [dI]) ?_ ?_ | (refine st_gef0 ?_ ?_; focus (conv => (lhs; simp [dI])); done) | refine sE (by conv => lhs; simp) ?_ | refine Nx.go ?_ | refine st_blke' (by decide) ?_ | refine st_seq ?_ | refine st_blk ?_ | refine st_cond (by conv => lhs; simp) (by conv => lhs; simp [dI]) ?_ ?_ ?_ | refine st_lexit ?_) | (intro h_; try simp only [reduceCtorEq, y1, y2, y3, y4, y5, y6, y7, y8, y9, z1, z2, z3, z4, z5, z6, z7, ne_eq] at h_))
    all_goals try (first | contradiction | exact True.intro | omega | rfl | (simp [AV.fits, AV.cells, AV.one, DV.fits, DV.cells, DV.one, DV.conf, confL, DV.conf1]; done) | (simp [AV.fits, AV.cells, AV.one, DV.fits, DV.cells, DV.one, DV.conf, confL, DV.conf1, *] <;> omega))
    refine atEnd_pure ⟨trivial, trivial⟩ ?_ rfl
    show AV.d (DV.int _ _) = _
    rw [hk, List.drop_of_length_le hil]; rfl

structure Key where
  frm : Int
  to : Int
  term : Int
  deriving DecidableEq, Repr
@[simp] def dKey (k : Key) : DV := .agg [.int .i64 k.frm, .int .i64 k.to, .int .i64 k.term]
def cmpK (a b : Key) : Int := orI [cmpI a.frm b.frm, cmpI a.to b.to, cmpI a.term b.term]
theorem compare33 (a b : Key) : Pure prog 25 [.d (dKey a), .d (dKey b)] (.d (.int .i64 (cmpK a b))) := by
  refine fn_of e25 hm (by rfl) (vs := [.d (dKey a), .d (dKey b), .undef, .undef, .undef]) rfl ?_
  unfold c25
  repeat' (first | (with_reducible first | refine st_reg ?_ | refine sN (by conv => lhs; simp [dKey]) ?_ | refine rN ?_ ?_ | refine rO ?_ ?_ | refine rF ?_ ?_ | refine sG (by conv => lhs; simp [dKey]) ?_ | refine gF ?_ | refine gS rfl (by conv => lhs; simp [dKey]) ?_ ?_ | (refine st_gef0 ?_ ?_; focus (conv => (lhs; simp [dKey])); done) | refine sE (by conv => lhs; simp) ?_ | refine Nx.go ?_ | refine st_blke' (by decide) ?_ | refine st_seq ?_ | refine st_blk ?_ | refine st_cond (by conv => lhs; simp) (by conv => lhs; simp [dKey]) ?_ ?_ ?_ | refine st_lexit ?_) | (intro h_; try simp only [reduceCtorEq, y1, y2, y3, y4, y5, y6, y7, y8, y9, z1, z2, z3, z4, z5, z6, z7, ne_eq] at h_))
  all_goals try (first | contradiction | exact True.intro | omega | rfl | (simp [AV.fits, AV.cells, AV.one, DV.fits, DV.cells, DV.one, DV.conf, confL, DV.conf1]; done) | (simp [AV.fits, AV.cells, AV.one, DV.fits, DV.cells, DV.one, DV.conf, confL, DV.conf1, *] <;> omega))
  refine st_e (st_call (xs := [.d (.int .i64 a.frm), .d (.int .i64 b.frm)]) (ys := [.d (.int .i64 a.frm), .d (.int .i64 b.frm)]) (by simp [solidOk]) (by simp) (Compare54 _ _) (by simp [argsM, AV.ren]) (pendOk_refl _) ?_)
  refine st_e (st_call (xs := [.d (.int .i64 a.to), .d (.int .i64 b.to)]) (ys := [.d (.int .i64 a.to), .d (.int .i64 b.to)]) (by simp [solidOk]) (by simp) (Compare54 _ _) (by simp [argsM, AV.ren]) (pendOk_refl _) ?_)
  refine st_e (st_call (xs := [.d (.int .i64 a.term), .d (.int .i64 b.term)]) (ys := [.d (.int .i64 a.term), .d (.int .i64 b.term)]) (by simp [solidOk]) (by simp) (Compare54 _ _) (by simp [argsM, AV.ren]) (pendOk_refl _) ?_)
  repeat' (first | (with_reducible first | refine st_reg ?_ | refine sN (by conv => lhs; simp [dKey, litV, litE, litOb, toDL, AV.toD, AV.norm, List.replicate]) ?_ | refine rN ?_ ?_ | refine rO ?_ ?_ | refine rF ?_ ?_ | refine sG (by conv => lhs; simp [dKey, litV, litE, litOb, toDL, AV.toD, AV.norm, List.replicate]) ?_ | refine gF ?_ | refine gS rfl (by conv => lhs; simp [dKey, litV, litE, litOb, toDL, AV.toD, AV.norm, List.replicate]) ?_ ?_ | (refine st_gef0 ?_ ?_; focus (conv => (lhs; simp [dKey, litV, litE, litOb, toDL, AV.toD, AV.norm, List.replicate])); done) | refine sE (by conv => lhs; simp) ?_ | refine Nx.go ?_ | refine st_blke' (by decide) ?_ | refine st_seq ?_ | refine st_blk ?_ | refine st_cond (by conv => lhs; simp) (by conv => lhs; simp [dKey, litV, litE, litOb, toDL, AV.toD, AV.norm, List.replicate]) ?_ ?_ ?_ | refine st_lexit ?_) | (intro h_; try simp only [reduceCtorEq, y1, y2, y3, y4, y5, y6, y7, y8, y9, z1, z2, z3, z4, z5, z6, z7, ne_eq] at h_))
  all_goals try (first | contradiction | exact True.intro | omega | rfl | (simp [AV.fits, AV.cells, AV.one, DV.fits, DV.cells, DV.one, DV.conf, confL, DV.conf1]; done) | (simp [AV.fits, AV.cells, AV.one, DV.fits, DV.cells, DV.one, DV.conf, confL, DV.conf1, *] <;> omega))
  refine st_e (st_call (xs := [.d (.vs ([cmpI a.frm b.frm, cmpI a.to b.to, cmpI a.term b.term].map dI))]) (ys := [.d (.vs ([cmpI a.frm b.frm, cmpI a.to b.to, cmpI a.term b.term].map dI))]) (by simp [solidOk]) (by simp [dI]) (Or53 _ (by simp)) (by simp [argsM, AV.ren]) (pendOk_refl _) ?_)
  repeat' (first | (with_reducible first | refine st_reg ?_ | refine sN (by conv => lhs; simp) ?_ | refine rN ?_ ?_ | refine rO ?_ ?_ | refine rF ?_ ?_ | refine sG (by conv => lhs; simp) ?_ | refine gF ?_ | refine gS rfl (by conv => lhs; simp) ?_ ?_ | (refine st_gef0 ?_ ?_; focus (conv => (lhs; simp)); done) | refine sE (by conv => lhs; simp) ?_ | refine Nx.go ?_ | refine st_blke' (by decide) ?_ | refine st_seq ?_ | refine st_blk ?_ | refine st_cond (by conv => lhs; simp) (by conv => lhs; simp) ?_ ?_ ?_ | refine st_lexit ?_) | (intro h_; try simp only [reduceCtorEq, y1, y2, y3, y4, y5, y6, y7, y8, y9, z1, z2, z3, z4, z5, z6, z7, ne_eq] at h_))
  all_goals try (first | contradiction | exact True.intro | omega | rfl | (simp [AV.fits, AV.cells, AV.one, DV.fits, DV.cells, DV.one, DV.conf, confL, DV.conf1]; done) | (simp [AV.fits, AV.cells, AV.one, DV.fits, DV.cells, DV.one, DV.conf, confL, DV.conf1, *] <;> omega))
  refine atEnd_pure ⟨trivial, trivial⟩ ?_ rfl
  rfl
end Go.Vm.L
