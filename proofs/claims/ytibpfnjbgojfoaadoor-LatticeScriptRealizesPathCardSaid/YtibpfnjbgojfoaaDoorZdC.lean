/- Lattice: lists of deletions. -/
import Derived.Test.YtibpfnjbgojfoaaDoorZdB
set_option linter.all false
namespace Go.Vm.L
open Go Go.Vm
def delOp : Op := ⟨2, 0⟩
theorem deletes37 (n : Nat) (o : Op) (hb : n < 1000000000) : Pure prog 29 [.d (.int .i64 n), .d (dOp o)] (.d (.vs ((List.replicate n delOp ++ [o]).map dOp))) := by
  refine fn_of e29 hm (by rfl) (vs := [.d (.int .i64 n), .d (dOp o), .undef, .undef, .undef, .undef, .undef]) rfl ?_
  unfold c29
  repeat' (first | (with_reducible first | refine st_reg ?_ | refine sN (by conv => lhs; simp [dOp]) ?_ | refine rN ?_ ?_ | refine rO ?_ ?_ | refine rF ?_ ?_ | refine sG (by conv => lhs; simp [dOp]) ?_ | refine gF ?_ | refine gS rfl (by conv => lhs; simp [dOp]) ?_ ?_ | (refine st_gef0 ?_ ?_; focus (conv => (lhs; simp [dOp])); done) | refine sE (by conv => lhs; simp) ?_ | refine Nx.go ?_ | refine st_blke' (by decide) ?_ | refine st_seq ?_ | refine st_blk ?_ | refine st_cond (by conv => lhs; simp) (by conv => lhs; simp [dOp]) ?_ ?_ ?_ | refine st_lexit ?_) | (intro h_; try simp only [reduceCtorEq, y1, y2, y3, y4, y5, y6, y7, y8, y9, z1, z2, z3, z4, z5, z6, z7, ne_eq] at h_))
  all_goals try (first | contradiction | exact True.intro | omega | rfl | (simp [AV.fits, AV.cells, AV.one, DV.fits, DV.cells, DV.one, DV.conf, confL, DV.conf1]; done) | (simp [AV.fits, AV.cells, AV.one, DV.fits, DV.cells, DV.one, DV.conf, confL, DV.conf1, *] <;> omega))
  refine wpC_loop (fun s => ∃ (k id : Nat) (H : Heap), k ≤ n ∧ s = ⟨[.d (.int .i64 n), .d (dOp o), .ptr 0 0 0, .nils, .hs id 0 k 2, .d (.int .i64 k), .undef], H⟩ ∧ H.ob 0 = some (.arr 2 [.d (dOp o)]) ∧ id ≠ 0 ∧ H.ob id = some (.arr 2 ((List.replicate k (dOp delOp)).map .d)))
    (fun s => n - (s.int 5).toNat) (s' := ⟨[.d (.int .i64 n), .d (dOp o), .ptr 0 0 0, .nils, .hs 1 0 0 2, .d (.int .i64 0), .undef], [some (.arr 2 [.d (dOp o)]), some (.arr 2 [])]⟩)
    (Gh.nils (i := 4) 2 (by rfl)) ⟨0, 1, _, by omega, rfl, rfl, by omega, rfl⟩ ?_
  rintro _ ⟨k, id, H, hk, rfl, h0, hid, hid'⟩
  rcases Nat.lt_or_ge k n with hkn | hkn
  · skip
    repeat' (first | (with_reducible first | refine st_reg ?_ | refine sN (by conv => lhs; simp [dOp, fillOb, fillC, litV, litE, litOb, toDL, AV.toD, AV.norm, AV.mkAgg, AV.allD, AV.cells, DV.cells, *]) ?_ | refine rN ?_ ?_ | refine rO ?_ ?_ | refine rF ?_ ?_ | refine sG (by conv => lhs; simp [dOp, fillOb, fillC, litV, litE, litOb, toDL, AV.toD, AV.norm, AV.mkAgg, AV.allD, AV.cells, DV.cells, *]) ?_ | refine gF ?_ | refine gS rfl (by conv => lhs; simp [dOp, fillOb, fillC, litV, litE, litOb, toDL, AV.toD, AV.norm, AV.mkAgg, AV.allD, AV.cells, DV.cells, *]) ?_ ?_ | (refine st_gef0 ?_ ?_; focus (conv => (lhs; simp [dOp, fillOb, fillC, litV, litE, litOb, toDL, AV.toD, AV.norm, AV.mkAgg, AV.allD, AV.cells, DV.cells, *])); done) | refine sE (by conv => lhs; simp [dOp, fillOb, fillC, litV, litE, litOb, toDL, AV.toD, AV.norm, AV.mkAgg, AV.allD, AV.cells, DV.cells, *]) ?_ | refine Nx.go ?_ | refine st_blke' (by decide) ?_ | refine st_seq ?_ | refine st_blk ?_ | refine st_cond (by conv => lhs; simp [dOp, fillOb, fillC, litV, litE, litOb, toDL, AV.toD, AV.norm, AV.mkAgg, AV.allD, AV.cells, DV.cells, *]) (by conv => lhs; simp [dOp, fillOb, fillC, litV, litE, litOb, toDL, AV.toD, AV.norm, AV.mkAgg, AV.allD, AV.cells, DV.cells, *]) ?_ ?_ ?_ | refine st_lexit ?_) | (intro h_; try simp only [reduceCtorEq, y1, y2, y3, y4, y5, y6, y7, y8, y9, z1, z2, z3, z4, z5, z6, z7, ne_eq] at h_))
    all_goals try (first | contradiction | exact True.intro | omega | rfl | (simp [AV.fits, AV.cells, AV.one, DV.fits, DV.cells, DV.one, DV.conf, confL, DV.conf1]; done) | (simp [AV.fits, AV.cells, AV.one, DV.fits, DV.cells, DV.one, DV.conf, confL, DV.conf1, *] <;> omega))
    refine st_e (st_app (id := id) (off := 0) (len := k) (ds := [dOp delOp]) (by simp) (by simp) (by simp [delOp]) (arrOf_ob hid') (by simp) (by simp [DV.fits, DV.cells, DV.one]) (by simp; omega) ?_)
    repeat' (first | (with_reducible first | refine st_reg ?_ | refine sN (by conv => lhs; simp [dOp]) ?_ | refine rN ?_ ?_ | refine rO ?_ ?_ | refine rF ?_ ?_ | refine sG (by conv => lhs; simp [dOp]) ?_ | refine gF ?_ | refine gS rfl (by conv => lhs; simp [dOp]) ?_ ?_ | (refine st_gef0 ?_ ?_; focus (conv => (lhs; simp [dOp])); done) | refine sE (by conv => lhs; simp) ?_ | refine Nx.go ?_ | refine st_blke' (by decide) ?_ | refine st_seq ?_ | refine st_blk ?_ | refine st_cond (by conv => lhs; simp) (by conv => lhs; simp [dOp]) ?_ ?_ ?_ | refine st_lexit ?_) | (intro h_; try simp only [reduceCtorEq, y1, y2, y3, y4, y5, y6, y7, y8, y9, z1, z2, z3, z4, z5, z6, z7, ne_eq] at h_))
    all_goals try (first | contradiction | exact True.intro | omega | rfl | (simp [AV.fits, AV.cells, AV.one, DV.fits, DV.cells, DV.one, DV.conf, confL, DV.conf1]; done) | (simp [AV.fits, AV.cells, AV.one, DV.fits, DV.cells, DV.one, DV.conf, confL, DV.conf1, *] <;> omega))
    refine st_lnormw (ys := [.d (.int .i64 n), .d (dOp o), .ptr 0 0 0, .nils, .hs H.length 0 (k + 1) 2, .d (.int .i64 (k + 1 : Nat)), .undef]) ?_ ⟨k + 1, H.length, _, by omega, rfl, ob_app_old h0 (Ne.symm hid), ?_, ?_⟩ ?_
    · simp only [weak, and_true, true_or, or_true, true_and]
      exact ⟨.inr rfl, .inr (by rw [show ((k + 1 : Nat) : Int) = (k : Int) + 1 from by simp, wrap64 (by omega) (by omega)])⟩
    · have := ob_lt h0; omega
    · rw [ob_app_new]
      simp [List.replicate_succ']
    · simp [St.int]; omega
  · have hkn : k = n := by omega
    subst hkn
    repeat' (first | (with_reducible first | refine st_reg ?_ | refine sN (by conv => lhs; simp [dOp, fillOb, fillC, litV, litE, litOb, toDL, AV.toD, AV.norm, AV.mkAgg, AV.allD, AV.cells, DV.cells, h0, hid']) ?_ | refine rN ?_ ?_ | refine rO ?_ ?_ | refine rF ?_ ?_ | refine sG (by conv => lhs; simp [dOp, fillOb, fillC, litV, litE, litOb, toDL, AV.toD, AV.norm, AV.mkAgg, AV.allD, AV.cells, DV.cells, h0, hid']) ?_ | refine gF ?_ | refine gS rfl (by conv => lhs; simp [dOp, fillOb, fillC, litV, litE, litOb, toDL, AV.toD, AV.norm, AV.mkAgg, AV.allD, AV.cells, DV.cells, h0, hid']) ?_ ?_ | (refine st_gef0 ?_ ?_; focus (conv => (lhs; simp [dOp, fillOb, fillC, litV, litE, litOb, toDL, AV.toD, AV.norm, AV.mkAgg, AV.allD, AV.cells, DV.cells, h0, hid'])); done) | refine sE (by conv => lhs; simp) ?_ | refine Nx.go ?_ | refine st_blke' (by decide) ?_ | refine st_seq ?_ | refine st_blk ?_ | refine st_cond (by conv => lhs; simp) (by conv => lhs; simp [dOp, fillOb, fillC, litV, litE, litOb, toDL, AV.toD, AV.norm, AV.mkAgg, AV.allD, AV.cells, DV.cells, h0, hid']) ?_ ?_ ?_ | refine st_lexit ?_) | (intro h_; try simp only [reduceCtorEq, y1, y2, y3, y4, y5, y6, y7, y8, y9, z1, z2, z3, z4, z5, z6, z7, ne_eq] at h_))
    all_goals try (first | contradiction | exact True.intro | omega | rfl | (simp [AV.fits, AV.cells, AV.one, DV.fits, DV.cells, DV.one, DV.conf, confL, DV.conf1]; done) | (simp [AV.fits, AV.cells, AV.one, DV.fits, DV.cells, DV.one, DV.conf, confL, DV.conf1, *] <;> omega))
    refine st_e (st_app (id := id) (off := 0) (len := k) (ds := [dOp o]) (by simp) (by simp) (by simp) (arrOf_ob hid') (by simp) (by simp [DV.fits, DV.cells, DV.one]) (by simp; omega) ?_)
    repeat' (first | (with_reducible first | refine st_reg ?_ | refine sN (by conv => lhs; simp [dOp]) ?_ | refine rN ?_ ?_ | refine rO ?_ ?_ | refine rF ?_ ?_ | refine sG (by conv => lhs; simp [dOp]) ?_ | refine gF ?_ | refine gS rfl (by conv => lhs; simp [dOp]) ?_ ?_ | (refine st_gef0 ?_ ?_; focus (conv => (lhs; simp [dOp])); done) | refine sE (by conv => lhs; simp) ?_ | refine Nx.go ?_ | refine st_blke' (by decide) ?_ | refine st_seq ?_ | refine st_blk ?_ | refine st_cond (by conv => lhs; simp) (by conv => lhs; simp [dOp]) ?_ ?_ ?_ | refine st_lexit ?_) | (intro h_; try simp only [reduceCtorEq, y1, y2, y3, y4, y5, y6, y7, y8, y9, z1, z2, z3, z4, z5, z6, z7, ne_eq] at h_))
    all_goals try (first | contradiction | exact True.intro | omega | rfl | (simp [AV.fits, AV.cells, AV.one, DV.fits, DV.cells, DV.one, DV.conf, confL, DV.conf1]; done) | (simp [AV.fits, AV.cells, AV.one, DV.fits, DV.cells, DV.one, DV.conf, confL, DV.conf1, *] <;> omega))
    refine atEnd_frz (id := H.length) (off := 0) (len := k + 1) (sz := 2) rfl (arrOf_ob ob_app_new) (by simp) (ds := (List.replicate k delOp ++ [o]).map dOp) ?_ rfl
    rw [← toDL_map]
    congr 1
    rw [List.take_of_length_le (by simp)]
    simp
end Go.Vm.L
