/- Lattice: lattices compared. -/
import Derived.Test.YtibpfnjbgojfoaaDoorZdYa
import Derived.Test.YtibpfnjbgojfoaaDoorZdV
import Derived.Test.YtibpfnjbgojfoaaDoorZdIr4
set_option linter.all false
set_option maxHeartbeats 8000000
namespace Go.Vm.L
open Go Go.Vm

theorem take_succ_eq {α : Type} {xs ys : List α} {k : Nat} (h1 : k < xs.length) (h2 : k < ys.length) (h : xs.take k = ys.take k) (he : xs[k] = ys[k]) : xs.take (k + 1) = ys.take (k + 1) := by
  rw [List.take_add_one, List.take_add_one, h, List.getElem?_eq_getElem h1, List.getElem?_eq_getElem h2, he]
theorem Same13 (a b : Lat) (hb1 : a.final.length < 1000000) (hb2 : a.arcs.length < 1000000) (ho : ∀ c ∈ a.arcs, c.ops.length < 1000000) : Pure prog 7 [.d (dLat a), .d (dLat b)] (.d (.bool (decide (a = b)))) := by
  refine fn_of e7 hm (by rfl) (vs := [.d (dLat a), .d (dLat b), .undef, .undef, .undef, .undef, .undef, .undef, .undef]) rfl ?_
  unfold c7
  obtain ⟨as1, aa, af⟩ := a
  obtain ⟨bs, ba, bf⟩ := b
  simp only at hb1 hb2 ho
  have hne : ∀ (p : Prop), ((⟨as1, aa, af⟩ : Lat) = ⟨bs, ba, bf⟩ → p) → ¬ p → AV.d (DV.bool false) = AV.d (DV.bool (decide ((⟨as1, aa, af⟩ : Lat) = ⟨bs, ba, bf⟩))) := by
    intro p h1 h2
    rw [decide_eq_false fun e => h2 (h1 e)]
  by_cases g1 : as1 = bs
  rotate_left
  · skip
    repeat' (first | (with_reducible first | refine st_reg ?_ | refine sN (by conv => lhs; simp [dLat, g1]) ?_ | refine rN ?_ ?_ | refine rO ?_ ?_ | refine rF ?_ ?_ | refine sG (by conv => lhs; simp [dLat, g1]) ?_ | refine gF ?_ | refine gS rfl (by conv => lhs; simp [dLat, g1]) ?_ ?_ | (refine st_gef0 ?_ ?_; focus (conv => (lhs; simp [dLat, g1])); done) | refine sE (by conv => lhs; simp) ?_ | refine Nx.go ?_ | refine st_blke' (by decide) ?_ | refine st_seq ?_ | refine st_blk ?_ | refine st_cond (by conv => lhs; simp) (by conv => lhs; simp [dLat, g1]) ?_ ?_ ?_ | refine st_lexit ?_) | (intro h_; try simp only [reduceCtorEq, y1, y2, y3, y4, y5, y6, y7, y8, y9, z1, z2, z3, z4, z5, z6, z7, ne_eq] at h_))
    all_goals try (first | contradiction | exact True.intro | omega | rfl | (simp [AV.fits, AV.cells, AV.one, DV.fits, DV.cells, DV.one, DV.conf, confL, DV.conf1]; done) | (simp [AV.fits, AV.cells, AV.one, DV.fits, DV.cells, DV.one, DV.conf, confL, DV.conf1, *] <;> omega))
    exact atEnd_pure ⟨trivial, trivial⟩ (hne _ (fun e => congrArg Lat.states e) g1) rfl
  subst g1
  by_cases g2 : aa.length = ba.length
  rotate_left
  · have g2' : ((aa.length : Int) != (ba.length : Int)) = true := by simp; omega
    repeat' (first | (with_reducible first | refine st_reg ?_ | refine sN (by conv => lhs; simp [dLat, g2']) ?_ | refine rN ?_ ?_ | refine rO ?_ ?_ | refine rF ?_ ?_ | refine sG (by conv => lhs; simp [dLat, g2']) ?_ | refine gF ?_ | refine gS rfl (by conv => lhs; simp [dLat, g2']) ?_ ?_ | (refine st_gef0 ?_ ?_; focus (conv => (lhs; simp [dLat, g2'])); done) | refine sE (by conv => lhs; simp) ?_ | refine Nx.go ?_ | refine st_blke' (by decide) ?_ | refine st_seq ?_ | refine st_blk ?_ | refine st_cond (by conv => lhs; simp) (by conv => lhs; simp [dLat, g2']) ?_ ?_ ?_ | refine st_lexit ?_) | (intro h_; try simp only [reduceCtorEq, y1, y2, y3, y4, y5, y6, y7, y8, y9, z1, z2, z3, z4, z5, z6, z7, ne_eq] at h_))
    all_goals try (first | contradiction | exact True.intro | omega | rfl | (simp [AV.fits, AV.cells, AV.one, DV.fits, DV.cells, DV.one, DV.conf, confL, DV.conf1]; done) | (simp [AV.fits, AV.cells, AV.one, DV.fits, DV.cells, DV.one, DV.conf, confL, DV.conf1, *] <;> omega))
    exact atEnd_pure ⟨trivial, trivial⟩ (hne _ (fun e => congrArg (fun l => l.arcs.length) e) g2) rfl
  repeat' (first | (with_reducible first | refine st_reg ?_ | refine sN (by conv => lhs; simp [dLat, g2]) ?_ | refine rN ?_ ?_ | refine rO ?_ ?_ | refine rF ?_ ?_ | refine sG (by conv => lhs; simp [dLat, g2]) ?_ | refine gF ?_ | refine gS rfl (by conv => lhs; simp [dLat, g2]) ?_ ?_ | (refine st_gef0 ?_ ?_; focus (conv => (lhs; simp [dLat, g2])); done) | refine sE (by conv => lhs; simp) ?_ | refine Nx.go ?_ | refine st_blke' (by decide) ?_ | refine st_seq ?_ | refine st_blk ?_ | refine st_cond (by conv => lhs; simp) (by conv => lhs; simp [dLat, g2]) ?_ ?_ ?_ | refine st_lexit ?_) | (intro h_; try simp only [reduceCtorEq, y1, y2, y3, y4, y5, y6, y7, y8, y9, z1, z2, z3, z4, z5, z6, z7, ne_eq] at h_))
  all_goals try (first | contradiction | exact True.intro | omega | rfl | (simp [AV.fits, AV.cells, AV.one, DV.fits, DV.cells, DV.one, DV.conf, confL, DV.conf1]; done) | (simp [AV.fits, AV.cells, AV.one, DV.fits, DV.cells, DV.one, DV.conf, confL, DV.conf1, *] <;> omega))
  refine st_get (by conv => lhs; simp) (st_call (by simp [solidOk]) (by conv => lhs; simp) (Ints26 af bf (by omega)) (by exact ⟨.inl rfl, .inl rfl, trivial⟩) (pendOk_refl _) ?_)
  by_cases g3 : af = bf
  rotate_left
  · skip
    repeat' (first | (with_reducible first | refine st_reg ?_ | refine sN (by conv => lhs; simp [dLat, g3]) ?_ | refine rN ?_ ?_ | refine rO ?_ ?_ | refine rF ?_ ?_ | refine sG (by conv => lhs; simp [dLat, g3]) ?_ | refine gF ?_ | refine gS rfl (by conv => lhs; simp [dLat, g3]) ?_ ?_ | (refine st_gef0 ?_ ?_; focus (conv => (lhs; simp [dLat, g3])); done) | refine sE (by conv => lhs; simp) ?_ | refine Nx.go ?_ | refine st_blke' (by decide) ?_ | refine st_seq ?_ | refine st_blk ?_ | refine st_cond (by conv => lhs; simp) (by conv => lhs; simp [dLat, g3]) ?_ ?_ ?_ | refine st_lexit ?_) | (intro h_; try simp only [reduceCtorEq, y1, y2, y3, y4, y5, y6, y7, y8, y9, z1, z2, z3, z4, z5, z6, z7, ne_eq] at h_))
    all_goals try (first | contradiction | exact True.intro | omega | rfl | (simp [AV.fits, AV.cells, AV.one, DV.fits, DV.cells, DV.one, DV.conf, confL, DV.conf1]; done) | (simp [AV.fits, AV.cells, AV.one, DV.fits, DV.cells, DV.one, DV.conf, confL, DV.conf1, *] <;> omega))
    exact atEnd_pure ⟨trivial, trivial⟩ (hne _ (fun e => congrArg Lat.final e) g3) rfl
  subst g3
  repeat' (first | (with_reducible first | refine st_reg ?_ | refine sN (by conv => lhs; simp [dLat]) ?_ | refine rN ?_ ?_ | refine rO ?_ ?_ | refine rF ?_ ?_ | refine sG (by conv => lhs; simp [dLat]) ?_ | refine gF ?_ | refine gS rfl (by conv => lhs; simp [dLat]) ?_ ?_ | (refine st_gef0 ?_ ?_; focus (conv => (lhs; simp [dLat])); done) | refine sE (by conv => lhs; simp) ?_ | refine Nx.go ?_ | refine st_blke' (by decide) ?_ | refine st_seq ?_ | refine st_blk ?_ | refine st_cond (by conv => lhs; simp) (by conv => lhs; simp [dLat]) ?_ ?_ ?_ | refine st_lexit ?_) | (intro h_; try simp only [reduceCtorEq, y1, y2, y3, y4, y5, y6, y7, y8, y9, z1, z2, z3, z4, z5, z6, z7, ne_eq] at h_))
  all_goals try (first | contradiction | exact True.intro | omega | rfl | (simp [AV.fits, AV.cells, AV.one, DV.fits, DV.cells, DV.one, DV.conf, confL, DV.conf1]; done) | (simp [AV.fits, AV.cells, AV.one, DV.fits, DV.cells, DV.one, DV.conf, confL, DV.conf1, *] <;> omega))
  refine wpC_loop (fun s => ∃ (k : Nat) (v7 v8 : AV), k ≤ aa.length ∧ aa.take k = ba.take k ∧ s = ⟨[.d (dLat ⟨as1, aa, af⟩), .d (dLat ⟨as1, ba, af⟩), .ptr 0 0 0, .ptr 1 0 0, .d (.bool false), .d (.int .i64 k), .undef, v7, v8], [some (.arr 3 [.d (dLat ⟨as1, aa, af⟩)]), some (.arr 3 [.d (dLat ⟨as1, ba, af⟩)])]⟩)
    (fun s => aa.length - (s.int 5).toNat)
    (s' := ⟨[.d (dLat ⟨as1, aa, af⟩), .d (dLat ⟨as1, ba, af⟩), .ptr 0 0 0, .ptr 1 0 0, .d (.bool false), .d (.int .i64 (0 : Nat)), .undef, .undef, .undef], [some (.arr 3 [.d (dLat ⟨as1, aa, af⟩)]), some (.arr 3 [.d (dLat ⟨as1, ba, af⟩)])]⟩)
    (Gh.weak (by simp [weak])) ⟨0, _, _, by omega, rfl, rfl⟩ ?_
  rintro _ ⟨k, v7, v8, hk, htk, rfl⟩
  have hw : IntKind.i64.wrap ((k : Int) + 1) = ((k + 1 : Nat) : Int) := by rw [wrap64 (by omega) (by omega)]; simp
  rcases Nat.lt_or_ge k aa.length with hkl | hkl
  · have hkb : k < ba.length := by omega
    repeat' (first | (with_reducible first | refine st_reg ?_ | refine sN (by conv => lhs; simp [dLat, hkl, hkb, getD_map_lt, dArc]) ?_ | refine rN ?_ ?_ | refine rO ?_ ?_ | refine rF ?_ ?_ | refine sG (by conv => lhs; simp [dLat, hkl, hkb, getD_map_lt, dArc]) ?_ | refine gF ?_ | refine gS rfl (by conv => lhs; simp [dLat, hkl, hkb, getD_map_lt, dArc]) ?_ ?_ | (refine st_gef0 ?_ ?_; focus (conv => (lhs; simp [dLat, hkl, hkb, getD_map_lt, dArc])); done) | refine sE (by conv => lhs; simp) ?_ | refine Nx.go ?_ | refine st_blke' (by decide) ?_ | refine st_seq ?_ | refine st_blk ?_ | refine st_cond (by conv => lhs; simp) (by conv => lhs; simp [dLat, hkl, hkb, getD_map_lt, dArc]) ?_ ?_ ?_ | refine st_lexit ?_) | (intro h_; try simp only [reduceCtorEq, y1, y2, y3, y4, y5, y6, y7, y8, y9, z1, z2, z3, z4, z5, z6, z7, ne_eq] at h_))
    all_goals try (first | contradiction | exact True.intro | omega | rfl | (simp [AV.fits, AV.cells, AV.one, DV.fits, DV.cells, DV.one, DV.conf, confL, DV.conf1]; done) | (simp [AV.fits, AV.cells, AV.one, DV.fits, DV.cells, DV.one, DV.conf, confL, DV.conf1, *] <;> omega))
    refine st_e (st_call (by simp [solidOk]) (by conv => lhs; simp [getD_map_lt, hkl, hkb, dArc]) (SameArc23 aa[k] ba[k] (by have := ho _ (List.getElem_mem hkl); omega)) (by exact ⟨.inl rfl, .inl rfl, trivial⟩) (pendOk_refl _) ?_)
    by_cases g4 : aa[k] = ba[k]
    rotate_left
    · skip
      repeat' (first | (with_reducible first | refine st_reg ?_ | refine sN (by conv => lhs; simp [dLat, g4]) ?_ | refine rN ?_ ?_ | refine rO ?_ ?_ | refine rF ?_ ?_ | refine sG (by conv => lhs; simp [dLat, g4]) ?_ | refine gF ?_ | refine gS rfl (by conv => lhs; simp [dLat, g4]) ?_ ?_ | (refine st_gef0 ?_ ?_; focus (conv => (lhs; simp [dLat, g4])); done) | refine sE (by conv => lhs; simp) ?_ | refine Nx.go ?_ | refine st_blke' (by decide) ?_ | refine st_seq ?_ | refine st_blk ?_ | refine st_cond (by conv => lhs; simp) (by conv => lhs; simp [dLat, g4]) ?_ ?_ ?_ | refine st_lexit ?_) | (intro h_; try simp only [reduceCtorEq, y1, y2, y3, y4, y5, y6, y7, y8, y9, z1, z2, z3, z4, z5, z6, z7, ne_eq] at h_))
      all_goals try (first | contradiction | exact True.intro | omega | rfl | (simp [AV.fits, AV.cells, AV.one, DV.fits, DV.cells, DV.one, DV.conf, confL, DV.conf1]; done) | (simp [AV.fits, AV.cells, AV.one, DV.fits, DV.cells, DV.one, DV.conf, confL, DV.conf1, *] <;> omega))
      exact atEnd_pure ⟨trivial, trivial⟩ (hne (aa[k]? = ba[k]?) (fun e => congrArg (fun l => l.arcs[k]?) e) (by rw [List.getElem?_eq_getElem hkl, List.getElem?_eq_getElem hkb]; simpa using g4)) rfl
    repeat' (first | (with_reducible first | refine st_reg ?_ | refine sN (by conv => lhs; simp [dLat, g4, hw]) ?_ | refine rN ?_ ?_ | refine rO ?_ ?_ | refine rF ?_ ?_ | refine sG (by conv => lhs; simp [dLat, g4, hw]) ?_ | refine gF ?_ | refine gS rfl (by conv => lhs; simp [dLat, g4, hw]) ?_ ?_ | (refine st_gef0 ?_ ?_; focus (conv => (lhs; simp [dLat, g4, hw])); done) | refine sE (by conv => lhs; simp) ?_ | refine Nx.go ?_ | refine st_blke' (by decide) ?_ | refine st_seq ?_ | refine st_blk ?_ | refine st_cond (by conv => lhs; simp) (by conv => lhs; simp [dLat, g4, hw]) ?_ ?_ ?_ | refine st_lexit ?_) | (intro h_; try simp only [reduceCtorEq, y1, y2, y3, y4, y5, y6, y7, y8, y9, z1, z2, z3, z4, z5, z6, z7, ne_eq] at h_))
    all_goals try (first | contradiction | exact True.intro | omega | rfl | (simp [AV.fits, AV.cells, AV.one, DV.fits, DV.cells, DV.one, DV.conf, confL, DV.conf1]; done) | (simp [AV.fits, AV.cells, AV.one, DV.fits, DV.cells, DV.one, DV.conf, confL, DV.conf1, *] <;> omega))
    exact st_lnormw (ys := [.d (dLat ⟨as1, aa, af⟩), .d (dLat ⟨as1, ba, af⟩), .ptr 0 0 0, .ptr 1 0 0, .d (.bool false), .d (.int .i64 (k + 1 : Nat)), .undef, .undef, .undef]) (by simp [weak]) ⟨k + 1, _, _, by omega, take_succ_eq hkl hkb htk g4, rfl⟩ (by simp [St.int]; omega)
  · have hkn : k = aa.length := by omega
    subst hkn
    rw [List.take_length, g2, List.take_length] at htk
    repeat' (first | (with_reducible first | refine st_reg ?_ | refine sN (by conv => lhs; simp [dLat, hkl]) ?_ | refine rN ?_ ?_ | refine rO ?_ ?_ | refine rF ?_ ?_ | refine sG (by conv => lhs; simp [dLat, hkl]) ?_ | refine gF ?_ | refine gS rfl (by conv => lhs; simp [dLat, hkl]) ?_ ?_ | (refine st_gef0 ?_ ?_; focus (conv => (lhs; simp [dLat, hkl])); done) | refine sE (by conv => lhs; simp) ?_ | refine Nx.go ?_ | refine st_blke' (by decide) ?_ | refine st_seq ?_ | refine st_blk ?_ | refine st_cond (by conv => lhs; simp) (by conv => lhs; simp [dLat, hkl]) ?_ ?_ ?_ | refine st_lexit ?_) | (intro h_; try simp only [reduceCtorEq, y1, y2, y3, y4, y5, y6, y7, y8, y9, z1, z2, z3, z4, z5, z6, z7, ne_eq] at h_))
    all_goals try (first | contradiction | exact True.intro | omega | rfl | (simp [AV.fits, AV.cells, AV.one, DV.fits, DV.cells, DV.one, DV.conf, confL, DV.conf1]; done) | (simp [AV.fits, AV.cells, AV.one, DV.fits, DV.cells, DV.one, DV.conf, confL, DV.conf1, *] <;> omega))
    refine atEnd_pure ⟨trivial, trivial⟩ ?_ rfl
    rw [decide_eq_true (by rw [htk])]; rfl
end Go.Vm.L
