/- Lattice: the builder adds. -/
import Derived.Test.YtibpfnjbgojfoaaDoorZdG
set_option linter.all false
set_option maxHeartbeats 4000000
namespace Go.Vm.L
open Go Go.Vm

def getM : List (Key × Arc) → Key → Option Arc
  | [], _ => none
  | (k, a) :: r, x => if x = k then some a else getM r x
def setM : List (Key × Arc) → Key → Arc → List (Key × Arc)
  | [], x, v => [(x, v)]
  | (k, a) :: r, x, v => if x = k then (x, v) :: r else (k, a) :: setM r x v
def keyOf (a : Arc) : Key := ⟨a.frm, a.to, a.term⟩
def addM (M : List (Key × Arc)) (a : Arc) : List (Key × Arc) :=
  if a.cost < 1099511627776 then match getM M (keyOf a) with
    | none => setM M (keyOf a) a
    | some old => if a.cost < old.cost then setM M (keyOf a) a else M
  else M
theorem eqk_key (a b : Key) : (dKey a).eqk (dKey b) = decide (a = b) := by
  cases a; cases b
  simp only [dKey, DV.eqk, eqL, eq1, Bool.and_true]
  rw [Bool.eq_iff_iff]
  simp
theorem get_mapV (k : Key) : ∀ M : List (Key × Arc), assocGet (mapV M) (dKey k) = (getM M k).map fun a => AV.d (dArc a)
  | [] => rfl
  | (k', a) :: r => by
    have ih := get_mapV k r
    simp only [mapV] at ih ⊢
    simp only [List.map_cons, assocGet, eqk_key, getM, ih]
    by_cases h : k = k' <;> simp [h]
theorem set_mapV (k : Key) (a : Arc) : ∀ M : List (Key × Arc), assocSet (mapV M) (dKey k) (.d (dArc a)) = mapV (setM M k a)
  | [] => rfl
  | (k', a') :: r => by
    have ih := set_mapV k a r
    simp only [mapV] at ih ⊢
    simp only [List.map_cons, assocSet, eqk_key, setM, ih]
    by_cases h : k = k' <;> simp [h]

theorem add48 (x : Inp) (M : List (Key × Arc)) (a : Arc) :
    Fn prog 35 [.ptr 0 0 0, .d (dArc a)] (BH x M) (fun r H' => r = .tup [] ∧ H' = BH x (addM M a)) := by
  refine fn_of e35 hm (by rfl) (vs := [.ptr 0 0 0, .d (dArc a), .undef, .undef, .undef, .undef, .undef]) rfl ?_
  unfold c35 BH bldO mapO
  have hgM := get_mapV ⟨a.frm, a.to, a.term⟩ M
  simp only [dKey] at hgM
  obtain ⟨v4, hv4, hv4f, hv4s, hv4o⟩ : ∃ v4 : AV, v4 = (Option.map (fun a => AV.d (dArc a)) (getM M ⟨a.frm, a.to, a.term⟩)).getD (.agg [.d (.int .i64 0), .d (.int .i64 0), .d (.int .i64 0), .d (.int .i64 0), .nils]) ∧ v4.fits 5 = true ∧ v4.strip = v4 ∧ v4.sob := by
    refine ⟨_, rfl, ?_⟩
    cases getM M ⟨a.frm, a.to, a.term⟩ <;> exact ⟨rfl, rfl, trivial⟩
  simp only [dArc] at hv4 hgM
  repeat' (first | (with_reducible first | refine st_reg ?_ | refine sN (by conv => lhs; simp [litV, litE, litOb, toDL, AV.toD, AV.norm, List.replicate, fillC, fillOb, AV.mkAgg, AV.allD, AV.cells, DV.cells, dArc]) ?_ | refine rN ?_ ?_ | refine rO ?_ ?_ | refine rF ?_ ?_ | refine sG (by conv => lhs; simp [litV, litE, litOb, toDL, AV.toD, AV.norm, List.replicate, fillC, fillOb, AV.mkAgg, AV.allD, AV.cells, DV.cells, dArc]) ?_ | refine gF ?_ | refine gS rfl (by conv => lhs; simp [litV, litE, litOb, toDL, AV.toD, AV.norm, List.replicate, fillC, fillOb, AV.mkAgg, AV.allD, AV.cells, DV.cells, dArc]) ?_ ?_ | (refine st_gef0 ?_ ?_; focus (conv => (lhs; simp [litV, litE, litOb, toDL, AV.toD, AV.norm, List.replicate, fillC, fillOb, AV.mkAgg, AV.allD, AV.cells, DV.cells, dArc])); done) | refine sE (by conv => lhs; simp) ?_ | refine Nx.go ?_ | refine st_blke' (by decide) ?_ | refine st_seq ?_ | refine st_blk ?_ | refine st_cond (by conv => lhs; simp) (by conv => lhs; simp [litV, litE, litOb, toDL, AV.toD, AV.norm, List.replicate, fillC, fillOb, AV.mkAgg, AV.allD, AV.cells, DV.cells, dArc]) ?_ ?_ ?_ | refine st_lexit ?_) | (intro h_; try simp only [reduceCtorEq, y1, y2, y3, y4, y5, y6, y7, y8, y9, z1, z2, z3, z4, z5, z6, z7, ne_eq] at h_))
  all_goals try (first | contradiction | exact True.intro | omega | rfl | (simp [AV.fits, AV.cells, AV.one, DV.fits, DV.cells, DV.one, DV.conf, confL, DV.conf1]; done) | (simp [AV.fits, AV.cells, AV.one, DV.fits, DV.cells, DV.one, DV.conf, confL, DV.conf1, *] <;> omega))
  refine st_e (st_store ⟨by simp, trivial⟩ (by conv => lhs; simp) (by conv => lhs; simp) rfl (by simp) (by first | assumption | simp [AV.fits, DV.fits, DV.cells, DV.one]) updA_whole (by first | assumption | simp [AV.fits, DV.fits, DV.cells, DV.one]) ⟨trivial, ?_⟩); simp only [List.set_cons_zero, List.set_cons_succ]
  repeat' (first | (with_reducible first | refine st_reg ?_ | refine sN (by conv => lhs; simp [litV, litE, litOb, toDL, AV.toD, AV.norm, List.replicate, fillC, fillOb, AV.mkAgg, AV.allD, AV.cells, DV.cells, dArc, hgM, ← hv4]) ?_ | refine rN ?_ ?_ | refine rO ?_ ?_ | refine rF ?_ ?_ | refine sG (by conv => lhs; simp [litV, litE, litOb, toDL, AV.toD, AV.norm, List.replicate, fillC, fillOb, AV.mkAgg, AV.allD, AV.cells, DV.cells, dArc, hgM, ← hv4]) ?_ | refine gF ?_ | refine gS rfl (by conv => lhs; simp [litV, litE, litOb, toDL, AV.toD, AV.norm, List.replicate, fillC, fillOb, AV.mkAgg, AV.allD, AV.cells, DV.cells, dArc, hgM, ← hv4]) ?_ ?_ | (refine st_gef0 ?_ ?_; focus (conv => (lhs; simp [litV, litE, litOb, toDL, AV.toD, AV.norm, List.replicate, fillC, fillOb, AV.mkAgg, AV.allD, AV.cells, DV.cells, dArc, hgM, ← hv4])); done) | refine sE (by conv => lhs; simp) ?_ | refine Nx.go ?_ | refine st_blke' (by decide) ?_ | refine st_seq ?_ | refine st_blk ?_ | refine st_cond (by conv => lhs; simp) (by conv => lhs; simp [litV, litE, litOb, toDL, AV.toD, AV.norm, List.replicate, fillC, fillOb, AV.mkAgg, AV.allD, AV.cells, DV.cells, dArc, hgM, ← hv4]) ?_ ?_ ?_ | refine st_lexit ?_) | (intro h_; try simp only [reduceCtorEq, y1, y2, y3, y4, y5, y6, y7, y8, y9, z1, z2, z3, z4, z5, z6, z7, ne_eq] at h_))
  all_goals try (first | contradiction | exact True.intro | omega | rfl | (simp [AV.fits, AV.cells, AV.one, DV.fits, DV.cells, DV.one, DV.conf, confL, DV.conf1]; done) | (simp [AV.fits, AV.cells, AV.one, DV.fits, DV.cells, DV.one, DV.conf, confL, DV.conf1, *] <;> omega))
  refine st_e (st_store ⟨by simp [hv4s, hv4o], trivial⟩ (by conv => lhs; simp [hv4s, hv4o]) (by conv => lhs; simp [hv4s, hv4o]) rfl (by simp) (by first | assumption | simp [AV.fits, DV.fits, DV.cells, DV.one]) updA_whole (by first | assumption | simp [AV.fits, DV.fits, DV.cells, DV.one]) ⟨trivial, ?_⟩); simp only [List.set_cons_zero, List.set_cons_succ]
  have hs1 := set_mapV ⟨a.frm, a.to, a.term⟩ a M
  simp only [dKey, dArc] at hs1
  have fin : ∀ (M' : List (Key × Arc)) (H' : Heap) (vs : List AV), M' = addM M a → H'.length = 5 → H'.ob 0 = some (bldO x 1) → H'.ob 1 = some (mapO M') → AtEnd r35 (BH x M) (fun r H' => r = .tup [] ∧ H' = BH x (addM M a)) ⟨vs, H'⟩ := by
    rintro M' H' vs rfl hl h0 h1
    exact atEnd_H 2 (Gh.refl _) trivial (Nat.le_refl _) (by simp; omega) (BH_und h0 h1) rfl ⟨rfl, take2 h0 h1⟩
  by_cases hc : a.cost < 1099511627776
  · cases hg : getM M ⟨a.frm, a.to, a.term⟩ with
    | none =>
      simp only [hg, Option.map_none, Option.getD_none] at hv4 hgM
      subst hv4
      have hadd : addM M a = setM M ⟨a.frm, a.to, a.term⟩ a := by simp [addM, hc, keyOf, hg]
      repeat' (first | (with_reducible first | refine st_reg ?_ | refine sN (by conv => lhs; simp [litV, litE, litOb, toDL, AV.toD, AV.norm, List.replicate, fillC, fillOb, AV.mkAgg, AV.allD, AV.cells, DV.cells, dArc, hg, hc]) ?_ | refine rN ?_ ?_ | refine rO ?_ ?_ | refine rF ?_ ?_ | refine sG (by conv => lhs; simp [litV, litE, litOb, toDL, AV.toD, AV.norm, List.replicate, fillC, fillOb, AV.mkAgg, AV.allD, AV.cells, DV.cells, dArc, hg, hc]) ?_ | refine gF ?_ | refine gS rfl (by conv => lhs; simp [litV, litE, litOb, toDL, AV.toD, AV.norm, List.replicate, fillC, fillOb, AV.mkAgg, AV.allD, AV.cells, DV.cells, dArc, hg, hc]) ?_ ?_ | (refine st_gef0 ?_ ?_; focus (conv => (lhs; simp [litV, litE, litOb, toDL, AV.toD, AV.norm, List.replicate, fillC, fillOb, AV.mkAgg, AV.allD, AV.cells, DV.cells, dArc, hg, hc])); done) | refine sE (by conv => lhs; simp) ?_ | refine Nx.go ?_ | refine st_blke' (by decide) ?_ | refine st_seq ?_ | refine st_blk ?_ | refine st_cond (by conv => lhs; simp) (by conv => lhs; simp [litV, litE, litOb, toDL, AV.toD, AV.norm, List.replicate, fillC, fillOb, AV.mkAgg, AV.allD, AV.cells, DV.cells, dArc, hg, hc]) ?_ ?_ ?_ | refine st_lexit ?_) | (intro h_; try simp only [reduceCtorEq, y1, y2, y3, y4, y5, y6, y7, y8, y9, z1, z2, z3, z4, z5, z6, z7, ne_eq] at h_))
      all_goals try (first | contradiction | exact True.intro | omega | rfl | (simp [AV.fits, AV.cells, AV.one, DV.fits, DV.cells, DV.one, DV.conf, confL, DV.conf1]; done) | (simp [AV.fits, AV.cells, AV.one, DV.fits, DV.cells, DV.one, DV.conf, confL, DV.conf1, *] <;> omega))
      refine st_e (st_mapUpd (by simp) (by conv => lhs; simp) (by conv => lhs; simp) (by conv => lhs; simp) rfl rfl ?_)
      repeat' (first | (with_reducible first | refine st_reg ?_ | refine sN (by conv => lhs; simp [dArc]) ?_ | refine rN ?_ ?_ | refine rO ?_ ?_ | refine rF ?_ ?_ | refine sG (by conv => lhs; simp [dArc]) ?_ | refine gF ?_ | refine gS rfl (by conv => lhs; simp [dArc]) ?_ ?_ | (refine st_gef0 ?_ ?_; focus (conv => (lhs; simp [dArc])); done) | refine sE (by conv => lhs; simp) ?_ | refine Nx.go ?_ | refine st_blke' (by decide) ?_ | refine st_seq ?_ | refine st_blk ?_ | refine st_cond (by conv => lhs; simp) (by conv => lhs; simp [dArc]) ?_ ?_ ?_ | refine st_lexit ?_) | (intro h_; try simp only [reduceCtorEq, y1, y2, y3, y4, y5, y6, y7, y8, y9, z1, z2, z3, z4, z5, z6, z7, ne_eq] at h_))
      all_goals try (first | contradiction | exact True.intro | omega | rfl | (simp [AV.fits, AV.cells, AV.one, DV.fits, DV.cells, DV.one, DV.conf, confL, DV.conf1]; done) | (simp [AV.fits, AV.cells, AV.one, DV.fits, DV.cells, DV.one, DV.conf, confL, DV.conf1, *] <;> omega))
      exact fin (addM M a) _ _ rfl rfl rfl (by rw [hadd, mapO, ← hs1]; rfl)
    | some old =>
      simp only [hg, Option.map_some, Option.getD_some] at hv4 hgM
      subst hv4
      by_cases hlt : a.cost < old.cost
      · have hadd : addM M a = setM M ⟨a.frm, a.to, a.term⟩ a := by simp [addM, hc, keyOf, hg, hlt]
        repeat' (first | (with_reducible first | refine st_reg ?_ | refine sN (by conv => lhs; simp [litV, litE, litOb, toDL, AV.toD, AV.norm, List.replicate, fillC, fillOb, AV.mkAgg, AV.allD, AV.cells, DV.cells, dArc, hg, hc, hlt]) ?_ | refine rN ?_ ?_ | refine rO ?_ ?_ | refine rF ?_ ?_ | refine sG (by conv => lhs; simp [litV, litE, litOb, toDL, AV.toD, AV.norm, List.replicate, fillC, fillOb, AV.mkAgg, AV.allD, AV.cells, DV.cells, dArc, hg, hc, hlt]) ?_ | refine gF ?_ | refine gS rfl (by conv => lhs; simp [litV, litE, litOb, toDL, AV.toD, AV.norm, List.replicate, fillC, fillOb, AV.mkAgg, AV.allD, AV.cells, DV.cells, dArc, hg, hc, hlt]) ?_ ?_ | (refine st_gef0 ?_ ?_; focus (conv => (lhs; simp [litV, litE, litOb, toDL, AV.toD, AV.norm, List.replicate, fillC, fillOb, AV.mkAgg, AV.allD, AV.cells, DV.cells, dArc, hg, hc, hlt])); done) | refine sE (by conv => lhs; simp) ?_ | refine Nx.go ?_ | refine st_blke' (by decide) ?_ | refine st_seq ?_ | refine st_blk ?_ | refine st_cond (by conv => lhs; simp) (by conv => lhs; simp [litV, litE, litOb, toDL, AV.toD, AV.norm, List.replicate, fillC, fillOb, AV.mkAgg, AV.allD, AV.cells, DV.cells, dArc, hg, hc, hlt]) ?_ ?_ ?_ | refine st_lexit ?_) | (intro h_; try simp only [reduceCtorEq, y1, y2, y3, y4, y5, y6, y7, y8, y9, z1, z2, z3, z4, z5, z6, z7, ne_eq] at h_))
        all_goals try (first | contradiction | exact True.intro | omega | rfl | (simp [AV.fits, AV.cells, AV.one, DV.fits, DV.cells, DV.one, DV.conf, confL, DV.conf1]; done) | (simp [AV.fits, AV.cells, AV.one, DV.fits, DV.cells, DV.one, DV.conf, confL, DV.conf1, *] <;> omega))
        refine st_e (st_mapUpd (by simp) (by conv => lhs; simp) (by conv => lhs; simp) (by conv => lhs; simp) rfl rfl ?_)
        repeat' (first | (with_reducible first | refine st_reg ?_ | refine sN (by conv => lhs; simp [dArc]) ?_ | refine rN ?_ ?_ | refine rO ?_ ?_ | refine rF ?_ ?_ | refine sG (by conv => lhs; simp [dArc]) ?_ | refine gF ?_ | refine gS rfl (by conv => lhs; simp [dArc]) ?_ ?_ | (refine st_gef0 ?_ ?_; focus (conv => (lhs; simp [dArc])); done) | refine sE (by conv => lhs; simp) ?_ | refine Nx.go ?_ | refine st_blke' (by decide) ?_ | refine st_seq ?_ | refine st_blk ?_ | refine st_cond (by conv => lhs; simp) (by conv => lhs; simp [dArc]) ?_ ?_ ?_ | refine st_lexit ?_) | (intro h_; try simp only [reduceCtorEq, y1, y2, y3, y4, y5, y6, y7, y8, y9, z1, z2, z3, z4, z5, z6, z7, ne_eq] at h_))
        all_goals try (first | contradiction | exact True.intro | omega | rfl | (simp [AV.fits, AV.cells, AV.one, DV.fits, DV.cells, DV.one, DV.conf, confL, DV.conf1]; done) | (simp [AV.fits, AV.cells, AV.one, DV.fits, DV.cells, DV.one, DV.conf, confL, DV.conf1, *] <;> omega))
        exact fin (addM M a) _ _ rfl rfl rfl (by rw [hadd, mapO, ← hs1]; rfl)
      · have hadd : addM M a = M := by simp [addM, hc, keyOf, hg, hlt]
        have hlt' : ¬ a.cost < old.cost := by omega
        repeat' (first | (with_reducible first | refine st_reg ?_ | refine sN (by conv => lhs; simp [litV, litE, litOb, toDL, AV.toD, AV.norm, List.replicate, fillC, fillOb, AV.mkAgg, AV.allD, AV.cells, DV.cells, dArc, hg, hc, hlt']) ?_ | refine rN ?_ ?_ | refine rO ?_ ?_ | refine rF ?_ ?_ | refine sG (by conv => lhs; simp [litV, litE, litOb, toDL, AV.toD, AV.norm, List.replicate, fillC, fillOb, AV.mkAgg, AV.allD, AV.cells, DV.cells, dArc, hg, hc, hlt']) ?_ | refine gF ?_ | refine gS rfl (by conv => lhs; simp [litV, litE, litOb, toDL, AV.toD, AV.norm, List.replicate, fillC, fillOb, AV.mkAgg, AV.allD, AV.cells, DV.cells, dArc, hg, hc, hlt']) ?_ ?_ | (refine st_gef0 ?_ ?_; focus (conv => (lhs; simp [litV, litE, litOb, toDL, AV.toD, AV.norm, List.replicate, fillC, fillOb, AV.mkAgg, AV.allD, AV.cells, DV.cells, dArc, hg, hc, hlt'])); done) | refine sE (by conv => lhs; simp) ?_ | refine Nx.go ?_ | refine st_blke' (by decide) ?_ | refine st_seq ?_ | refine st_blk ?_ | refine st_cond (by conv => lhs; simp) (by conv => lhs; simp [litV, litE, litOb, toDL, AV.toD, AV.norm, List.replicate, fillC, fillOb, AV.mkAgg, AV.allD, AV.cells, DV.cells, dArc, hg, hc, hlt']) ?_ ?_ ?_ | refine st_lexit ?_) | (intro h_; try simp only [reduceCtorEq, y1, y2, y3, y4, y5, y6, y7, y8, y9, z1, z2, z3, z4, z5, z6, z7, ne_eq] at h_))
        all_goals try (first | contradiction | exact True.intro | omega | rfl | (simp [AV.fits, AV.cells, AV.one, DV.fits, DV.cells, DV.one, DV.conf, confL, DV.conf1]; done) | (simp [AV.fits, AV.cells, AV.one, DV.fits, DV.cells, DV.one, DV.conf, confL, DV.conf1, *] <;> omega))
        exact fin (addM M a) _ _ rfl rfl rfl (by rw [hadd]; rfl)
  · have hadd : addM M a = M := by simp [addM, hc]
    have hc' : ¬ a.cost < 1099511627776 := by omega
    repeat' (first | (with_reducible first | refine st_reg ?_ | refine sN (by conv => lhs; simp [litV, litE, litOb, toDL, AV.toD, AV.norm, List.replicate, fillC, fillOb, AV.mkAgg, AV.allD, AV.cells, DV.cells, dArc, hc']) ?_ | refine rN ?_ ?_ | refine rO ?_ ?_ | refine rF ?_ ?_ | refine sG (by conv => lhs; simp [litV, litE, litOb, toDL, AV.toD, AV.norm, List.replicate, fillC, fillOb, AV.mkAgg, AV.allD, AV.cells, DV.cells, dArc, hc']) ?_ | refine gF ?_ | refine gS rfl (by conv => lhs; simp [litV, litE, litOb, toDL, AV.toD, AV.norm, List.replicate, fillC, fillOb, AV.mkAgg, AV.allD, AV.cells, DV.cells, dArc, hc']) ?_ ?_ | (refine st_gef0 ?_ ?_; focus (conv => (lhs; simp [litV, litE, litOb, toDL, AV.toD, AV.norm, List.replicate, fillC, fillOb, AV.mkAgg, AV.allD, AV.cells, DV.cells, dArc, hc'])); done) | refine sE (by conv => lhs; simp) ?_ | refine Nx.go ?_ | refine st_blke' (by decide) ?_ | refine st_seq ?_ | refine st_blk ?_ | refine st_cond (by conv => lhs; simp) (by conv => lhs; simp [litV, litE, litOb, toDL, AV.toD, AV.norm, List.replicate, fillC, fillOb, AV.mkAgg, AV.allD, AV.cells, DV.cells, dArc, hc']) ?_ ?_ ?_ | refine st_lexit ?_) | (intro h_; try simp only [reduceCtorEq, y1, y2, y3, y4, y5, y6, y7, y8, y9, z1, z2, z3, z4, z5, z6, z7, ne_eq] at h_))
    all_goals try (first | contradiction | exact True.intro | omega | rfl | (simp [AV.fits, AV.cells, AV.one, DV.fits, DV.cells, DV.one, DV.conf, confL, DV.conf1]; done) | (simp [AV.fits, AV.cells, AV.one, DV.fits, DV.cells, DV.one, DV.conf, confL, DV.conf1, *] <;> omega))
    exact fin (addM M a) _ _ rfl rfl rfl (by rw [hadd]; rfl)
end Go.Vm.L
