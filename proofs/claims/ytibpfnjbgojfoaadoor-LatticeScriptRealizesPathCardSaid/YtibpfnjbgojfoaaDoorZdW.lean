/- Lattice: the reference's paths and scripts. -/
import Derived.Test.YtibpfnjbgojfoaaDoorZdO
import Derived.Test.YtibpfnjbgojfoaaDoorZdIr4
import Derived.Test.YtibpfnjbgojfoaaDoorZdE
set_option linter.all false
set_option maxHeartbeats 8000000
namespace Go.Vm.L
open Go Go.Vm

def pathC (l : Lat) : List Int → Int → Int → Option (Int × Int)
  | [], s, c => some (s, c)
  | i :: r, s, c => if i < 0 then none else match l.arcs[i.toNat]? with
    | none => none
    | some a => if a.frm ≠ s then none else pathC l r a.to (addW c a.cost)
theorem pathC_append (l : Lat) : ∀ (p q : List Int) (s c : Int), pathC l (p ++ q) s c = (pathC l p s c).bind fun x => pathC l q x.1 x.2
  | [], q, s, c => rfl
  | i :: r, q, s, c => by
    simp only [List.cons_append, pathC]
    split
    · rfl
    · split
      · rfl
      · split
        · rfl
        · exact pathC_append l r q _ _
theorem pathC_to (l : Lat) : ∀ (p : List Int) (s c : Int) (ops : List Op), (pathC l p s c).map (·.1) = (pathTo l p s ops).map (·.1)
  | [], s, c, ops => rfl
  | i :: r, s, c, ops => by
    simp only [pathC, pathTo]
    by_cases h1 : i < 0
    · rw [if_pos h1, if_pos h1]; rfl
    · rw [if_neg h1, if_neg h1]
      cases h2 : l.arcs[i.toNat]? with
      | none => rfl
      | some a =>
        by_cases h3 : a.frm ≠ s
        · simp only [if_pos h3]; rfl
        · simp only [if_neg h3]; exact pathC_to l r _ _ _
def pathL (l : Lat) (path : List Int) : Int × Int × Bool := match pathC l path 0 0 with
  | none => (0, 0, false)
  | some (s, c) => if l.final.getD s.toNat 0 ≥ 1099511627776 then (0, 0, false) else (s, addW c (l.final.getD s.toNat 0), true)
@[simp] def dPath (r : Int × Int × Bool) : AV := .tup [.d (.int .i64 r.1), .d (.int .i64 r.2.1), .d (.bool r.2.2)]

theorem atEnd_tup3 {P3 : AV → Heap → Prop} {vs : List AV} {H : Heap} {a b c : Nat} {x y z : DV} {r : AV} (h1 : vs[a]? = some (.d x)) (h2 : vs[b]? = some (.d y)) (h3 : vs[c]? = some (.d z)) (hr : AV.tup [.d x, .d y, .d z] = r) :
    AtEnd [.tmp a, .tmp b, .tmp c] [] (fun r' H' => r' = r ∧ H' = []) ⟨vs, H⟩ := by
  have er : resV ⟨vs, H⟩ [.tmp a, .tmp b, .tmp c] = .tup [.d x, .d y, .d z] := by
    show AV.tup [vs.getD a .undef, vs.getD b .undef, vs.getD c .undef] = _
    simp [List.getD_eq_getElem?_getD, h1, h2, h3]
  exact ⟨_, Gh.refl _, ⟨trivial, trivial, trivial, trivial⟩, 0, Nat.le_refl _, Nat.zero_le _, fun i o h => absurd h (Nat.not_lt_zero _), by rw [er]; rfl, er.trans hr, by simp⟩

theorem Path40 (l : Lat) (path : List Int) (hl : WS l) (hp : path.length < 1000) :
    Fn prog 10 [.d (dLat l), .d (.vs (path.map dI))] [] (fun r H' => r = dPath (pathL l path) ∧ H' = []) := by
  have hn1 := hl.n1
  have hn2 := hl.n2
  have han := hl.an
  refine fn_of e10 hm (by rfl) (vs := [.d (dLat l), .d (.vs (path.map dI)), .undef, .undef, .undef, .undef, .undef, .undef, .undef, .undef, .undef, .undef]) rfl ?_
  unfold c10
  have fail : ∀ (vs : List AV) (H : Heap), pathL l path = (0, 0, false) → vs[3]? = some (.d (.int .i64 0)) → vs[4]? = some (.d (.int .i64 0)) → vs[5]? = some (.d (.bool false)) → AtEnd r10 [] (fun r H' => r = dPath (pathL l path) ∧ H' = []) ⟨vs, H⟩ := by
    intro vs H hs h3 h4 h5
    rw [hs]
    exact atEnd_tup3 (P3 := fun _ _ => True) h3 h4 h5 rfl
  repeat' (first | (with_reducible first | refine st_reg ?_ | refine sN (by conv => lhs; simp [litV, litE, litOb, toDL, AV.toD, AV.norm, List.replicate, fillC, fillOb, AV.mkAgg, AV.allD, AV.cells, DV.cells, dLat]) ?_ | refine rN ?_ ?_ | refine rO ?_ ?_ | refine rF ?_ ?_ | refine sG (by conv => lhs; simp [litV, litE, litOb, toDL, AV.toD, AV.norm, List.replicate, fillC, fillOb, AV.mkAgg, AV.allD, AV.cells, DV.cells, dLat]) ?_ | refine gF ?_ | refine gS rfl (by conv => lhs; simp [litV, litE, litOb, toDL, AV.toD, AV.norm, List.replicate, fillC, fillOb, AV.mkAgg, AV.allD, AV.cells, DV.cells, dLat]) ?_ ?_ | (refine st_gef0 ?_ ?_; focus (conv => (lhs; simp [litV, litE, litOb, toDL, AV.toD, AV.norm, List.replicate, fillC, fillOb, AV.mkAgg, AV.allD, AV.cells, DV.cells, dLat])); done) | refine sE (by conv => lhs; simp) ?_ | refine Nx.go ?_ | refine st_blke' (by decide) ?_ | refine st_seq ?_ | refine st_blk ?_ | refine st_cond (by conv => lhs; simp) (by conv => lhs; simp [litV, litE, litOb, toDL, AV.toD, AV.norm, List.replicate, fillC, fillOb, AV.mkAgg, AV.allD, AV.cells, DV.cells, dLat]) ?_ ?_ ?_ | refine st_lexit ?_) | (intro h_; try simp only [reduceCtorEq, y1, y2, y3, y4, y5, y6, y7, y8, y9, z1, z2, z3, z4, z5, z6, z7, ne_eq] at h_))
  all_goals try (first | contradiction | exact True.intro | omega | rfl | (simp [AV.fits, AV.cells, AV.one, DV.fits, DV.cells, DV.one, DV.conf, confL, DV.conf1]; done) | (simp [AV.fits, AV.cells, AV.one, DV.fits, DV.cells, DV.one, DV.conf, confL, DV.conf1, *] <;> omega))
  refine wpC_loop (fun s => ∃ (k : Nat) (st c : Int), k ≤ path.length ∧ pathC l (path.take k) 0 0 = some (st, c) ∧ s = ⟨[.d (dLat l), .d (.vs (path.map dI)), .ptr 0 0 0, .d (.int .i64 0), .d (.int .i64 0), .d (.bool false), .d (.int .i64 st), .d (.int .i64 c), .d (.int .i64 k), .undef, .undef, .undef], [some (.arr 3 [.d (dLat l)])]⟩)
    (fun s => path.length - (s.int 8).toNat)
    (s' := ⟨[.d (dLat l), .d (.vs (path.map dI)), .ptr 0 0 0, .d (.int .i64 0), .d (.int .i64 0), .d (.bool false), .d (.int .i64 0), .d (.int .i64 0), .d (.int .i64 (0 : Nat)), .undef, .undef, .undef], [some (.arr 3 [.d (dLat l)])]⟩)
    (Gh.weak (by simp [weak])) ⟨0, 0, 0, by omega, rfl, rfl⟩ ?_
  rintro _ ⟨k, st, c, hk, hpt, rfl⟩
  have hbd : 0 ≤ st ∧ st < l.final.length := by
    have h1 := pathC_to l (path.take k) 0 0 []
    rw [hpt] at h1
    cases h2 : pathTo l (path.take k) 0 [] with
    | none => rw [h2] at h1; cases h1
    | some z =>
      obtain ⟨s', ops'⟩ := z
      rw [h2] at h1
      simp at h1
      subst h1
      have := pathTo_bd hl _ _ _ _ _ (Int.le_refl 0) (by omega) h2
      exact ⟨this.1, this.2.1⟩
  have hw : IntKind.i64.wrap ((k : Int) + 1) = ((k + 1 : Nat) : Int) := by rw [wrap64 (by omega) (by omega)]; simp
  rcases Nat.lt_or_ge k path.length with hlt | hlt
  · obtain ⟨i, hi⟩ : ∃ i, i = path[k] := ⟨_, rfl⟩
    have hsplit : path = path.take k ++ (i :: path.drop (k + 1)) := by
      rw [hi, ← List.drop_eq_getElem_cons hlt, List.take_append_drop]
    have hall : pathC l path 0 0 = pathC l (i :: path.drop (k + 1)) st c := by
      rw [hsplit, pathC_append, ← hsplit, hpt]; rfl
    have hnx : pathC l (path.take (k + 1)) 0 0 = pathC l [i] st c := by
      rw [List.take_add_one, List.getElem?_eq_getElem hlt, pathC_append, hpt, hi]; rfl
    clear hsplit
    by_cases hneg : i < 0
    · skip
      repeat' (first | (with_reducible first | refine st_reg ?_ | refine sN (by conv => lhs; simp [litV, litE, litOb, toDL, AV.toD, AV.norm, List.replicate, fillC, fillOb, AV.mkAgg, AV.allD, AV.cells, DV.cells, dLat, getD_map_lt, hlt, dI, ← hi, hneg]) ?_ | refine rN ?_ ?_ | refine rO ?_ ?_ | refine rF ?_ ?_ | refine sG (by conv => lhs; simp [litV, litE, litOb, toDL, AV.toD, AV.norm, List.replicate, fillC, fillOb, AV.mkAgg, AV.allD, AV.cells, DV.cells, dLat, getD_map_lt, hlt, dI, ← hi, hneg]) ?_ | refine gF ?_ | refine gS rfl (by conv => lhs; simp [litV, litE, litOb, toDL, AV.toD, AV.norm, List.replicate, fillC, fillOb, AV.mkAgg, AV.allD, AV.cells, DV.cells, dLat, getD_map_lt, hlt, dI, ← hi, hneg]) ?_ ?_ | (refine st_gef0 ?_ ?_; focus (conv => (lhs; simp [litV, litE, litOb, toDL, AV.toD, AV.norm, List.replicate, fillC, fillOb, AV.mkAgg, AV.allD, AV.cells, DV.cells, dLat, getD_map_lt, hlt, dI, ← hi, hneg])); done) | refine sE (by conv => lhs; simp) ?_ | refine Nx.go ?_ | refine st_blke' (by decide) ?_ | refine st_seq ?_ | refine st_blk ?_ | refine st_cond (by conv => lhs; simp) (by conv => lhs; simp [litV, litE, litOb, toDL, AV.toD, AV.norm, List.replicate, fillC, fillOb, AV.mkAgg, AV.allD, AV.cells, DV.cells, dLat, getD_map_lt, hlt, dI, ← hi, hneg]) ?_ ?_ ?_ | refine st_lexit ?_) | (intro h_; try simp only [reduceCtorEq, y1, y2, y3, y4, y5, y6, y7, y8, y9, z1, z2, z3, z4, z5, z6, z7, ne_eq] at h_))
      all_goals try (first | contradiction | exact True.intro | omega | rfl | (simp [AV.fits, AV.cells, AV.one, DV.fits, DV.cells, DV.one, DV.conf, confL, DV.conf1]; done) | (simp [AV.fits, AV.cells, AV.one, DV.fits, DV.cells, DV.one, DV.conf, confL, DV.conf1, *] <;> omega))
      exact fail _ _ (by simp [pathL, hall, pathC, hneg]) rfl rfl rfl
    · obtain ⟨q, hq⟩ : ∃ q : Nat, i = q := ⟨i.toNat, by omega⟩
      have hnq : ¬ (q : Int) < 0 := by omega
      rw [hq] at hi hall hnx
      rcases Nat.lt_or_ge q l.arcs.length with hql | hql
      · have haq : l.arcs[q]? = some l.arcs[q] := List.getElem?_eq_getElem hql
        have hql2 : ¬ l.arcs.length ≤ q := by omega
        obtain ⟨a, hae⟩ : ∃ a, a = l.arcs[q] := ⟨_, rfl⟩
        rw [← hae] at haq
        by_cases hfr : a.frm = st
        · have hnx2 : pathC l (path.take (k + 1)) 0 0 = some (a.to, addW c a.cost) := by
            rw [hnx]; simp [pathC, haq, hfr]
          repeat' (first | (with_reducible first | refine st_reg ?_ | refine sN (by conv => lhs; simp [litV, litE, litOb, toDL, AV.toD, AV.norm, List.replicate, fillC, fillOb, AV.mkAgg, AV.allD, AV.cells, DV.cells, dLat, getD_map_lt, hlt, dI, ← hi, hnq, hql, hql2, dArc, ← hae, hfr]) ?_ | refine rN ?_ ?_ | refine rO ?_ ?_ | refine rF ?_ ?_ | refine sG (by conv => lhs; simp [litV, litE, litOb, toDL, AV.toD, AV.norm, List.replicate, fillC, fillOb, AV.mkAgg, AV.allD, AV.cells, DV.cells, dLat, getD_map_lt, hlt, dI, ← hi, hnq, hql, hql2, dArc, ← hae, hfr]) ?_ | refine gF ?_ | refine gS rfl (by conv => lhs; simp [litV, litE, litOb, toDL, AV.toD, AV.norm, List.replicate, fillC, fillOb, AV.mkAgg, AV.allD, AV.cells, DV.cells, dLat, getD_map_lt, hlt, dI, ← hi, hnq, hql, hql2, dArc, ← hae, hfr]) ?_ ?_ | (refine st_gef0 ?_ ?_; focus (conv => (lhs; simp [litV, litE, litOb, toDL, AV.toD, AV.norm, List.replicate, fillC, fillOb, AV.mkAgg, AV.allD, AV.cells, DV.cells, dLat, getD_map_lt, hlt, dI, ← hi, hnq, hql, hql2, dArc, ← hae, hfr])); done) | refine sE (by conv => lhs; simp) ?_ | refine Nx.go ?_ | refine st_blke' (by decide) ?_ | refine st_seq ?_ | refine st_blk ?_ | refine st_cond (by conv => lhs; simp) (by conv => lhs; simp [litV, litE, litOb, toDL, AV.toD, AV.norm, List.replicate, fillC, fillOb, AV.mkAgg, AV.allD, AV.cells, DV.cells, dLat, getD_map_lt, hlt, dI, ← hi, hnq, hql, hql2, dArc, ← hae, hfr]) ?_ ?_ ?_ | refine st_lexit ?_) | (intro h_; try simp only [reduceCtorEq, y1, y2, y3, y4, y5, y6, y7, y8, y9, z1, z2, z3, z4, z5, z6, z7, ne_eq] at h_))
          all_goals try (first | contradiction | exact True.intro | omega | rfl | (simp [AV.fits, AV.cells, AV.one, DV.fits, DV.cells, DV.one, DV.conf, confL, DV.conf1]; done) | (simp [AV.fits, AV.cells, AV.one, DV.fits, DV.cells, DV.one, DV.conf, confL, DV.conf1, *] <;> omega))
          refine st_e (st_call (by simp [solidOk]) (by conv => lhs; simp) (add36 c a.cost) (by exact ⟨.inl rfl, .inl rfl, trivial⟩) (pendOk_refl _) ?_)
          repeat' (first | (with_reducible first | refine st_reg ?_ | refine sN (by conv => lhs; simp [hw]) ?_ | refine rN ?_ ?_ | refine rO ?_ ?_ | refine rF ?_ ?_ | refine sG (by conv => lhs; simp [hw]) ?_ | refine gF ?_ | refine gS rfl (by conv => lhs; simp [hw]) ?_ ?_ | (refine st_gef0 ?_ ?_; focus (conv => (lhs; simp [hw])); done) | refine sE (by conv => lhs; simp) ?_ | refine Nx.go ?_ | refine st_blke' (by decide) ?_ | refine st_seq ?_ | refine st_blk ?_ | refine st_cond (by conv => lhs; simp) (by conv => lhs; simp [hw]) ?_ ?_ ?_ | refine st_lexit ?_) | (intro h_; try simp only [reduceCtorEq, y1, y2, y3, y4, y5, y6, y7, y8, y9, z1, z2, z3, z4, z5, z6, z7, ne_eq] at h_))
          all_goals try (first | contradiction | exact True.intro | omega | rfl | (simp [AV.fits, AV.cells, AV.one, DV.fits, DV.cells, DV.one, DV.conf, confL, DV.conf1]; done) | (simp [AV.fits, AV.cells, AV.one, DV.fits, DV.cells, DV.one, DV.conf, confL, DV.conf1, *] <;> omega))
          refine st_lnormw (ys := [.d (dLat l), .d (.vs (path.map dI)), .ptr 0 0 0, .d (.int .i64 0), .d (.int .i64 0), .d (.bool false), .d (.int .i64 a.to), .d (.int .i64 (addW c a.cost)), .d (.int .i64 (k + 1 : Nat)), .undef, .undef, .undef]) (by simp [weak])
            ⟨k + 1, a.to, addW c a.cost, by omega, hnx2, rfl⟩ (by simp [St.int]; omega)
        · have hfb : (a.frm != st) = true := by simpa using hfr
          repeat' (first | (with_reducible first | refine st_reg ?_ | refine sN (by conv => lhs; simp [litV, litE, litOb, toDL, AV.toD, AV.norm, List.replicate, fillC, fillOb, AV.mkAgg, AV.allD, AV.cells, DV.cells, dLat, getD_map_lt, hlt, dI, ← hi, hnq, hql, hql2, dArc, ← hae, hfr, hfb]) ?_ | refine rN ?_ ?_ | refine rO ?_ ?_ | refine rF ?_ ?_ | refine sG (by conv => lhs; simp [litV, litE, litOb, toDL, AV.toD, AV.norm, List.replicate, fillC, fillOb, AV.mkAgg, AV.allD, AV.cells, DV.cells, dLat, getD_map_lt, hlt, dI, ← hi, hnq, hql, hql2, dArc, ← hae, hfr, hfb]) ?_ | refine gF ?_ | refine gS rfl (by conv => lhs; simp [litV, litE, litOb, toDL, AV.toD, AV.norm, List.replicate, fillC, fillOb, AV.mkAgg, AV.allD, AV.cells, DV.cells, dLat, getD_map_lt, hlt, dI, ← hi, hnq, hql, hql2, dArc, ← hae, hfr, hfb]) ?_ ?_ | (refine st_gef0 ?_ ?_; focus (conv => (lhs; simp [litV, litE, litOb, toDL, AV.toD, AV.norm, List.replicate, fillC, fillOb, AV.mkAgg, AV.allD, AV.cells, DV.cells, dLat, getD_map_lt, hlt, dI, ← hi, hnq, hql, hql2, dArc, ← hae, hfr, hfb])); done) | refine sE (by conv => lhs; simp) ?_ | refine Nx.go ?_ | refine st_blke' (by decide) ?_ | refine st_seq ?_ | refine st_blk ?_ | refine st_cond (by conv => lhs; simp) (by conv => lhs; simp [litV, litE, litOb, toDL, AV.toD, AV.norm, List.replicate, fillC, fillOb, AV.mkAgg, AV.allD, AV.cells, DV.cells, dLat, getD_map_lt, hlt, dI, ← hi, hnq, hql, hql2, dArc, ← hae, hfr, hfb]) ?_ ?_ ?_ | refine st_lexit ?_) | (intro h_; try simp only [reduceCtorEq, y1, y2, y3, y4, y5, y6, y7, y8, y9, z1, z2, z3, z4, z5, z6, z7, ne_eq] at h_))
          all_goals try (first | contradiction | exact True.intro | omega | rfl | (simp [AV.fits, AV.cells, AV.one, DV.fits, DV.cells, DV.one, DV.conf, confL, DV.conf1]; done) | (simp [AV.fits, AV.cells, AV.one, DV.fits, DV.cells, DV.one, DV.conf, confL, DV.conf1, *] <;> omega))
          exact fail _ _ (by simp [pathL, hall, pathC, haq, hfr]) rfl rfl rfl
      · have haq : l.arcs[q]? = none := List.getElem?_eq_none hql
        have hql' : ¬ q < l.arcs.length := by omega
        repeat' (first | (with_reducible first | refine st_reg ?_ | refine sN (by conv => lhs; simp [litV, litE, litOb, toDL, AV.toD, AV.norm, List.replicate, fillC, fillOb, AV.mkAgg, AV.allD, AV.cells, DV.cells, dLat, getD_map_lt, hlt, dI, ← hi, hnq, hql, hql']) ?_ | refine rN ?_ ?_ | refine rO ?_ ?_ | refine rF ?_ ?_ | refine sG (by conv => lhs; simp [litV, litE, litOb, toDL, AV.toD, AV.norm, List.replicate, fillC, fillOb, AV.mkAgg, AV.allD, AV.cells, DV.cells, dLat, getD_map_lt, hlt, dI, ← hi, hnq, hql, hql']) ?_ | refine gF ?_ | refine gS rfl (by conv => lhs; simp [litV, litE, litOb, toDL, AV.toD, AV.norm, List.replicate, fillC, fillOb, AV.mkAgg, AV.allD, AV.cells, DV.cells, dLat, getD_map_lt, hlt, dI, ← hi, hnq, hql, hql']) ?_ ?_ | (refine st_gef0 ?_ ?_; focus (conv => (lhs; simp [litV, litE, litOb, toDL, AV.toD, AV.norm, List.replicate, fillC, fillOb, AV.mkAgg, AV.allD, AV.cells, DV.cells, dLat, getD_map_lt, hlt, dI, ← hi, hnq, hql, hql'])); done) | refine sE (by conv => lhs; simp) ?_ | refine Nx.go ?_ | refine st_blke' (by decide) ?_ | refine st_seq ?_ | refine st_blk ?_ | refine st_cond (by conv => lhs; simp) (by conv => lhs; simp [litV, litE, litOb, toDL, AV.toD, AV.norm, List.replicate, fillC, fillOb, AV.mkAgg, AV.allD, AV.cells, DV.cells, dLat, getD_map_lt, hlt, dI, ← hi, hnq, hql, hql']) ?_ ?_ ?_ | refine st_lexit ?_) | (intro h_; try simp only [reduceCtorEq, y1, y2, y3, y4, y5, y6, y7, y8, y9, z1, z2, z3, z4, z5, z6, z7, ne_eq] at h_))
        all_goals try (first | contradiction | exact True.intro | omega | rfl | (simp [AV.fits, AV.cells, AV.one, DV.fits, DV.cells, DV.one, DV.conf, confL, DV.conf1]; done) | (simp [AV.fits, AV.cells, AV.one, DV.fits, DV.cells, DV.one, DV.conf, confL, DV.conf1, *] <;> omega))
        exact fail _ _ (by simp [pathL, hall, pathC, haq]) rfl rfl rfl
  · have hkn : k = path.length := by omega
    subst hkn
    rw [List.take_length] at hpt
    obtain ⟨q, hq⟩ : ∃ q : Nat, st = q := ⟨st.toNat, by omega⟩
    have hqn : q < l.final.length := by omega
    obtain ⟨fv, hfv⟩ : ∃ fv, fv = l.final[q] := ⟨_, rfl⟩
    have hfv2 : l.final.getD st.toNat 0 = fv := by rw [hq, hfv]; simp [List.getD_eq_getElem?_getD, hqn]
    by_cases hinf : fv ≥ 1099511627776
    · skip
      repeat' (first | (with_reducible first | refine st_reg ?_ | refine sN (by conv => lhs; simp [litV, litE, litOb, toDL, AV.toD, AV.norm, List.replicate, fillC, fillOb, AV.mkAgg, AV.allD, AV.cells, DV.cells, dLat, hlt, hq, getD_map_lt, hqn, dI, ← hfv, hinf]) ?_ | refine rN ?_ ?_ | refine rO ?_ ?_ | refine rF ?_ ?_ | refine sG (by conv => lhs; simp [litV, litE, litOb, toDL, AV.toD, AV.norm, List.replicate, fillC, fillOb, AV.mkAgg, AV.allD, AV.cells, DV.cells, dLat, hlt, hq, getD_map_lt, hqn, dI, ← hfv, hinf]) ?_ | refine gF ?_ | refine gS rfl (by conv => lhs; simp [litV, litE, litOb, toDL, AV.toD, AV.norm, List.replicate, fillC, fillOb, AV.mkAgg, AV.allD, AV.cells, DV.cells, dLat, hlt, hq, getD_map_lt, hqn, dI, ← hfv, hinf]) ?_ ?_ | (refine st_gef0 ?_ ?_; focus (conv => (lhs; simp [litV, litE, litOb, toDL, AV.toD, AV.norm, List.replicate, fillC, fillOb, AV.mkAgg, AV.allD, AV.cells, DV.cells, dLat, hlt, hq, getD_map_lt, hqn, dI, ← hfv, hinf])); done) | refine sE (by conv => lhs; simp) ?_ | refine Nx.go ?_ | refine st_blke' (by decide) ?_ | refine st_seq ?_ | refine st_blk ?_ | refine st_cond (by conv => lhs; simp) (by conv => lhs; simp [litV, litE, litOb, toDL, AV.toD, AV.norm, List.replicate, fillC, fillOb, AV.mkAgg, AV.allD, AV.cells, DV.cells, dLat, hlt, hq, getD_map_lt, hqn, dI, ← hfv, hinf]) ?_ ?_ ?_ | refine st_lexit ?_) | (intro h_; try simp only [reduceCtorEq, y1, y2, y3, y4, y5, y6, y7, y8, y9, z1, z2, z3, z4, z5, z6, z7, ne_eq] at h_))
      all_goals try (first | contradiction | exact True.intro | omega | rfl | (simp [AV.fits, AV.cells, AV.one, DV.fits, DV.cells, DV.one, DV.conf, confL, DV.conf1]; done) | (simp [AV.fits, AV.cells, AV.one, DV.fits, DV.cells, DV.one, DV.conf, confL, DV.conf1, *] <;> omega))
      exact fail _ _ (by simp only [pathL, hpt, hfv2]; rw [if_pos hinf]) rfl rfl rfl
    · have hscr : pathL l path = (st, addW c fv, true) := by
        simp only [pathL, hpt, hfv2]; rw [if_neg hinf]
      have hinf' : ¬ 1099511627776 ≤ fv := by omega
      repeat' (first | (with_reducible first | refine st_reg ?_ | refine sN (by conv => lhs; simp [litV, litE, litOb, toDL, AV.toD, AV.norm, List.replicate, fillC, fillOb, AV.mkAgg, AV.allD, AV.cells, DV.cells, dLat, hlt, hq, getD_map_lt, hqn, dI, ← hfv, hinf']) ?_ | refine rN ?_ ?_ | refine rO ?_ ?_ | refine rF ?_ ?_ | refine sG (by conv => lhs; simp [litV, litE, litOb, toDL, AV.toD, AV.norm, List.replicate, fillC, fillOb, AV.mkAgg, AV.allD, AV.cells, DV.cells, dLat, hlt, hq, getD_map_lt, hqn, dI, ← hfv, hinf']) ?_ | refine gF ?_ | refine gS rfl (by conv => lhs; simp [litV, litE, litOb, toDL, AV.toD, AV.norm, List.replicate, fillC, fillOb, AV.mkAgg, AV.allD, AV.cells, DV.cells, dLat, hlt, hq, getD_map_lt, hqn, dI, ← hfv, hinf']) ?_ ?_ | (refine st_gef0 ?_ ?_; focus (conv => (lhs; simp [litV, litE, litOb, toDL, AV.toD, AV.norm, List.replicate, fillC, fillOb, AV.mkAgg, AV.allD, AV.cells, DV.cells, dLat, hlt, hq, getD_map_lt, hqn, dI, ← hfv, hinf'])); done) | refine sE (by conv => lhs; simp) ?_ | refine Nx.go ?_ | refine st_blke' (by decide) ?_ | refine st_seq ?_ | refine st_blk ?_ | refine st_cond (by conv => lhs; simp) (by conv => lhs; simp [litV, litE, litOb, toDL, AV.toD, AV.norm, List.replicate, fillC, fillOb, AV.mkAgg, AV.allD, AV.cells, DV.cells, dLat, hlt, hq, getD_map_lt, hqn, dI, ← hfv, hinf']) ?_ ?_ ?_ | refine st_lexit ?_) | (intro h_; try simp only [reduceCtorEq, y1, y2, y3, y4, y5, y6, y7, y8, y9, z1, z2, z3, z4, z5, z6, z7, ne_eq] at h_))
      all_goals try (first | contradiction | exact True.intro | omega | rfl | (simp [AV.fits, AV.cells, AV.one, DV.fits, DV.cells, DV.one, DV.conf, confL, DV.conf1]; done) | (simp [AV.fits, AV.cells, AV.one, DV.fits, DV.cells, DV.one, DV.conf, confL, DV.conf1, *] <;> omega))
      refine st_e (st_call (by simp [solidOk]) (by conv => lhs; simp) (add36 c fv) (by exact ⟨.inl rfl, .inl rfl, trivial⟩) (pendOk_refl _) ?_)
      repeat' (first | (with_reducible first | refine st_reg ?_ | refine sN (by conv => lhs; simp) ?_ | refine rN ?_ ?_ | refine rO ?_ ?_ | refine rF ?_ ?_ | refine sG (by conv => lhs; simp) ?_ | refine gF ?_ | refine gS rfl (by conv => lhs; simp) ?_ ?_ | (refine st_gef0 ?_ ?_; focus (conv => (lhs; simp)); done) | refine sE (by conv => lhs; simp) ?_ | refine Nx.go ?_ | refine st_blke' (by decide) ?_ | refine st_seq ?_ | refine st_blk ?_ | refine st_cond (by conv => lhs; simp) (by conv => lhs; simp) ?_ ?_ ?_ | refine st_lexit ?_) | (intro h_; try simp only [reduceCtorEq, y1, y2, y3, y4, y5, y6, y7, y8, y9, z1, z2, z3, z4, z5, z6, z7, ne_eq] at h_))
      all_goals try (first | contradiction | exact True.intro | omega | rfl | (simp [AV.fits, AV.cells, AV.one, DV.fits, DV.cells, DV.one, DV.conf, confL, DV.conf1]; done) | (simp [AV.fits, AV.cells, AV.one, DV.fits, DV.cells, DV.one, DV.conf, confL, DV.conf1, *] <;> omega))
      rw [hscr, hq]
      exact atEnd_tup3 (P3 := fun _ _ => True) rfl rfl rfl rfl
end Go.Vm.L
