/- Lattice: Script. -/
import Derived.Test.YtibpfnjbgojfoaaDoorZdM
set_option linter.all false
set_option maxHeartbeats 8000000
namespace Go.Vm.L
open Go Go.Vm

/-- How far a path goes: its state and the operations of its arcs, or nothing. -/
def pathTo (l : Lat) : List Int → Int → List Op → Option (Int × List Op)
  | [], s, ops => some (s, ops)
  | i :: r, s, ops => if i < 0 then none else match l.arcs[i.toNat]? with
    | none => none
    | some a => if a.frm ≠ s then none else pathTo l r a.to (ops ++ a.ops)
theorem pathTo_append (l : Lat) : ∀ (p q : List Int) (s : Int) (ops : List Op), pathTo l (p ++ q) s ops = (pathTo l p s ops).bind fun x => pathTo l q x.1 x.2
  | [], q, s, ops => rfl
  | i :: r, q, s, ops => by
    simp only [List.cons_append, pathTo]
    split
    · rfl
    · split
      · rfl
      · split
        · rfl
        · exact pathTo_append l r q _ _
/-- The operations, and the error. -/
def scriptL (x : Inp) (l : Lat) (path : List Int) : List Op × Int := match pathTo l path 0 [] with
  | none => ([], 1)
  | some (s, ops) => if l.final.getD s.toNat 0 ≥ 1099511627776 then ([], 1) else (ops ++ delOps (x.cols.length - s.toNat / 2), 0)
structure WS (l : Lat) : Prop where
  n1 : 1 ≤ l.final.length
  n2 : l.final.length < 1000
  an : l.arcs.length < 100000
  arc : ∀ a ∈ l.arcs, 0 ≤ a.to ∧ a.to < l.final.length ∧ a.ops.length < 1000
theorem pathTo_bd {l : Lat} (hl : WS l) : ∀ (p : List Int) (s : Int) (ops : List Op) (s' : Int) (ops' : List Op), 0 ≤ s → s < l.final.length → pathTo l p s ops = some (s', ops') → 0 ≤ s' ∧ s' < l.final.length ∧ ops'.length ≤ ops.length + 1000 * p.length
  | [], s, ops, s', ops', h1, h2, h => by
    simp only [pathTo, Option.some.injEq, Prod.mk.injEq] at h
    obtain ⟨rfl, rfl⟩ := h
    exact ⟨h1, h2, by simp⟩
  | i :: r, s, ops, s', ops', h1, h2, h => by
    simp only [pathTo] at h
    split at h
    · cases h
    · split at h
      · cases h
      · rename_i a ha
        split at h
        · cases h
        · have hb := hl.arc a (List.mem_of_getElem? ha)
          have := pathTo_bd hl r a.to (ops ++ a.ops) s' ops' hb.1 hb.2.1 h
          simp only [List.length_append, List.length_cons] at this ⊢
          omega

theorem atEnd_own2 {v u sz : Nat} {vs : List AV} {H : Heap} {a : AV} {ds : List DV} {e : DV} (hi : vs[v]? = some a) (ho : OwnS H a sz ds) (hu : vs[u]? = some (.d e)) (hne : v ≠ u) :
    AtEnd [.tmp v, .tmp u] [] (fun r H' => r = .tup [.d (.vs ds), .d e] ∧ H' = []) ⟨vs, H⟩ := by
  have hv := (List.getElem?_eq_some_iff.1 hi).1
  obtain ⟨H', hg, _, _⟩ := Gh.own hi ho
  have e1 : (vs.set v (.d (.vs ds))).getD v .undef = .d (.vs ds) := by simp [List.getD_eq_getElem?_getD, hv]
  have e2 : (vs.set v (.d (.vs ds))).getD u .undef = .d e := by rw [List.getD_eq_getElem?_getD, List.getElem?_set_ne hne, hu]; rfl
  have er : resV ⟨vs.set v (.d (.vs ds)), H'⟩ [.tmp v, .tmp u] = .tup [.d (.vs ds), .d e] := by
    show AV.tup [(vs.set v (.d (.vs ds))).getD v .undef, (vs.set v (.d (.vs ds))).getD u .undef] = _
    rw [e1, e2]
  exact ⟨_, hg, ⟨trivial, trivial, trivial⟩, 0, Nat.le_refl _, Nat.zero_le _, fun i o h => absurd h (Nat.not_lt_zero _), by rw [er]; rfl, er, by simp⟩

theorem Script20 (x : Inp) (l : Lat) (path : List Int) (hx : x.cols.length < 1000) (hl : WS l) (hp : path.length < 1000) :
    Fn prog 11 [.d (dInp x), .d (dLat l), .d (.vs (path.map dI))] [] (fun r H' => r = .tup [.d (.vs ((scriptL x l path).1.map dOp)), .d (.int .i64 (scriptL x l path).2)] ∧ H' = []) := by
  have hn1 := hl.n1
  have hn2 := hl.n2
  have han := hl.an
  refine fn_of e11 hm (by rfl) (vs := [.d (dInp x), .d (dLat l), .d (.vs (path.map dI)), .undef, .undef, .undef, .undef, .undef, .undef, .undef, .undef, .undef, .undef, .undef, .undef, .undef, .undef, .undef, .undef]) rfl ?_
  unfold c11
  have fail : ∀ (vs : List AV) (H : Heap), scriptL x l path = ([], 1) → vs[5]? = some .nils → vs[6]? = some (.d (.int .i64 1)) → AtEnd r11 [] (fun r H' => r = .tup [.d (.vs ((scriptL x l path).1.map dOp)), .d (.int .i64 (scriptL x l path).2)] ∧ H' = []) ⟨vs, H⟩ := by
    intro vs H hs h5 h6
    rw [hs]
    exact atEnd_own2 (v := 5) (u := 6) h5 (OwnS.nils H 2) h6 (by omega)
  repeat' (first | (with_reducible first | refine st_reg ?_ | refine sN (by conv => lhs; simp [litV, litE, litOb, toDL, AV.toD, AV.norm, List.replicate, fillC, fillOb, AV.mkAgg, AV.allD, AV.cells, DV.cells, dLat, dInp]) ?_ | refine rN ?_ ?_ | refine rO ?_ ?_ | refine rF ?_ ?_ | refine sG (by conv => lhs; simp [litV, litE, litOb, toDL, AV.toD, AV.norm, List.replicate, fillC, fillOb, AV.mkAgg, AV.allD, AV.cells, DV.cells, dLat, dInp]) ?_ | refine gF ?_ | refine gS rfl (by conv => lhs; simp [litV, litE, litOb, toDL, AV.toD, AV.norm, List.replicate, fillC, fillOb, AV.mkAgg, AV.allD, AV.cells, DV.cells, dLat, dInp]) ?_ ?_ | (refine st_gef0 ?_ ?_; focus (conv => (lhs; simp [litV, litE, litOb, toDL, AV.toD, AV.norm, List.replicate, fillC, fillOb, AV.mkAgg, AV.allD, AV.cells, DV.cells, dLat, dInp])); done) | refine sE (by conv => lhs; simp) ?_ | refine Nx.go ?_ | refine st_blke' (by decide) ?_ | refine st_seq ?_ | refine st_blk ?_ | refine st_cond (by conv => lhs; simp) (by conv => lhs; simp [litV, litE, litOb, toDL, AV.toD, AV.norm, List.replicate, fillC, fillOb, AV.mkAgg, AV.allD, AV.cells, DV.cells, dLat, dInp]) ?_ ?_ ?_ | refine st_lexit ?_) | (intro h_; try simp only [reduceCtorEq, y1, y2, y3, y4, y5, y6, y7, y8, y9, z1, z2, z3, z4, z5, z6, z7, ne_eq] at h_))
  all_goals try (first | contradiction | exact True.intro | omega | rfl | (simp [AV.fits, AV.cells, AV.one, DV.fits, DV.cells, DV.one, DV.conf, confL, DV.conf1]; done) | (simp [AV.fits, AV.cells, AV.one, DV.fits, DV.cells, DV.one, DV.conf, confL, DV.conf1, *] <;> omega))
  refine wpC_loop (fun s => ∃ (k : Nat) (H : Heap) (st : Int) (outL : List Op) (v8 v9 : AV), k ≤ path.length ∧ pathTo l (path.take k) 0 [] = some (st, outL) ∧ s = ⟨[.d (dInp x), .d (dLat l), .d (.vs (path.map dI)), .ptr 0 0 0, .ptr 1 0 0, .nils, .d (.int .i64 0), .d (.int .i64 st), v8, v9, .d (.vs (path.map dI)), .d (.int .i64 path.length), .d (.int .i64 k), .undef, .undef, .undef, .undef, .undef, .undef], H⟩ ∧
      H.ob 0 = some (.arr 3 [.d (dInp x)]) ∧ H.ob 1 = some (.arr 3 [.d (dLat l)]) ∧ OwnS H v8 2 (outL.map dOp) ∧ ∀ id, v8.rid = some id → 2 ≤ id)
    (fun s => path.length - (s.int 12).toNat)
    (s' := ⟨[.d (dInp x), .d (dLat l), .d (.vs (path.map dI)), .ptr 0 0 0, .ptr 1 0 0, .nils, .d (.int .i64 0), .d (.int .i64 0), .nils, .undef, .d (.vs (path.map dI)), .d (.int .i64 path.length), .d (.int .i64 (0 : Nat)), .undef, .undef, .undef, .undef, .undef, .undef], [some (.arr 3 [.d (dInp x)]), some (.arr 3 [.d (dLat l)])]⟩)
    (Gh.weak (by simp [weak])) ⟨0, _, 0, [], .nils, _, by omega, rfl, rfl, rfl, rfl, OwnS.nils _ _, by simp [AV.rid]⟩ ?_
  rintro _ ⟨k, H, st, outL, v8, v9, hk, hpt, rfl, h0, h1, ho, hr8⟩
  obtain ⟨s1, s2, s3, s4⟩ := ho.sob
  have hbd := pathTo_bd hl _ _ _ _ _ (Int.le_refl 0) (by omega) hpt
  have hbl : outL.length ≤ 1000000 := by have := hbd.2.2; simp at this; omega
  have hw : IntKind.i64.wrap ((k : Int) + 1) = ((k + 1 : Nat) : Int) := by rw [wrap64 (by omega) (by omega)]; simp
  have h0' := h0
  simp only [dInp] at h0'
  have h1' := h1
  simp only [dLat] at h1'
  have l1 := ob_lt h1
  rcases Nat.lt_or_ge k path.length with hlt | hlt
  · obtain ⟨i, hi⟩ : ∃ i, i = path[k] := ⟨_, rfl⟩
    have hsplit : path = path.take k ++ (i :: path.drop (k + 1)) := by
      rw [hi, ← List.drop_eq_getElem_cons hlt, List.take_append_drop]
    have hall : pathTo l path 0 [] = pathTo l (i :: path.drop (k + 1)) st outL := by
      rw [hsplit, pathTo_append, ← hsplit, hpt]; rfl
    have hnx : pathTo l (path.take (k + 1)) 0 [] = pathTo l [i] st outL := by
      rw [List.take_add_one, List.getElem?_eq_getElem hlt, pathTo_append, hpt, hi]; rfl
    clear hsplit
    by_cases hneg : i < 0
    · skip
      repeat' (first | (with_reducible first | refine st_reg ?_ | refine sN (by conv => lhs; simp [litV, litE, litOb, toDL, AV.toD, AV.norm, List.replicate, fillC, fillOb, AV.mkAgg, AV.allD, AV.cells, DV.cells, getD_map_lt, hlt, dI, ← hi, hneg]) ?_ | refine rN ?_ ?_ | refine rO ?_ ?_ | refine rF ?_ ?_ | refine sG (by conv => lhs; simp [litV, litE, litOb, toDL, AV.toD, AV.norm, List.replicate, fillC, fillOb, AV.mkAgg, AV.allD, AV.cells, DV.cells, getD_map_lt, hlt, dI, ← hi, hneg]) ?_ | refine gF ?_ | refine gS rfl (by conv => lhs; simp [litV, litE, litOb, toDL, AV.toD, AV.norm, List.replicate, fillC, fillOb, AV.mkAgg, AV.allD, AV.cells, DV.cells, getD_map_lt, hlt, dI, ← hi, hneg]) ?_ ?_ | (refine st_gef0 ?_ ?_; focus (conv => (lhs; simp [litV, litE, litOb, toDL, AV.toD, AV.norm, List.replicate, fillC, fillOb, AV.mkAgg, AV.allD, AV.cells, DV.cells, getD_map_lt, hlt, dI, ← hi, hneg])); done) | refine sE (by conv => lhs; simp) ?_ | refine Nx.go ?_ | refine st_blke' (by decide) ?_ | refine st_seq ?_ | refine st_blk ?_ | refine st_cond (by conv => lhs; simp) (by conv => lhs; simp [litV, litE, litOb, toDL, AV.toD, AV.norm, List.replicate, fillC, fillOb, AV.mkAgg, AV.allD, AV.cells, DV.cells, getD_map_lt, hlt, dI, ← hi, hneg]) ?_ ?_ ?_ | refine st_lexit ?_) | (intro h_; try simp only [reduceCtorEq, y1, y2, y3, y4, y5, y6, y7, y8, y9, z1, z2, z3, z4, z5, z6, z7, ne_eq] at h_))
      all_goals try (first | contradiction | exact True.intro | omega | rfl | (simp [AV.fits, AV.cells, AV.one, DV.fits, DV.cells, DV.one, DV.conf, confL, DV.conf1]; done) | (simp [AV.fits, AV.cells, AV.one, DV.fits, DV.cells, DV.one, DV.conf, confL, DV.conf1, *] <;> omega))
      exact fail _ _ (by simp [scriptL, hall, pathTo, hneg]) rfl rfl
    · obtain ⟨q, hq⟩ : ∃ q : Nat, i = q := ⟨i.toNat, by omega⟩
      have hnq : ¬ (q : Int) < 0 := by omega
      rw [hq] at hi hall hnx
      rcases Nat.lt_or_ge q l.arcs.length with hql | hql
      · have haq : l.arcs[q]? = some l.arcs[q] := List.getElem?_eq_getElem hql
        obtain ⟨a, hae⟩ : ∃ a, a = l.arcs[q] := ⟨_, rfl⟩
        rw [← hae] at haq
        by_cases hfr : a.frm = st
        · have hnx2 : pathTo l (path.take (k + 1)) 0 [] = some (a.to, outL ++ a.ops) := by
            rw [hnx]; simp [pathTo, haq, hfr]
          have hops := (hl.arc a (List.mem_of_getElem? haq)).2.2
          repeat' (first | (with_reducible first | refine st_reg ?_ | refine sN (by conv => lhs; simp [litV, litE, litOb, toDL, AV.toD, AV.norm, List.replicate, fillC, fillOb, AV.mkAgg, AV.allD, AV.cells, DV.cells, getD_map_lt, hlt, dI, ← hi, hnq, h1', hql, dArc, ← hae, hfr]) ?_ | refine rN ?_ ?_ | refine rO ?_ ?_ | refine rF ?_ ?_ | refine sG (by conv => lhs; simp [litV, litE, litOb, toDL, AV.toD, AV.norm, List.replicate, fillC, fillOb, AV.mkAgg, AV.allD, AV.cells, DV.cells, getD_map_lt, hlt, dI, ← hi, hnq, h1', hql, dArc, ← hae, hfr]) ?_ | refine gF ?_ | refine gS rfl (by conv => lhs; simp [litV, litE, litOb, toDL, AV.toD, AV.norm, List.replicate, fillC, fillOb, AV.mkAgg, AV.allD, AV.cells, DV.cells, getD_map_lt, hlt, dI, ← hi, hnq, h1', hql, dArc, ← hae, hfr]) ?_ ?_ | (refine st_gef0 ?_ ?_; focus (conv => (lhs; simp [litV, litE, litOb, toDL, AV.toD, AV.norm, List.replicate, fillC, fillOb, AV.mkAgg, AV.allD, AV.cells, DV.cells, getD_map_lt, hlt, dI, ← hi, hnq, h1', hql, dArc, ← hae, hfr])); done) | refine sE (by conv => lhs; simp) ?_ | refine Nx.go ?_ | refine st_blke' (by decide) ?_ | refine st_seq ?_ | refine st_blk ?_ | refine st_cond (by conv => lhs; simp) (by conv => lhs; simp [litV, litE, litOb, toDL, AV.toD, AV.norm, List.replicate, fillC, fillOb, AV.mkAgg, AV.allD, AV.cells, DV.cells, getD_map_lt, hlt, dI, ← hi, hnq, h1', hql, dArc, ← hae, hfr]) ?_ ?_ ?_ | refine st_lexit ?_) | (intro h_; try simp only [reduceCtorEq, y1, y2, y3, y4, y5, y6, y7, y8, y9, z1, z2, z3, z4, z5, z6, z7, ne_eq] at h_))
          all_goals try (first | contradiction | exact True.intro | omega | rfl | (simp [AV.fits, AV.cells, AV.one, DV.fits, DV.cells, DV.one, DV.conf, confL, DV.conf1]; done) | (simp [AV.fits, AV.cells, AV.one, DV.fits, DV.cells, DV.one, DV.conf, confL, DV.conf1, *] <;> omega))
          refine st_e (stA_appO2 (v := v8) (olds := outL.map dOp) (ds := a.ops.map dOp) (by simp [s1, s2]) (by conv => lhs; simp [s1, s2]) (by simp) ho (by simp [DV.fits, DV.cells, DV.one]) (by simp; omega) (fun v' H3 qo qr ql qf => ?_))
          obtain ⟨r1, r2, _, _⟩ := qo.sob
          repeat' (first | (with_reducible first | refine st_reg ?_ | refine sN (by conv => lhs; simp [r1, r2, hw]) ?_ | refine rN ?_ ?_ | refine rO ?_ ?_ | refine rF ?_ ?_ | refine sG (by conv => lhs; simp [r1, r2, hw]) ?_ | refine gF ?_ | refine gS rfl (by conv => lhs; simp [r1, r2, hw]) ?_ ?_ | (refine st_gef0 ?_ ?_; focus (conv => (lhs; simp [r1, r2, hw])); done) | refine sE (by conv => lhs; simp) ?_ | refine Nx.go ?_ | refine st_blke' (by decide) ?_ | refine st_seq ?_ | refine st_blk ?_ | refine st_cond (by conv => lhs; simp) (by conv => lhs; simp [r1, r2, hw]) ?_ ?_ ?_ | refine st_lexit ?_) | (intro h_; try simp only [reduceCtorEq, y1, y2, y3, y4, y5, y6, y7, y8, y9, z1, z2, z3, z4, z5, z6, z7, ne_eq] at h_))
          all_goals try (first | contradiction | exact True.intro | omega | rfl | (simp [AV.fits, AV.cells, AV.one, DV.fits, DV.cells, DV.one, DV.conf, confL, DV.conf1]; done) | (simp [AV.fits, AV.cells, AV.one, DV.fits, DV.cells, DV.one, DV.conf, confL, DV.conf1, *] <;> omega))
          refine st_lnormw (ys := [.d (dInp x), .d (dLat l), .d (.vs (path.map dI)), .ptr 0 0 0, .ptr 1 0 0, .nils, .d (.int .i64 0), .d (.int .i64 a.to), v', .d (.int .i64 q), .d (.vs (path.map dI)), .d (.int .i64 path.length), .d (.int .i64 (k + 1 : Nat)), .undef, .undef, .undef, .undef, .undef, .undef]) (by simp [weak])
            ⟨k + 1, H3, a.to, outL ++ a.ops, v', _, by omega, hnx2, rfl, by rw [qf 0 (by omega) (fun e => by have := hr8 0 e; omega)]; exact h0, by rw [qf 1 (by omega) (fun e => by have := hr8 1 e; omega)]; exact h1, by simpa using qo, fun id hid => by rw [qr] at hid; cases hid; omega⟩ (by simp [St.int]; omega)
        · skip
          repeat' (first | (with_reducible first | refine st_reg ?_ | refine sN (by conv => lhs; simp [litV, litE, litOb, toDL, AV.toD, AV.norm, List.replicate, fillC, fillOb, AV.mkAgg, AV.allD, AV.cells, DV.cells, getD_map_lt, hlt, dI, ← hi, hnq, h1', hql, dArc, ← hae, hfr]) ?_ | refine rN ?_ ?_ | refine rO ?_ ?_ | refine rF ?_ ?_ | refine sG (by conv => lhs; simp [litV, litE, litOb, toDL, AV.toD, AV.norm, List.replicate, fillC, fillOb, AV.mkAgg, AV.allD, AV.cells, DV.cells, getD_map_lt, hlt, dI, ← hi, hnq, h1', hql, dArc, ← hae, hfr]) ?_ | refine gF ?_ | refine gS rfl (by conv => lhs; simp [litV, litE, litOb, toDL, AV.toD, AV.norm, List.replicate, fillC, fillOb, AV.mkAgg, AV.allD, AV.cells, DV.cells, getD_map_lt, hlt, dI, ← hi, hnq, h1', hql, dArc, ← hae, hfr]) ?_ ?_ | (refine st_gef0 ?_ ?_; focus (conv => (lhs; simp [litV, litE, litOb, toDL, AV.toD, AV.norm, List.replicate, fillC, fillOb, AV.mkAgg, AV.allD, AV.cells, DV.cells, getD_map_lt, hlt, dI, ← hi, hnq, h1', hql, dArc, ← hae, hfr])); done) | refine sE (by conv => lhs; simp) ?_ | refine Nx.go ?_ | refine st_blke' (by decide) ?_ | refine st_seq ?_ | refine st_blk ?_ | refine st_cond (by conv => lhs; simp) (by conv => lhs; simp [litV, litE, litOb, toDL, AV.toD, AV.norm, List.replicate, fillC, fillOb, AV.mkAgg, AV.allD, AV.cells, DV.cells, getD_map_lt, hlt, dI, ← hi, hnq, h1', hql, dArc, ← hae, hfr]) ?_ ?_ ?_ | refine st_lexit ?_) | (intro h_; try simp only [reduceCtorEq, y1, y2, y3, y4, y5, y6, y7, y8, y9, z1, z2, z3, z4, z5, z6, z7, ne_eq] at h_))
          all_goals try (first | contradiction | exact True.intro | omega | rfl | (simp [AV.fits, AV.cells, AV.one, DV.fits, DV.cells, DV.one, DV.conf, confL, DV.conf1]; done) | (simp [AV.fits, AV.cells, AV.one, DV.fits, DV.cells, DV.one, DV.conf, confL, DV.conf1, *] <;> omega))
          exact fail _ _ (by simp [scriptL, hall, pathTo, haq, hfr]) rfl rfl
      · have haq : l.arcs[q]? = none := List.getElem?_eq_none hql
        have hql' : ¬ q < l.arcs.length := by omega
        repeat' (first | (with_reducible first | refine st_reg ?_ | refine sN (by conv => lhs; simp [litV, litE, litOb, toDL, AV.toD, AV.norm, List.replicate, fillC, fillOb, AV.mkAgg, AV.allD, AV.cells, DV.cells, getD_map_lt, hlt, dI, ← hi, hnq, h1', hql, hql']) ?_ | refine rN ?_ ?_ | refine rO ?_ ?_ | refine rF ?_ ?_ | refine sG (by conv => lhs; simp [litV, litE, litOb, toDL, AV.toD, AV.norm, List.replicate, fillC, fillOb, AV.mkAgg, AV.allD, AV.cells, DV.cells, getD_map_lt, hlt, dI, ← hi, hnq, h1', hql, hql']) ?_ | refine gF ?_ | refine gS rfl (by conv => lhs; simp [litV, litE, litOb, toDL, AV.toD, AV.norm, List.replicate, fillC, fillOb, AV.mkAgg, AV.allD, AV.cells, DV.cells, getD_map_lt, hlt, dI, ← hi, hnq, h1', hql, hql']) ?_ ?_ | (refine st_gef0 ?_ ?_; focus (conv => (lhs; simp [litV, litE, litOb, toDL, AV.toD, AV.norm, List.replicate, fillC, fillOb, AV.mkAgg, AV.allD, AV.cells, DV.cells, getD_map_lt, hlt, dI, ← hi, hnq, h1', hql, hql'])); done) | refine sE (by conv => lhs; simp) ?_ | refine Nx.go ?_ | refine st_blke' (by decide) ?_ | refine st_seq ?_ | refine st_blk ?_ | refine st_cond (by conv => lhs; simp) (by conv => lhs; simp [litV, litE, litOb, toDL, AV.toD, AV.norm, List.replicate, fillC, fillOb, AV.mkAgg, AV.allD, AV.cells, DV.cells, getD_map_lt, hlt, dI, ← hi, hnq, h1', hql, hql']) ?_ ?_ ?_ | refine st_lexit ?_) | (intro h_; try simp only [reduceCtorEq, y1, y2, y3, y4, y5, y6, y7, y8, y9, z1, z2, z3, z4, z5, z6, z7, ne_eq] at h_))
        all_goals try (first | contradiction | exact True.intro | omega | rfl | (simp [AV.fits, AV.cells, AV.one, DV.fits, DV.cells, DV.one, DV.conf, confL, DV.conf1]; done) | (simp [AV.fits, AV.cells, AV.one, DV.fits, DV.cells, DV.one, DV.conf, confL, DV.conf1, *] <;> omega))
        exact fail _ _ (by simp [scriptL, hall, pathTo, haq]) rfl rfl
  · have hkn : k = path.length := by omega
    subst hkn
    rw [List.take_length] at hpt
    obtain ⟨q, hq⟩ : ∃ q : Nat, st = q := ⟨st.toNat, by omega⟩
    have hqn : q < l.final.length := by omega
    obtain ⟨fv, hfv⟩ : ∃ fv, fv = l.final[q] := ⟨_, rfl⟩
    have hfv2 : l.final.getD st.toNat 0 = fv := by rw [hq, hfv]; simp [List.getD_eq_getElem?_getD, hqn]
    by_cases hinf : fv ≥ 1099511627776
    · skip
      repeat' (first | (with_reducible first | refine st_reg ?_ | refine sN (by conv => lhs; simp [litV, litE, litOb, toDL, AV.toD, AV.norm, List.replicate, fillC, fillOb, AV.mkAgg, AV.allD, AV.cells, DV.cells, hlt, h1', hq, getD_map_lt, hqn, dI, ← hfv, hinf]) ?_ | refine rN ?_ ?_ | refine rO ?_ ?_ | refine rF ?_ ?_ | refine sG (by conv => lhs; simp [litV, litE, litOb, toDL, AV.toD, AV.norm, List.replicate, fillC, fillOb, AV.mkAgg, AV.allD, AV.cells, DV.cells, hlt, h1', hq, getD_map_lt, hqn, dI, ← hfv, hinf]) ?_ | refine gF ?_ | refine gS rfl (by conv => lhs; simp [litV, litE, litOb, toDL, AV.toD, AV.norm, List.replicate, fillC, fillOb, AV.mkAgg, AV.allD, AV.cells, DV.cells, hlt, h1', hq, getD_map_lt, hqn, dI, ← hfv, hinf]) ?_ ?_ | (refine st_gef0 ?_ ?_; focus (conv => (lhs; simp [litV, litE, litOb, toDL, AV.toD, AV.norm, List.replicate, fillC, fillOb, AV.mkAgg, AV.allD, AV.cells, DV.cells, hlt, h1', hq, getD_map_lt, hqn, dI, ← hfv, hinf])); done) | refine sE (by conv => lhs; simp) ?_ | refine Nx.go ?_ | refine st_blke' (by decide) ?_ | refine st_seq ?_ | refine st_blk ?_ | refine st_cond (by conv => lhs; simp) (by conv => lhs; simp [litV, litE, litOb, toDL, AV.toD, AV.norm, List.replicate, fillC, fillOb, AV.mkAgg, AV.allD, AV.cells, DV.cells, hlt, h1', hq, getD_map_lt, hqn, dI, ← hfv, hinf]) ?_ ?_ ?_ | refine st_lexit ?_) | (intro h_; try simp only [reduceCtorEq, y1, y2, y3, y4, y5, y6, y7, y8, y9, z1, z2, z3, z4, z5, z6, z7, ne_eq] at h_))
      all_goals try (first | contradiction | exact True.intro | omega | rfl | (simp [AV.fits, AV.cells, AV.one, DV.fits, DV.cells, DV.one, DV.conf, confL, DV.conf1]; done) | (simp [AV.fits, AV.cells, AV.one, DV.fits, DV.cells, DV.one, DV.conf, confL, DV.conf1, *] <;> omega))
      exact fail _ _ (by simp only [scriptL, hpt, hfv2]; rw [if_pos hinf]) rfl rfl
    · have hscr : scriptL x l path = (outL ++ delOps (x.cols.length - q / 2), 0) := by
        simp only [scriptL, hpt, hfv2]; rw [if_neg hinf, hq]; simp
      have hinf' : ¬ 1099511627776 ≤ fv := by omega
      obtain ⟨qh, hqh⟩ : ∃ qh, qh = q / 2 := ⟨_, rfl⟩
      have htd : (q : Int).tdiv 2 = (qh : Int) := by rw [Int.tdiv_eq_ediv_of_nonneg (by omega)]; omega
      have htd2 : (q : Int) / 2 = (qh : Int) := by omega
      have hwd : IntKind.i64.wrap (qh : Int) = (qh : Int) := wrap64 (by omega) (by omega)
      obtain ⟨cnt, hcnt⟩ : ∃ cnt : Int, cnt = (x.cols.length : Int) - (qh : Int) := ⟨_, rfl⟩
      have hws : IntKind.i64.wrap ((x.cols.length : Int) - (qh : Int)) = cnt := by rw [wrap64 (by omega) (by omega), hcnt]
      obtain ⟨D, hD⟩ : ∃ D, D = x.cols.length - q / 2 := ⟨_, rfl⟩
      rw [← hD] at hscr
      have hcD : ∀ j : Nat, j < D ↔ (j : Int) < cnt := by intro j; omega
      have hD1 : D ≤ 1000 := by omega
      clear hqh hD hcnt
      repeat' (first | (with_reducible first | refine st_reg ?_ | refine sN (by conv => lhs; simp [litV, litE, litOb, toDL, AV.toD, AV.norm, List.replicate, fillC, fillOb, AV.mkAgg, AV.allD, AV.cells, DV.cells, hlt, h1', h0', hq, getD_map_lt, hqn, dI, ← hfv, hinf', htd, htd2, hwd, hws]) ?_ | refine rN ?_ ?_ | refine rO ?_ ?_ | refine rF ?_ ?_ | refine sG (by conv => lhs; simp [litV, litE, litOb, toDL, AV.toD, AV.norm, List.replicate, fillC, fillOb, AV.mkAgg, AV.allD, AV.cells, DV.cells, hlt, h1', h0', hq, getD_map_lt, hqn, dI, ← hfv, hinf', htd, htd2, hwd, hws]) ?_ | refine gF ?_ | refine gS rfl (by conv => lhs; simp [litV, litE, litOb, toDL, AV.toD, AV.norm, List.replicate, fillC, fillOb, AV.mkAgg, AV.allD, AV.cells, DV.cells, hlt, h1', h0', hq, getD_map_lt, hqn, dI, ← hfv, hinf', htd, htd2, hwd, hws]) ?_ ?_ | (refine st_gef0 ?_ ?_; focus (conv => (lhs; simp [litV, litE, litOb, toDL, AV.toD, AV.norm, List.replicate, fillC, fillOb, AV.mkAgg, AV.allD, AV.cells, DV.cells, hlt, h1', h0', hq, getD_map_lt, hqn, dI, ← hfv, hinf', htd, htd2, hwd, hws])); done) | refine sE (by conv => lhs; simp) ?_ | refine Nx.go ?_ | refine st_blke' (by decide) ?_ | refine st_seq ?_ | refine st_blk ?_ | refine st_cond (by conv => lhs; simp) (by conv => lhs; simp [litV, litE, litOb, toDL, AV.toD, AV.norm, List.replicate, fillC, fillOb, AV.mkAgg, AV.allD, AV.cells, DV.cells, hlt, h1', h0', hq, getD_map_lt, hqn, dI, ← hfv, hinf', htd, htd2, hwd, hws]) ?_ ?_ ?_ | refine st_lexit ?_) | (intro h_; try simp only [reduceCtorEq, y1, y2, y3, y4, y5, y6, y7, y8, y9, z1, z2, z3, z4, z5, z6, z7, ne_eq] at h_))
      all_goals try (first | contradiction | exact True.intro | omega | rfl | (simp [AV.fits, AV.cells, AV.one, DV.fits, DV.cells, DV.one, DV.conf, confL, DV.conf1]; done) | (simp [AV.fits, AV.cells, AV.one, DV.fits, DV.cells, DV.one, DV.conf, confL, DV.conf1, *] <;> omega))
      refine wpC_loop (fun s => ∃ (j : Nat) (H : Heap) (v8 : AV), j ≤ D ∧ s = ⟨[.d (dInp x), .d (dLat l), .d (.vs (path.map dI)), .ptr 0 0 0, .ptr 1 0 0, .nils, .d (.int .i64 0), .d (.int .i64 q), v8, v9, .d (.vs (path.map dI)), .d (.int .i64 path.length), .d (.int .i64 path.length), .undef, .undef, .undef, .d (.int .i64 cnt), .d (.int .i64 j), .undef], H⟩ ∧
          OwnS H v8 2 ((outL ++ delOps j).map dOp))
        (fun s => D - (s.int 17).toNat)
        (s' := ⟨[.d (dInp x), .d (dLat l), .d (.vs (path.map dI)), .ptr 0 0 0, .ptr 1 0 0, .nils, .d (.int .i64 0), .d (.int .i64 q), v8, v9, .d (.vs (path.map dI)), .d (.int .i64 path.length), .d (.int .i64 path.length), .undef, .undef, .undef, .d (.int .i64 cnt), .d (.int .i64 (0 : Nat)), .undef], H⟩)
        (Gh.weak (by simp [weak, hq])) ⟨0, H, _, by omega, rfl, by simpa [delOps] using ho⟩ ?_
      clear ho hr8 s1 s2 s3 s4 h0 h1 h0' h1' l1 hw
      rintro _ ⟨j, H1, v8', hj, rfl, ho⟩
      obtain ⟨s1, s2, s3, s4⟩ := ho.sob
      have hwj : IntKind.i64.wrap ((j : Int) + 1) = ((j + 1 : Nat) : Int) := by rw [wrap64 (by omega) (by omega)]; simp
      rcases Nat.lt_or_ge j D with hlj | hlj
      · have hjc : (j : Int) < cnt := (hcD j).1 hlj
        repeat' (first | (with_reducible first | refine st_reg ?_ | refine sN (by conv => lhs; simp [litV, litE, litOb, toDL, AV.toD, AV.norm, List.replicate, fillC, fillOb, AV.mkAgg, AV.allD, AV.cells, DV.cells, hjc, s1, s2]) ?_ | refine rN ?_ ?_ | refine rO ?_ ?_ | refine rF ?_ ?_ | refine sG (by conv => lhs; simp [litV, litE, litOb, toDL, AV.toD, AV.norm, List.replicate, fillC, fillOb, AV.mkAgg, AV.allD, AV.cells, DV.cells, hjc, s1, s2]) ?_ | refine gF ?_ | refine gS rfl (by conv => lhs; simp [litV, litE, litOb, toDL, AV.toD, AV.norm, List.replicate, fillC, fillOb, AV.mkAgg, AV.allD, AV.cells, DV.cells, hjc, s1, s2]) ?_ ?_ | (refine st_gef0 ?_ ?_; focus (conv => (lhs; simp [litV, litE, litOb, toDL, AV.toD, AV.norm, List.replicate, fillC, fillOb, AV.mkAgg, AV.allD, AV.cells, DV.cells, hjc, s1, s2])); done) | refine sE (by conv => lhs; simp) ?_ | refine Nx.go ?_ | refine st_blke' (by decide) ?_ | refine st_seq ?_ | refine st_blk ?_ | refine st_cond (by conv => lhs; simp) (by conv => lhs; simp [litV, litE, litOb, toDL, AV.toD, AV.norm, List.replicate, fillC, fillOb, AV.mkAgg, AV.allD, AV.cells, DV.cells, hjc, s1, s2]) ?_ ?_ ?_ | refine st_lexit ?_) | (intro h_; try simp only [reduceCtorEq, y1, y2, y3, y4, y5, y6, y7, y8, y9, z1, z2, z3, z4, z5, z6, z7, ne_eq] at h_))
        all_goals try (first | contradiction | exact True.intro | omega | rfl | (simp [AV.fits, AV.cells, AV.one, DV.fits, DV.cells, DV.one, DV.conf, confL, DV.conf1]; done) | (simp [AV.fits, AV.cells, AV.one, DV.fits, DV.cells, DV.one, DV.conf, confL, DV.conf1, *] <;> omega))
        refine st_e (stA_appO2 (v := v8') (olds := (outL ++ delOps j).map dOp) (ds := [.agg [.int .i64 2, .int .i64 0]]) (by simp [s1, s2]) (by conv => lhs; simp [s1, s2]) (by simp) ho (by simp [DV.fits, DV.cells, DV.one]) (by simp [delOps]; omega) (fun v' H3 qo qr ql qf => ?_))
        obtain ⟨r1, r2, _, _⟩ := qo.sob
        repeat' (first | (with_reducible first | refine st_reg ?_ | refine sN (by conv => lhs; simp [r1, r2, hwj]) ?_ | refine rN ?_ ?_ | refine rO ?_ ?_ | refine rF ?_ ?_ | refine sG (by conv => lhs; simp [r1, r2, hwj]) ?_ | refine gF ?_ | refine gS rfl (by conv => lhs; simp [r1, r2, hwj]) ?_ ?_ | (refine st_gef0 ?_ ?_; focus (conv => (lhs; simp [r1, r2, hwj])); done) | refine sE (by conv => lhs; simp) ?_ | refine Nx.go ?_ | refine st_blke' (by decide) ?_ | refine st_seq ?_ | refine st_blk ?_ | refine st_cond (by conv => lhs; simp) (by conv => lhs; simp [r1, r2, hwj]) ?_ ?_ ?_ | refine st_lexit ?_) | (intro h_; try simp only [reduceCtorEq, y1, y2, y3, y4, y5, y6, y7, y8, y9, z1, z2, z3, z4, z5, z6, z7, ne_eq] at h_))
        all_goals try (first | contradiction | exact True.intro | omega | rfl | (simp [AV.fits, AV.cells, AV.one, DV.fits, DV.cells, DV.one, DV.conf, confL, DV.conf1]; done) | (simp [AV.fits, AV.cells, AV.one, DV.fits, DV.cells, DV.one, DV.conf, confL, DV.conf1, *] <;> omega))
        refine st_lnormw (ys := [.d (dInp x), .d (dLat l), .d (.vs (path.map dI)), .ptr 0 0 0, .ptr 1 0 0, .nils, .d (.int .i64 0), .d (.int .i64 q), v', v9, .d (.vs (path.map dI)), .d (.int .i64 path.length), .d (.int .i64 path.length), .undef, .undef, .undef, .d (.int .i64 cnt), .d (.int .i64 (j + 1 : Nat)), .undef]) (by simp [weak])
          ⟨j + 1, H3, v', by omega, rfl, ?_⟩ (by simp [St.int]; omega)
        have e : (outL ++ delOps (j + 1)).map dOp = (outL ++ delOps j).map dOp ++ [.agg [.int .i64 2, .int .i64 0]] := by simp [delOps, List.replicate_succ', delOp]
        rw [e]; exact qo
      · have hjc : ¬ (j : Int) < cnt := fun h => by have := (hcD j).2 h; omega
        have hjD : j = D := by omega
        repeat' (first | (with_reducible first | refine st_reg ?_ | refine sN (by conv => lhs; simp [litV, litE, litOb, toDL, AV.toD, AV.norm, List.replicate, fillC, fillOb, AV.mkAgg, AV.allD, AV.cells, DV.cells, hjc, s1, s2]) ?_ | refine rN ?_ ?_ | refine rO ?_ ?_ | refine rF ?_ ?_ | refine sG (by conv => lhs; simp [litV, litE, litOb, toDL, AV.toD, AV.norm, List.replicate, fillC, fillOb, AV.mkAgg, AV.allD, AV.cells, DV.cells, hjc, s1, s2]) ?_ | refine gF ?_ | refine gS rfl (by conv => lhs; simp [litV, litE, litOb, toDL, AV.toD, AV.norm, List.replicate, fillC, fillOb, AV.mkAgg, AV.allD, AV.cells, DV.cells, hjc, s1, s2]) ?_ ?_ | (refine st_gef0 ?_ ?_; focus (conv => (lhs; simp [litV, litE, litOb, toDL, AV.toD, AV.norm, List.replicate, fillC, fillOb, AV.mkAgg, AV.allD, AV.cells, DV.cells, hjc, s1, s2])); done) | refine sE (by conv => lhs; simp) ?_ | refine Nx.go ?_ | refine st_blke' (by decide) ?_ | refine st_seq ?_ | refine st_blk ?_ | refine st_cond (by conv => lhs; simp) (by conv => lhs; simp [litV, litE, litOb, toDL, AV.toD, AV.norm, List.replicate, fillC, fillOb, AV.mkAgg, AV.allD, AV.cells, DV.cells, hjc, s1, s2]) ?_ ?_ ?_ | refine st_lexit ?_) | (intro h_; try simp only [reduceCtorEq, y1, y2, y3, y4, y5, y6, y7, y8, y9, z1, z2, z3, z4, z5, z6, z7, ne_eq] at h_))
        all_goals try (first | contradiction | exact True.intro | omega | rfl | (simp [AV.fits, AV.cells, AV.one, DV.fits, DV.cells, DV.one, DV.conf, confL, DV.conf1]; done) | (simp [AV.fits, AV.cells, AV.one, DV.fits, DV.cells, DV.one, DV.conf, confL, DV.conf1, *] <;> omega))
        rw [hscr]
        exact atEnd_own2 (v := 5) (u := 6) rfl (by rw [← hjD]; exact ho) rfl (by omega)
end Go.Vm.L
