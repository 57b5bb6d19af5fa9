/- Lattice: clones, arcs that read. -/
import Derived.Test.YtibpfnjbgojfoaaDoorZdH
set_option linter.all false
set_option maxHeartbeats 4000000
namespace Go.Vm.L
open Go Go.Vm

theorem Clone49 (xs : List Op) (hb : xs.length < 1000000) :
    Fn prog 36 [.d (.vs (xs.map dOp))] [] (fun r H' => ∃ id, r = .hs id 0 xs.length 2 ∧ H'.ob id = some (.arr 2 ((xs.map dOp).map .d))) := by
  refine fn_of e36 hm (by rfl) (vs := [.d (.vs (xs.map dOp)), .undef, .undef]) rfl ?_
  unfold c36
  repeat' (first | (with_reducible first | refine st_reg ?_ | refine sN (by conv => lhs; simp) ?_ | refine rN ?_ ?_ | refine rO ?_ ?_ | refine rF ?_ ?_ | refine sG (by conv => lhs; simp) ?_ | refine gF ?_ | refine gS rfl (by conv => lhs; simp) ?_ ?_ | (refine st_gef0 ?_ ?_; focus (conv => (lhs; simp)); done) | refine sE (by conv => lhs; simp) ?_ | refine Nx.go ?_ | refine st_blke' (by decide) ?_ | refine st_seq ?_ | refine st_blk ?_ | refine st_cond (by conv => lhs; simp) (by conv => lhs; simp) ?_ ?_ ?_ | refine st_lexit ?_) | (intro h_; try simp only [reduceCtorEq, y1, y2, y3, y4, y5, y6, y7, y8, y9, z1, z2, z3, z4, z5, z6, z7, ne_eq] at h_))
  all_goals try (first | contradiction | exact True.intro | omega | rfl | (simp [AV.fits, AV.cells, AV.one, DV.fits, DV.cells, DV.one, DV.conf, confL, DV.conf1]; done) | (simp [AV.fits, AV.cells, AV.one, DV.fits, DV.cells, DV.one, DV.conf, confL, DV.conf1, *] <;> omega))
  refine st_e (st_isNil (by simp) (by conv => lhs; simp) (fun b hbx => ?_))
  cases b
  · skip
    repeat' (first | (with_reducible first | refine st_reg ?_ | refine sN (by conv => lhs; simp [litV, litE, litOb, toDL, AV.toD, AV.norm, List.replicate, fillC, fillOb, AV.mkAgg, AV.allD, AV.cells, DV.cells]) ?_ | refine rN ?_ ?_ | refine rO ?_ ?_ | refine rF ?_ ?_ | refine sG (by conv => lhs; simp [litV, litE, litOb, toDL, AV.toD, AV.norm, List.replicate, fillC, fillOb, AV.mkAgg, AV.allD, AV.cells, DV.cells]) ?_ | refine gF ?_ | refine gS rfl (by conv => lhs; simp [litV, litE, litOb, toDL, AV.toD, AV.norm, List.replicate, fillC, fillOb, AV.mkAgg, AV.allD, AV.cells, DV.cells]) ?_ ?_ | (refine st_gef0 ?_ ?_; focus (conv => (lhs; simp [litV, litE, litOb, toDL, AV.toD, AV.norm, List.replicate, fillC, fillOb, AV.mkAgg, AV.allD, AV.cells, DV.cells])); done) | refine sE (by conv => lhs; simp) ?_ | refine Nx.go ?_ | refine st_blke' (by decide) ?_ | refine st_seq ?_ | refine st_blk ?_ | refine st_cond (by conv => lhs; simp) (by conv => lhs; simp [litV, litE, litOb, toDL, AV.toD, AV.norm, List.replicate, fillC, fillOb, AV.mkAgg, AV.allD, AV.cells, DV.cells]) ?_ ?_ ?_ | refine st_lexit ?_) | (intro h_; try simp only [reduceCtorEq, y1, y2, y3, y4, y5, y6, y7, y8, y9, z1, z2, z3, z4, z5, z6, z7, ne_eq] at h_))
    all_goals try (first | contradiction | exact True.intro | omega | rfl | (simp [AV.fits, AV.cells, AV.one, DV.fits, DV.cells, DV.one, DV.conf, confL, DV.conf1]; done) | (simp [AV.fits, AV.cells, AV.one, DV.fits, DV.cells, DV.one, DV.conf, confL, DV.conf1, *] <;> omega))
    refine st_e (st_app (id := 0) (off := 0) (len := 0) (es := []) (ds := xs.map dOp) (by simp) (by conv => lhs; simp) (by conv => lhs; simp) rfl rfl (by simp [DV.fits, DV.cells, DV.one]) (by simp; omega) ?_)
    repeat' (first | (with_reducible first | refine st_reg ?_ | refine sN (by conv => lhs; simp) ?_ | refine rN ?_ ?_ | refine rO ?_ ?_ | refine rF ?_ ?_ | refine sG (by conv => lhs; simp) ?_ | refine gF ?_ | refine gS rfl (by conv => lhs; simp) ?_ ?_ | (refine st_gef0 ?_ ?_; focus (conv => (lhs; simp)); done) | refine sE (by conv => lhs; simp) ?_ | refine Nx.go ?_ | refine st_blke' (by decide) ?_ | refine st_seq ?_ | refine st_blk ?_ | refine st_cond (by conv => lhs; simp) (by conv => lhs; simp) ?_ ?_ ?_ | refine st_lexit ?_) | (intro h_; try simp only [reduceCtorEq, y1, y2, y3, y4, y5, y6, y7, y8, y9, z1, z2, z3, z4, z5, z6, z7, ne_eq] at h_))
    all_goals try (first | contradiction | exact True.intro | omega | rfl | (simp [AV.fits, AV.cells, AV.one, DV.fits, DV.cells, DV.one, DV.conf, confL, DV.conf1]; done) | (simp [AV.fits, AV.cells, AV.one, DV.fits, DV.cells, DV.one, DV.conf, confL, DV.conf1, *] <;> omega))
    refine atEnd_Hr 2 (Gh.refl _) ⟨trivial, trivial⟩ (Nat.zero_le _) (Nat.le_refl _) ?_ rfl ⟨1, ?_, rfl⟩
    · intro i o hi ho
      match i with
      | 0 => simp at ho
      | 1 => simp only [List.getElem?_cons_succ, List.getElem?_cons_zero, List.set_cons_zero, List.cons_append, List.nil_append, Option.some.injEq] at ho; subst ho; exact undL_data _
      | i + 2 => omega
    · show AV.hs _ _ _ _ = _
      simp
  · have hx0 : xs = [] := by
      cases xs with
      | nil => rfl
      | cons a r => have := hbx (by simp); cases this
    subst hx0
    repeat' (first | (with_reducible first | refine st_reg ?_ | refine sN (by conv => lhs; simp) ?_ | refine rN ?_ ?_ | refine rO ?_ ?_ | refine rF ?_ ?_ | refine sG (by conv => lhs; simp) ?_ | refine gF ?_ | refine gS rfl (by conv => lhs; simp) ?_ ?_ | (refine st_gef0 ?_ ?_; focus (conv => (lhs; simp)); done) | refine sE (by conv => lhs; simp) ?_ | refine Nx.go ?_ | refine st_blke' (by decide) ?_ | refine st_seq ?_ | refine st_blk ?_ | refine st_cond (by conv => lhs; simp) (by conv => lhs; simp) ?_ ?_ ?_ | refine st_lexit ?_) | (intro h_; try simp only [reduceCtorEq, y1, y2, y3, y4, y5, y6, y7, y8, y9, z1, z2, z3, z4, z5, z6, z7, ne_eq] at h_))
    all_goals try (first | contradiction | exact True.intro | omega | rfl | (simp [AV.fits, AV.cells, AV.one, DV.fits, DV.cells, DV.one, DV.conf, confL, DV.conf1]; done) | (simp [AV.fits, AV.cells, AV.one, DV.fits, DV.cells, DV.one, DV.conf, confL, DV.conf1, *] <;> omega))
    refine atEnd_Hr 1 (Gh.nils (i := 1) 2 rfl) ⟨trivial, trivial⟩ (Nat.zero_le _) (Nat.le_refl _) ?_ rfl ⟨0, rfl, rfl⟩
    intro i o hi ho
    match i with
    | 0 => simp at ho; subst ho; rfl
    | i + 1 => omega

theorem ren_data (f : Nat → Nat) (sz : Nat) (ds : List DV) : (Ob.arr sz (ds.map .d)).ren f = .arr sz (ds.map .d) := by
  simp only [Ob.ren, renL_map, List.map_map]
  congr 1
theorem clone_new {H Hc' H' : Heap} {id sz : Nat} {ds : List DV} (hH : CallH [] H Hc' H') (hid : Hc'.ob id = some (.arr sz (ds.map .d))) : H'.ob (H.length + id) = some (.arr sz (ds.map .d)) := by
  have := hH.new id _ (by rw [show ([] : List Nat).length + id = id from Nat.zero_add id]; exact ob_get hid)
  rwa [ren_data] at this
theorem bld_ren (x : Inp) (m : Nat) (f : Nat → Nat) : (bldO x m).ren f = bldO x (f m) := by simp [bldO, Ob.ren, AV.ren, renL]
theorem map_ren (f : Nat → Nat) (M : List (Key × Arc)) : (mapO M).ren f = mapO M := by
  simp only [mapO, Ob.ren, renE_map, mapV, List.map_map]
  congr 1
theorem hand01 {H : Heap} {x : Inp} {M : List (Key × Arc)} (h0 : H.ob 0 = some (bldO x 1)) (h1 : H.ob 1 = some (mapO M)) : handM (renOf [0, 1] H.length) H [0, 1] (BH x M) := by
  refine ⟨ob_lt h0, ?_, ob_lt h1, ?_, trivial⟩
  · rw [ob_get h0]; simp [bld_ren, renOf]
  · rw [ob_get h1]; simp [map_ren]
theorem back01 {H H' : Heap} {x : Inp} {M : List (Key × Arc)} (hc : CallH [0, 1] H (BH x M) H') : H'.ob 0 = some (bldO x 1) ∧ H'.ob 1 = some (mapO M) ∧ H'.length = H.length := by
  refine ⟨?_, ?_, ?_⟩
  · have := hc.inn 0 0 (bldO x 1) rfl rfl
    rwa [bld_ren] at this
  · have := hc.inn 1 1 (mapO M) rfl rfl
    rwa [map_ren] at this
  · have := hc.len; simpa [BH] using this

def readArc (i m : Nat) (cost : Int) (ops : List Op) (r : List Int) (t : Nat) : Arc := ⟨2 * i, 2 * m + 2, t, cost + r.getD t 0, ops ++ [⟨1, t⟩]⟩
def readStep (i m : Nat) (cost : Int) (ops : List Op) (r : List Int) (M : List (Key × Arc)) (t : Nat) : List (Key × Arc) :=
  if r.getD t 0 ≥ 0 then addM M (readArc i m cost ops r t) else M
def readsL (i m : Nat) (cost : Int) (ops : List Op) (r : List Int) (M : List (Key × Arc)) (n : Nat) : List (Key × Arc) := (List.range n).foldl (readStep i m cost ops r) M

theorem reads47 (x : Inp) (M : List (Key × Arc)) (i m : Nat) (cost : Int) (ops : List Op) (hx : WF x) (hi : i ≤ x.cols.length) (hm' : m < x.cols.length) (hcost : 0 ≤ cost ∧ cost ≤ 1099511627776) (hops : ops.length < 1000) :
    Fn prog 34 [.ptr 0 0 0, .d (.int .i64 i), .d (.int .i64 m), .d (.int .i64 cost), .d (.vs (ops.map dOp))] (BH x M)
      (fun r H' => r = .tup [] ∧ H' = BH x (readsL i m cost ops x.cols[m].read M x.insert.length)) := by
  have hn := hx.n
  have ht := hx.t
  have hcm := hx.cols x.cols[m] (List.getElem_mem hm')
  refine fn_of e34 hm (by rfl) (vs := [.ptr 0 0 0, .d (.int .i64 i), .d (.int .i64 m), .d (.int .i64 cost), .d (.vs (ops.map dOp)), .undef, .undef, .undef, .undef, .undef, .undef, .undef]) rfl ?_
  unfold c34 BH bldO
  have w1 : IntKind.i64.wrap (2 * (i : Int)) = 2 * i := wrap64 (by omega) (by omega)
  have w2 : IntKind.i64.wrap (2 * (m : Int)) = 2 * m := wrap64 (by omega) (by omega)
  have w3 : IntKind.i64.wrap (2 * (m : Int) + 2) = 2 * m + 2 := wrap64 (by omega) (by omega)
  obtain ⟨R, hR⟩ : ∃ R, R = x.cols[m].read := ⟨_, rfl⟩
  rw [← hR] at hcm
  repeat' (first | (with_reducible first | refine st_reg ?_ | refine sN (by conv => lhs; simp [getD_map_lt, hm', dCol, ← hR]) ?_ | refine rN ?_ ?_ | refine rO ?_ ?_ | refine rF ?_ ?_ | refine sG (by conv => lhs; simp [getD_map_lt, hm', dCol, ← hR]) ?_ | refine gF ?_ | refine gS rfl (by conv => lhs; simp [getD_map_lt, hm', dCol, ← hR]) ?_ ?_ | (refine st_gef0 ?_ ?_; focus (conv => (lhs; simp [getD_map_lt, hm', dCol, ← hR])); done) | refine sE (by conv => lhs; simp) ?_ | refine Nx.go ?_ | refine st_blke' (by decide) ?_ | refine st_seq ?_ | refine st_blk ?_ | refine st_cond (by conv => lhs; simp) (by conv => lhs; simp [getD_map_lt, hm', dCol, ← hR]) ?_ ?_ ?_ | refine st_lexit ?_) | (intro h_; try simp only [reduceCtorEq, y1, y2, y3, y4, y5, y6, y7, y8, y9, z1, z2, z3, z4, z5, z6, z7, ne_eq] at h_))
  all_goals try (first | contradiction | exact True.intro | omega | rfl | (simp [AV.fits, AV.cells, AV.one, DV.fits, DV.cells, DV.one, DV.conf, confL, DV.conf1]; done) | (simp [AV.fits, AV.cells, AV.one, DV.fits, DV.cells, DV.one, DV.conf, confL, DV.conf1, *] <;> omega))
  refine wpC_loop (fun s => ∃ (k : Nat) (H : Heap) (v5 v6 : AV), k ≤ R.length ∧ s = ⟨[.ptr 0 0 0, .d (.int .i64 i), .d (.int .i64 m), .d (.int .i64 cost), .d (.vs (ops.map dOp)), v5, v6, .d (.vs (R.map dI)), .d (.int .i64 R.length), .d (.int .i64 k), .undef, .undef], H⟩ ∧
      H.ob 0 = some (bldO x 1) ∧ H.ob 1 = some (mapO (readsL i m cost ops R M k)))
    (fun s => R.length - (s.int 9).toNat)
    (s' := ⟨[.ptr 0 0 0, .d (.int .i64 i), .d (.int .i64 m), .d (.int .i64 cost), .d (.vs (ops.map dOp)), .undef, .undef, .d (.vs (R.map dI)), .d (.int .i64 R.length), .d (.int .i64 (0 : Nat)), .undef, .undef], BH x M⟩)
    (Gh.weak (by simp [weak])) ⟨0, BH x M, .undef, .undef, by omega, rfl, rfl, rfl⟩ ?_
  rintro _ ⟨k, H, v5, v6, hk, rfl, h0, h1⟩
  have hw : IntKind.i64.wrap ((k : Int) + 1) = ((k + 1 : Nat) : Int) := by rw [wrap64 (by omega) (by omega)]; simp
  rcases Nat.lt_or_ge k R.length with hkl | hkl
  · have hp := hcm.2.2.2.2.2 R[k] (List.getElem_mem hkl)
    have w4 : IntKind.i64.wrap (cost + R[k]) = cost + R[k] := wrap64 (by omega) (by omega)
    have hgk : R.getD k 0 = R[k] := by simp [List.getD_eq_getElem?_getD, hkl]
    have hstep : readsL i m cost ops R M (k + 1) = readStep i m cost ops R (readsL i m cost ops R M k) k := by
      simp [readsL, List.range_succ]
    by_cases hp0 : R[k] ≥ 0
    · skip
      repeat' (first | (with_reducible first | refine st_reg ?_ | refine sN (by conv => lhs; simp [litV, litE, litOb, toDL, AV.toD, AV.norm, List.replicate, fillC, fillOb, AV.mkAgg, AV.allD, AV.cells, DV.cells, getD_map_lt, hkl, dI, hp0, w1, w2, w3, w4]) ?_ | refine rN ?_ ?_ | refine rO ?_ ?_ | refine rF ?_ ?_ | refine sG (by conv => lhs; simp [litV, litE, litOb, toDL, AV.toD, AV.norm, List.replicate, fillC, fillOb, AV.mkAgg, AV.allD, AV.cells, DV.cells, getD_map_lt, hkl, dI, hp0, w1, w2, w3, w4]) ?_ | refine gF ?_ | refine gS rfl (by conv => lhs; simp [litV, litE, litOb, toDL, AV.toD, AV.norm, List.replicate, fillC, fillOb, AV.mkAgg, AV.allD, AV.cells, DV.cells, getD_map_lt, hkl, dI, hp0, w1, w2, w3, w4]) ?_ ?_ | (refine st_gef0 ?_ ?_; focus (conv => (lhs; simp [litV, litE, litOb, toDL, AV.toD, AV.norm, List.replicate, fillC, fillOb, AV.mkAgg, AV.allD, AV.cells, DV.cells, getD_map_lt, hkl, dI, hp0, w1, w2, w3, w4])); done) | refine sE (by conv => lhs; simp) ?_ | refine Nx.go ?_ | refine st_blke' (by decide) ?_ | refine st_seq ?_ | refine st_blk ?_ | refine st_cond (by conv => lhs; simp) (by conv => lhs; simp [litV, litE, litOb, toDL, AV.toD, AV.norm, List.replicate, fillC, fillOb, AV.mkAgg, AV.allD, AV.cells, DV.cells, getD_map_lt, hkl, dI, hp0, w1, w2, w3, w4]) ?_ ?_ ?_ | refine st_lexit ?_) | (intro h_; try simp only [reduceCtorEq, y1, y2, y3, y4, y5, y6, y7, y8, y9, z1, z2, z3, z4, z5, z6, z7, ne_eq] at h_))
      all_goals try (first | contradiction | exact True.intro | omega | rfl | (simp [AV.fits, AV.cells, AV.one, DV.fits, DV.cells, DV.one, DV.conf, confL, DV.conf1]; done) | (simp [AV.fits, AV.cells, AV.one, DV.fits, DV.cells, DV.one, DV.conf, confL, DV.conf1, *] <;> omega))
      refine st_e (stA_call [] ⟨by simp, trivial⟩ (by conv => lhs; simp) (Clone49 ops (by omega)) (by simp [argsM, AV.ren]) trivial List.nodup_nil (fun r Hc' H1 hr hH => ⟨trivial, ?_⟩))
      obtain ⟨id, rfl, hid⟩ := hr
      have hnew := clone_new hH hid
      have hren : (AV.hs id 0 ops.length 2).ren (renOf [] H.length) = .hs (H.length + id) 0 ops.length 2 := by simp [AV.ren, renOf]
      rw [hren]
      have l0 := ob_lt h0
      have l1 := ob_lt h1
      repeat' (first | (with_reducible first | refine st_reg ?_ | refine sN (by conv => lhs; simp [litV, litE, litOb, toDL, AV.toD, AV.norm, List.replicate, fillC, fillOb, AV.mkAgg, AV.allD, AV.cells, DV.cells, dI]) ?_ | refine rN ?_ ?_ | refine rO ?_ ?_ | refine rF ?_ ?_ | refine sG (by conv => lhs; simp [litV, litE, litOb, toDL, AV.toD, AV.norm, List.replicate, fillC, fillOb, AV.mkAgg, AV.allD, AV.cells, DV.cells, dI]) ?_ | refine gF ?_ | refine gS rfl (by conv => lhs; simp [litV, litE, litOb, toDL, AV.toD, AV.norm, List.replicate, fillC, fillOb, AV.mkAgg, AV.allD, AV.cells, DV.cells, dI]) ?_ ?_ | (refine st_gef0 ?_ ?_; focus (conv => (lhs; simp [litV, litE, litOb, toDL, AV.toD, AV.norm, List.replicate, fillC, fillOb, AV.mkAgg, AV.allD, AV.cells, DV.cells, dI])); done) | refine sE (by conv => lhs; simp) ?_ | refine Nx.go ?_ | refine st_blke' (by decide) ?_ | refine st_seq ?_ | refine st_blk ?_ | refine st_cond (by conv => lhs; simp) (by conv => lhs; simp [litV, litE, litOb, toDL, AV.toD, AV.norm, List.replicate, fillC, fillOb, AV.mkAgg, AV.allD, AV.cells, DV.cells, dI]) ?_ ?_ ?_ | refine st_lexit ?_) | (intro h_; try simp only [reduceCtorEq, y1, y2, y3, y4, y5, y6, y7, y8, y9, z1, z2, z3, z4, z5, z6, z7, ne_eq] at h_))
      all_goals try (first | contradiction | exact True.intro | omega | rfl | (simp [AV.fits, AV.cells, AV.one, DV.fits, DV.cells, DV.one, DV.conf, confL, DV.conf1]; done) | (simp [AV.fits, AV.cells, AV.one, DV.fits, DV.cells, DV.one, DV.conf, confL, DV.conf1, *] <;> omega))
      refine st_e (stA_appF (id := H.length + id) (off := 0) (len := ops.length) (olds := ops.map dOp) (ds := [.agg [.int .i64 1, .int .i64 k]]) ⟨by simp, trivial⟩ (by conv => lhs; simp) (by conv => lhs; simp) (arrOf_ob hnew) (by simp) (by simp) (by simp [DV.fits, DV.cells, DV.one]) (by simp; omega) (fun H2 hG => ⟨trivial, ?_⟩))
      have b0 := hG.ob' (by omega) (hH.ob' (by simp) h0)
      have b1 := hG.ob' (by omega) (hH.ob' (by simp) h1)
      repeat' (first | (with_reducible first | refine st_reg ?_ | refine sN (by conv => lhs; simp [litV, litE, litOb, toDL, AV.toD, AV.norm, List.replicate, fillC, fillOb, AV.mkAgg, AV.allD, AV.cells, DV.cells]) ?_ | refine rN ?_ ?_ | refine rO ?_ ?_ | refine rF ?_ ?_ | refine sG (by conv => lhs; simp [litV, litE, litOb, toDL, AV.toD, AV.norm, List.replicate, fillC, fillOb, AV.mkAgg, AV.allD, AV.cells, DV.cells]) ?_ | refine gF ?_ | refine gS rfl (by conv => lhs; simp [litV, litE, litOb, toDL, AV.toD, AV.norm, List.replicate, fillC, fillOb, AV.mkAgg, AV.allD, AV.cells, DV.cells]) ?_ ?_ | (refine st_gef0 ?_ ?_; focus (conv => (lhs; simp [litV, litE, litOb, toDL, AV.toD, AV.norm, List.replicate, fillC, fillOb, AV.mkAgg, AV.allD, AV.cells, DV.cells])); done) | refine sE (by conv => lhs; simp) ?_ | refine Nx.go ?_ | refine st_blke' (by decide) ?_ | refine st_seq ?_ | refine st_blk ?_ | refine st_cond (by conv => lhs; simp) (by conv => lhs; simp [litV, litE, litOb, toDL, AV.toD, AV.norm, List.replicate, fillC, fillOb, AV.mkAgg, AV.allD, AV.cells, DV.cells]) ?_ ?_ ?_ | refine st_lexit ?_) | (intro h_; try simp only [reduceCtorEq, y1, y2, y3, y4, y5, y6, y7, y8, y9, z1, z2, z3, z4, z5, z6, z7, ne_eq] at h_))
      all_goals try (first | contradiction | exact True.intro | omega | rfl | (simp [AV.fits, AV.cells, AV.one, DV.fits, DV.cells, DV.one, DV.conf, confL, DV.conf1]; done) | (simp [AV.fits, AV.cells, AV.one, DV.fits, DV.cells, DV.one, DV.conf, confL, DV.conf1, *] <;> omega))
      refine st_e (stA_call [0, 1] ⟨by simp, trivial⟩ (by conv => lhs; simp) (add48 x _ (readArc i m cost ops R k)) (by simp [argsM, AV.ren, renOf, readArc, dArc, dOp, hkl]) (hand01 b0 b1) (by simp) (fun r Hc2 H3 hr2 hH2 => ⟨trivial, ?_⟩))
      obtain ⟨rfl, rfl⟩ := hr2
      obtain ⟨c0, c1, _⟩ := back01 hH2
      repeat' (first | (with_reducible first | refine st_reg ?_ | refine sN (by conv => lhs; simp [hw]) ?_ | refine rN ?_ ?_ | refine rO ?_ ?_ | refine rF ?_ ?_ | refine sG (by conv => lhs; simp [hw]) ?_ | refine gF ?_ | refine gS rfl (by conv => lhs; simp [hw]) ?_ ?_ | (refine st_gef0 ?_ ?_; focus (conv => (lhs; simp [hw])); done) | refine sE (by conv => lhs; simp) ?_ | refine Nx.go ?_ | refine st_blke' (by decide) ?_ | refine st_seq ?_ | refine st_blk ?_ | refine st_cond (by conv => lhs; simp) (by conv => lhs; simp [hw]) ?_ ?_ ?_ | refine st_lexit ?_) | (intro h_; try simp only [reduceCtorEq, y1, y2, y3, y4, y5, y6, y7, y8, y9, z1, z2, z3, z4, z5, z6, z7, ne_eq] at h_))
      all_goals try (first | contradiction | exact True.intro | omega | rfl | (simp [AV.fits, AV.cells, AV.one, DV.fits, DV.cells, DV.one, DV.conf, confL, DV.conf1]; done) | (simp [AV.fits, AV.cells, AV.one, DV.fits, DV.cells, DV.one, DV.conf, confL, DV.conf1, *] <;> omega))
      refine st_lnormw (ys := [.ptr 0 0 0, .d (.int .i64 i), .d (.int .i64 m), .d (.int .i64 cost), .d (.vs (ops.map dOp)), .d (.int .i64 k), .d (.int .i64 R[k]), .d (.vs (R.map dI)), .d (.int .i64 R.length), .d (.int .i64 (k + 1 : Nat)), .undef, .undef]) (by simp [weak]) ⟨k + 1, H3, _, _, by omega, rfl, c0, ?_⟩ (by simp [St.int]; omega)
      rw [c1, hstep, readStep, hgk, if_pos hp0]
    · have hp0' : ¬ 0 ≤ R[k] := by omega
      repeat' (first | (with_reducible first | refine st_reg ?_ | refine sN (by conv => lhs; simp [getD_map_lt, hkl, dI, hp0', hw]) ?_ | refine rN ?_ ?_ | refine rO ?_ ?_ | refine rF ?_ ?_ | refine sG (by conv => lhs; simp [getD_map_lt, hkl, dI, hp0', hw]) ?_ | refine gF ?_ | refine gS rfl (by conv => lhs; simp [getD_map_lt, hkl, dI, hp0', hw]) ?_ ?_ | (refine st_gef0 ?_ ?_; focus (conv => (lhs; simp [getD_map_lt, hkl, dI, hp0', hw])); done) | refine sE (by conv => lhs; simp) ?_ | refine Nx.go ?_ | refine st_blke' (by decide) ?_ | refine st_seq ?_ | refine st_blk ?_ | refine st_cond (by conv => lhs; simp) (by conv => lhs; simp [getD_map_lt, hkl, dI, hp0', hw]) ?_ ?_ ?_ | refine st_lexit ?_) | (intro h_; try simp only [reduceCtorEq, y1, y2, y3, y4, y5, y6, y7, y8, y9, z1, z2, z3, z4, z5, z6, z7, ne_eq] at h_))
      all_goals try (first | contradiction | exact True.intro | omega | rfl | (simp [AV.fits, AV.cells, AV.one, DV.fits, DV.cells, DV.one, DV.conf, confL, DV.conf1]; done) | (simp [AV.fits, AV.cells, AV.one, DV.fits, DV.cells, DV.one, DV.conf, confL, DV.conf1, *] <;> omega))
      refine st_lnormw (ys := [.ptr 0 0 0, .d (.int .i64 i), .d (.int .i64 m), .d (.int .i64 cost), .d (.vs (ops.map dOp)), .d (.int .i64 k), .d (.int .i64 R[k]), .d (.vs (R.map dI)), .d (.int .i64 R.length), .d (.int .i64 (k + 1 : Nat)), .undef, .undef]) (by simp [weak]) ⟨k + 1, H, _, _, by omega, rfl, h0, ?_⟩ (by simp [St.int]; omega)
      rw [h1, hstep, readStep, hgk, if_neg (by omega)]
  · have hkR : k = x.insert.length := by omega
    subst hkR
    repeat' (first | (with_reducible first | refine st_reg ?_ | refine sN (by conv => lhs; simp [hkl]) ?_ | refine rN ?_ ?_ | refine rO ?_ ?_ | refine rF ?_ ?_ | refine sG (by conv => lhs; simp [hkl]) ?_ | refine gF ?_ | refine gS rfl (by conv => lhs; simp [hkl]) ?_ ?_ | (refine st_gef0 ?_ ?_; focus (conv => (lhs; simp [hkl])); done) | refine sE (by conv => lhs; simp) ?_ | refine Nx.go ?_ | refine st_blke' (by decide) ?_ | refine st_seq ?_ | refine st_blk ?_ | refine st_cond (by conv => lhs; simp) (by conv => lhs; simp [hkl]) ?_ ?_ ?_ | refine st_lexit ?_) | (intro h_; try simp only [reduceCtorEq, y1, y2, y3, y4, y5, y6, y7, y8, y9, z1, z2, z3, z4, z5, z6, z7, ne_eq] at h_))
    all_goals try (first | contradiction | exact True.intro | omega | rfl | (simp [AV.fits, AV.cells, AV.one, DV.fits, DV.cells, DV.one, DV.conf, confL, DV.conf1]; done) | (simp [AV.fits, AV.cells, AV.one, DV.fits, DV.cells, DV.one, DV.conf, confL, DV.conf1, *] <;> omega))
    exact atEnd_Hn 2 (Gh.refl _) trivial (Nat.le_refl _) (by have := ob_lt h1; show 2 ≤ H.length; omega) (BH_und h0 h1) rfl ⟨rfl, by rw [← hR]; exact take2 h0 h1⟩
end Go.Vm.L
