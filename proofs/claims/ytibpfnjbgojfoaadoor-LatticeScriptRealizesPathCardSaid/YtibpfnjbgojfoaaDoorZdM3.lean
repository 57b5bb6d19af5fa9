/- Lattice: Build. -/
import Derived.Test.YtibpfnjbgojfoaaDoorZdM2
set_option linter.all false
set_option maxHeartbeats 8000000
namespace Go.Vm.L
open Go Go.Vm

theorem eraseIdx_mapL {α β : Type} (f : α → β) : ∀ (xs : List α) (j : Nat), (xs.map f).eraseIdx j = (xs.eraseIdx j).map f
  | [], j => by simp
  | x :: r, 0 => by simp
  | x :: r, j + 1 => by simp [eraseIdx_mapL f r j]
theorem erase_perm {α : Type} : ∀ (xs : List α) (j : Nat) (h : j < xs.length), (xs[j] :: xs.eraseIdx j).Perm xs
  | [], j, h => by simp at h
  | x :: r, 0, h => by simp
  | x :: r, j + 1, h => by
    have hj : j < r.length := by simpa using h
    simp only [List.getElem_cons_succ, List.eraseIdx_cons_succ]
    exact (List.Perm.swap x r[j] _).trans ((erase_perm r j hj).cons x)

theorem Build12 (hS : SortC) (x : Inp) (hx : WF x) (hMb : ∀ M, M = buildM x (x.cols.length + 1) → M.length < 1000000) : Fn prog 6 [.d (dInp x)] [] (fun r H' => r = .d (dLat (buildL x)) ∧ H' = []) := by
  have hn := hx.n
  have ht := hx.t
  refine Fn.norm (R := fun r H' => r.norm = .d (dLat (buildL x)) ∧ H' = []) ?_ (fun _ _ h => h)
  refine fn_of e6 hm (by rfl) (vs := [.d (dInp x), .undef, .undef, .undef, .undef, .undef, .undef, .undef, .undef, .undef, .undef, .undef, .undef, .undef, .undef, .undef, .undef, .undef, .undef]) rfl ?_
  unfold c6
  obtain ⟨n, hnn⟩ : ∃ n, n = x.cols.length := ⟨_, rfl⟩
  have w1 : IntKind.i64.wrap (2 * (n : Int)) = 2 * n := wrap64 (by omega) (by omega)
  obtain ⟨N, hN⟩ : ∃ N, N = 2 * n + 1 := ⟨_, rfl⟩
  have w2 : IntKind.i64.wrap (2 * (n : Int) + 1) = (N : Int) := by rw [wrap64 (by omega) (by omega)]; omega
  obtain ⟨n1, hn1⟩ : ∃ n1, n1 = n + 1 := ⟨_, rfl⟩
  have w3 : IntKind.i64.wrap ((n : Int) + 1) = (n1 : Int) := by rw [wrap64 (by omega) (by omega)]; omega
  repeat' (first | (with_reducible first | refine st_reg ?_ | refine sN (by conv => lhs; simp [litV, litE, litOb, toDL, AV.toD, AV.norm, List.replicate, fillC, fillOb, AV.mkAgg, AV.allD, AV.cells, DV.cells, dInp, ← hnn, w1, w2]) ?_ | refine rN ?_ ?_ | refine rO ?_ ?_ | refine rF ?_ ?_ | refine sG (by conv => lhs; simp [litV, litE, litOb, toDL, AV.toD, AV.norm, List.replicate, fillC, fillOb, AV.mkAgg, AV.allD, AV.cells, DV.cells, dInp, ← hnn, w1, w2]) ?_ | refine gF ?_ | refine gS rfl (by conv => lhs; simp [litV, litE, litOb, toDL, AV.toD, AV.norm, List.replicate, fillC, fillOb, AV.mkAgg, AV.allD, AV.cells, DV.cells, dInp, ← hnn, w1, w2]) ?_ ?_ | (refine st_gef0 ?_ ?_; focus (conv => (lhs; simp [litV, litE, litOb, toDL, AV.toD, AV.norm, List.replicate, fillC, fillOb, AV.mkAgg, AV.allD, AV.cells, DV.cells, dInp, ← hnn, w1, w2])); done) | refine sE (by conv => lhs; simp) ?_ | refine Nx.go ?_ | refine st_blke' (by decide) ?_ | refine st_seq ?_ | refine st_blk ?_ | refine st_cond (by conv => lhs; simp) (by conv => lhs; simp [litV, litE, litOb, toDL, AV.toD, AV.norm, List.replicate, fillC, fillOb, AV.mkAgg, AV.allD, AV.cells, DV.cells, dInp, ← hnn, w1, w2]) ?_ ?_ ?_ | refine st_lexit ?_) | (intro h_; try simp only [reduceCtorEq, y1, y2, y3, y4, y5, y6, y7, y8, y9, z1, z2, z3, z4, z5, z6, z7, ne_eq] at h_))
  all_goals try (first | contradiction | exact True.intro | omega | rfl | (simp [AV.fits, AV.cells, AV.one, DV.fits, DV.cells, DV.one, DV.conf, confL, DV.conf1]; done) | (simp [AV.fits, AV.cells, AV.one, DV.fits, DV.cells, DV.one, DV.conf, confL, DV.conf1, *] <;> omega))
  refine st_e (stA_call [] ⟨by simp, trivial⟩ (by conv => lhs; simp) (Repeat29 1099511627776 N (by omega) (by omega)) (by simp [argsM, AV.ren, dI]) trivial List.nodup_nil (fun r Hc' H1 hr hH => ⟨trivial, ?_⟩))
  obtain ⟨id0, rfl, rfl, rfl⟩ := hr
  have hnew := clone_new (id := 0) (sz := 1) (ds := List.replicate N (dI 1099511627776)) hH (by simp [Heap.ob])
  simp only [List.length_cons, List.length_nil, Nat.zero_add, Nat.add_zero] at hnew
  have a1 := hH.ob' (j := 1) (by simp) rfl
  have a2 := hH.ob' (j := 2) (by simp) rfl
  have a3 := hH.ob' (j := 3) (by simp) rfl
  have hl1 : H1.length = 5 := by rw [hH.len]; simp
  clear hH
  repeat' (first | (with_reducible first | refine st_reg ?_ | refine sN (by conv => lhs; simp [litV, litE, litOb, toDL, AV.toD, AV.norm, List.replicate, fillC, fillOb, AV.mkAgg, AV.allD, AV.cells, DV.cells, AV.ren, renOf, hl1]) ?_ | refine rN ?_ ?_ | refine rO ?_ ?_ | refine rF ?_ ?_ | refine sG (by conv => lhs; simp [litV, litE, litOb, toDL, AV.toD, AV.norm, List.replicate, fillC, fillOb, AV.mkAgg, AV.allD, AV.cells, DV.cells, AV.ren, renOf, hl1]) ?_ | refine gF ?_ | refine gS rfl (by conv => lhs; simp [litV, litE, litOb, toDL, AV.toD, AV.norm, List.replicate, fillC, fillOb, AV.mkAgg, AV.allD, AV.cells, DV.cells, AV.ren, renOf, hl1]) ?_ ?_ | (refine st_gef0 ?_ ?_; focus (conv => (lhs; simp [litV, litE, litOb, toDL, AV.toD, AV.norm, List.replicate, fillC, fillOb, AV.mkAgg, AV.allD, AV.cells, DV.cells, AV.ren, renOf, hl1])); done) | refine sE (by conv => lhs; simp) ?_ | refine Nx.go ?_ | refine st_blke' (by decide) ?_ | refine st_seq ?_ | refine st_blk ?_ | refine st_cond (by conv => lhs; simp) (by conv => lhs; simp [litV, litE, litOb, toDL, AV.toD, AV.norm, List.replicate, fillC, fillOb, AV.mkAgg, AV.allD, AV.cells, DV.cells, AV.ren, renOf, hl1]) ?_ ?_ ?_ | refine st_lexit ?_) | (intro h_; try simp only [reduceCtorEq, y1, y2, y3, y4, y5, y6, y7, y8, y9, z1, z2, z3, z4, z5, z6, z7, ne_eq] at h_))
  all_goals try (first | contradiction | exact True.intro | omega | rfl | (simp [AV.fits, AV.cells, AV.one, DV.fits, DV.cells, DV.one, DV.conf, confL, DV.conf1]; done) | (simp [AV.fits, AV.cells, AV.one, DV.fits, DV.cells, DV.one, DV.conf, confL, DV.conf1, *] <;> omega))
  refine st_e (stA_store ⟨by simp, trivial⟩ (by conv => lhs; simp [hl1]) (by conv => lhs; simp) (arrOf_ob (by rw [← hl1]; exact ob_new)) (by simp) (by simp [AV.fits, AV.cells, AV.one, DV.one, DV.cells]) updA_whole (by simp [AV.fits, AV.cells, AV.one, DV.one, DV.cells]) (fun H2 hW => ⟨trivial, ?_⟩))
  have b5 := hW.self
  simp only [List.set_cons_zero] at b5
  have b1 := hW.ob' (j := 1) (by omega) (ob_old a1)
  have b2 := hW.ob' (j := 2) (by omega) (ob_old a2)
  have b3 := hW.ob' (j := 3) (by omega) (ob_old a3)
  have b4 := hW.ob' (j := 4) (by omega) (ob_old hnew)
  have hl2 : H2.length = 6 := by rw [hW.len]; simp [hl1]
  clear hW a1 a2 a3 hnew
  repeat' (first | (with_reducible first | refine st_reg ?_ | refine sN (by conv => lhs; simp [w3]) ?_ | refine rN ?_ ?_ | refine rO ?_ ?_ | refine rF ?_ ?_ | refine sG (by conv => lhs; simp [w3]) ?_ | refine gF ?_ | refine gS rfl (by conv => lhs; simp [w3]) ?_ ?_ | (refine st_gef0 ?_ ?_; focus (conv => (lhs; simp [w3])); done) | refine sE (by conv => lhs; simp) ?_ | refine Nx.go ?_ | refine st_blke' (by decide) ?_ | refine st_seq ?_ | refine st_blk ?_ | refine st_cond (by conv => lhs; simp) (by conv => lhs; simp [w3]) ?_ ?_ ?_ | refine st_lexit ?_) | (intro h_; try simp only [reduceCtorEq, y1, y2, y3, y4, y5, y6, y7, y8, y9, z1, z2, z3, z4, z5, z6, z7, ne_eq] at h_))
  all_goals try (first | contradiction | exact True.intro | omega | rfl | (simp [AV.fits, AV.cells, AV.one, DV.fits, DV.cells, DV.one, DV.conf, confL, DV.conf1]; done) | (simp [AV.fits, AV.cells, AV.one, DV.fits, DV.cells, DV.one, DV.conf, confL, DV.conf1, *] <;> omega))
  refine wpC_loop (fun s => ∃ (i : Nat) (H : Heap) (v6 : AV), i ≤ n1 ∧ s = ⟨[.d (dInp x), .ptr 0 0 0, .ptr 1 0 0, .ptr 3 0 0, .d (.int .i64 n), .ptr 5 0 0, v6, .undef, .undef, .undef, .d (.int .i64 n1), .d (.int .i64 i), .undef, .undef, .undef, .undef, .undef, .undef, .undef], H⟩ ∧ H.length = 6 ∧
      H.ob 1 = some (.arr 3 [.agg [.d (.int .i64 0), .nils, .nils]]) ∧ H.ob 2 = some (mapO (buildM x i)) ∧ H.ob 3 = some (bldO x 2) ∧ H.ob 4 = some (.arr 1 (((finTo x i).map dI).map .d)) ∧ H.ob 5 = some (.arr 3 [.agg [.d (.int .i64 N), .nils, .hs 4 0 N 1]]))
    (fun s => n1 - (s.int 11).toNat)
    (s' := ⟨[.d (dInp x), .ptr 0 0 0, .ptr 1 0 0, .ptr 3 0 0, .d (.int .i64 n), .ptr 5 0 0, .undef, .undef, .undef, .undef, .d (.int .i64 n1), .d (.int .i64 (0 : Nat)), .undef, .undef, .undef, .undef, .undef, .undef, .undef], H2⟩)
    (Gh.weak (by simp [weak])) ⟨0, H2, _, by omega, rfl, hl2, b1, b2, b3, ?_, ?_⟩ ?_
  · rw [b4, finTo_zero, ← hnn, ← hN]; simp
  · rw [b5]
  clear b1 b2 b3 b4 b5 hl2 H2 hl1 H1
  rintro _ ⟨i, H, v6, hi, rfl, hl, h1, h2, h3, h4, h5⟩
  have hw : IntKind.i64.wrap ((i : Int) + 1) = ((i + 1 : Nat) : Int) := by rw [wrap64 (by omega) (by omega)]; simp
  rcases Nat.lt_or_ge i n1 with hlt | hlt
  · have hin : i ≤ x.cols.length := by omega
    have w4 : IntKind.i64.wrap (2 * (i : Int)) = ((2 * i : Nat) : Int) := by rw [wrap64 (by omega) (by omega)]; omega
    repeat' (first | (with_reducible first | refine st_reg ?_ | refine sN (by conv => lhs; simp [hlt]) ?_ | refine rN ?_ ?_ | refine rO ?_ ?_ | refine rF ?_ ?_ | refine sG (by conv => lhs; simp [hlt]) ?_ | refine gF ?_ | refine gS rfl (by conv => lhs; simp [hlt]) ?_ ?_ | (refine st_gef0 ?_ ?_; focus (conv => (lhs; simp [hlt])); done) | refine sE (by conv => lhs; simp) ?_ | refine Nx.go ?_ | refine st_blke' (by decide) ?_ | refine st_seq ?_ | refine st_blk ?_ | refine st_cond (by conv => lhs; simp) (by conv => lhs; simp [hlt]) ?_ ?_ ?_ | refine st_lexit ?_) | (intro h_; try simp only [reduceCtorEq, y1, y2, y3, y4, y5, y6, y7, y8, y9, z1, z2, z3, z4, z5, z6, z7, ne_eq] at h_))
    all_goals try (first | contradiction | exact True.intro | omega | rfl | (simp [AV.fits, AV.cells, AV.one, DV.fits, DV.cells, DV.one, DV.conf, confL, DV.conf1]; done) | (simp [AV.fits, AV.cells, AV.one, DV.fits, DV.cells, DV.one, DV.conf, confL, DV.conf1, *] <;> omega))
    refine st_e (st_bldG h3 h2 (by omega) (from30 x _ i hx hin) ⟨by simp, trivial⟩ (by conv => lhs; simp) (by simp [argsM, AV.ren]) (fun f => by simp [AV.ren, renL]) (fun _ _ => trivial) (fun H1 c3 c2 cl cg => ?_))
    have c1 := (cg 1 (by omega) (by omega) (by omega)).trans h1
    have c4 := (cg 4 (by omega) (by omega) (by omega)).trans h4
    have c5 := (cg 5 (by omega) (by omega) (by omega)).trans h5
    repeat' (first | (with_reducible first | refine st_reg ?_ | refine sN (by conv => lhs; simp [c5, w4]) ?_ | refine rN ?_ ?_ | refine rO ?_ ?_ | refine rF ?_ ?_ | refine sG (by conv => lhs; simp [c5, w4]) ?_ | refine gF ?_ | refine gS rfl (by conv => lhs; simp [c5, w4]) ?_ ?_ | (refine st_gef0 ?_ ?_; focus (conv => (lhs; simp [c5, w4])); done) | refine sE (by conv => lhs; simp) ?_ | refine Nx.go ?_ | refine st_blke' (by decide) ?_ | refine st_seq ?_ | refine st_blk ?_ | refine st_cond (by conv => lhs; simp) (by conv => lhs; simp [c5, w4]) ?_ ?_ ?_ | refine st_lexit ?_) | (intro h_; try simp only [reduceCtorEq, y1, y2, y3, y4, y5, y6, y7, y8, y9, z1, z2, z3, z4, z5, z6, z7, ne_eq] at h_))
    all_goals try (first | contradiction | exact True.intro | omega | rfl | (simp [AV.fits, AV.cells, AV.one, DV.fits, DV.cells, DV.one, DV.conf, confL, DV.conf1]; done) | (simp [AV.fits, AV.cells, AV.one, DV.fits, DV.cells, DV.one, DV.conf, confL, DV.conf1, *] <;> omega))
    refine st_e (st_bldG c3 c2 (by omega) (deleted31 x _ i x.cols.length hx hin (Nat.le_refl _)) ⟨by simp, trivial⟩ (by conv => lhs; simp) (by simp [argsM, AV.ren, hnn]) (fun f => by simp [AV.ren, renL]) (fun H' hp => by simp [pendOk, AV.rid, hp 5 (by omega) (by omega) (by omega)]) (fun H2 d3 d2 dl dg => ?_))
    have d1 := (dg 1 (by omega) (by omega) (by omega)).trans c1
    have d4 := (dg 4 (by omega) (by omega) (by omega)).trans c4
    have d5 := (dg 5 (by omega) (by omega) (by omega)).trans c5
    have h2i : 2 * i < N := by omega
    repeat' (first | (with_reducible first | refine st_reg ?_ | refine sN (by conv => lhs; simp [w4, h2i]) ?_ | refine rN ?_ ?_ | refine rO ?_ ?_ | refine rF ?_ ?_ | refine sG (by conv => lhs; simp [w4, h2i]) ?_ | refine gF ?_ | refine gS rfl (by conv => lhs; simp [w4, h2i]) ?_ ?_ | (refine st_gef0 ?_ ?_; focus (conv => (lhs; simp [w4, h2i])); done) | refine sE (by conv => lhs; simp) ?_ | refine Nx.go ?_ | refine st_blke' (by decide) ?_ | refine st_seq ?_ | refine st_blk ?_ | refine st_cond (by conv => lhs; simp) (by conv => lhs; simp [w4, h2i]) ?_ ?_ ?_ | refine st_lexit ?_) | (intro h_; try simp only [reduceCtorEq, y1, y2, y3, y4, y5, y6, y7, y8, y9, z1, z2, z3, z4, z5, z6, z7, ne_eq] at h_))
    all_goals try (first | contradiction | exact True.intro | omega | rfl | (simp [AV.fits, AV.cells, AV.one, DV.fits, DV.cells, DV.one, DV.conf, confL, DV.conf1]; done) | (simp [AV.fits, AV.cells, AV.one, DV.fits, DV.cells, DV.one, DV.conf, confL, DV.conf1, *] <;> omega))
    refine st_e (stA_store (v := .d (dI (delS x i x.cols.length))) ⟨by simp, trivial⟩ (by conv => lhs; simp) (by simp [dI]) (arrOf_ob d4) (by simp [finTo_len]; omega) (by simp [dI, AV.fits, DV.fits, DV.cells, DV.one]) updA_whole (by simp [dI, AV.fits, DV.fits, DV.cells, DV.one]) (fun H3 hW => ⟨trivial, ?_⟩))
    have e4 := hW.self
    have hL3 := hW.len
    repeat' (first | (with_reducible first | refine st_reg ?_ | refine sN (by conv => lhs; simp [hw]) ?_ | refine rN ?_ ?_ | refine rO ?_ ?_ | refine rF ?_ ?_ | refine sG (by conv => lhs; simp [hw]) ?_ | refine gF ?_ | refine gS rfl (by conv => lhs; simp [hw]) ?_ ?_ | (refine st_gef0 ?_ ?_; focus (conv => (lhs; simp [hw])); done) | refine sE (by conv => lhs; simp) ?_ | refine Nx.go ?_ | refine st_blke' (by decide) ?_ | refine st_seq ?_ | refine st_blk ?_ | refine st_cond (by conv => lhs; simp) (by conv => lhs; simp [hw]) ?_ ?_ ?_ | refine st_lexit ?_) | (intro h_; try simp only [reduceCtorEq, y1, y2, y3, y4, y5, y6, y7, y8, y9, z1, z2, z3, z4, z5, z6, z7, ne_eq] at h_))
    all_goals try (first | contradiction | exact True.intro | omega | rfl | (simp [AV.fits, AV.cells, AV.one, DV.fits, DV.cells, DV.one, DV.conf, confL, DV.conf1]; done) | (simp [AV.fits, AV.cells, AV.one, DV.fits, DV.cells, DV.one, DV.conf, confL, DV.conf1, *] <;> omega))
    refine st_lnormw (ys := [.d (dInp x), .ptr 0 0 0, .ptr 1 0 0, .ptr 3 0 0, .d (.int .i64 n), .ptr 5 0 0, .d (.int .i64 i), .undef, .undef, .undef, .d (.int .i64 n1), .d (.int .i64 (i + 1 : Nat)), .undef, .undef, .undef, .undef, .undef, .undef, .undef]) (by simp [weak])
      ⟨i + 1, H3, _, by omega, rfl, by omega, hW.ob' (by omega) d1, ?_, hW.ob' (by omega) d3, ?_, hW.ob' (by omega) d5⟩ (by simp [St.int]; omega)
    · rw [hW.ob' (by omega) d2]; simp [buildM, List.range_succ]
    · rw [e4, finTo_succ x i hin, List.map_set, List.map_set, show (2 * (i : Int)).toNat = 2 * i by omega]
  · have hin : i = n1 := by omega
    subst hin
    obtain ⟨M, hM⟩ : ∃ M, M = buildM x i := ⟨_, rfl⟩
    have hMx : M = buildM x (x.cols.length + 1) := by rw [hM, hn1, hnn]
    rw [← hM] at h2
    obtain ⟨KS, hKS⟩ : ∃ KS, KS = M.map fun p => dKey p.1 := ⟨_, rfl⟩
    obtain ⟨VS, hVS⟩ : ∃ VS, VS = M.map fun p => dArc p.2 := ⟨_, rfl⟩
    have hes : (mapV M).map (·.1) = KS := by rw [hKS]; simp [mapV]
    have hev : (mapV M).map (·.2) = VS.map .d := by rw [hVS]; simp [mapV]
    obtain ⟨H', hg, hl', g1, g3, g4, g5⟩ : ∃ H', Gh ⟨[.d (dInp x), .ptr 0 0 0, .ptr 1 0 0, .ptr 3 0 0, .d (.int .i64 n), .ptr 5 0 0, v6, .undef, .undef, .undef, .d (.int .i64 i), .d (.int .i64 i), .d (.bool false), .undef, .undef, .undef, .undef, .undef, .undef], H⟩
        ⟨[.d (dInp x), .ptr 0 0 0, .ptr 1 0 0, .ptr 3 0 0, .d (.int .i64 n), .ptr 5 0 0, .undef, .undef, .undef, .undef, .undef, .undef, .undef, .undef, .undef, .undef, .undef, .undef, .undef], H'⟩ ∧ H'.length = 6 ∧
        H'.ob 1 = some (.arr 3 [.agg [.d (.int .i64 0), .nils, .nils]]) ∧ H'.ob 3 = some (.arr 4 [.agg [.d (.vs (x.cols.map dCol)), .d (.vs (x.insert.map dI)), .d (.int .i64 x.swap), .d (.fm KS VS)]]) ∧
        H'.ob 4 = some (.arr 1 (((finTo x i).map dI).map .d)) ∧ H'.ob 5 = some (.arr 3 [.agg [.d (.int .i64 N), .nils, .hs 4 0 N 1]]) := by
      have hgo := Gh.letgo (xs := [.d (dInp x), .ptr 0 0 0, .ptr 1 0 0, .ptr 3 0 0, .d (.int .i64 n), .ptr 5 0 0, v6, .undef, .undef, .undef, .d (.int .i64 i), .d (.int .i64 i), .d (.bool false), .undef, .undef, .undef, .undef, .undef, .undef]) h2 hev
      rw [hes] at hgo
      refine ⟨_, hgo.trans (Gh.weak ?_), ?_, ?_, ?_, ?_, ?_⟩
      · simp [weak, AV.subm]
      · simp [Heap.subm, hl]
      · rw [subm_ob, ob_set_ne (by omega), h1]; simp [Ob.subm, submL, AV.subm]
      · rw [subm_ob, ob_set_ne (by omega), h3]; simp [bldO, Ob.subm, submL, AV.subm, gMap]
      · rw [subm_ob, ob_set_ne (by omega), h4, Option.map_some, subm_data]
      · rw [subm_ob, ob_set_ne (by omega), h5]; simp [Ob.subm, submL, AV.subm, gMap]
    repeat' (first | (with_reducible first | refine st_reg ?_ | refine sN (by conv => lhs; simp [hlt]) ?_ | refine rN ?_ ?_ | refine rO ?_ ?_ | refine rF ?_ ?_ | refine sG (by conv => lhs; simp [hlt]) ?_ | refine gF ?_ | refine gS rfl (by conv => lhs; simp [hlt]) ?_ ?_ | (refine st_gef0 ?_ ?_; focus (conv => (lhs; simp [hlt])); done) | refine sE (by conv => lhs; simp) ?_ | refine Nx.go ?_ | refine st_blke' (by decide) ?_ | refine st_seq ?_ | refine st_blk ?_ | refine st_cond (by conv => lhs; simp) (by conv => lhs; simp [hlt]) ?_ ?_ ?_) | (intro h_; try simp only [reduceCtorEq, y1, y2, y3, y4, y5, y6, y7, y8, y9, z1, z2, z3, z4, z5, z6, z7, ne_eq] at h_))
    all_goals try (first | contradiction | exact True.intro | omega | rfl | (simp [AV.fits, AV.cells, AV.one, DV.fits, DV.cells, DV.one, DV.conf, confL, DV.conf1]; done) | (simp [AV.fits, AV.cells, AV.one, DV.fits, DV.cells, DV.one, DV.conf, confL, DV.conf1, *] <;> omega))
    refine ⟨_, hg, ?_⟩
    clear hg h1 h2 h3 h4 h5 hl
    refine st_blke (st_then (st_seq ?_))
    repeat' (first | (with_reducible first | refine st_reg ?_ | refine sN (by conv => lhs; simp) ?_ | refine rN ?_ ?_ | refine rO ?_ ?_ | refine rF ?_ ?_ | (refine st_gf ?_ ?_; focus (conv => (lhs; simp)); done) | refine st_g (by conv => lhs; simp) rfl (by conv => lhs; simp) ?_ ?_ | (refine st_gef0 ?_ ?_; focus (conv => (lhs; simp)); done) | refine sE (by conv => lhs; simp) ?_ | refine Nx.go ?_ | refine st_blke' (by decide) ?_ | refine st_lexit ?_) | (intro h_; try simp only [reduceCtorEq, y1, y2, y3, y4, y5, y6, y7, y8, y9, z1, z2, z3, z4, z5, z6, z7, ne_eq] at h_))
    all_goals try (first | contradiction | exact True.intro | omega | rfl | (simp [AV.fits, AV.cells, AV.one, DV.fits, DV.cells, DV.one, DV.conf, confL, DV.conf1]; done) | (simp [AV.fits, AV.cells, AV.one, DV.fits, DV.cells, DV.one, DV.conf, confL, DV.conf1, *] <;> omega))
    refine st_mid (fun s => ∃ (ks : List Key) (H : Heap) (idk : Nat), s = ⟨[.d (dInp x), .ptr 0 0 0, .ptr 1 0 0, .ptr 3 0 0, .d (.int .i64 n), .ptr 5 0 0, .undef, .hs idk 0 ks.length 3, .undef, .undef, .undef, .undef, .undef, .undef, .undef, .undef, .undef, .undef, .undef], H⟩ ∧ 7 ≤ idk ∧
      H.ob idk = some (.arr 3 ((ks.map dKey).map .d)) ∧ ks.Perm (M.map (·.1)) ∧ H.ob 1 = some resO ∧ H.ob 3 = some (bfO x KS VS) ∧ H.ob 4 = some (finO x i) ∧ H.ob 5 = some (latO N .nils)) ?_ ?_
    rotate_left
    · rintro _ ⟨ks, H, idk, rfl, hidk, hok, hperm, h1, h3, h4, h5⟩
      have hNl : (finTo x i).length = N := by rw [finTo_len]; omega
      have := Build12c hS x n N i M KS VS hKS hVS (hMb M hMx) ks H idk hidk hok hperm h1 h3 h4 h5 hNl
      rw [show buildL x = ⟨N, (sortK (M.map (·.1))).map (arcOf M), finTo x i⟩ from ?_]
      · exact this
      · rw [buildL, buildA, ← hMx, hN, hn1, hnn]
    repeat' (first | (with_reducible first | refine st_reg ?_ | refine sN (by conv => lhs; simp [g3]) ?_ | refine rN ?_ ?_ | refine rO ?_ ?_ | refine rF ?_ ?_ | refine sG (by conv => lhs; simp [g3]) ?_ | refine gF ?_ | refine gS rfl (by conv => lhs; simp [g3]) ?_ ?_ | (refine st_gef0 ?_ ?_; focus (conv => (lhs; simp [g3])); done) | refine sE (by conv => lhs; simp) ?_ | refine Nx.go ?_ | refine st_blke' (by decide) ?_ | refine st_seq ?_ | refine st_blk ?_ | refine st_cond (by conv => lhs; simp) (by conv => lhs; simp [g3]) ?_ ?_ ?_ | refine st_lexit ?_) | (intro h_; try simp only [reduceCtorEq, y1, y2, y3, y4, y5, y6, y7, y8, y9, z1, z2, z3, z4, z5, z6, z7, ne_eq] at h_))
    all_goals try (first | contradiction | exact True.intro | omega | rfl | (simp [AV.fits, AV.cells, AV.one, DV.fits, DV.cells, DV.one, DV.conf, confL, DV.conf1]; done) | (simp [AV.fits, AV.cells, AV.one, DV.fits, DV.cells, DV.one, DV.conf, confL, DV.conf1, *] <;> omega))
    refine st_e (st_range (by simp) (by conv => lhs; simp) ?_)
    have k6 : Heap.ob (H' ++ [some (.iter none (KS.zip VS))]) 6 = some (.iter none (KS.zip VS)) := by rw [← hl']; exact ob_new
    have k1 := ob_old (o := .iter none (KS.zip VS)) g1
    have k3 := ob_old (o := .iter none (KS.zip VS)) g3
    have k4 := ob_old (o := .iter none (KS.zip VS)) g4
    have k5 := ob_old (o := .iter none (KS.zip VS)) g5
    have hMl : M.length < 1000000 := hMb M hMx
    repeat' (first | (with_reducible first | refine st_reg ?_ | refine sN (by conv => lhs; simp [hl']) ?_ | refine rN ?_ ?_ | refine rO ?_ ?_ | refine rF ?_ ?_ | refine sG (by conv => lhs; simp [hl']) ?_ | refine gF ?_ | refine gS rfl (by conv => lhs; simp [hl']) ?_ ?_ | (refine st_gef0 ?_ ?_; focus (conv => (lhs; simp [hl'])); done) | refine sE (by conv => lhs; simp) ?_ | refine Nx.go ?_ | refine st_blke' (by decide) ?_ | refine st_seq ?_ | refine st_blk ?_ | refine st_cond (by conv => lhs; simp) (by conv => lhs; simp [hl']) ?_ ?_ ?_ | refine st_lexit ?_) | (intro h_; try simp only [reduceCtorEq, y1, y2, y3, y4, y5, y6, y7, y8, y9, z1, z2, z3, z4, z5, z6, z7, ne_eq] at h_))
    all_goals try (first | contradiction | exact True.intro | omega | rfl | (simp [AV.fits, AV.cells, AV.one, DV.fits, DV.cells, DV.one, DV.conf, confL, DV.conf1]; done) | (simp [AV.fits, AV.cells, AV.one, DV.fits, DV.cells, DV.one, DV.conf, confL, DV.conf1, *] <;> omega))
    refine wpC_loop (L2 x n N i M KS VS) left6
      (s' := ⟨[.d (dInp x), .ptr 0 0 0, .ptr 1 0 0, .ptr 3 0 0, .d (.int .i64 n), .ptr 5 0 0, .undef, .nils, .undef, .undef, .undef, .undef, .undef, .it 6, .undef, .undef, .undef, .undef, .undef], H' ++ [some (.iter none (KS.zip VS))]⟩)
      (Gh.weak (by simp [weak, hl'])) ⟨M, [], none, _, .nils, .undef, rfl, by simp [hl'], ?_, OwnS.nils _ _, by simp [AV.rid], by simp, k1, k3, k4, k5⟩ ?_
    · rw [k6, hKS, hVS]; simp [List.zip_map']
    clear k1 k3 k4 k5 k6 g1 g3 g4 g5 hl' H'
    rintro _ ⟨left, ks, cur, H, v7, v8, rfl, hl, h6, ho, h7, hperm, h1, h3, h4, h5⟩
    obtain ⟨s1, s2, s3, s4⟩ := ho.sob
    have hlen : ks.length + left.length = M.length := by have := hperm.length_eq; simpa using this
    repeat' (first | (with_reducible first | refine st_reg ?_ | refine sN (by conv => lhs; simp) ?_ | refine rN ?_ ?_ | refine rO ?_ ?_ | refine rF ?_ ?_ | refine sG (by conv => lhs; simp) ?_ | refine gF ?_ | refine gS rfl (by conv => lhs; simp) ?_ ?_ | (refine st_gef0 ?_ ?_; focus (conv => (lhs; simp)); done) | refine sE (by conv => lhs; simp) ?_ | refine Nx.go ?_ | refine st_blke' (by decide) ?_ | refine st_seq ?_ | refine st_blk ?_ | refine st_cond (by conv => lhs; simp) (by conv => lhs; simp) ?_ ?_ ?_ | refine st_lexit ?_) | (intro h_; try simp only [reduceCtorEq, y1, y2, y3, y4, y5, y6, y7, y8, y9, z1, z2, z3, z4, z5, z6, z7, ne_eq] at h_))
    all_goals try (first | contradiction | exact True.intro | omega | rfl | (simp [AV.fits, AV.cells, AV.one, DV.fits, DV.cells, DV.one, DV.conf, confL, DV.conf1]; done) | (simp [AV.fits, AV.cells, AV.one, DV.fits, DV.cells, DV.one, DV.conf, confL, DV.conf1, *] <;> omega))
    refine st_e (st_next (by simp) (by conv => lhs; simp) h6 (fun hnil => ?_) (fun j k v hj => ?_))
    · have hl0 : left = [] := by simpa using hnil
      subst hl0
      rw [List.map_nil, List.append_nil] at hperm
      repeat' (first | (with_reducible first | refine st_reg ?_ | refine sN (by conv => lhs; simp [s1, s2]) ?_ | refine rN ?_ ?_ | refine rO ?_ ?_ | refine rF ?_ ?_ | refine sG (by conv => lhs; simp [s1, s2]) ?_ | refine gF ?_ | refine gS rfl (by conv => lhs; simp [s1, s2]) ?_ ?_ | (refine st_gef0 ?_ ?_; focus (conv => (lhs; simp [s1, s2])); done) | refine sE (by conv => lhs; simp) ?_ | refine Nx.go ?_ | refine st_blke' (by decide) ?_ | refine st_seq ?_ | refine st_blk ?_ | refine st_cond (by conv => lhs; simp) (by conv => lhs; simp [s1, s2]) ?_ ?_ ?_) | (intro h_; try simp only [reduceCtorEq, y1, y2, y3, y4, y5, y6, y7, y8, y9, z1, z2, z3, z4, z5, z6, z7, ne_eq] at h_))
      all_goals try (first | contradiction | exact True.intro | omega | rfl | (simp [AV.fits, AV.cells, AV.one, DV.fits, DV.cells, DV.one, DV.conf, confL, DV.conf1]; done) | (simp [AV.fits, AV.cells, AV.one, DV.fits, DV.cells, DV.one, DV.conf, confL, DV.conf1, *] <;> omega))
      have hks : ks.Perm (M.map (·.1)) := hperm
      rcases ho with ⟨rfl, hk0⟩ | ⟨idk, rfl, hok⟩
      · have hk0 : ks = [] := by simpa using hk0
        subst hk0
        refine ⟨_, (Gh.nils (i := 7) 3 rfl).trans (Gh.weak (ys := [.d (dInp x), .ptr 0 0 0, .ptr 1 0 0, .ptr 3 0 0, .d (.int .i64 n), .ptr 5 0 0, .undef, .hs H.length 0 0 3, .undef, .undef, .undef, .undef, .undef, .undef, .undef, .undef, .undef, .undef, .undef]) (by simp [weak])), ?_⟩
        exact st_blke (st_then ⟨[], _, H.length, rfl, hl, ob_new, hks, ob_old h1, ob_old h3, ob_old h4, ob_old h5⟩)
      · refine ⟨_, Gh.weak (ys := [.d (dInp x), .ptr 0 0 0, .ptr 1 0 0, .ptr 3 0 0, .d (.int .i64 n), .ptr 5 0 0, .undef, .hs idk 0 ks.length 3, .undef, .undef, .undef, .undef, .undef, .undef, .undef, .undef, .undef, .undef, .undef]) (by simp [weak]), ?_⟩
        exact st_blke (st_then ⟨ks, H, idk, rfl, h7 idk rfl, hok, hks, h1, h3, h4, h5⟩)
    · simp only [List.getElem?_map, Option.map_eq_some_iff] at hj
      obtain ⟨⟨pk, pa⟩, hj, he⟩ := hj
      simp only [Prod.mk.injEq] at he
      obtain ⟨rfl, rfl⟩ := he
      obtain ⟨H1, hH1⟩ : ∃ H1 : Heap, H1 = H.set 6 (some (.iter (some (dKey pk, dArc pa)) ((left.map fun p => (dKey p.1, dArc p.2)).eraseIdx j))) := ⟨_, rfl⟩
      have m6 : H1.ob 6 = some (.iter (some (dKey pk, dArc pa)) ((left.map fun p => (dKey p.1, dArc p.2)).eraseIdx j)) := by rw [hH1]; exact ob_set_self (by omega)
      have mo : ∀ j, j ≠ 6 → H1.ob j = H.ob j := fun j hj => by rw [hH1]; exact ob_set_ne hj
      have ml : H1.length = H.length := by rw [hH1]; simp
      rw [← hH1]
      clear hH1
      have mown := ho.frame (H' := H1) (fun id hr => mo id (by have := h7 id hr; omega))
      repeat' (first | (with_reducible first | refine st_reg ?_ | refine sN (by conv => lhs; simp) ?_ | refine rN ?_ ?_ | refine rO ?_ ?_ | refine rF ?_ ?_ | refine sG (by conv => lhs; simp) ?_ | refine gF ?_ | refine gS rfl (by conv => lhs; simp) ?_ ?_ | (refine st_gef0 ?_ ?_; focus (conv => (lhs; simp)); done) | refine sE (by conv => lhs; simp) ?_ | refine Nx.go ?_ | refine st_blke' (by decide) ?_ | refine st_seq ?_ | refine st_blk ?_ | refine st_cond (by conv => lhs; simp) (by conv => lhs; simp) ?_ ?_ ?_ | refine st_lexit ?_) | (intro h_; try simp only [reduceCtorEq, y1, y2, y3, y4, y5, y6, y7, y8, y9, z1, z2, z3, z4, z5, z6, z7, ne_eq] at h_))
      all_goals try (first | contradiction | exact True.intro | omega | rfl | (simp [AV.fits, AV.cells, AV.one, DV.fits, DV.cells, DV.one, DV.conf, confL, DV.conf1]; done) | (simp [AV.fits, AV.cells, AV.one, DV.fits, DV.cells, DV.one, DV.conf, confL, DV.conf1, *] <;> omega))
      refine st_e (st_entry (by simp) (by conv => lhs; simp) m6 ?_)
      repeat' (first | (with_reducible first | refine st_reg ?_ | refine sN (by conv => lhs; simp [litV, litE, litOb, toDL, AV.toD, AV.norm, List.replicate, fillC, fillOb, AV.mkAgg, AV.allD, AV.cells, DV.cells]) ?_ | refine rN ?_ ?_ | refine rO ?_ ?_ | refine rF ?_ ?_ | refine sG (by conv => lhs; simp [litV, litE, litOb, toDL, AV.toD, AV.norm, List.replicate, fillC, fillOb, AV.mkAgg, AV.allD, AV.cells, DV.cells]) ?_ | refine gF ?_ | refine gS rfl (by conv => lhs; simp [litV, litE, litOb, toDL, AV.toD, AV.norm, List.replicate, fillC, fillOb, AV.mkAgg, AV.allD, AV.cells, DV.cells]) ?_ ?_ | (refine st_gef0 ?_ ?_; focus (conv => (lhs; simp [litV, litE, litOb, toDL, AV.toD, AV.norm, List.replicate, fillC, fillOb, AV.mkAgg, AV.allD, AV.cells, DV.cells])); done) | refine sE (by conv => lhs; simp) ?_ | refine Nx.go ?_ | refine st_blke' (by decide) ?_ | refine st_seq ?_ | refine st_blk ?_ | refine st_cond (by conv => lhs; simp) (by conv => lhs; simp [litV, litE, litOb, toDL, AV.toD, AV.norm, List.replicate, fillC, fillOb, AV.mkAgg, AV.allD, AV.cells, DV.cells]) ?_ ?_ ?_ | refine st_lexit ?_) | (intro h_; try simp only [reduceCtorEq, y1, y2, y3, y4, y5, y6, y7, y8, y9, z1, z2, z3, z4, z5, z6, z7, ne_eq] at h_))
      all_goals try (first | contradiction | exact True.intro | omega | rfl | (simp [AV.fits, AV.cells, AV.one, DV.fits, DV.cells, DV.one, DV.conf, confL, DV.conf1]; done) | (simp [AV.fits, AV.cells, AV.one, DV.fits, DV.cells, DV.one, DV.conf, confL, DV.conf1, *] <;> omega))
      refine st_e (stA_store ⟨by simp, trivial⟩ (by conv => lhs; simp) (by conv => lhs; simp) (arrOf_ob ob_new) (by simp) (by simp [AV.fits, DV.fits, DV.cells, DV.one]) updA_whole (by simp [AV.fits, DV.fits, DV.cells, DV.one]) (fun H2 hW => ⟨trivial, ?_⟩))
      have hself := hW.self
      simp only [List.set_cons_zero] at hself
      have po : ∀ j, j < H1.length → H2.ob j = H1.ob j := fun j hj => by rw [hW.ob (by omega), ob_left hj]
      have pl : H2.length = H1.length + 1 := by rw [hW.len]; simp
      have pown := mown.frame (H' := H2) (fun id hr => po id (mown.lt hr))
      repeat' (first | (with_reducible first | refine st_reg ?_ | refine sN (by conv => lhs; simp [litV, litE, litOb, toDL, AV.toD, AV.norm, List.replicate, fillC, fillOb, AV.mkAgg, AV.allD, AV.cells, DV.cells, hself, s1, s2]) ?_ | refine rN ?_ ?_ | refine rO ?_ ?_ | refine rF ?_ ?_ | refine sG (by conv => lhs; simp [litV, litE, litOb, toDL, AV.toD, AV.norm, List.replicate, fillC, fillOb, AV.mkAgg, AV.allD, AV.cells, DV.cells, hself, s1, s2]) ?_ | refine gF ?_ | refine gS rfl (by conv => lhs; simp [litV, litE, litOb, toDL, AV.toD, AV.norm, List.replicate, fillC, fillOb, AV.mkAgg, AV.allD, AV.cells, DV.cells, hself, s1, s2]) ?_ ?_ | (refine st_gef0 ?_ ?_; focus (conv => (lhs; simp [litV, litE, litOb, toDL, AV.toD, AV.norm, List.replicate, fillC, fillOb, AV.mkAgg, AV.allD, AV.cells, DV.cells, hself, s1, s2])); done) | refine sE (by conv => lhs; simp) ?_ | refine Nx.go ?_ | refine st_blke' (by decide) ?_ | refine st_seq ?_ | refine st_blk ?_ | refine st_cond (by conv => lhs; simp) (by conv => lhs; simp [litV, litE, litOb, toDL, AV.toD, AV.norm, List.replicate, fillC, fillOb, AV.mkAgg, AV.allD, AV.cells, DV.cells, hself, s1, s2]) ?_ ?_ ?_ | refine st_lexit ?_) | (intro h_; try simp only [reduceCtorEq, y1, y2, y3, y4, y5, y6, y7, y8, y9, z1, z2, z3, z4, z5, z6, z7, ne_eq] at h_))
      all_goals try (first | contradiction | exact True.intro | omega | rfl | (simp [AV.fits, AV.cells, AV.one, DV.fits, DV.cells, DV.one, DV.conf, confL, DV.conf1]; done) | (simp [AV.fits, AV.cells, AV.one, DV.fits, DV.cells, DV.one, DV.conf, confL, DV.conf1, *] <;> omega))
      refine st_e (stA_appO2 (v := v7) (olds := ks.map dKey) (ds := [dKey pk]) (by simp [s1, s2]) (by conv => lhs; simp [s1, s2]) (by simp) pown (by simp [DV.fits, DV.cells, DV.one]) (by have := (List.getElem?_eq_some_iff.1 hj).1; simp; omega) (fun v' H3 qo qr ql qf => ?_))
      obtain ⟨r1, r2, _, _⟩ := qo.sob
      repeat' (first | (with_reducible first | refine st_reg ?_ | refine sN (by conv => lhs; simp [r1, r2]) ?_ | refine rN ?_ ?_ | refine rO ?_ ?_ | refine rF ?_ ?_ | refine sG (by conv => lhs; simp [r1, r2]) ?_ | refine gF ?_ | refine gS rfl (by conv => lhs; simp [r1, r2]) ?_ ?_ | (refine st_gef0 ?_ ?_; focus (conv => (lhs; simp [r1, r2])); done) | refine sE (by conv => lhs; simp) ?_ | refine Nx.go ?_ | refine st_blke' (by decide) ?_ | refine st_seq ?_ | refine st_blk ?_ | refine st_cond (by conv => lhs; simp) (by conv => lhs; simp [r1, r2]) ?_ ?_ ?_ | refine st_lexit ?_) | (intro h_; try simp only [reduceCtorEq, y1, y2, y3, y4, y5, y6, y7, y8, y9, z1, z2, z3, z4, z5, z6, z7, ne_eq] at h_))
      all_goals try (first | contradiction | exact True.intro | omega | rfl | (simp [AV.fits, AV.cells, AV.one, DV.fits, DV.cells, DV.one, DV.conf, confL, DV.conf1]; done) | (simp [AV.fits, AV.cells, AV.one, DV.fits, DV.cells, DV.one, DV.conf, confL, DV.conf1, *] <;> omega))
      have f3 : ∀ j, j < 7 → j ≠ 6 → H3.ob j = H.ob j := fun j hj hj6 => by
        rw [qf j (by omega) (fun e => by have := h7 j e; omega), po j (by omega), mo j hj6]
      refine st_lnormw (ys := [.d (dInp x), .ptr 0 0 0, .ptr 1 0 0, .ptr 3 0 0, .d (.int .i64 n), .ptr 5 0 0, .undef, v', .ptr H1.length 0 0, .undef, .undef, .undef, .undef, .it 6, .undef, .undef, .undef, .undef, .undef]) ?_ ?_ ?_
      · simp [weak]
      refine ⟨left.eraseIdx j, ks ++ [pk], some (dKey pk, dArc pa), H3, v', .ptr H1.length 0 0, rfl, by omega, ?_, by simpa using qo, fun id hr => by rw [qr] at hr; cases hr; omega, ?_, by rw [f3 1 (by omega) (by omega)]; exact h1, by rw [f3 3 (by omega) (by omega)]; exact h3, by rw [f3 4 (by omega) (by omega)]; exact h4, by rw [f3 5 (by omega) (by omega)]; exact h5⟩
      · rw [qf 6 (by omega) (fun e => by have := h7 6 e; omega), po 6 (by omega), m6, eraseIdx_mapL]
      · have hp2 := List.getElem?_eq_some_iff.1 hj
        obtain ⟨hjl, hje⟩ := hp2
        have hp3 : ((pk, pa) :: left.eraseIdx j).Perm left := by rw [← hje]; exact erase_perm _ _ hjl
        refine List.Perm.trans ?_ hperm
        rw [List.append_assoc]
        refine List.Perm.append_left _ ?_
        have := hp3.map (·.1)
        simpa using this
      · show left6 ⟨_, H3⟩ < left6 ⟨_, H⟩
        have hjl := (List.getElem?_eq_some_iff.1 hj).1
        have e6 : H3.ob 6 = some (.iter (some (dKey pk, dArc pa)) ((left.map fun p => (dKey p.1, dArc p.2)).eraseIdx j)) := by rw [qf 6 (by omega) (fun e => by have := h7 6 e; omega), po 6 (by omega), m6]
        simp only [left6, e6, h6]
        rw [List.length_eraseIdx_of_lt (by simpa using hjl)]
        simp; omega
end Go.Vm.L
