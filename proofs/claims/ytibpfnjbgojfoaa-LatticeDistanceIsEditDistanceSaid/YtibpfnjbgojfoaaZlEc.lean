/- Lattice: the program's edit operations at a place. -/
import Derived.Test.YtibpfnjbgojfoaaZlEb
set_option linter.all false
set_option maxHeartbeats 8000000
namespace Go.Vm.L
open Go Go.Vm
attribute [local simp] q_and q_loc q_var q_k q_sob_undef q_strip_undef q_sob_d q_strip_d q_sob_nils q_strip_nils q_sob_ptr q_strip_ptr q_sob_hs q_strip_hs q_sob_mp q_strip_mp q_sob_it q_strip_it q_sob_fp q_strip_fp q_sob_clo q_strip_clo q_sob_ifc q_strip_ifc q_sob_agg q_strip_agg q_sob_tup q_strip_tup q_sob_when q_strip_when q_argsOb0 q_argsOb1 q_mov q_pick q_pick000 q_pick001 q_pick010 q_pick011 q_pick100 q_pick101 q_pick110 q_pick111 q_bin q_eqs q_not q_neg q_conv q_fieldAddr q_load q_extract q_len q_nilCheck q_mkIface q_alloc q_box q_build q_lit q_mkFunc q_mkMap q_mkSlice q_slice q_ixa q_idx q_lookup q_field q_minmax q_i_add q_i_sub q_i_mul q_i_quo q_i_rem q_i_eql q_i_neq q_i_lss q_i_leq q_i_gtr q_i_geq q_i_and q_i_or q_i_xor q_i_shl q_i_shr q_b_eql q_s_eql q_b_neq q_s_neq q_s_add q_eqsd q_notd q_negd q_convd q_fap q_faf q_ldf q_ldp q_ldps q_exd q_len0 q_len0n q_len0h q_len1 q_len2 q_lenp q_lkp q_lkf q_lkps q_ncp q_ncf q_mkI q_mkF q_mkS q_ixd q_iaf q_iap q_ixh q_slvs q_slvh q_slvl q_mm1 q_mm2 q_mx2 q_fl q_flw q_bo q_bow q_add0 q_addf q_addo q_so0 q_so1 q_mk_mov q_mk_bin q_mk_eqs q_mk_not q_mk_neg q_mk_conv q_mk_fieldAddr q_mk_load q_mk_ixa q_mk_idx q_mk_lookup q_mk_len q_mk_pick q_mk_field q_mk_slice q_mk_build q_mk_minmax q_mk_extract q_mk_nilCheck q_mk_lit q_mk_box q_mk_alloc q_pd0 q_pdo0 q_pdb q_pdob q_pdv q_pdov q_pda q_pdoa q_pad q_paod q_paa q_paoa q_pdT q_pdoT q_obz q_obs q_eqk q_eqL0 q_eqL1 q_eq1i q_fitd

theorem Distance24 (x : Inp) (y : List Int) (hx : WF x) (hyl : y.length ≤ 1000) (hy : ∀ t ∈ y, 0 ≤ t ∧ t < x.insert.length) : Pure prog 24 [.d (dInp x), .d (.vs (y.map dI))] (.d (.int .i64 (ed x y 0 0))) := by
  refine fn_of e24 hm (by rfl) (vs := [.d (dInp x), .d (.vs (y.map dI)), .undef, .undef, .undef]) rfl ?_
  unfold c24
  obtain ⟨W, hW⟩ : ∃ W, W = y.length + 1 := ⟨_, rfl⟩
  obtain ⟨N, hN⟩ : ∃ N, N = (x.cols.length + 1) * W := ⟨_, rfl⟩
  have hN0 : 0 < N := by rw [hN]; exact Nat.mul_pos (by omega) (by omega)
  obtain ⟨ts, hts⟩ : ∃ ts, ts = fillE x y W N 0 := ⟨_, rfl⟩
  have htl : ts.length = N := by rw [hts, fillE_len]
  have htl' : 0 < ts.length := by omega
  have h0 : ts[0] = ed x y 0 0 := by
    have := fillE_tab (x := x) (y := y) (W := W) (N := N) (p := 0) (i := 0) (j := 0) (by omega) (by omega) (by omega)
    rw [← hts] at this
    rw [← this]; simp [tabT, List.getD_eq_getElem?_getD, htl']
  repeat' (first | (with_reducible first | refine st_reg ?_ | refine sN (by conv => lhs; simp [dInp]) ?_ | refine rN ?_ ?_ | refine rO ?_ ?_ | refine rF ?_ ?_ | refine sG (by conv => lhs; simp [dInp]) ?_ | refine gF ?_ | refine gS rfl (by conv => lhs; simp [dInp]) ?_ ?_ | (refine st_gef0 ?_ ?_; focus (conv => (lhs; simp [dInp])); done) | refine sE (by conv => lhs; simp) ?_ | refine Nx.go ?_ | refine st_blke' (by decide) ?_ | refine st_seq ?_ | refine st_blk ?_ | refine st_cond (by conv => lhs; simp) (by conv => lhs; simp [dInp]) ?_ ?_ ?_ | refine st_lexit ?_) | (intro h_; try simp only [reduceCtorEq, y1, y2, y3, y4, y5, y6, y7, y8, y9, z1, z2, z3, z4, z5, z6, z7, ne_eq] at h_))
  all_goals try (first | contradiction | exact True.intro | omega | rfl | (simp [AV.fits, AV.cells, AV.one, DV.fits, DV.cells, DV.one, DV.conf, confL, DV.conf1]; done) | (simp [AV.fits, AV.cells, AV.one, DV.fits, DV.cells, DV.one, DV.conf, confL, DV.conf1, *] <;> omega))
  refine st_e (st_call (by simp [solidOk]) (by conv => lhs; simp) (Terminals41 x y (by omega) hy) (by exact ⟨.inl rfl, .inl rfl, trivial⟩) (pendOk_refl _) ?_)
  repeat' (first | (with_reducible first | refine st_reg ?_ | refine sN (by conv => lhs; simp [dInp]) ?_ | refine rN ?_ ?_ | refine rO ?_ ?_ | refine rF ?_ ?_ | refine sG (by conv => lhs; simp [dInp]) ?_ | refine gF ?_ | refine gS rfl (by conv => lhs; simp [dInp]) ?_ ?_ | (refine st_gef0 ?_ ?_; focus (conv => (lhs; simp [dInp])); done) | refine sE (by conv => lhs; simp) ?_ | refine Nx.go ?_ | refine st_blke' (by decide) ?_ | refine st_seq ?_ | refine st_blk ?_ | refine st_cond (by conv => lhs; simp) (by conv => lhs; simp [dInp]) ?_ ?_ ?_ | refine st_lexit ?_) | (intro h_; try simp only [reduceCtorEq, y1, y2, y3, y4, y5, y6, y7, y8, y9, z1, z2, z3, z4, z5, z6, z7, ne_eq] at h_))
  all_goals try (first | contradiction | exact True.intro | omega | rfl | (simp [AV.fits, AV.cells, AV.one, DV.fits, DV.cells, DV.one, DV.conf, confL, DV.conf1]; done) | (simp [AV.fits, AV.cells, AV.one, DV.fits, DV.cells, DV.one, DV.conf, confL, DV.conf1, *] <;> omega))
  refine st_e (st_call (by simp [solidOk]) (by conv => lhs; simp) (table42 x y W N hx hyl hy hW hN) (by exact ⟨.inl rfl, .inl rfl, trivial⟩) (pendOk_refl _) ?_)
  rw [← hts]
  repeat' (first | (with_reducible first | refine st_reg ?_ | refine sN (by conv => lhs; simp [getD_map_lt, htl', dI, h0]) ?_ | refine rN ?_ ?_ | refine rO ?_ ?_ | refine rF ?_ ?_ | refine sG (by conv => lhs; simp [getD_map_lt, htl', dI, h0]) ?_ | refine gF ?_ | refine gS rfl (by conv => lhs; simp [getD_map_lt, htl', dI, h0]) ?_ ?_ | (refine st_gef0 ?_ ?_; focus (conv => (lhs; simp [getD_map_lt, htl', dI, h0])); done) | refine sE (by conv => lhs; simp) ?_ | refine Nx.go ?_ | refine st_blke' (by decide) ?_ | refine st_seq ?_ | refine st_blk ?_ | refine st_cond (by conv => lhs; simp) (by conv => lhs; simp [getD_map_lt, htl', dI, h0]) ?_ ?_ ?_ | refine st_lexit ?_) | (intro h_; try simp only [reduceCtorEq, y1, y2, y3, y4, y5, y6, y7, y8, y9, z1, z2, z3, z4, z5, z6, z7, ne_eq] at h_))
  all_goals try (first | contradiction | exact True.intro | omega | rfl | (simp [AV.fits, AV.cells, AV.one, DV.fits, DV.cells, DV.one, DV.conf, confL, DV.conf1]; done) | (simp [AV.fits, AV.cells, AV.one, DV.fits, DV.cells, DV.one, DV.conf, confL, DV.conf1, *] <;> omega))
  exact atEnd_pure ⟨trivial, trivial⟩ rfl rfl

structure Stp where
  kind : Int
  term : Int
  cost : Int
  tok : Nat
  em : Nat
@[simp] def dStp (s : Stp) : DV := .agg [.int .i64 s.kind, .int .i64 s.term, .int .i64 s.cost, .int .i64 s.tok, .int .i64 s.em]
def sR (x : Inp) (y : List Int) (i j : Nat) : List Stp := if i < x.cols.length ∧ j < y.length ∧ (readAt x i).getD (y.getD j 0).toNat 0 ≥ 0 then [⟨1, y.getD j 0, (readAt x i).getD (y.getD j 0).toNat 0, 1, 1⟩] else []
def sD (x : Inp) (i : Nat) : List Stp := if i < x.cols.length ∧ delAt x i < 1099511627776 then [⟨2, 0, delAt x i, 1, 0⟩] else []
def sI (x : Inp) (y : List Int) (j : Nat) : List Stp := if j < y.length then [⟨3, y.getD j 0, x.insert.getD (y.getD j 0).toNat 0, 0, 1⟩] else []
def sS (x : Inp) (y : List Int) (i j : Nat) : List Stp := if swapB x i = true ∧ j + 1 < y.length ∧ y.getD j 0 = kindAt x (i + 1) ∧ y.getD (j + 1) 0 = kindAt x i then [⟨4, 0, x.swap, 2, 2⟩] else []
def stepsL (x : Inp) (y : List Int) (i j : Nat) : List Stp := sR x y i j ++ sD x i ++ sI x y j ++ sS x y i j

theorem steps56 (x : Inp) (y : List Int) (i j : Nat) (hx : WF x) (hyl : y.length ≤ 1000) (hy : ∀ t ∈ y, 0 ≤ t ∧ t < x.insert.length) (hi : i ≤ x.cols.length) (hj : j ≤ y.length) :
    Pure prog 56 [.d (dInp x), .d (.vs (y.map dI)), .d (.int .i64 i), .d (.int .i64 j)] (.d (.vs ((stepsL x y i j).map dStp))) := by
  have hn := hx.n
  refine fn_of e56 hm (by rfl) (vs := [.d (dInp x), .d (.vs (y.map dI)), .d (.int .i64 i), .d (.int .i64 j), .undef, .undef, .undef, .undef, .undef, .undef, .undef, .undef, .undef]) rfl ?_
  unfold c56
  obtain ⟨lf, wl, hl0, hl1⟩ : ∃ lf : Int, IntKind.i64.wrap ((y.length : Int) - (j : Int)) = lf ∧ (0 < lf ↔ j < y.length) ∧ (1 < lf ↔ j + 1 < y.length) :=
    ⟨(y.length : Int) - j, wrap64 (by omega) (by omega), by omega, by omega⟩
  have hwi : IntKind.i64.wrap ((i : Int) + 1) = (i : Int) + 1 := wrap64 (by omega) (by omega)
  obtain ⟨mb, hmb'⟩ : ∃ mb, decide (i < x.cols.length) = mb := ⟨_, rfl⟩
  refine st_seq ?_
  repeat' (first | (with_reducible first | refine st_reg ?_ | refine sN (by conv => lhs; simp [dInp]) ?_ | refine rN ?_ ?_ | refine rO ?_ ?_ | refine rF ?_ ?_ | (refine st_gf ?_ ?_; focus (conv => (lhs; simp [dInp])); done) | refine st_g (by conv => lhs; simp [dInp]) rfl (by conv => lhs; simp [dInp]) ?_ ?_ | (refine st_gef0 ?_ ?_; focus (conv => (lhs; simp [dInp])); done) | refine sE (by conv => lhs; simp) ?_ | refine Nx.go ?_ | refine st_blke' (by decide) ?_ | refine st_lexit ?_) | (intro h_; try simp only [reduceCtorEq, y1, y2, y3, y4, y5, y6, y7, y8, y9, z1, z2, z3, z4, z5, z6, z7, ne_eq] at h_))
  all_goals try (first | contradiction | exact True.intro | omega | rfl | (simp [AV.fits, AV.cells, AV.one, DV.fits, DV.cells, DV.one, DV.conf, confL, DV.conf1]; done) | (simp [AV.fits, AV.cells, AV.one, DV.fits, DV.cells, DV.one, DV.conf, confL, DV.conf1, *] <;> omega))
  refine st_seq ?_
  repeat' (first | (with_reducible first | refine st_reg ?_ | refine sN (by conv => lhs; simp) ?_ | refine rN ?_ ?_ | refine rO ?_ ?_ | refine rF ?_ ?_ | (refine st_gf ?_ ?_; focus (conv => (lhs; simp)); done) | refine st_g (by conv => lhs; simp) rfl (by conv => lhs; simp) ?_ ?_ | (refine st_gef0 ?_ ?_; focus (conv => (lhs; simp)); done) | refine sE (by conv => lhs; simp) ?_ | refine Nx.go ?_ | refine st_blke' (by decide) ?_ | refine st_lexit ?_) | (intro h_; try simp only [reduceCtorEq, y1, y2, y3, y4, y5, y6, y7, y8, y9, z1, z2, z3, z4, z5, z6, z7, ne_eq] at h_))
  all_goals try (first | contradiction | exact True.intro | omega | rfl | (simp [AV.fits, AV.cells, AV.one, DV.fits, DV.cells, DV.one, DV.conf, confL, DV.conf1]; done) | (simp [AV.fits, AV.cells, AV.one, DV.fits, DV.cells, DV.one, DV.conf, confL, DV.conf1, *] <;> omega))
  refine st_seq ?_
  repeat' (first | (with_reducible first | refine st_reg ?_ | refine sN (by conv => lhs; simp [wl, hmb']) ?_ | refine rN ?_ ?_ | refine rO ?_ ?_ | refine rF ?_ ?_ | (refine st_gf ?_ ?_; focus (conv => (lhs; simp [wl, hmb'])); done) | refine st_g (by conv => lhs; simp [wl, hmb']) rfl (by conv => lhs; simp [wl, hmb']) ?_ ?_ | (refine st_gef0 ?_ ?_; focus (conv => (lhs; simp [wl, hmb'])); done) | refine sE (by conv => lhs; simp) ?_ | refine Nx.go ?_ | refine st_blke' (by decide) ?_ | refine st_lexit ?_) | (intro h_; try simp only [reduceCtorEq, y1, y2, y3, y4, y5, y6, y7, y8, y9, z1, z2, z3, z4, z5, z6, z7, ne_eq] at h_))
  all_goals try (first | contradiction | exact True.intro | omega | rfl | (simp [AV.fits, AV.cells, AV.one, DV.fits, DV.cells, DV.one, DV.conf, confL, DV.conf1]; done) | (simp [AV.fits, AV.cells, AV.one, DV.fits, DV.cells, DV.one, DV.conf, confL, DV.conf1, *] <;> omega))
  let M : List Stp → St → Prop := fun L s => ∃ (H : Heap) (v6 v9 v10 v11 v12 : AV), s = ⟨[.d (dInp x), .d (.vs (y.map dI)), .d (.int .i64 i), .d (.int .i64 j), .ptr 0 0 0, .nils, v6, .d (.bool mb), .d (.int .i64 lf), v9, v10, v11, v12], H⟩ ∧
    H.ob 0 = some (.arr 3 [.d (dInp x)]) ∧ OwnS H v6 5 (L.map dStp) ∧ ∀ id, v6.rid = some id → 1 ≤ id
  -- what an append does
  have app : ∀ (L : List Stp) (s : Stp) (H : Heap) (v6 : AV), L.length ≤ 5 → H.ob 0 = some (.arr 3 [.d (dInp x)]) → (∀ id, v6.rid = some id → 1 ≤ id) → ∀ (v' : AV) (H3 : Heap), OwnS H3 v' 5 (L.map dStp ++ [dStp s]) → v'.rid = some H.length → (∀ j, j < H.length → v6.rid ≠ some j → H3.ob j = H.ob j) →
      H3.ob 0 = some (.arr 3 [.d (dInp x)]) ∧ OwnS H3 v' 5 ((L ++ [s]).map dStp) ∧ ∀ id, v'.rid = some id → 1 ≤ id := by
    intro L s H v6 _ h0 hr v' H3 qo qr qf
    have l0 := ob_lt h0
    exact ⟨by rw [qf 0 l0 (fun e => by have := hr 0 e; omega)]; exact h0, by simpa using qo, fun id h => by rw [qr] at h; cases h; omega⟩
  refine st_mid (M (sR x y i j)) ?_ ?_
  · by_cases h1 : i < x.cols.length
    rotate_left
    · have hb : mb = false := by rw [← hmb']; simp; omega
      subst hb
      repeat' (first | (with_reducible first | refine st_reg ?_ | refine sN (by conv => lhs; simp) ?_ | refine rN ?_ ?_ | refine rO ?_ ?_ | refine rF ?_ ?_ | refine sG (by conv => lhs; simp) ?_ | refine gF ?_ | refine gS rfl (by conv => lhs; simp) ?_ ?_ | (refine st_gef0 ?_ ?_; focus (conv => (lhs; simp)); done) | refine sE (by conv => lhs; simp) ?_ | refine Nx.go ?_ | refine st_blke' (by decide) ?_ | refine st_seq ?_ | refine st_blk ?_ | refine st_cond (by conv => lhs; simp) (by conv => lhs; simp) ?_ ?_ ?_ | refine st_lexit ?_) | (intro h_; try simp only [reduceCtorEq, y1, y2, y3, y4, y5, y6, y7, y8, y9, z1, z2, z3, z4, z5, z6, z7, ne_eq] at h_))
      all_goals try (first | contradiction | exact True.intro | omega | rfl | (simp [AV.fits, AV.cells, AV.one, DV.fits, DV.cells, DV.one, DV.conf, confL, DV.conf1]; done) | (simp [AV.fits, AV.cells, AV.one, DV.fits, DV.cells, DV.one, DV.conf, confL, DV.conf1, *] <;> omega))
      exact ⟨_, _, _, _, _, _, rfl, rfl, by rw [sR, if_neg (fun h => h1 h.1)]; exact OwnS.nils _ _, by simp [AV.rid]⟩
    have hb : mb = true := by rw [← hmb']; simp; omega
    subst hb
    by_cases h2 : j < y.length
    rotate_left
    · have h2' : ¬ 0 < lf := fun h => h2 (hl0.1 h)
      repeat' (first | (with_reducible first | refine st_reg ?_ | refine sN (by conv => lhs; simp [h2']) ?_ | refine rN ?_ ?_ | refine rO ?_ ?_ | refine rF ?_ ?_ | refine sG (by conv => lhs; simp [h2']) ?_ | refine gF ?_ | refine gS rfl (by conv => lhs; simp [h2']) ?_ ?_ | (refine st_gef0 ?_ ?_; focus (conv => (lhs; simp [h2'])); done) | refine sE (by conv => lhs; simp) ?_ | refine Nx.go ?_ | refine st_blke' (by decide) ?_ | refine st_seq ?_ | refine st_blk ?_ | refine st_cond (by conv => lhs; simp) (by conv => lhs; simp [h2']) ?_ ?_ ?_ | refine st_lexit ?_) | (intro h_; try simp only [reduceCtorEq, y1, y2, y3, y4, y5, y6, y7, y8, y9, z1, z2, z3, z4, z5, z6, z7, ne_eq] at h_))
      all_goals try (first | contradiction | exact True.intro | omega | rfl | (simp [AV.fits, AV.cells, AV.one, DV.fits, DV.cells, DV.one, DV.conf, confL, DV.conf1]; done) | (simp [AV.fits, AV.cells, AV.one, DV.fits, DV.cells, DV.one, DV.conf, confL, DV.conf1, *] <;> omega))
      exact ⟨_, _, _, _, _, _, rfl, rfl, by rw [sR, if_neg (fun h => h2 h.2.1)]; exact OwnS.nils _ _, by simp [AV.rid]⟩
    have h2' : 0 < lf := hl0.2 h2
    obtain ⟨t, ht⟩ : ∃ t, t = y[j] := ⟨_, rfl⟩
    have htb2 := hy t (ht ▸ List.getElem_mem h2)
    obtain ⟨tn, htn⟩ : ∃ tn : Nat, t = tn := ⟨t.toNat, by omega⟩
    have hgy : y.getD j 0 = t := by rw [ht]; simp [List.getD_eq_getElem?_getD, h2]
    obtain ⟨c, hc⟩ : ∃ c, c = x.cols[i] := ⟨_, rfl⟩
    obtain ⟨_, _, hcl, _, _, hcr⟩ := hx.cols c (hc ▸ List.getElem_mem h1)
    have htl : tn < c.read.length := by omega
    obtain ⟨p, hp⟩ : ∃ p, p = c.read[tn] := ⟨_, rfl⟩
    have hra : (readAt x i).getD (y.getD j 0).toNat 0 = p := by
      rw [hgy, htn, Int.toNat_natCast, hp]
      simp [readAt, List.getElem?_eq_getElem h1, ← hc, List.getD_eq_getElem?_getD, htl]
    by_cases h3 : 0 ≤ p
    rotate_left
    · rw [htn] at ht
      repeat' (first | (with_reducible first | refine st_reg ?_ | refine sN (by conv => lhs; simp [dInp, h1, h2, h2', getD_map_lt, dCol, dI, ← hc, ← ht, htl, ← hp, h3]) ?_ | refine rN ?_ ?_ | refine rO ?_ ?_ | refine rF ?_ ?_ | refine sG (by conv => lhs; simp [dInp, h1, h2, h2', getD_map_lt, dCol, dI, ← hc, ← ht, htl, ← hp, h3]) ?_ | refine gF ?_ | refine gS rfl (by conv => lhs; simp [dInp, h1, h2, h2', getD_map_lt, dCol, dI, ← hc, ← ht, htl, ← hp, h3]) ?_ ?_ | (refine st_gef0 ?_ ?_; focus (conv => (lhs; simp [dInp, h1, h2, h2', getD_map_lt, dCol, dI, ← hc, ← ht, htl, ← hp, h3])); done) | refine sE (by conv => lhs; simp) ?_ | refine Nx.go ?_ | refine st_blke' (by decide) ?_ | refine st_seq ?_ | refine st_blk ?_ | refine st_cond (by conv => lhs; simp) (by conv => lhs; simp [dInp, h1, h2, h2', getD_map_lt, dCol, dI, ← hc, ← ht, htl, ← hp, h3]) ?_ ?_ ?_ | refine st_lexit ?_) | (intro h_; try simp only [reduceCtorEq, y1, y2, y3, y4, y5, y6, y7, y8, y9, z1, z2, z3, z4, z5, z6, z7, ne_eq] at h_))
      all_goals try (first | contradiction | exact True.intro | omega | rfl | (simp [AV.fits, AV.cells, AV.one, DV.fits, DV.cells, DV.one, DV.conf, confL, DV.conf1]; done) | (simp [AV.fits, AV.cells, AV.one, DV.fits, DV.cells, DV.one, DV.conf, confL, DV.conf1, *] <;> omega))
      exact ⟨_, _, _, _, _, _, rfl, rfl, by rw [sR, hra, if_neg (fun h => h3 h.2.2)]; exact OwnS.nils _ _, by simp [AV.rid]⟩
    have hs : sR x y i j = [⟨1, tn, p, 1, 1⟩] := by rw [sR, hra, if_pos ⟨h1, h2, h3⟩, hgy, htn]
    rw [htn] at ht
    repeat' (first | (with_reducible first | refine st_reg ?_ | refine sN (by conv => lhs; simp [litV, litE, litOb, toDL, AV.toD, AV.norm, List.replicate, fillC, fillOb, AV.mkAgg, AV.allD, AV.cells, DV.cells, dInp, h1, h2, h2', getD_map_lt, dCol, dI, ← hc, ← ht, htl, ← hp, h3]) ?_ | refine rN ?_ ?_ | refine rO ?_ ?_ | refine rF ?_ ?_ | refine sG (by conv => lhs; simp [litV, litE, litOb, toDL, AV.toD, AV.norm, List.replicate, fillC, fillOb, AV.mkAgg, AV.allD, AV.cells, DV.cells, dInp, h1, h2, h2', getD_map_lt, dCol, dI, ← hc, ← ht, htl, ← hp, h3]) ?_ | refine gF ?_ | refine gS rfl (by conv => lhs; simp [litV, litE, litOb, toDL, AV.toD, AV.norm, List.replicate, fillC, fillOb, AV.mkAgg, AV.allD, AV.cells, DV.cells, dInp, h1, h2, h2', getD_map_lt, dCol, dI, ← hc, ← ht, htl, ← hp, h3]) ?_ ?_ | (refine st_gef0 ?_ ?_; focus (conv => (lhs; simp [litV, litE, litOb, toDL, AV.toD, AV.norm, List.replicate, fillC, fillOb, AV.mkAgg, AV.allD, AV.cells, DV.cells, dInp, h1, h2, h2', getD_map_lt, dCol, dI, ← hc, ← ht, htl, ← hp, h3])); done) | refine sE (by conv => lhs; simp) ?_ | refine Nx.go ?_ | refine st_blke' (by decide) ?_ | refine st_seq ?_ | refine st_blk ?_ | refine st_cond (by conv => lhs; simp) (by conv => lhs; simp [litV, litE, litOb, toDL, AV.toD, AV.norm, List.replicate, fillC, fillOb, AV.mkAgg, AV.allD, AV.cells, DV.cells, dInp, h1, h2, h2', getD_map_lt, dCol, dI, ← hc, ← ht, htl, ← hp, h3]) ?_ ?_ ?_ | refine st_lexit ?_) | (intro h_; try simp only [reduceCtorEq, y1, y2, y3, y4, y5, y6, y7, y8, y9, z1, z2, z3, z4, z5, z6, z7, ne_eq] at h_))
    all_goals try (first | contradiction | exact True.intro | omega | rfl | (simp [AV.fits, AV.cells, AV.one, DV.fits, DV.cells, DV.one, DV.conf, confL, DV.conf1]; done) | (simp [AV.fits, AV.cells, AV.one, DV.fits, DV.cells, DV.one, DV.conf, confL, DV.conf1, *] <;> omega))
    refine st_e (stA_appO2 (v := .nils) (olds := []) (ds := [dStp ⟨1, tn, p, 1, 1⟩]) (by simp) (by conv => lhs; simp) (by simp) (OwnS.nils _ _) (by simp [DV.fits, DV.cells, DV.one]) (by simp) (fun v' H3 qo qr ql qf => ?_))
    obtain ⟨r1, r2, _, _⟩ := qo.sob
    repeat' (first | (with_reducible first | refine st_reg ?_ | refine sN (by conv => lhs; simp [r1, r2]) ?_ | refine rN ?_ ?_ | refine rO ?_ ?_ | refine rF ?_ ?_ | refine sG (by conv => lhs; simp [r1, r2]) ?_ | refine gF ?_ | refine gS rfl (by conv => lhs; simp [r1, r2]) ?_ ?_ | (refine st_gef0 ?_ ?_; focus (conv => (lhs; simp [r1, r2])); done) | refine sE (by conv => lhs; simp) ?_ | refine Nx.go ?_ | refine st_blke' (by decide) ?_ | refine st_seq ?_ | refine st_blk ?_ | refine st_cond (by conv => lhs; simp) (by conv => lhs; simp [r1, r2]) ?_ ?_ ?_ | refine st_lexit ?_) | (intro h_; try simp only [reduceCtorEq, y1, y2, y3, y4, y5, y6, y7, y8, y9, z1, z2, z3, z4, z5, z6, z7, ne_eq] at h_))
    all_goals try (first | contradiction | exact True.intro | omega | rfl | (simp [AV.fits, AV.cells, AV.one, DV.fits, DV.cells, DV.one, DV.conf, confL, DV.conf1]; done) | (simp [AV.fits, AV.cells, AV.one, DV.fits, DV.cells, DV.one, DV.conf, confL, DV.conf1, *] <;> omega))
    obtain ⟨k0, k1, k2⟩ := app [] ⟨1, tn, p, 1, 1⟩ _ .nils (by simp) rfl (by simp [AV.rid]) v' H3 qo qr qf
    exact ⟨_, _, _, _, _, _, rfl, k0, by rw [hs]; exact k1, k2⟩
  rintro _ ⟨H, v6, v9, v10, v11, v12, rfl, h0, ho, hr⟩
  obtain ⟨L, hL⟩ : ∃ L, L = sR x y i j := ⟨_, rfl⟩
  have hLl : L.length ≤ 1 := by rw [hL, sR]; split <;> simp
  rw [← hL] at ho
  refine st_mid (M (L ++ sD x i)) ?_ ?_
  · obtain ⟨e1, e2, e3, e4⟩ := ho.sob
    have h0' := h0
    simp only [dInp] at h0'
    by_cases h1 : i < x.cols.length
    rotate_left
    · have hb : mb = false := by rw [← hmb']; simp; omega
      subst hb
      repeat' (first | (with_reducible first | refine st_reg ?_ | refine sN (by conv => lhs; simp) ?_ | refine rN ?_ ?_ | refine rO ?_ ?_ | refine rF ?_ ?_ | refine sG (by conv => lhs; simp) ?_ | refine gF ?_ | refine gS rfl (by conv => lhs; simp) ?_ ?_ | (refine st_gef0 ?_ ?_; focus (conv => (lhs; simp)); done) | refine sE (by conv => lhs; simp) ?_ | refine Nx.go ?_ | refine st_blke' (by decide) ?_ | refine st_seq ?_ | refine st_blk ?_ | refine st_cond (by conv => lhs; simp) (by conv => lhs; simp) ?_ ?_ ?_ | refine st_lexit ?_) | (intro h_; try simp only [reduceCtorEq, y1, y2, y3, y4, y5, y6, y7, y8, y9, z1, z2, z3, z4, z5, z6, z7, ne_eq] at h_))
      all_goals try (first | contradiction | exact True.intro | omega | rfl | (simp [AV.fits, AV.cells, AV.one, DV.fits, DV.cells, DV.one, DV.conf, confL, DV.conf1]; done) | (simp [AV.fits, AV.cells, AV.one, DV.fits, DV.cells, DV.one, DV.conf, confL, DV.conf1, *] <;> omega))
      exact ⟨_, _, _, _, _, _, rfl, h0, by rw [sD, if_neg (fun h => h1 h.1), List.append_nil]; exact ho, hr⟩
    have hb : mb = true := by rw [← hmb']; simp; omega
    subst hb
    obtain ⟨c, hc⟩ : ∃ c, c = x.cols[i] := ⟨_, rfl⟩
    have hda : delAt x i = c.del := by simp [delAt, List.getElem?_eq_getElem h1, ← hc]
    by_cases h3 : c.del < 1099511627776
    rotate_left
    · skip
      repeat' (first | (with_reducible first | refine st_reg ?_ | refine sN (by conv => lhs; simp [h0', h1, getD_map_lt, dCol, ← hc, h3]) ?_ | refine rN ?_ ?_ | refine rO ?_ ?_ | refine rF ?_ ?_ | refine sG (by conv => lhs; simp [h0', h1, getD_map_lt, dCol, ← hc, h3]) ?_ | refine gF ?_ | refine gS rfl (by conv => lhs; simp [h0', h1, getD_map_lt, dCol, ← hc, h3]) ?_ ?_ | (refine st_gef0 ?_ ?_; focus (conv => (lhs; simp [h0', h1, getD_map_lt, dCol, ← hc, h3])); done) | refine sE (by conv => lhs; simp) ?_ | refine Nx.go ?_ | refine st_blke' (by decide) ?_ | refine st_seq ?_ | refine st_blk ?_ | refine st_cond (by conv => lhs; simp) (by conv => lhs; simp [h0', h1, getD_map_lt, dCol, ← hc, h3]) ?_ ?_ ?_ | refine st_lexit ?_) | (intro h_; try simp only [reduceCtorEq, y1, y2, y3, y4, y5, y6, y7, y8, y9, z1, z2, z3, z4, z5, z6, z7, ne_eq] at h_))
      all_goals try (first | contradiction | exact True.intro | omega | rfl | (simp [AV.fits, AV.cells, AV.one, DV.fits, DV.cells, DV.one, DV.conf, confL, DV.conf1]; done) | (simp [AV.fits, AV.cells, AV.one, DV.fits, DV.cells, DV.one, DV.conf, confL, DV.conf1, *] <;> omega))
      exact ⟨_, _, _, _, _, _, rfl, h0, by rw [sD, hda, if_neg (fun h => h3 h.2), List.append_nil]; exact ho, hr⟩
    have hs : sD x i = [⟨2, 0, c.del, 1, 0⟩] := by rw [sD, hda, if_pos ⟨h1, h3⟩]
    repeat' (first | (with_reducible first | refine st_reg ?_ | refine sN (by conv => lhs; simp [litV, litE, litOb, toDL, AV.toD, AV.norm, List.replicate, fillC, fillOb, AV.mkAgg, AV.allD, AV.cells, DV.cells, h0', h1, getD_map_lt, dCol, ← hc, h3, e1, e2]) ?_ | refine rN ?_ ?_ | refine rO ?_ ?_ | refine rF ?_ ?_ | refine sG (by conv => lhs; simp [litV, litE, litOb, toDL, AV.toD, AV.norm, List.replicate, fillC, fillOb, AV.mkAgg, AV.allD, AV.cells, DV.cells, h0', h1, getD_map_lt, dCol, ← hc, h3, e1, e2]) ?_ | refine gF ?_ | refine gS rfl (by conv => lhs; simp [litV, litE, litOb, toDL, AV.toD, AV.norm, List.replicate, fillC, fillOb, AV.mkAgg, AV.allD, AV.cells, DV.cells, h0', h1, getD_map_lt, dCol, ← hc, h3, e1, e2]) ?_ ?_ | (refine st_gef0 ?_ ?_; focus (conv => (lhs; simp [litV, litE, litOb, toDL, AV.toD, AV.norm, List.replicate, fillC, fillOb, AV.mkAgg, AV.allD, AV.cells, DV.cells, h0', h1, getD_map_lt, dCol, ← hc, h3, e1, e2])); done) | refine sE (by conv => lhs; simp) ?_ | refine Nx.go ?_ | refine st_blke' (by decide) ?_ | refine st_seq ?_ | refine st_blk ?_ | refine st_cond (by conv => lhs; simp) (by conv => lhs; simp [litV, litE, litOb, toDL, AV.toD, AV.norm, List.replicate, fillC, fillOb, AV.mkAgg, AV.allD, AV.cells, DV.cells, h0', h1, getD_map_lt, dCol, ← hc, h3, e1, e2]) ?_ ?_ ?_ | refine st_lexit ?_) | (intro h_; try simp only [reduceCtorEq, y1, y2, y3, y4, y5, y6, y7, y8, y9, z1, z2, z3, z4, z5, z6, z7, ne_eq] at h_))
    all_goals try (first | contradiction | exact True.intro | omega | rfl | (simp [AV.fits, AV.cells, AV.one, DV.fits, DV.cells, DV.one, DV.conf, confL, DV.conf1]; done) | (simp [AV.fits, AV.cells, AV.one, DV.fits, DV.cells, DV.one, DV.conf, confL, DV.conf1, *] <;> omega))
    refine st_e (stA_appO2 (v := v6) (olds := L.map dStp) (ds := [dStp ⟨2, 0, c.del, 1, 0⟩]) (by simp [e1, e2]) (by conv => lhs; simp [e1, e2]) (by simp) ho (by simp [DV.fits, DV.cells, DV.one]) (by simp; omega) (fun v' H3 qo qr ql qf => ?_))
    obtain ⟨r1, r2, _, _⟩ := qo.sob
    repeat' (first | (with_reducible first | refine st_reg ?_ | refine sN (by conv => lhs; simp [r1, r2]) ?_ | refine rN ?_ ?_ | refine rO ?_ ?_ | refine rF ?_ ?_ | refine sG (by conv => lhs; simp [r1, r2]) ?_ | refine gF ?_ | refine gS rfl (by conv => lhs; simp [r1, r2]) ?_ ?_ | (refine st_gef0 ?_ ?_; focus (conv => (lhs; simp [r1, r2])); done) | refine sE (by conv => lhs; simp) ?_ | refine Nx.go ?_ | refine st_blke' (by decide) ?_ | refine st_seq ?_ | refine st_blk ?_ | refine st_cond (by conv => lhs; simp) (by conv => lhs; simp [r1, r2]) ?_ ?_ ?_ | refine st_lexit ?_) | (intro h_; try simp only [reduceCtorEq, y1, y2, y3, y4, y5, y6, y7, y8, y9, z1, z2, z3, z4, z5, z6, z7, ne_eq] at h_))
    all_goals try (first | contradiction | exact True.intro | omega | rfl | (simp [AV.fits, AV.cells, AV.one, DV.fits, DV.cells, DV.one, DV.conf, confL, DV.conf1]; done) | (simp [AV.fits, AV.cells, AV.one, DV.fits, DV.cells, DV.one, DV.conf, confL, DV.conf1, *] <;> omega))
    obtain ⟨k0, k1, k2⟩ := app L ⟨2, 0, c.del, 1, 0⟩ H v6 (by omega) h0 hr v' H3 qo qr qf
    exact ⟨_, _, _, _, _, _, rfl, k0, by rw [hs]; exact k1, k2⟩
  clear h0 ho hr H v6 v9 v10 v11 v12
  rintro _ ⟨H, v6, v9, v10, v11, v12, rfl, h0, ho, hr⟩
  obtain ⟨L2, hL2⟩ : ∃ L2, L2 = L ++ sD x i := ⟨_, rfl⟩
  have hL2l : L2.length ≤ 2 := by rw [hL2, sD]; split <;> simp <;> omega
  rw [← hL2] at ho
  refine st_mid (M (L2 ++ sI x y j)) ?_ ?_
  · obtain ⟨e1, e2, e3, e4⟩ := ho.sob
    have h0' := h0
    simp only [dInp] at h0'
    by_cases h2 : j < y.length
    rotate_left
    · have h2' : ¬ 0 < lf := fun h => h2 (hl0.1 h)
      repeat' (first | (with_reducible first | refine st_reg ?_ | refine sN (by conv => lhs; simp [h2']) ?_ | refine rN ?_ ?_ | refine rO ?_ ?_ | refine rF ?_ ?_ | refine sG (by conv => lhs; simp [h2']) ?_ | refine gF ?_ | refine gS rfl (by conv => lhs; simp [h2']) ?_ ?_ | (refine st_gef0 ?_ ?_; focus (conv => (lhs; simp [h2'])); done) | refine sE (by conv => lhs; simp) ?_ | refine Nx.go ?_ | refine st_blke' (by decide) ?_ | refine st_seq ?_ | refine st_blk ?_ | refine st_cond (by conv => lhs; simp) (by conv => lhs; simp [h2']) ?_ ?_ ?_ | refine st_lexit ?_) | (intro h_; try simp only [reduceCtorEq, y1, y2, y3, y4, y5, y6, y7, y8, y9, z1, z2, z3, z4, z5, z6, z7, ne_eq] at h_))
      all_goals try (first | contradiction | exact True.intro | omega | rfl | (simp [AV.fits, AV.cells, AV.one, DV.fits, DV.cells, DV.one, DV.conf, confL, DV.conf1]; done) | (simp [AV.fits, AV.cells, AV.one, DV.fits, DV.cells, DV.one, DV.conf, confL, DV.conf1, *] <;> omega))
      exact ⟨_, _, _, _, _, _, rfl, h0, by rw [sI, if_neg h2, List.append_nil]; exact ho, hr⟩
    have h2' : 0 < lf := hl0.2 h2
    obtain ⟨t, ht⟩ : ∃ t, t = y[j] := ⟨_, rfl⟩
    have htb2 := hy t (ht ▸ List.getElem_mem h2)
    obtain ⟨tn, htn⟩ : ∃ tn : Nat, t = tn := ⟨t.toNat, by omega⟩
    have hgy : y.getD j 0 = t := by rw [ht]; simp [List.getD_eq_getElem?_getD, h2]
    have htl : tn < x.insert.length := by omega
    obtain ⟨p, hp⟩ : ∃ p, p = x.insert[tn] := ⟨_, rfl⟩
    have hra : x.insert.getD (y.getD j 0).toNat 0 = p := by
      rw [hgy, htn, Int.toNat_natCast, hp]
      simp [List.getD_eq_getElem?_getD, htl]
    have hs : sI x y j = [⟨3, tn, p, 0, 1⟩] := by rw [sI, hra, if_pos h2, hgy, htn]
    rw [htn] at ht
    repeat' (first | (with_reducible first | refine st_reg ?_ | refine sN (by conv => lhs; simp [litV, litE, litOb, toDL, AV.toD, AV.norm, List.replicate, fillC, fillOb, AV.mkAgg, AV.allD, AV.cells, DV.cells, h0', h2, h2', getD_map_lt, dI, ← ht, htl, ← hp, e1, e2]) ?_ | refine rN ?_ ?_ | refine rO ?_ ?_ | refine rF ?_ ?_ | refine sG (by conv => lhs; simp [litV, litE, litOb, toDL, AV.toD, AV.norm, List.replicate, fillC, fillOb, AV.mkAgg, AV.allD, AV.cells, DV.cells, h0', h2, h2', getD_map_lt, dI, ← ht, htl, ← hp, e1, e2]) ?_ | refine gF ?_ | refine gS rfl (by conv => lhs; simp [litV, litE, litOb, toDL, AV.toD, AV.norm, List.replicate, fillC, fillOb, AV.mkAgg, AV.allD, AV.cells, DV.cells, h0', h2, h2', getD_map_lt, dI, ← ht, htl, ← hp, e1, e2]) ?_ ?_ | (refine st_gef0 ?_ ?_; focus (conv => (lhs; simp [litV, litE, litOb, toDL, AV.toD, AV.norm, List.replicate, fillC, fillOb, AV.mkAgg, AV.allD, AV.cells, DV.cells, h0', h2, h2', getD_map_lt, dI, ← ht, htl, ← hp, e1, e2])); done) | refine sE (by conv => lhs; simp) ?_ | refine Nx.go ?_ | refine st_blke' (by decide) ?_ | refine st_seq ?_ | refine st_blk ?_ | refine st_cond (by conv => lhs; simp) (by conv => lhs; simp [litV, litE, litOb, toDL, AV.toD, AV.norm, List.replicate, fillC, fillOb, AV.mkAgg, AV.allD, AV.cells, DV.cells, h0', h2, h2', getD_map_lt, dI, ← ht, htl, ← hp, e1, e2]) ?_ ?_ ?_ | refine st_lexit ?_) | (intro h_; try simp only [reduceCtorEq, y1, y2, y3, y4, y5, y6, y7, y8, y9, z1, z2, z3, z4, z5, z6, z7, ne_eq] at h_))
    all_goals try (first | contradiction | exact True.intro | omega | rfl | (simp [AV.fits, AV.cells, AV.one, DV.fits, DV.cells, DV.one, DV.conf, confL, DV.conf1]; done) | (simp [AV.fits, AV.cells, AV.one, DV.fits, DV.cells, DV.one, DV.conf, confL, DV.conf1, *] <;> omega))
    refine st_e (stA_appO2 (v := v6) (olds := L2.map dStp) (ds := [dStp ⟨3, tn, p, 0, 1⟩]) (by simp [e1, e2]) (by conv => lhs; simp [e1, e2]) (by simp) ho (by simp [DV.fits, DV.cells, DV.one]) (by simp; omega) (fun v' H3 qo qr ql qf => ?_))
    obtain ⟨r1, r2, _, _⟩ := qo.sob
    repeat' (first | (with_reducible first | refine st_reg ?_ | refine sN (by conv => lhs; simp [r1, r2]) ?_ | refine rN ?_ ?_ | refine rO ?_ ?_ | refine rF ?_ ?_ | refine sG (by conv => lhs; simp [r1, r2]) ?_ | refine gF ?_ | refine gS rfl (by conv => lhs; simp [r1, r2]) ?_ ?_ | (refine st_gef0 ?_ ?_; focus (conv => (lhs; simp [r1, r2])); done) | refine sE (by conv => lhs; simp) ?_ | refine Nx.go ?_ | refine st_blke' (by decide) ?_ | refine st_seq ?_ | refine st_blk ?_ | refine st_cond (by conv => lhs; simp) (by conv => lhs; simp [r1, r2]) ?_ ?_ ?_ | refine st_lexit ?_) | (intro h_; try simp only [reduceCtorEq, y1, y2, y3, y4, y5, y6, y7, y8, y9, z1, z2, z3, z4, z5, z6, z7, ne_eq] at h_))
    all_goals try (first | contradiction | exact True.intro | omega | rfl | (simp [AV.fits, AV.cells, AV.one, DV.fits, DV.cells, DV.one, DV.conf, confL, DV.conf1]; done) | (simp [AV.fits, AV.cells, AV.one, DV.fits, DV.cells, DV.one, DV.conf, confL, DV.conf1, *] <;> omega))
    obtain ⟨k0, k1, k2⟩ := app L2 ⟨3, tn, p, 0, 1⟩ H v6 (by omega) h0 hr v' H3 qo qr qf
    exact ⟨_, _, _, _, _, _, rfl, k0, by rw [hs]; exact k1, k2⟩
  clear h0 ho hr H v6 v9 v10 v11 v12
  rintro _ ⟨H, v6, v9, v10, v11, v12, rfl, h0, ho, hr⟩
  obtain ⟨L3, hL3⟩ : ∃ L3, L3 = L2 ++ sI x y j := ⟨_, rfl⟩
  have hL3l : L3.length ≤ 3 := by rw [hL3, sI]; split <;> simp <;> omega
  have hfin : stepsL x y i j = L3 ++ sS x y i j := by rw [hL3, hL2, hL]; rfl
  rw [← hL3] at ho
  refine st_mid (M (L3 ++ sS x y i j)) ?_ ?_
  · obtain ⟨e1, e2, e3, e4⟩ := ho.sob
    have h0' := h0
    simp only [dInp] at h0'
    have no : sS x y i j = [] → M (L3 ++ sS x y i j) = M L3 := fun h => by rw [h, List.append_nil]
    by_cases h2 : j + 1 < y.length
    rotate_left
    · have h2' : ¬ 1 < lf := fun h => h2 (hl1.1 h)
      rw [no (by rw [sS, if_neg (fun h => h2 h.2.1)])]
      repeat' (first | (with_reducible first | refine st_reg ?_ | refine sN (by conv => lhs; simp [h2']) ?_ | refine rN ?_ ?_ | refine rO ?_ ?_ | refine rF ?_ ?_ | refine sG (by conv => lhs; simp [h2']) ?_ | refine gF ?_ | refine gS rfl (by conv => lhs; simp [h2']) ?_ ?_ | (refine st_gef0 ?_ ?_; focus (conv => (lhs; simp [h2'])); done) | refine sE (by conv => lhs; simp) ?_ | refine Nx.go ?_ | refine st_blke' (by decide) ?_ | refine st_seq ?_ | refine st_blk ?_ | refine st_cond (by conv => lhs; simp) (by conv => lhs; simp [h2']) ?_ ?_ ?_ | refine st_lexit ?_) | (intro h_; try simp only [reduceCtorEq, y1, y2, y3, y4, y5, y6, y7, y8, y9, z1, z2, z3, z4, z5, z6, z7, ne_eq] at h_))
      all_goals try (first | contradiction | exact True.intro | omega | rfl | (simp [AV.fits, AV.cells, AV.one, DV.fits, DV.cells, DV.one, DV.conf, confL, DV.conf1]; done) | (simp [AV.fits, AV.cells, AV.one, DV.fits, DV.cells, DV.one, DV.conf, confL, DV.conf1, *] <;> omega))
      exact ⟨_, _, _, _, _, _, rfl, h0, ho, hr⟩
    have h2' : 1 < lf := hl1.2 h2
    have hsw := swappable74 x i (by omega) hi
    cases hs : swapB x i with
    | false =>
      rw [hs] at hsw
      rw [no (by rw [sS, if_neg (fun h => by rw [hs] at h; cases h.1)])]
      repeat' (first | (with_reducible first | refine st_reg ?_ | refine sN (by conv => lhs; simp [h2', h0']) ?_ | refine rN ?_ ?_ | refine rO ?_ ?_ | refine rF ?_ ?_ | refine sG (by conv => lhs; simp [h2', h0']) ?_ | refine gF ?_ | refine gS rfl (by conv => lhs; simp [h2', h0']) ?_ ?_ | (refine st_gef0 ?_ ?_; focus (conv => (lhs; simp [h2', h0'])); done) | refine sE (by conv => lhs; simp) ?_ | refine Nx.go ?_ | refine st_blke' (by decide) ?_ | refine st_seq ?_ | refine st_blk ?_ | refine st_cond (by conv => lhs; simp) (by conv => lhs; simp [h2', h0']) ?_ ?_ ?_ | refine st_lexit ?_) | (intro h_; try simp only [reduceCtorEq, y1, y2, y3, y4, y5, y6, y7, y8, y9, z1, z2, z3, z4, z5, z6, z7, ne_eq] at h_))
      all_goals try (first | contradiction | exact True.intro | omega | rfl | (simp [AV.fits, AV.cells, AV.one, DV.fits, DV.cells, DV.one, DV.conf, confL, DV.conf1]; done) | (simp [AV.fits, AV.cells, AV.one, DV.fits, DV.cells, DV.one, DV.conf, confL, DV.conf1, *] <;> omega))
      refine st_get (by conv => lhs; simp) (st_call (by simp [solidOk]) (by conv => lhs; simp [h0']) hsw (by exact ⟨.inl rfl, .inl rfl, trivial⟩) (pendOk_refl _) ?_)
      repeat' (first | (with_reducible first | refine st_reg ?_ | refine sN (by conv => lhs; simp [h2']) ?_ | refine rN ?_ ?_ | refine rO ?_ ?_ | refine rF ?_ ?_ | refine sG (by conv => lhs; simp [h2']) ?_ | refine gF ?_ | refine gS rfl (by conv => lhs; simp [h2']) ?_ ?_ | (refine st_gef0 ?_ ?_; focus (conv => (lhs; simp [h2'])); done) | refine sE (by conv => lhs; simp) ?_ | refine Nx.go ?_ | refine st_blke' (by decide) ?_ | refine st_seq ?_ | refine st_blk ?_ | refine st_cond (by conv => lhs; simp) (by conv => lhs; simp [h2']) ?_ ?_ ?_ | refine st_lexit ?_) | (intro h_; try simp only [reduceCtorEq, y1, y2, y3, y4, y5, y6, y7, y8, y9, z1, z2, z3, z4, z5, z6, z7, ne_eq] at h_))
      all_goals try (first | contradiction | exact True.intro | omega | rfl | (simp [AV.fits, AV.cells, AV.one, DV.fits, DV.cells, DV.one, DV.conf, confL, DV.conf1]; done) | (simp [AV.fits, AV.cells, AV.one, DV.fits, DV.cells, DV.one, DV.conf, confL, DV.conf1, *] <;> omega))
      exact ⟨_, _, _, _, _, _, rfl, h0, ho, hr⟩
    | true =>
    rw [hs] at hsw
    have hsl := swapB_lt hs
    have h1 : i < x.cols.length := by omega
    have h3 : j < y.length := by omega
    obtain ⟨i1, hi1⟩ : ∃ i1, i1 = i + 1 := ⟨_, rfl⟩
    obtain ⟨j1, hj1⟩ : ∃ j1, j1 = j + 1 := ⟨_, rfl⟩
    have hwi1 : IntKind.i64.wrap ((i : Int) + 1) = (i1 : Int) := by rw [wrap64 (by omega) (by omega)]; omega
    have hwj1 : IntKind.i64.wrap ((j : Int) + 1) = (j1 : Int) := by rw [wrap64 (by omega) (by omega)]; omega
    have h1s : i1 < x.cols.length := by omega
    have h2s : j1 < y.length := by omega
    obtain ⟨t, ht⟩ : ∃ t, t = y[j] := ⟨_, rfl⟩
    obtain ⟨u, hu⟩ : ∃ u, u = y[j1] := ⟨_, rfl⟩
    have hgt : y.getD j 0 = t := by rw [ht]; simp [List.getD_eq_getElem?_getD, h3]
    have hgu : y.getD (j + 1) 0 = u := by rw [← hj1, hu]; simp [List.getD_eq_getElem?_getD, h2s]
    obtain ⟨c, hc⟩ : ∃ c, c = x.cols[i] := ⟨_, rfl⟩
    obtain ⟨c1, hc1⟩ : ∃ c1, c1 = x.cols[i1] := ⟨_, rfl⟩
    have hk0 : kindAt x i = c.kind := by simp [kindAt, List.getElem?_eq_getElem h1, ← hc]
    have hk1 : kindAt x (i + 1) = c1.kind := by rw [← hi1]; simp [kindAt, List.getElem?_eq_getElem h1s, ← hc1]
    by_cases h4 : t = c1.kind
    rotate_left
    · have h4b : (c1.kind == t) = false := by simp; exact fun h => h4 h.symm
      rw [no (by rw [sS, hgt, hk1, if_neg (fun h => h4 h.2.2.1)])]
      repeat' (first | (with_reducible first | refine st_reg ?_ | refine sN (by conv => lhs; simp [h2', h0']) ?_ | refine rN ?_ ?_ | refine rO ?_ ?_ | refine rF ?_ ?_ | refine sG (by conv => lhs; simp [h2', h0']) ?_ | refine gF ?_ | refine gS rfl (by conv => lhs; simp [h2', h0']) ?_ ?_ | (refine st_gef0 ?_ ?_; focus (conv => (lhs; simp [h2', h0'])); done) | refine sE (by conv => lhs; simp) ?_ | refine Nx.go ?_ | refine st_blke' (by decide) ?_ | refine st_seq ?_ | refine st_blk ?_ | refine st_cond (by conv => lhs; simp) (by conv => lhs; simp [h2', h0']) ?_ ?_ ?_ | refine st_lexit ?_) | (intro h_; try simp only [reduceCtorEq, y1, y2, y3, y4, y5, y6, y7, y8, y9, z1, z2, z3, z4, z5, z6, z7, ne_eq] at h_))
      all_goals try (first | contradiction | exact True.intro | omega | rfl | (simp [AV.fits, AV.cells, AV.one, DV.fits, DV.cells, DV.one, DV.conf, confL, DV.conf1]; done) | (simp [AV.fits, AV.cells, AV.one, DV.fits, DV.cells, DV.one, DV.conf, confL, DV.conf1, *] <;> omega))
      refine st_get (by conv => lhs; simp) (st_call (by simp [solidOk]) (by conv => lhs; simp [h0']) hsw (by exact ⟨.inl rfl, .inl rfl, trivial⟩) (pendOk_refl _) ?_)
      repeat' (first | (with_reducible first | refine st_reg ?_ | refine sN (by conv => lhs; simp [h0', hwj1, hwi1, h2s, h3, h1s, h1, getD_map_lt, dI, dCol, ← ht, ← hu, ← hc, ← hc1, h4b]) ?_ | refine rN ?_ ?_ | refine rO ?_ ?_ | refine rF ?_ ?_ | refine sG (by conv => lhs; simp [h0', hwj1, hwi1, h2s, h3, h1s, h1, getD_map_lt, dI, dCol, ← ht, ← hu, ← hc, ← hc1, h4b]) ?_ | refine gF ?_ | refine gS rfl (by conv => lhs; simp [h0', hwj1, hwi1, h2s, h3, h1s, h1, getD_map_lt, dI, dCol, ← ht, ← hu, ← hc, ← hc1, h4b]) ?_ ?_ | (refine st_gef0 ?_ ?_; focus (conv => (lhs; simp [h0', hwj1, hwi1, h2s, h3, h1s, h1, getD_map_lt, dI, dCol, ← ht, ← hu, ← hc, ← hc1, h4b])); done) | refine sE (by conv => lhs; simp) ?_ | refine Nx.go ?_ | refine st_blke' (by decide) ?_ | refine st_seq ?_ | refine st_blk ?_ | refine st_cond (by conv => lhs; simp) (by conv => lhs; simp [h0', hwj1, hwi1, h2s, h3, h1s, h1, getD_map_lt, dI, dCol, ← ht, ← hu, ← hc, ← hc1, h4b]) ?_ ?_ ?_ | refine st_lexit ?_) | (intro h_; try simp only [reduceCtorEq, y1, y2, y3, y4, y5, y6, y7, y8, y9, z1, z2, z3, z4, z5, z6, z7, ne_eq] at h_))
      all_goals try (first | contradiction | exact True.intro | omega | rfl | (simp [AV.fits, AV.cells, AV.one, DV.fits, DV.cells, DV.one, DV.conf, confL, DV.conf1]; done) | (simp [AV.fits, AV.cells, AV.one, DV.fits, DV.cells, DV.one, DV.conf, confL, DV.conf1, *] <;> omega))
      exact ⟨_, _, _, _, _, _, rfl, h0, ho, hr⟩
    have h4b : (c1.kind == t) = true := by simp; exact h4.symm
    by_cases h5 : u = c.kind
    rotate_left
    · have h5b : (c.kind == u) = false := by simp; exact fun h => h5 h.symm
      rw [no (by rw [sS, hgu, hk0, if_neg (fun h => h5 h.2.2.2)])]
      repeat' (first | (with_reducible first | refine st_reg ?_ | refine sN (by conv => lhs; simp [h2', h0']) ?_ | refine rN ?_ ?_ | refine rO ?_ ?_ | refine rF ?_ ?_ | refine sG (by conv => lhs; simp [h2', h0']) ?_ | refine gF ?_ | refine gS rfl (by conv => lhs; simp [h2', h0']) ?_ ?_ | (refine st_gef0 ?_ ?_; focus (conv => (lhs; simp [h2', h0'])); done) | refine sE (by conv => lhs; simp) ?_ | refine Nx.go ?_ | refine st_blke' (by decide) ?_ | refine st_seq ?_ | refine st_blk ?_ | refine st_cond (by conv => lhs; simp) (by conv => lhs; simp [h2', h0']) ?_ ?_ ?_ | refine st_lexit ?_) | (intro h_; try simp only [reduceCtorEq, y1, y2, y3, y4, y5, y6, y7, y8, y9, z1, z2, z3, z4, z5, z6, z7, ne_eq] at h_))
      all_goals try (first | contradiction | exact True.intro | omega | rfl | (simp [AV.fits, AV.cells, AV.one, DV.fits, DV.cells, DV.one, DV.conf, confL, DV.conf1]; done) | (simp [AV.fits, AV.cells, AV.one, DV.fits, DV.cells, DV.one, DV.conf, confL, DV.conf1, *] <;> omega))
      refine st_get (by conv => lhs; simp) (st_call (by simp [solidOk]) (by conv => lhs; simp [h0']) hsw (by exact ⟨.inl rfl, .inl rfl, trivial⟩) (pendOk_refl _) ?_)
      repeat' (first | (with_reducible first | refine st_reg ?_ | refine sN (by conv => lhs; simp [h0', hwj1, hwi1, h2s, h3, h1s, h1, getD_map_lt, dI, dCol, ← ht, ← hu, ← hc, ← hc1, h4b, h5b]) ?_ | refine rN ?_ ?_ | refine rO ?_ ?_ | refine rF ?_ ?_ | refine sG (by conv => lhs; simp [h0', hwj1, hwi1, h2s, h3, h1s, h1, getD_map_lt, dI, dCol, ← ht, ← hu, ← hc, ← hc1, h4b, h5b]) ?_ | refine gF ?_ | refine gS rfl (by conv => lhs; simp [h0', hwj1, hwi1, h2s, h3, h1s, h1, getD_map_lt, dI, dCol, ← ht, ← hu, ← hc, ← hc1, h4b, h5b]) ?_ ?_ | (refine st_gef0 ?_ ?_; focus (conv => (lhs; simp [h0', hwj1, hwi1, h2s, h3, h1s, h1, getD_map_lt, dI, dCol, ← ht, ← hu, ← hc, ← hc1, h4b, h5b])); done) | refine sE (by conv => lhs; simp) ?_ | refine Nx.go ?_ | refine st_blke' (by decide) ?_ | refine st_seq ?_ | refine st_blk ?_ | refine st_cond (by conv => lhs; simp) (by conv => lhs; simp [h0', hwj1, hwi1, h2s, h3, h1s, h1, getD_map_lt, dI, dCol, ← ht, ← hu, ← hc, ← hc1, h4b, h5b]) ?_ ?_ ?_ | refine st_lexit ?_) | (intro h_; try simp only [reduceCtorEq, y1, y2, y3, y4, y5, y6, y7, y8, y9, z1, z2, z3, z4, z5, z6, z7, ne_eq] at h_))
      all_goals try (first | contradiction | exact True.intro | omega | rfl | (simp [AV.fits, AV.cells, AV.one, DV.fits, DV.cells, DV.one, DV.conf, confL, DV.conf1]; done) | (simp [AV.fits, AV.cells, AV.one, DV.fits, DV.cells, DV.one, DV.conf, confL, DV.conf1, *] <;> omega))
      exact ⟨_, _, _, _, _, _, rfl, h0, ho, hr⟩
    have h5b : (c.kind == u) = true := by simp; exact h5.symm
    have hss : sS x y i j = [⟨4, 0, x.swap, 2, 2⟩] := by rw [sS, hgt, hgu, hk0, hk1, if_pos ⟨hs, h2, h4, h5⟩]
    rw [hss]
    repeat' (first | (with_reducible first | refine st_reg ?_ | refine sN (by conv => lhs; simp [h2', h0']) ?_ | refine rN ?_ ?_ | refine rO ?_ ?_ | refine rF ?_ ?_ | refine sG (by conv => lhs; simp [h2', h0']) ?_ | refine gF ?_ | refine gS rfl (by conv => lhs; simp [h2', h0']) ?_ ?_ | (refine st_gef0 ?_ ?_; focus (conv => (lhs; simp [h2', h0'])); done) | refine sE (by conv => lhs; simp) ?_ | refine Nx.go ?_ | refine st_blke' (by decide) ?_ | refine st_seq ?_ | refine st_blk ?_ | refine st_cond (by conv => lhs; simp) (by conv => lhs; simp [h2', h0']) ?_ ?_ ?_ | refine st_lexit ?_) | (intro h_; try simp only [reduceCtorEq, y1, y2, y3, y4, y5, y6, y7, y8, y9, z1, z2, z3, z4, z5, z6, z7, ne_eq] at h_))
    all_goals try (first | contradiction | exact True.intro | omega | rfl | (simp [AV.fits, AV.cells, AV.one, DV.fits, DV.cells, DV.one, DV.conf, confL, DV.conf1]; done) | (simp [AV.fits, AV.cells, AV.one, DV.fits, DV.cells, DV.one, DV.conf, confL, DV.conf1, *] <;> omega))
    refine st_get (by conv => lhs; simp) (st_call (by simp [solidOk]) (by conv => lhs; simp [h0']) hsw (by exact ⟨.inl rfl, .inl rfl, trivial⟩) (pendOk_refl _) ?_)
    repeat' (first | (with_reducible first | refine st_reg ?_ | refine sN (by conv => lhs; simp [litV, litE, litOb, toDL, AV.toD, AV.norm, List.replicate, fillC, fillOb, AV.mkAgg, AV.allD, AV.cells, DV.cells, h0', hwj1, hwi1, h2s, h3, h1s, h1, getD_map_lt, dI, dCol, ← ht, ← hu, ← hc, ← hc1, h4b, h5b, e1, e2]) ?_ | refine rN ?_ ?_ | refine rO ?_ ?_ | refine rF ?_ ?_ | refine sG (by conv => lhs; simp [litV, litE, litOb, toDL, AV.toD, AV.norm, List.replicate, fillC, fillOb, AV.mkAgg, AV.allD, AV.cells, DV.cells, h0', hwj1, hwi1, h2s, h3, h1s, h1, getD_map_lt, dI, dCol, ← ht, ← hu, ← hc, ← hc1, h4b, h5b, e1, e2]) ?_ | refine gF ?_ | refine gS rfl (by conv => lhs; simp [litV, litE, litOb, toDL, AV.toD, AV.norm, List.replicate, fillC, fillOb, AV.mkAgg, AV.allD, AV.cells, DV.cells, h0', hwj1, hwi1, h2s, h3, h1s, h1, getD_map_lt, dI, dCol, ← ht, ← hu, ← hc, ← hc1, h4b, h5b, e1, e2]) ?_ ?_ | (refine st_gef0 ?_ ?_; focus (conv => (lhs; simp [litV, litE, litOb, toDL, AV.toD, AV.norm, List.replicate, fillC, fillOb, AV.mkAgg, AV.allD, AV.cells, DV.cells, h0', hwj1, hwi1, h2s, h3, h1s, h1, getD_map_lt, dI, dCol, ← ht, ← hu, ← hc, ← hc1, h4b, h5b, e1, e2])); done) | refine sE (by conv => lhs; simp) ?_ | refine Nx.go ?_ | refine st_blke' (by decide) ?_ | refine st_seq ?_ | refine st_blk ?_ | refine st_cond (by conv => lhs; simp) (by conv => lhs; simp [litV, litE, litOb, toDL, AV.toD, AV.norm, List.replicate, fillC, fillOb, AV.mkAgg, AV.allD, AV.cells, DV.cells, h0', hwj1, hwi1, h2s, h3, h1s, h1, getD_map_lt, dI, dCol, ← ht, ← hu, ← hc, ← hc1, h4b, h5b, e1, e2]) ?_ ?_ ?_ | refine st_lexit ?_) | (intro h_; try simp only [reduceCtorEq, y1, y2, y3, y4, y5, y6, y7, y8, y9, z1, z2, z3, z4, z5, z6, z7, ne_eq] at h_))
    all_goals try (first | contradiction | exact True.intro | omega | rfl | (simp [AV.fits, AV.cells, AV.one, DV.fits, DV.cells, DV.one, DV.conf, confL, DV.conf1]; done) | (simp [AV.fits, AV.cells, AV.one, DV.fits, DV.cells, DV.one, DV.conf, confL, DV.conf1, *] <;> omega))
    refine st_e (stA_appO2 (v := v6) (olds := L3.map dStp) (ds := [dStp ⟨4, 0, x.swap, 2, 2⟩]) (by simp [e1, e2]) (by conv => lhs; simp [e1, e2]) (by simp) ho (by simp [DV.fits, DV.cells, DV.one]) (by simp; omega) (fun v' H3 qo qr ql qf => ?_))
    obtain ⟨r1, r2, _, _⟩ := qo.sob
    repeat' (first | (with_reducible first | refine st_reg ?_ | refine sN (by conv => lhs; simp [r1, r2]) ?_ | refine rN ?_ ?_ | refine rO ?_ ?_ | refine rF ?_ ?_ | refine sG (by conv => lhs; simp [r1, r2]) ?_ | refine gF ?_ | refine gS rfl (by conv => lhs; simp [r1, r2]) ?_ ?_ | (refine st_gef0 ?_ ?_; focus (conv => (lhs; simp [r1, r2])); done) | refine sE (by conv => lhs; simp) ?_ | refine Nx.go ?_ | refine st_blke' (by decide) ?_ | refine st_seq ?_ | refine st_blk ?_ | refine st_cond (by conv => lhs; simp) (by conv => lhs; simp [r1, r2]) ?_ ?_ ?_ | refine st_lexit ?_) | (intro h_; try simp only [reduceCtorEq, y1, y2, y3, y4, y5, y6, y7, y8, y9, z1, z2, z3, z4, z5, z6, z7, ne_eq] at h_))
    all_goals try (first | contradiction | exact True.intro | omega | rfl | (simp [AV.fits, AV.cells, AV.one, DV.fits, DV.cells, DV.one, DV.conf, confL, DV.conf1]; done) | (simp [AV.fits, AV.cells, AV.one, DV.fits, DV.cells, DV.one, DV.conf, confL, DV.conf1, *] <;> omega))
    obtain ⟨k0, k1, k2⟩ := app L3 ⟨4, 0, x.swap, 2, 2⟩ H v6 (by omega) h0 hr v' H3 qo qr qf
    exact ⟨_, _, _, _, _, _, rfl, k0, k1, k2⟩
  clear h0 ho hr H v6 v9 v10 v11 v12
  rintro _ ⟨H, v6, v9, v10, v11, v12, rfl, h0, ho, hr⟩
  obtain ⟨e1, e2, e3, e4⟩ := ho.sob
  repeat' (first | (with_reducible first | refine st_reg ?_ | refine sN (by conv => lhs; simp [e1, e2]) ?_ | refine rN ?_ ?_ | refine rO ?_ ?_ | refine rF ?_ ?_ | refine sG (by conv => lhs; simp [e1, e2]) ?_ | refine gF ?_ | refine gS rfl (by conv => lhs; simp [e1, e2]) ?_ ?_ | (refine st_gef0 ?_ ?_; focus (conv => (lhs; simp [e1, e2])); done) | refine sE (by conv => lhs; simp) ?_ | refine Nx.go ?_ | refine st_blke' (by decide) ?_ | refine st_seq ?_ | refine st_blk ?_ | refine st_cond (by conv => lhs; simp) (by conv => lhs; simp [e1, e2]) ?_ ?_ ?_ | refine st_lexit ?_) | (intro h_; try simp only [reduceCtorEq, y1, y2, y3, y4, y5, y6, y7, y8, y9, z1, z2, z3, z4, z5, z6, z7, ne_eq] at h_))
  all_goals try (first | contradiction | exact True.intro | omega | rfl | (simp [AV.fits, AV.cells, AV.one, DV.fits, DV.cells, DV.one, DV.conf, confL, DV.conf1]; done) | (simp [AV.fits, AV.cells, AV.one, DV.fits, DV.cells, DV.one, DV.conf, confL, DV.conf1, *] <;> omega))
  exact atEnd_own (v := 5) rfl ho (by rw [hfin])
end Go.Vm.L
