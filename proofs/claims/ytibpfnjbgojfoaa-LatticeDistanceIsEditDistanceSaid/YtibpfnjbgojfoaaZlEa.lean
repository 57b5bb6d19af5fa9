/- Lattice: the edit distances of layer 36, the reference's. -/
import Derived.Test.YtibpfnjbgojfoaaZlR
import Derived.Test.YtibpfnjbgojfoaaZlXe
import Derived.Test.YtibpfnjbgojfoaaZlYa
import Derived.Test.YtibpfnjbgojfoaaZlIr3
set_option linter.all false
set_option maxHeartbeats 8000000
namespace Go.Vm.L
open Go Go.Vm
attribute [local simp] q_and q_loc q_var q_k q_sob_undef q_strip_undef q_sob_d q_strip_d q_sob_nils q_strip_nils q_sob_ptr q_strip_ptr q_sob_hs q_strip_hs q_sob_mp q_strip_mp q_sob_it q_strip_it q_sob_fp q_strip_fp q_sob_clo q_strip_clo q_sob_ifc q_strip_ifc q_sob_agg q_strip_agg q_sob_tup q_strip_tup q_sob_when q_strip_when q_argsOb0 q_argsOb1 q_mov q_pick q_pick000 q_pick001 q_pick010 q_pick011 q_pick100 q_pick101 q_pick110 q_pick111 q_bin q_eqs q_not q_neg q_conv q_fieldAddr q_load q_extract q_len q_nilCheck q_mkIface q_alloc q_box q_build q_lit q_mkFunc q_mkMap q_mkSlice q_slice q_ixa q_idx q_lookup q_field q_minmax q_i_add q_i_sub q_i_mul q_i_quo q_i_rem q_i_eql q_i_neq q_i_lss q_i_leq q_i_gtr q_i_geq q_i_and q_i_or q_i_xor q_i_shl q_i_shr q_b_eql q_s_eql q_b_neq q_s_neq q_s_add q_eqsd q_notd q_negd q_convd q_fap q_faf q_ldf q_ldp q_ldps q_exd q_len0 q_len0n q_len0h q_len1 q_len2 q_lenp q_lkp q_lkf q_lkps q_ncp q_ncf q_mkI q_mkF q_mkS q_ixd q_iaf q_iap q_ixh q_slvs q_slvh q_slvl q_mm1 q_mm2 q_mx2 q_fl q_flw q_bo q_bow q_add0 q_addf q_addo q_so0 q_so1 q_mk_mov q_mk_bin q_mk_eqs q_mk_not q_mk_neg q_mk_conv q_mk_fieldAddr q_mk_load q_mk_ixa q_mk_idx q_mk_lookup q_mk_len q_mk_pick q_mk_field q_mk_slice q_mk_build q_mk_minmax q_mk_extract q_mk_nilCheck q_mk_lit q_mk_box q_mk_alloc q_pd0 q_pdo0 q_pdb q_pdob q_pdv q_pdov q_pda q_pdoa q_pad q_paod q_paa q_paoa q_pdT q_pdoT q_obz q_obs q_eqk q_eqL0 q_eqL1 q_eq1i q_fitd

theorem plus72 (a b : Int) (ha : -1000000000000000 ≤ a ∧ a ≤ 1000000000000000) (hb : -1000000000000000 ≤ b ∧ b ≤ 1000000000000000) : Pure prog 72 [.d (.int .i64 a), .d (.int .i64 b)] (.d (.int .i64 (min (a + b) 1099511627776))) := by
  refine fn_of e72 hm (by rfl) (vs := [.d (.int .i64 a), .d (.int .i64 b), .undef]) rfl ?_
  unfold c72
  have hw : IntKind.i64.wrap (a + b) = a + b := wrap64 (by omega) (by omega)
  have e : (if 1099511627776 < a + b then 1099511627776 else a + b) = min (a + b) 1099511627776 := by split <;> omega
  repeat' (first | (with_reducible first | refine st_reg ?_ | refine sN (by conv => lhs; simp [hw, e]) ?_ | refine rN ?_ ?_ | refine rO ?_ ?_ | refine rF ?_ ?_ | refine sG (by conv => lhs; simp [hw, e]) ?_ | refine gF ?_ | refine gS rfl (by conv => lhs; simp [hw, e]) ?_ ?_ | (refine st_gef0 ?_ ?_; focus (conv => (lhs; simp [hw, e])); done) | refine sE (by conv => lhs; simp) ?_ | refine Nx.go ?_ | refine st_blke' (by decide) ?_ | refine st_seq ?_ | refine st_blk ?_ | refine st_cond (by conv => lhs; simp) (by conv => lhs; simp [hw, e]) ?_ ?_ ?_ | refine st_lexit ?_) | (intro h_; try simp only [reduceCtorEq, y1, y2, y3, y4, y5, y6, y7, y8, y9, z1, z2, z3, z4, z5, z6, z7, ne_eq] at h_))
  all_goals try (first | contradiction | exact True.intro | omega | rfl | (simp [AV.fits, AV.cells, AV.one, DV.fits, DV.cells, DV.one, DV.conf, confL, DV.conf1]; done) | (simp [AV.fits, AV.cells, AV.one, DV.fits, DV.cells, DV.one, DV.conf, confL, DV.conf1, *] <;> omega))
  exact atEnd_pure ⟨trivial, trivial⟩ rfl rfl
theorem add57 (a b : Int) (ha : -1000000000000000 ≤ a ∧ a ≤ 1000000000000000) (hb : -1000000000000000 ≤ b ∧ b ≤ 1000000000000000) : Pure prog 57 [.d (.int .i64 a), .d (.int .i64 b)] (.d (.int .i64 (min (a + b) 1099511627776))) := by
  refine fn_of e57 hm (by rfl) (vs := [.d (.int .i64 a), .d (.int .i64 b), .undef]) rfl ?_
  unfold c57
  have hw : IntKind.i64.wrap (a + b) = a + b := wrap64 (by omega) (by omega)
  have e : (if 1099511627776 < a + b then 1099511627776 else a + b) = min (a + b) 1099511627776 := by split <;> omega
  repeat' (first | (with_reducible first | refine st_reg ?_ | refine sN (by conv => lhs; simp [hw, e]) ?_ | refine rN ?_ ?_ | refine rO ?_ ?_ | refine rF ?_ ?_ | refine sG (by conv => lhs; simp [hw, e]) ?_ | refine gF ?_ | refine gS rfl (by conv => lhs; simp [hw, e]) ?_ ?_ | (refine st_gef0 ?_ ?_; focus (conv => (lhs; simp [hw, e])); done) | refine sE (by conv => lhs; simp) ?_ | refine Nx.go ?_ | refine st_blke' (by decide) ?_ | refine st_seq ?_ | refine st_blk ?_ | refine st_cond (by conv => lhs; simp) (by conv => lhs; simp [hw, e]) ?_ ?_ ?_ | refine st_lexit ?_) | (intro h_; try simp only [reduceCtorEq, y1, y2, y3, y4, y5, y6, y7, y8, y9, z1, z2, z3, z4, z5, z6, z7, ne_eq] at h_))
  all_goals try (first | contradiction | exact True.intro | omega | rfl | (simp [AV.fits, AV.cells, AV.one, DV.fits, DV.cells, DV.one, DV.conf, confL, DV.conf1]; done) | (simp [AV.fits, AV.cells, AV.one, DV.fits, DV.cells, DV.one, DV.conf, confL, DV.conf1, *] <;> omega))
  exact atEnd_pure ⟨trivial, trivial⟩ rfl rfl

theorem swappable73 (x : Inp) (m : Nat) (hb : x.cols.length < 4611686018427387904) (hm' : m ≤ x.cols.length) :
    Pure prog 73 [.d (dInp x), .d (.int .i64 m)] (.d (.bool (swapB x m))) := by
  refine fn_of e73 hm (by rfl) (vs := [.d (dInp x), .d (.int .i64 m), .undef, .undef]) rfl ?_
  unfold c73
  have hw : IntKind.i64.wrap ((m : Int) + 1) = (m : Int) + 1 := wrap64 (by omega) (by omega)
  by_cases h1 : m + 1 < x.cols.length
  · have h1' : (m : Int) + 1 < x.cols.length := by omega
    have h2 : m < x.cols.length := by omega
    repeat' (first | (with_reducible first | refine st_reg ?_ | refine sN (by conv => lhs; simp [dInp, dCol, getD_map_lt, *]) ?_ | refine rN ?_ ?_ | refine rO ?_ ?_ | refine rF ?_ ?_ | refine sG (by conv => lhs; simp [dInp, dCol, getD_map_lt, *]) ?_ | refine gF ?_ | refine gS rfl (by conv => lhs; simp [dInp, dCol, getD_map_lt, *]) ?_ ?_ | (refine st_gef0 ?_ ?_; focus (conv => (lhs; simp [dInp, dCol, getD_map_lt, *])); done) | refine sE (by conv => lhs; simp [dInp, dCol, getD_map_lt, *]) ?_ | refine Nx.go ?_ | refine st_blke' (by decide) ?_ | refine st_seq ?_ | refine st_blk ?_ | refine st_cond (by conv => lhs; simp [dInp, dCol, getD_map_lt, *]) (by conv => lhs; simp [dInp, dCol, getD_map_lt, *]) ?_ ?_ ?_ | refine st_lexit ?_) | (intro h_; try simp only [reduceCtorEq, y1, y2, y3, y4, y5, y6, y7, y8, y9, z1, z2, z3, z4, z5, z6, z7, ne_eq] at h_))
    all_goals try (first | contradiction | exact True.intro | omega | rfl | (simp [AV.fits, AV.cells, AV.one, DV.fits, DV.cells, DV.one, DV.conf, confL, DV.conf1]; done) | (simp [AV.fits, AV.cells, AV.one, DV.fits, DV.cells, DV.one, DV.conf, confL, DV.conf1, *] <;> omega))
    refine atEnd_pure ⟨trivial, trivial⟩ ?_ rfl
    show AV.d (DV.bool _) = _
    simp [swapB, List.getElem?_eq_getElem h1, List.getElem?_eq_getElem h2, Bool.and_assoc]
  · have h1' : ¬ ((m : Int) + 1 < x.cols.length) := by omega
    repeat' (first | (with_reducible first | refine st_reg ?_ | refine sN (by conv => lhs; simp [dInp, dCol, *]) ?_ | refine rN ?_ ?_ | refine rO ?_ ?_ | refine rF ?_ ?_ | refine sG (by conv => lhs; simp [dInp, dCol, *]) ?_ | refine gF ?_ | refine gS rfl (by conv => lhs; simp [dInp, dCol, *]) ?_ ?_ | (refine st_gef0 ?_ ?_; focus (conv => (lhs; simp [dInp, dCol, *])); done) | refine sE (by conv => lhs; simp [dInp, dCol, *]) ?_ | refine Nx.go ?_ | refine st_blke' (by decide) ?_ | refine st_seq ?_ | refine st_blk ?_ | refine st_cond (by conv => lhs; simp [dInp, dCol, *]) (by conv => lhs; simp [dInp, dCol, *]) ?_ ?_ ?_ | refine st_lexit ?_) | (intro h_; try simp only [reduceCtorEq, y1, y2, y3, y4, y5, y6, y7, y8, y9, z1, z2, z3, z4, z5, z6, z7, ne_eq] at h_))
    all_goals try (first | contradiction | exact True.intro | omega | rfl | (simp [AV.fits, AV.cells, AV.one, DV.fits, DV.cells, DV.one, DV.conf, confL, DV.conf1]; done) | (simp [AV.fits, AV.cells, AV.one, DV.fits, DV.cells, DV.one, DV.conf, confL, DV.conf1, *] <;> omega))
    refine atEnd_pure ⟨trivial, trivial⟩ ?_ rfl
    show AV.d (DV.bool _) = _
    have : x.cols[m + 1]? = none := List.getElem?_eq_none (by omega)
    cases hx : x.cols[m]? <;> simp [swapB, this, hx]
theorem swappable74 (x : Inp) (m : Nat) (hb : x.cols.length < 4611686018427387904) (hm' : m ≤ x.cols.length) :
    Pure prog 74 [.d (dInp x), .d (.int .i64 m)] (.d (.bool (swapB x m))) := by
  refine fn_of e74 hm (by rfl) (vs := [.d (dInp x), .d (.int .i64 m), .undef, .undef]) rfl ?_
  unfold c74
  have hw : IntKind.i64.wrap ((m : Int) + 1) = (m : Int) + 1 := wrap64 (by omega) (by omega)
  by_cases h1 : m + 1 < x.cols.length
  · have h1' : (m : Int) + 1 < x.cols.length := by omega
    have h2 : m < x.cols.length := by omega
    repeat' (first | (with_reducible first | refine st_reg ?_ | refine sN (by conv => lhs; simp [dInp, dCol, getD_map_lt, *]) ?_ | refine rN ?_ ?_ | refine rO ?_ ?_ | refine rF ?_ ?_ | refine sG (by conv => lhs; simp [dInp, dCol, getD_map_lt, *]) ?_ | refine gF ?_ | refine gS rfl (by conv => lhs; simp [dInp, dCol, getD_map_lt, *]) ?_ ?_ | (refine st_gef0 ?_ ?_; focus (conv => (lhs; simp [dInp, dCol, getD_map_lt, *])); done) | refine sE (by conv => lhs; simp [dInp, dCol, getD_map_lt, *]) ?_ | refine Nx.go ?_ | refine st_blke' (by decide) ?_ | refine st_seq ?_ | refine st_blk ?_ | refine st_cond (by conv => lhs; simp [dInp, dCol, getD_map_lt, *]) (by conv => lhs; simp [dInp, dCol, getD_map_lt, *]) ?_ ?_ ?_ | refine st_lexit ?_) | (intro h_; try simp only [reduceCtorEq, y1, y2, y3, y4, y5, y6, y7, y8, y9, z1, z2, z3, z4, z5, z6, z7, ne_eq] at h_))
    all_goals try (first | contradiction | exact True.intro | omega | rfl | (simp [AV.fits, AV.cells, AV.one, DV.fits, DV.cells, DV.one, DV.conf, confL, DV.conf1]; done) | (simp [AV.fits, AV.cells, AV.one, DV.fits, DV.cells, DV.one, DV.conf, confL, DV.conf1, *] <;> omega))
    refine atEnd_pure ⟨trivial, trivial⟩ ?_ rfl
    show AV.d (DV.bool _) = _
    simp [swapB, List.getElem?_eq_getElem h1, List.getElem?_eq_getElem h2, Bool.and_assoc]
  · have h1' : ¬ ((m : Int) + 1 < x.cols.length) := by omega
    repeat' (first | (with_reducible first | refine st_reg ?_ | refine sN (by conv => lhs; simp [dInp, dCol, *]) ?_ | refine rN ?_ ?_ | refine rO ?_ ?_ | refine rF ?_ ?_ | refine sG (by conv => lhs; simp [dInp, dCol, *]) ?_ | refine gF ?_ | refine gS rfl (by conv => lhs; simp [dInp, dCol, *]) ?_ ?_ | (refine st_gef0 ?_ ?_; focus (conv => (lhs; simp [dInp, dCol, *])); done) | refine sE (by conv => lhs; simp [dInp, dCol, *]) ?_ | refine Nx.go ?_ | refine st_blke' (by decide) ?_ | refine st_seq ?_ | refine st_blk ?_ | refine st_cond (by conv => lhs; simp [dInp, dCol, *]) (by conv => lhs; simp [dInp, dCol, *]) ?_ ?_ ?_ | refine st_lexit ?_) | (intro h_; try simp only [reduceCtorEq, y1, y2, y3, y4, y5, y6, y7, y8, y9, z1, z2, z3, z4, z5, z6, z7, ne_eq] at h_))
    all_goals try (first | contradiction | exact True.intro | omega | rfl | (simp [AV.fits, AV.cells, AV.one, DV.fits, DV.cells, DV.one, DV.conf, confL, DV.conf1]; done) | (simp [AV.fits, AV.cells, AV.one, DV.fits, DV.cells, DV.one, DV.conf, confL, DV.conf1, *] <;> omega))
    refine atEnd_pure ⟨trivial, trivial⟩ ?_ rfl
    show AV.d (DV.bool _) = _
    have : x.cols[m + 1]? = none := List.getElem?_eq_none (by omega)
    cases hx : x.cols[m]? <;> simp [swapB, this, hx]

theorem Terminals41 (x : Inp) (y : List Int) (hyl : y.length < 1000000) (hy : ∀ t ∈ y, 0 ≤ t ∧ t < x.insert.length) : Pure prog 41 [.d (dInp x), .d (.vs (y.map dI))] (.d (.bool true)) := by
  refine fn_of e41 hm (by rfl) (vs := [.d (dInp x), .d (.vs (y.map dI)), .undef, .undef, .undef, .undef, .undef]) rfl ?_
  unfold c41
  repeat' (first | (with_reducible first | refine st_reg ?_ | refine sN (by conv => lhs; simp [dInp]) ?_ | refine rN ?_ ?_ | refine rO ?_ ?_ | refine rF ?_ ?_ | refine sG (by conv => lhs; simp [dInp]) ?_ | refine gF ?_ | refine gS rfl (by conv => lhs; simp [dInp]) ?_ ?_ | (refine st_gef0 ?_ ?_; focus (conv => (lhs; simp [dInp])); done) | refine sE (by conv => lhs; simp) ?_ | refine Nx.go ?_ | refine st_blke' (by decide) ?_ | refine st_seq ?_ | refine st_blk ?_ | refine st_cond (by conv => lhs; simp) (by conv => lhs; simp [dInp]) ?_ ?_ ?_ | refine st_lexit ?_) | (intro h_; try simp only [reduceCtorEq, y1, y2, y3, y4, y5, y6, y7, y8, y9, z1, z2, z3, z4, z5, z6, z7, ne_eq] at h_))
  all_goals try (first | contradiction | exact True.intro | omega | rfl | (simp [AV.fits, AV.cells, AV.one, DV.fits, DV.cells, DV.one, DV.conf, confL, DV.conf1]; done) | (simp [AV.fits, AV.cells, AV.one, DV.fits, DV.cells, DV.one, DV.conf, confL, DV.conf1, *] <;> omega))
  refine wpC_loop (fun s => ∃ (k : Nat) (v5 v6 : AV), k ≤ y.length ∧ s = ⟨[.d (dInp x), .d (.vs (y.map dI)), .ptr 0 0 0, .d (.bool false), .d (.int .i64 k), v5, v6], [some (.arr 3 [.d (dInp x)])]⟩)
    (fun s => y.length - (s.int 4).toNat)
    (s' := ⟨[.d (dInp x), .d (.vs (y.map dI)), .ptr 0 0 0, .d (.bool false), .d (.int .i64 (0 : Nat)), .undef, .undef], [some (.arr 3 [.d (dInp x)])]⟩)
    (Gh.weak (by simp [weak])) ⟨0, _, _, by omega, rfl⟩ ?_
  rintro _ ⟨k, v5, v6, hk, rfl⟩
  have hw : IntKind.i64.wrap ((k : Int) + 1) = ((k + 1 : Nat) : Int) := by rw [wrap64 (by omega) (by omega)]; simp
  rcases Nat.lt_or_ge k y.length with hkl | hkl
  · obtain ⟨t, ht⟩ : ∃ t, t = y[k] := ⟨_, rfl⟩
    have hb := hy t (ht ▸ List.getElem_mem hkl)
    have h1 : ¬ t < 0 := by omega
    have h2 : ¬ (x.insert.length : Int) ≤ t := by omega
    repeat' (first | (with_reducible first | refine st_reg ?_ | refine sN (by conv => lhs; simp [dInp, getD_map_lt, hkl, dI, ← ht, h1, h2, hw]) ?_ | refine rN ?_ ?_ | refine rO ?_ ?_ | refine rF ?_ ?_ | refine sG (by conv => lhs; simp [dInp, getD_map_lt, hkl, dI, ← ht, h1, h2, hw]) ?_ | refine gF ?_ | refine gS rfl (by conv => lhs; simp [dInp, getD_map_lt, hkl, dI, ← ht, h1, h2, hw]) ?_ ?_ | (refine st_gef0 ?_ ?_; focus (conv => (lhs; simp [dInp, getD_map_lt, hkl, dI, ← ht, h1, h2, hw])); done) | refine sE (by conv => lhs; simp) ?_ | refine Nx.go ?_ | refine st_blke' (by decide) ?_ | refine st_seq ?_ | refine st_blk ?_ | refine st_cond (by conv => lhs; simp) (by conv => lhs; simp [dInp, getD_map_lt, hkl, dI, ← ht, h1, h2, hw]) ?_ ?_ ?_ | refine st_lexit ?_) | (intro h_; try simp only [reduceCtorEq, y1, y2, y3, y4, y5, y6, y7, y8, y9, z1, z2, z3, z4, z5, z6, z7, ne_eq] at h_))
    all_goals try (first | contradiction | exact True.intro | omega | rfl | (simp [AV.fits, AV.cells, AV.one, DV.fits, DV.cells, DV.one, DV.conf, confL, DV.conf1]; done) | (simp [AV.fits, AV.cells, AV.one, DV.fits, DV.cells, DV.one, DV.conf, confL, DV.conf1, *] <;> omega))
    exact st_lnormw (ys := [.d (dInp x), .d (.vs (y.map dI)), .ptr 0 0 0, .d (.bool false), .d (.int .i64 (k + 1 : Nat)), .undef, .undef]) (by simp [weak]) ⟨k + 1, _, _, by omega, rfl⟩ (by simp [St.int]; omega)
  · skip
    repeat' (first | (with_reducible first | refine st_reg ?_ | refine sN (by conv => lhs; simp [hkl]) ?_ | refine rN ?_ ?_ | refine rO ?_ ?_ | refine rF ?_ ?_ | refine sG (by conv => lhs; simp [hkl]) ?_ | refine gF ?_ | refine gS rfl (by conv => lhs; simp [hkl]) ?_ ?_ | (refine st_gef0 ?_ ?_; focus (conv => (lhs; simp [hkl])); done) | refine sE (by conv => lhs; simp) ?_ | refine Nx.go ?_ | refine st_blke' (by decide) ?_ | refine st_seq ?_ | refine st_blk ?_ | refine st_cond (by conv => lhs; simp) (by conv => lhs; simp [hkl]) ?_ ?_ ?_ | refine st_lexit ?_) | (intro h_; try simp only [reduceCtorEq, y1, y2, y3, y4, y5, y6, y7, y8, y9, z1, z2, z3, z4, z5, z6, z7, ne_eq] at h_))
    all_goals try (first | contradiction | exact True.intro | omega | rfl | (simp [AV.fits, AV.cells, AV.one, DV.fits, DV.cells, DV.one, DV.conf, confL, DV.conf1]; done) | (simp [AV.fits, AV.cells, AV.one, DV.fits, DV.cells, DV.one, DV.conf, confL, DV.conf1, *] <;> omega))
    exact atEnd_pure ⟨trivial, trivial⟩ rfl rfl
theorem proper43 (x : Inp) (y : List Int) (hyl : y.length < 1000000) (hy : ∀ t ∈ y, 0 ≤ t ∧ t < x.insert.length) : Pure prog 43 [.d (dInp x), .d (.vs (y.map dI))] (.d (.bool true)) := by
  refine fn_of e43 hm (by rfl) (vs := [.d (dInp x), .d (.vs (y.map dI)), .undef, .undef, .undef, .undef, .undef, .undef, .undef, .undef]) rfl ?_
  unfold c43
  repeat' (first | (with_reducible first | refine st_reg ?_ | refine sN (by conv => lhs; simp [dInp]) ?_ | refine rN ?_ ?_ | refine rO ?_ ?_ | refine rF ?_ ?_ | refine sG (by conv => lhs; simp [dInp]) ?_ | refine gF ?_ | refine gS rfl (by conv => lhs; simp [dInp]) ?_ ?_ | (refine st_gef0 ?_ ?_; focus (conv => (lhs; simp [dInp])); done) | refine sE (by conv => lhs; simp) ?_ | refine Nx.go ?_ | refine st_blke' (by decide) ?_ | refine st_seq ?_ | refine st_blk ?_ | refine st_cond (by conv => lhs; simp) (by conv => lhs; simp [dInp]) ?_ ?_ ?_ | refine st_lexit ?_) | (intro h_; try simp only [reduceCtorEq, y1, y2, y3, y4, y5, y6, y7, y8, y9, z1, z2, z3, z4, z5, z6, z7, ne_eq] at h_))
  all_goals try (first | contradiction | exact True.intro | omega | rfl | (simp [AV.fits, AV.cells, AV.one, DV.fits, DV.cells, DV.one, DV.conf, confL, DV.conf1]; done) | (simp [AV.fits, AV.cells, AV.one, DV.fits, DV.cells, DV.one, DV.conf, confL, DV.conf1, *] <;> omega))
  refine wpC_loop (fun s => ∃ (k : Nat) (v4 v8 v9 : AV), k ≤ y.length ∧ s = ⟨[.d (dInp x), .d (.vs (y.map dI)), .ptr 0 0 0, .d (.bool false), v4, .d (.vs (y.map dI)), .d (.int .i64 y.length), .d (.int .i64 k), v8, v9], [some (.arr 3 [.d (dInp x)])]⟩)
    (fun s => y.length - (s.int 7).toNat)
    (s' := ⟨[.d (dInp x), .d (.vs (y.map dI)), .ptr 0 0 0, .d (.bool false), .undef, .d (.vs (y.map dI)), .d (.int .i64 y.length), .d (.int .i64 (0 : Nat)), .undef, .undef], [some (.arr 3 [.d (dInp x)])]⟩)
    (Gh.weak (by simp [weak])) ⟨0, _, _, _, by omega, rfl⟩ ?_
  rintro _ ⟨k, v4, v8, v9, hk, rfl⟩
  have hw : IntKind.i64.wrap ((k : Int) + 1) = ((k + 1 : Nat) : Int) := by rw [wrap64 (by omega) (by omega)]; simp
  rcases Nat.lt_or_ge k y.length with hkl | hkl
  · obtain ⟨t, ht⟩ : ∃ t, t = y[k] := ⟨_, rfl⟩
    have hb := hy t (ht ▸ List.getElem_mem hkl)
    have h1 : ¬ t < 0 := by omega
    have h2 : ¬ (x.insert.length : Int) ≤ t := by omega
    repeat' (first | (with_reducible first | refine st_reg ?_ | refine sN (by conv => lhs; simp [dInp, getD_map_lt, hkl, dI, ← ht, h1, h2, hw]) ?_ | refine rN ?_ ?_ | refine rO ?_ ?_ | refine rF ?_ ?_ | refine sG (by conv => lhs; simp [dInp, getD_map_lt, hkl, dI, ← ht, h1, h2, hw]) ?_ | refine gF ?_ | refine gS rfl (by conv => lhs; simp [dInp, getD_map_lt, hkl, dI, ← ht, h1, h2, hw]) ?_ ?_ | (refine st_gef0 ?_ ?_; focus (conv => (lhs; simp [dInp, getD_map_lt, hkl, dI, ← ht, h1, h2, hw])); done) | refine sE (by conv => lhs; simp) ?_ | refine Nx.go ?_ | refine st_blke' (by decide) ?_ | refine st_seq ?_ | refine st_blk ?_ | refine st_cond (by conv => lhs; simp) (by conv => lhs; simp [dInp, getD_map_lt, hkl, dI, ← ht, h1, h2, hw]) ?_ ?_ ?_ | refine st_lexit ?_) | (intro h_; try simp only [reduceCtorEq, y1, y2, y3, y4, y5, y6, y7, y8, y9, z1, z2, z3, z4, z5, z6, z7, ne_eq] at h_))
    all_goals try (first | contradiction | exact True.intro | omega | rfl | (simp [AV.fits, AV.cells, AV.one, DV.fits, DV.cells, DV.one, DV.conf, confL, DV.conf1]; done) | (simp [AV.fits, AV.cells, AV.one, DV.fits, DV.cells, DV.one, DV.conf, confL, DV.conf1, *] <;> omega))
    exact st_lnormw (ys := [.d (dInp x), .d (.vs (y.map dI)), .ptr 0 0 0, .d (.bool false), .undef, .d (.vs (y.map dI)), .d (.int .i64 y.length), .d (.int .i64 (k + 1 : Nat)), .undef, .undef]) (by simp [weak]) ⟨k + 1, _, _, _, by omega, rfl⟩ (by simp [St.int]; omega)
  · skip
    repeat' (first | (with_reducible first | refine st_reg ?_ | refine sN (by conv => lhs; simp [hkl]) ?_ | refine rN ?_ ?_ | refine rO ?_ ?_ | refine rF ?_ ?_ | refine sG (by conv => lhs; simp [hkl]) ?_ | refine gF ?_ | refine gS rfl (by conv => lhs; simp [hkl]) ?_ ?_ | (refine st_gef0 ?_ ?_; focus (conv => (lhs; simp [hkl])); done) | refine sE (by conv => lhs; simp) ?_ | refine Nx.go ?_ | refine st_blke' (by decide) ?_ | refine st_seq ?_ | refine st_blk ?_ | refine st_cond (by conv => lhs; simp) (by conv => lhs; simp [hkl]) ?_ ?_ ?_ | refine st_lexit ?_) | (intro h_; try simp only [reduceCtorEq, y1, y2, y3, y4, y5, y6, y7, y8, y9, z1, z2, z3, z4, z5, z6, z7, ne_eq] at h_))
    all_goals try (first | contradiction | exact True.intro | omega | rfl | (simp [AV.fits, AV.cells, AV.one, DV.fits, DV.cells, DV.one, DV.conf, confL, DV.conf1]; done) | (simp [AV.fits, AV.cells, AV.one, DV.fits, DV.cells, DV.one, DV.conf, confL, DV.conf1, *] <;> omega))
    exact atEnd_pure ⟨trivial, trivial⟩ rfl rfl

/-- A table in one row. -/
def tabT (ts : List Int) (w i j : Nat) : Int := ts.getD (i * w + j) 0
def optK (x : Inp) (y : List Int) (T : Nat → Nat → Int) (i j : Nat) : Nat → Int
  | 1 => optR x y T i j
  | 2 => optD x T i j
  | 3 => optI x y T i j
  | 4 => optS x y T i j
  | _ => 1099511627776
theorem step55 (x : Inp) (y ts : List Int) (i j kd W N : Nat) (hx : WF x) (hyl : y.length ≤ 1000) (hy : ∀ t ∈ y, 0 ≤ t ∧ t < x.insert.length) (hi : i ≤ x.cols.length) (hj : j ≤ y.length) (hW : W = y.length + 1) (hN : N = (x.cols.length + 1) * W)
    (hts : ts.length = N) (htb : ∀ v ∈ ts, 0 ≤ v ∧ v ≤ 1099511627776) (hk : 1 ≤ kd ∧ kd ≤ 4) :
    Fn prog 55 [.d (dInp x), .d (.vs (y.map dI)), .hs 0 0 N 1, .d (.int .i64 W), .d (.int .i64 i), .d (.int .i64 j), .d (.int .i64 kd)] [some (.arr 1 ((ts.map dI).map .d))]
      (fun r H' => r = .d (.int .i64 (optK x y (tabT ts W) i j kd)) ∧ H' = [some (.arr 1 ((ts.map dI).map .d))]) := by
  have hn := hx.n
  have hNb : N ≤ 61 * 1001 := by rw [hN]; exact Nat.mul_le_mul (by omega) (by omega)
  refine fn_of e55 hm (by rfl) (vs := [.d (dInp x), .d (.vs (y.map dI)), .hs 0 0 N 1, .d (.int .i64 W), .d (.int .i64 i), .d (.int .i64 j), .d (.int .i64 kd), .undef, .undef, .undef, .undef, .undef, .undef, .undef]) rfl ?_
  obtain ⟨EN, hEN⟩ : ∃ EN, EN = (ts.map dI).map AV.d := ⟨_, rfl⟩
  have lEN : EN.length = N := by rw [hEN]; simp [hts]
  have und : undL 1 EN = true := by rw [hEN]; exact undL_data _
  rw [← hEN]
  unfold c55
  have fin : ∀ (v : Int) (vs : List AV) (o : Option Ob), vs[8]? = some (.d (.int .i64 v)) → v = optK x y (tabT ts W) i j kd → AtEnd r55 [some (.arr 1 EN)] (fun r H' => r = .d (.int .i64 (optK x y (tabT ts W) i j kd)) ∧ H' = [some (.arr 1 EN)]) ⟨vs, [some (.arr 1 EN), o]⟩ := by
    intro v vs o h8 hv
    have er : resV ⟨vs, [some (.arr 1 EN), o]⟩ r55 = .d (.int .i64 v) := by
      show vs.getD 8 .undef = _
      simp [List.getD_eq_getElem?_getD, h8]
    refine atEnd_H 1 (Gh.refl _) ⟨trivial, trivial⟩ (Nat.le_refl _) (by simp) ?_ (by rw [er]; rfl) ⟨by rw [er, hv], rfl⟩
    intro q o' hq ho
    obtain rfl : q = 0 := by omega
    cases ho
    exact und
  have hwi : IntKind.i64.wrap ((i : Int) + 1) = (i : Int) + 1 := wrap64 (by omega) (by omega)
  have hget : ∀ {b : Nat} (h : b < N), EN[b]? = some (.d (.int .i64 (ts.getD b 0))) := fun {b} h => by rw [hEN]; exact getI (by omega)
  have hgb : ∀ {b : Nat} (h : b < N), 0 ≤ ts.getD b 0 ∧ ts.getD b 0 ≤ 1099511627776 := fun {b} h => getD_bd (P := fun v => 0 ≤ v ∧ v ≤ 1099511627776) (by omega) htb
  have hcast : ∀ a : Nat, ((a * W : Nat) : Int) = (a : Int) * (W : Int) := fun a => Int.natCast_mul a W
  have hmul : ∀ a : Nat, a ≤ x.cols.length → a * W + W ≤ N := fun a ha => by
    rw [hN, show a * W + W = (a + 1) * W by rw [Nat.succ_mul]]
    exact Nat.mul_le_mul_right _ (by omega)
  -- what an entry of the table gives
  have ent : ∀ (p : Int) (b : Nat), b < N → -1000000000000000 ≤ p ∧ p ≤ 100000000000000 → Pure prog 72 [.d (.int .i64 p), .d (.int .i64 (ts.getD b 0))] (.d (.int .i64 (min (p + ts.getD b 0) 1099511627776))) := fun p b hb hp => plus72 p (ts.getD b 0) (by omega) (by have := hgb hb; omega)
  match kd, hk with
  | 1, _ =>
    by_cases h1 : i < x.cols.length
    rotate_left
    · have h1' : ¬ ((i : Int) < x.cols.length) := by omega
      repeat' (first | (with_reducible first | refine st_reg ?_ | refine sN (by conv => lhs; simp [dInp, h1]) ?_ | refine rN ?_ ?_ | refine rO ?_ ?_ | refine rF ?_ ?_ | refine sG (by conv => lhs; simp [dInp, h1]) ?_ | refine gF ?_ | refine gS rfl (by conv => lhs; simp [dInp, h1]) ?_ ?_ | (refine st_gef0 ?_ ?_; focus (conv => (lhs; simp [dInp, h1])); done) | refine sE (by conv => lhs; simp) ?_ | refine Nx.go ?_ | refine st_blke' (by decide) ?_ | refine st_seq ?_ | refine st_blk ?_ | refine st_cond (by conv => lhs; simp) (by conv => lhs; simp [dInp, h1]) ?_ ?_ ?_ | refine st_lexit ?_) | (intro h_; try simp only [reduceCtorEq, y1, y2, y3, y4, y5, y6, y7, y8, y9, z1, z2, z3, z4, z5, z6, z7, ne_eq] at h_))
      all_goals try (first | contradiction | exact True.intro | omega | rfl | (simp [AV.fits, AV.cells, AV.one, DV.fits, DV.cells, DV.one, DV.conf, confL, DV.conf1]; done) | (simp [AV.fits, AV.cells, AV.one, DV.fits, DV.cells, DV.one, DV.conf, confL, DV.conf1, *] <;> omega))
      exact fin _ _ _ rfl (by simp [optK, optR, h1])
    by_cases h2 : j < y.length
    rotate_left
    · skip
      repeat' (first | (with_reducible first | refine st_reg ?_ | refine sN (by conv => lhs; simp [dInp, h1, h2]) ?_ | refine rN ?_ ?_ | refine rO ?_ ?_ | refine rF ?_ ?_ | refine sG (by conv => lhs; simp [dInp, h1, h2]) ?_ | refine gF ?_ | refine gS rfl (by conv => lhs; simp [dInp, h1, h2]) ?_ ?_ | (refine st_gef0 ?_ ?_; focus (conv => (lhs; simp [dInp, h1, h2])); done) | refine sE (by conv => lhs; simp) ?_ | refine Nx.go ?_ | refine st_blke' (by decide) ?_ | refine st_seq ?_ | refine st_blk ?_ | refine st_cond (by conv => lhs; simp) (by conv => lhs; simp [dInp, h1, h2]) ?_ ?_ ?_ | refine st_lexit ?_) | (intro h_; try simp only [reduceCtorEq, y1, y2, y3, y4, y5, y6, y7, y8, y9, z1, z2, z3, z4, z5, z6, z7, ne_eq] at h_))
      all_goals try (first | contradiction | exact True.intro | omega | rfl | (simp [AV.fits, AV.cells, AV.one, DV.fits, DV.cells, DV.one, DV.conf, confL, DV.conf1]; done) | (simp [AV.fits, AV.cells, AV.one, DV.fits, DV.cells, DV.one, DV.conf, confL, DV.conf1, *] <;> omega))
      exact fin _ _ _ rfl (by simp [optK, optR, h2])
    obtain ⟨t, ht⟩ : ∃ t, t = y[j] := ⟨_, rfl⟩
    have htb2 := hy t (ht ▸ List.getElem_mem h2)
    obtain ⟨tn, htn⟩ : ∃ tn : Nat, t = tn := ⟨t.toNat, by omega⟩
    have hgy : y.getD j 0 = t := by rw [ht]; simp [List.getD_eq_getElem?_getD, h2]
    obtain ⟨c, hc⟩ : ∃ c, c = x.cols[i] := ⟨_, rfl⟩
    obtain ⟨_, _, hcl, _, _, hcr⟩ := hx.cols c (hc ▸ List.getElem_mem h1)
    have htl : tn < c.read.length := by omega
    obtain ⟨p, hp⟩ : ∃ p, p = c.read[tn] := ⟨_, rfl⟩
    have hpb := hcr p (hp ▸ List.getElem_mem htl)
    have hra : (readAt x i).getD (y.getD j 0).toNat 0 = p := by
      rw [hgy, htn, Int.toNat_natCast, hp]
      simp [readAt, List.getElem?_eq_getElem h1, ← hc, List.getD_eq_getElem?_getD, htl]
    rw [htn] at ht
    by_cases h3 : 0 ≤ p
    rotate_left
    · skip
      repeat' (first | (with_reducible first | refine st_reg ?_ | refine sN (by conv => lhs; simp [dInp, h1, h2, getD_map_lt, dCol, dI, ← hc, ← ht, htl, ← hp, h3]) ?_ | refine rN ?_ ?_ | refine rO ?_ ?_ | refine rF ?_ ?_ | refine sG (by conv => lhs; simp [dInp, h1, h2, getD_map_lt, dCol, dI, ← hc, ← ht, htl, ← hp, h3]) ?_ | refine gF ?_ | refine gS rfl (by conv => lhs; simp [dInp, h1, h2, getD_map_lt, dCol, dI, ← hc, ← ht, htl, ← hp, h3]) ?_ ?_ | (refine st_gef0 ?_ ?_; focus (conv => (lhs; simp [dInp, h1, h2, getD_map_lt, dCol, dI, ← hc, ← ht, htl, ← hp, h3])); done) | refine sE (by conv => lhs; simp) ?_ | refine Nx.go ?_ | refine st_blke' (by decide) ?_ | refine st_seq ?_ | refine st_blk ?_ | refine st_cond (by conv => lhs; simp) (by conv => lhs; simp [dInp, h1, h2, getD_map_lt, dCol, dI, ← hc, ← ht, htl, ← hp, h3]) ?_ ?_ ?_ | refine st_lexit ?_) | (intro h_; try simp only [reduceCtorEq, y1, y2, y3, y4, y5, y6, y7, y8, y9, z1, z2, z3, z4, z5, z6, z7, ne_eq] at h_))
      all_goals try (first | contradiction | exact True.intro | omega | rfl | (simp [AV.fits, AV.cells, AV.one, DV.fits, DV.cells, DV.one, DV.conf, confL, DV.conf1]; done) | (simp [AV.fits, AV.cells, AV.one, DV.fits, DV.cells, DV.one, DV.conf, confL, DV.conf1, *] <;> omega))
      refine fin _ _ _ rfl ?_
      simp only [optK, optR, hra]; rw [if_neg (by omega)]
    obtain ⟨a, ha⟩ : ∃ a, a = (i + 1) * W := ⟨_, rfl⟩
    have hab := hmul (i + 1) (by omega)
    rw [← ha] at hab
    have wa : IntKind.i64.wrap (((i : Int) + 1) * (W : Int)) = (a : Int) := by
      rw [show ((i : Int) + 1) * (W : Int) = (a : Int) by rw [ha, hcast]; rfl]; exact wrap64 (by omega) (by omega)
    obtain ⟨b, hb⟩ : ∃ b, b = a + j := ⟨_, rfl⟩
    have wb : IntKind.i64.wrap ((a : Int) + (j : Int)) = (b : Int) := by rw [wrap64 (by omega) (by omega)]; omega
    obtain ⟨e, he⟩ : ∃ e, e = b + 1 := ⟨_, rfl⟩
    have we : IntKind.i64.wrap ((b : Int) + 1) = (e : Int) := by rw [wrap64 (by omega) (by omega)]; omega
    have heN : e < N := by omega
    have gn := hget heN
    have gn2 : EN[e]'(by omega) = .d (.int .i64 (ts.getD e 0)) := (List.getElem?_eq_some_iff.1 gn).2
    have hT : tabT ts W (i + 1) (j + 1) = ts.getD e 0 := by unfold tabT; congr 1; omega
    have gb := hgb heN
    have hent := ent p e heN (by omega)
    obtain ⟨v, hv⟩ : ∃ v, v = ts.getD e 0 := ⟨_, rfl⟩
    rw [← hv] at gn gn2 hT gb hent
    clear ha hb he
    repeat' (first | (with_reducible first | refine st_reg ?_ | refine sN (by conv => lhs; simp [dInp, h1, h2, getD_map_lt, dCol, dI, ← hc, ← ht, htl, ← hp, h3, hwi, wa, wb, we, heN, gn, gn2, lEN]) ?_ | refine rN ?_ ?_ | refine rO ?_ ?_ | refine rF ?_ ?_ | refine sG (by conv => lhs; simp [dInp, h1, h2, getD_map_lt, dCol, dI, ← hc, ← ht, htl, ← hp, h3, hwi, wa, wb, we, heN, gn, gn2, lEN]) ?_ | refine gF ?_ | refine gS rfl (by conv => lhs; simp [dInp, h1, h2, getD_map_lt, dCol, dI, ← hc, ← ht, htl, ← hp, h3, hwi, wa, wb, we, heN, gn, gn2, lEN]) ?_ ?_ | (refine st_gef0 ?_ ?_; focus (conv => (lhs; simp [dInp, h1, h2, getD_map_lt, dCol, dI, ← hc, ← ht, htl, ← hp, h3, hwi, wa, wb, we, heN, gn, gn2, lEN])); done) | refine sE (by conv => lhs; simp) ?_ | refine Nx.go ?_ | refine st_blke' (by decide) ?_ | refine st_seq ?_ | refine st_blk ?_ | refine st_cond (by conv => lhs; simp) (by conv => lhs; simp [dInp, h1, h2, getD_map_lt, dCol, dI, ← hc, ← ht, htl, ← hp, h3, hwi, wa, wb, we, heN, gn, gn2, lEN]) ?_ ?_ ?_ | refine st_lexit ?_) | (intro h_; try simp only [reduceCtorEq, y1, y2, y3, y4, y5, y6, y7, y8, y9, z1, z2, z3, z4, z5, z6, z7, ne_eq] at h_))
    all_goals try (first | contradiction | exact True.intro | omega | rfl | (simp [AV.fits, AV.cells, AV.one, DV.fits, DV.cells, DV.one, DV.conf, confL, DV.conf1]; done) | (simp [AV.fits, AV.cells, AV.one, DV.fits, DV.cells, DV.one, DV.conf, confL, DV.conf1, *] <;> omega))
    refine st_e (st_call (by simp [solidOk]) (by conv => lhs; simp) hent (by exact ⟨.inl rfl, .inl rfl, trivial⟩) (pendOk_refl _) ?_)
    repeat' (first | (with_reducible first | refine st_reg ?_ | refine sN (by conv => lhs; simp) ?_ | refine rN ?_ ?_ | refine rO ?_ ?_ | refine rF ?_ ?_ | refine sG (by conv => lhs; simp) ?_ | refine gF ?_ | refine gS rfl (by conv => lhs; simp) ?_ ?_ | (refine st_gef0 ?_ ?_; focus (conv => (lhs; simp)); done) | refine sE (by conv => lhs; simp) ?_ | refine Nx.go ?_ | refine st_blke' (by decide) ?_ | refine st_seq ?_ | refine st_blk ?_ | refine st_cond (by conv => lhs; simp) (by conv => lhs; simp) ?_ ?_ ?_ | refine st_lexit ?_) | (intro h_; try simp only [reduceCtorEq, y1, y2, y3, y4, y5, y6, y7, y8, y9, z1, z2, z3, z4, z5, z6, z7, ne_eq] at h_))
    all_goals try (first | contradiction | exact True.intro | omega | rfl | (simp [AV.fits, AV.cells, AV.one, DV.fits, DV.cells, DV.one, DV.conf, confL, DV.conf1]; done) | (simp [AV.fits, AV.cells, AV.one, DV.fits, DV.cells, DV.one, DV.conf, confL, DV.conf1, *] <;> omega))
    refine fin _ _ _ rfl ?_
    simp only [optK, optR, hra, hT]; rw [if_pos ⟨h1, h2, h3⟩]
  | 2, _ =>
    by_cases h1 : i < x.cols.length
    rotate_left
    · skip
      repeat' (first | (with_reducible first | refine st_reg ?_ | refine sN (by conv => lhs; simp [dInp, h1]) ?_ | refine rN ?_ ?_ | refine rO ?_ ?_ | refine rF ?_ ?_ | refine sG (by conv => lhs; simp [dInp, h1]) ?_ | refine gF ?_ | refine gS rfl (by conv => lhs; simp [dInp, h1]) ?_ ?_ | (refine st_gef0 ?_ ?_; focus (conv => (lhs; simp [dInp, h1])); done) | refine sE (by conv => lhs; simp) ?_ | refine Nx.go ?_ | refine st_blke' (by decide) ?_ | refine st_seq ?_ | refine st_blk ?_ | refine st_cond (by conv => lhs; simp) (by conv => lhs; simp [dInp, h1]) ?_ ?_ ?_ | refine st_lexit ?_) | (intro h_; try simp only [reduceCtorEq, y1, y2, y3, y4, y5, y6, y7, y8, y9, z1, z2, z3, z4, z5, z6, z7, ne_eq] at h_))
      all_goals try (first | contradiction | exact True.intro | omega | rfl | (simp [AV.fits, AV.cells, AV.one, DV.fits, DV.cells, DV.one, DV.conf, confL, DV.conf1]; done) | (simp [AV.fits, AV.cells, AV.one, DV.fits, DV.cells, DV.one, DV.conf, confL, DV.conf1, *] <;> omega))
      exact fin _ _ _ rfl (by simp [optK, optD, h1])
    obtain ⟨c, hc⟩ : ∃ c, c = x.cols[i] := ⟨_, rfl⟩
    obtain ⟨_, _, _, hd1, hd2, _⟩ := hx.cols c (hc ▸ List.getElem_mem h1)
    have hda : delAt x i = c.del := by simp [delAt, List.getElem?_eq_getElem h1, ← hc]
    obtain ⟨a, ha⟩ : ∃ a, a = (i + 1) * W := ⟨_, rfl⟩
    have hab := hmul (i + 1) (by omega)
    rw [← ha] at hab
    have wa : IntKind.i64.wrap (((i : Int) + 1) * (W : Int)) = (a : Int) := by
      rw [show ((i : Int) + 1) * (W : Int) = (a : Int) by rw [ha, hcast]; rfl]; exact wrap64 (by omega) (by omega)
    obtain ⟨b, hb⟩ : ∃ b, b = a + j := ⟨_, rfl⟩
    have wb : IntKind.i64.wrap ((a : Int) + (j : Int)) = (b : Int) := by rw [wrap64 (by omega) (by omega)]; omega
    have heN : b < N := by omega
    have gn := hget heN
    have gn2 : EN[b]'(by omega) = .d (.int .i64 (ts.getD b 0)) := (List.getElem?_eq_some_iff.1 gn).2
    have hT : tabT ts W (i + 1) j = ts.getD b 0 := by unfold tabT; congr 1; omega
    have gb := hgb heN
    have hent := ent c.del b heN (by omega)
    obtain ⟨v, hv⟩ : ∃ v, v = ts.getD b 0 := ⟨_, rfl⟩
    rw [← hv] at gn gn2 hT gb hent
    clear ha hb
    repeat' (first | (with_reducible first | refine st_reg ?_ | refine sN (by conv => lhs; simp [dInp, h1, getD_map_lt, dCol, ← hc, hwi, wa, wb, heN, gn, gn2, lEN]) ?_ | refine rN ?_ ?_ | refine rO ?_ ?_ | refine rF ?_ ?_ | refine sG (by conv => lhs; simp [dInp, h1, getD_map_lt, dCol, ← hc, hwi, wa, wb, heN, gn, gn2, lEN]) ?_ | refine gF ?_ | refine gS rfl (by conv => lhs; simp [dInp, h1, getD_map_lt, dCol, ← hc, hwi, wa, wb, heN, gn, gn2, lEN]) ?_ ?_ | (refine st_gef0 ?_ ?_; focus (conv => (lhs; simp [dInp, h1, getD_map_lt, dCol, ← hc, hwi, wa, wb, heN, gn, gn2, lEN])); done) | refine sE (by conv => lhs; simp) ?_ | refine Nx.go ?_ | refine st_blke' (by decide) ?_ | refine st_seq ?_ | refine st_blk ?_ | refine st_cond (by conv => lhs; simp) (by conv => lhs; simp [dInp, h1, getD_map_lt, dCol, ← hc, hwi, wa, wb, heN, gn, gn2, lEN]) ?_ ?_ ?_ | refine st_lexit ?_) | (intro h_; try simp only [reduceCtorEq, y1, y2, y3, y4, y5, y6, y7, y8, y9, z1, z2, z3, z4, z5, z6, z7, ne_eq] at h_))
    all_goals try (first | contradiction | exact True.intro | omega | rfl | (simp [AV.fits, AV.cells, AV.one, DV.fits, DV.cells, DV.one, DV.conf, confL, DV.conf1]; done) | (simp [AV.fits, AV.cells, AV.one, DV.fits, DV.cells, DV.one, DV.conf, confL, DV.conf1, *] <;> omega))
    refine st_e (st_call (by simp [solidOk]) (by conv => lhs; simp) hent (by exact ⟨.inl rfl, .inl rfl, trivial⟩) (pendOk_refl _) ?_)
    repeat' (first | (with_reducible first | refine st_reg ?_ | refine sN (by conv => lhs; simp) ?_ | refine rN ?_ ?_ | refine rO ?_ ?_ | refine rF ?_ ?_ | refine sG (by conv => lhs; simp) ?_ | refine gF ?_ | refine gS rfl (by conv => lhs; simp) ?_ ?_ | (refine st_gef0 ?_ ?_; focus (conv => (lhs; simp)); done) | refine sE (by conv => lhs; simp) ?_ | refine Nx.go ?_ | refine st_blke' (by decide) ?_ | refine st_seq ?_ | refine st_blk ?_ | refine st_cond (by conv => lhs; simp) (by conv => lhs; simp) ?_ ?_ ?_ | refine st_lexit ?_) | (intro h_; try simp only [reduceCtorEq, y1, y2, y3, y4, y5, y6, y7, y8, y9, z1, z2, z3, z4, z5, z6, z7, ne_eq] at h_))
    all_goals try (first | contradiction | exact True.intro | omega | rfl | (simp [AV.fits, AV.cells, AV.one, DV.fits, DV.cells, DV.one, DV.conf, confL, DV.conf1]; done) | (simp [AV.fits, AV.cells, AV.one, DV.fits, DV.cells, DV.one, DV.conf, confL, DV.conf1, *] <;> omega))
    refine fin _ _ _ rfl ?_
    simp only [optK, optD, hda, hT]; rw [if_pos h1]
  | 3, _ =>
    by_cases h2 : j < y.length
    rotate_left
    · skip
      repeat' (first | (with_reducible first | refine st_reg ?_ | refine sN (by conv => lhs; simp [dInp, h2]) ?_ | refine rN ?_ ?_ | refine rO ?_ ?_ | refine rF ?_ ?_ | refine sG (by conv => lhs; simp [dInp, h2]) ?_ | refine gF ?_ | refine gS rfl (by conv => lhs; simp [dInp, h2]) ?_ ?_ | (refine st_gef0 ?_ ?_; focus (conv => (lhs; simp [dInp, h2])); done) | refine sE (by conv => lhs; simp) ?_ | refine Nx.go ?_ | refine st_blke' (by decide) ?_ | refine st_seq ?_ | refine st_blk ?_ | refine st_cond (by conv => lhs; simp) (by conv => lhs; simp [dInp, h2]) ?_ ?_ ?_ | refine st_lexit ?_) | (intro h_; try simp only [reduceCtorEq, y1, y2, y3, y4, y5, y6, y7, y8, y9, z1, z2, z3, z4, z5, z6, z7, ne_eq] at h_))
      all_goals try (first | contradiction | exact True.intro | omega | rfl | (simp [AV.fits, AV.cells, AV.one, DV.fits, DV.cells, DV.one, DV.conf, confL, DV.conf1]; done) | (simp [AV.fits, AV.cells, AV.one, DV.fits, DV.cells, DV.one, DV.conf, confL, DV.conf1, *] <;> omega))
      exact fin _ _ _ rfl (by simp [optK, optI, h2])
    obtain ⟨t, ht⟩ : ∃ t, t = y[j] := ⟨_, rfl⟩
    have htb2 := hy t (ht ▸ List.getElem_mem h2)
    obtain ⟨tn, htn⟩ : ∃ tn : Nat, t = tn := ⟨t.toNat, by omega⟩
    have hgy : y.getD j 0 = t := by rw [ht]; simp [List.getD_eq_getElem?_getD, h2]
    have htl : tn < x.insert.length := by omega
    obtain ⟨p, hp⟩ : ∃ p, p = x.insert[tn] := ⟨_, rfl⟩
    have hpb := hx.ins p (hp ▸ List.getElem_mem htl)
    have hra : x.insert.getD (y.getD j 0).toNat 0 = p := by
      rw [hgy, htn, Int.toNat_natCast, hp]
      simp [List.getD_eq_getElem?_getD, htl]
    rw [htn] at ht
    obtain ⟨a, ha⟩ : ∃ a, a = i * W := ⟨_, rfl⟩
    have hab := hmul i hi
    rw [← ha] at hab
    have wa : IntKind.i64.wrap ((i : Int) * (W : Int)) = (a : Int) := by
      rw [show (i : Int) * (W : Int) = (a : Int) by rw [ha, hcast]]; exact wrap64 (by omega) (by omega)
    obtain ⟨b, hb⟩ : ∃ b, b = a + j := ⟨_, rfl⟩
    have wb : IntKind.i64.wrap ((a : Int) + (j : Int)) = (b : Int) := by rw [wrap64 (by omega) (by omega)]; omega
    obtain ⟨e, he⟩ : ∃ e, e = b + 1 := ⟨_, rfl⟩
    have we : IntKind.i64.wrap ((b : Int) + 1) = (e : Int) := by rw [wrap64 (by omega) (by omega)]; omega
    have heN : e < N := by omega
    have gn := hget heN
    have gn2 : EN[e]'(by omega) = .d (.int .i64 (ts.getD e 0)) := (List.getElem?_eq_some_iff.1 gn).2
    have hT : tabT ts W i (j + 1) = ts.getD e 0 := by unfold tabT; congr 1; omega
    have gb := hgb heN
    have hent := ent p e heN (by omega)
    obtain ⟨v, hv⟩ : ∃ v, v = ts.getD e 0 := ⟨_, rfl⟩
    rw [← hv] at gn gn2 hT gb hent
    clear ha hb he
    repeat' (first | (with_reducible first | refine st_reg ?_ | refine sN (by conv => lhs; simp [dInp, h2, getD_map_lt, dI, ← ht, htl, ← hp, wa, wb, we, heN, gn, gn2, lEN]) ?_ | refine rN ?_ ?_ | refine rO ?_ ?_ | refine rF ?_ ?_ | refine sG (by conv => lhs; simp [dInp, h2, getD_map_lt, dI, ← ht, htl, ← hp, wa, wb, we, heN, gn, gn2, lEN]) ?_ | refine gF ?_ | refine gS rfl (by conv => lhs; simp [dInp, h2, getD_map_lt, dI, ← ht, htl, ← hp, wa, wb, we, heN, gn, gn2, lEN]) ?_ ?_ | (refine st_gef0 ?_ ?_; focus (conv => (lhs; simp [dInp, h2, getD_map_lt, dI, ← ht, htl, ← hp, wa, wb, we, heN, gn, gn2, lEN])); done) | refine sE (by conv => lhs; simp) ?_ | refine Nx.go ?_ | refine st_blke' (by decide) ?_ | refine st_seq ?_ | refine st_blk ?_ | refine st_cond (by conv => lhs; simp) (by conv => lhs; simp [dInp, h2, getD_map_lt, dI, ← ht, htl, ← hp, wa, wb, we, heN, gn, gn2, lEN]) ?_ ?_ ?_ | refine st_lexit ?_) | (intro h_; try simp only [reduceCtorEq, y1, y2, y3, y4, y5, y6, y7, y8, y9, z1, z2, z3, z4, z5, z6, z7, ne_eq] at h_))
    all_goals try (first | contradiction | exact True.intro | omega | rfl | (simp [AV.fits, AV.cells, AV.one, DV.fits, DV.cells, DV.one, DV.conf, confL, DV.conf1]; done) | (simp [AV.fits, AV.cells, AV.one, DV.fits, DV.cells, DV.one, DV.conf, confL, DV.conf1, *] <;> omega))
    refine st_e (st_call (by simp [solidOk]) (by conv => lhs; simp) hent (by exact ⟨.inl rfl, .inl rfl, trivial⟩) (pendOk_refl _) ?_)
    repeat' (first | (with_reducible first | refine st_reg ?_ | refine sN (by conv => lhs; simp) ?_ | refine rN ?_ ?_ | refine rO ?_ ?_ | refine rF ?_ ?_ | refine sG (by conv => lhs; simp) ?_ | refine gF ?_ | refine gS rfl (by conv => lhs; simp) ?_ ?_ | (refine st_gef0 ?_ ?_; focus (conv => (lhs; simp)); done) | refine sE (by conv => lhs; simp) ?_ | refine Nx.go ?_ | refine st_blke' (by decide) ?_ | refine st_seq ?_ | refine st_blk ?_ | refine st_cond (by conv => lhs; simp) (by conv => lhs; simp) ?_ ?_ ?_ | refine st_lexit ?_) | (intro h_; try simp only [reduceCtorEq, y1, y2, y3, y4, y5, y6, y7, y8, y9, z1, z2, z3, z4, z5, z6, z7, ne_eq] at h_))
    all_goals try (first | contradiction | exact True.intro | omega | rfl | (simp [AV.fits, AV.cells, AV.one, DV.fits, DV.cells, DV.one, DV.conf, confL, DV.conf1]; done) | (simp [AV.fits, AV.cells, AV.one, DV.fits, DV.cells, DV.one, DV.conf, confL, DV.conf1, *] <;> omega))
    refine fin _ _ _ rfl ?_
    simp only [optK, optI, hra, hT]; rw [if_pos h2]
  | 4, _ =>
    have hsw := swappable73 x i (by omega) hi
    cases hs : swapB x i with
    | false =>
      rw [hs] at hsw
      repeat' (first | (with_reducible first | refine st_reg ?_ | refine sN (by conv => lhs; simp [dInp]) ?_ | refine rN ?_ ?_ | refine rO ?_ ?_ | refine rF ?_ ?_ | refine sG (by conv => lhs; simp [dInp]) ?_ | refine gF ?_ | refine gS rfl (by conv => lhs; simp [dInp]) ?_ ?_ | (refine st_gef0 ?_ ?_; focus (conv => (lhs; simp [dInp])); done) | refine sE (by conv => lhs; simp) ?_ | refine Nx.go ?_ | refine st_blke' (by decide) ?_ | refine st_seq ?_ | refine st_blk ?_ | refine st_cond (by conv => lhs; simp) (by conv => lhs; simp [dInp]) ?_ ?_ ?_ | refine st_lexit ?_) | (intro h_; try simp only [reduceCtorEq, y1, y2, y3, y4, y5, y6, y7, y8, y9, z1, z2, z3, z4, z5, z6, z7, ne_eq] at h_))
      all_goals try (first | contradiction | exact True.intro | omega | rfl | (simp [AV.fits, AV.cells, AV.one, DV.fits, DV.cells, DV.one, DV.conf, confL, DV.conf1]; done) | (simp [AV.fits, AV.cells, AV.one, DV.fits, DV.cells, DV.one, DV.conf, confL, DV.conf1, *] <;> omega))
      refine st_get (by conv => lhs; simp) (st_call (by simp [solidOk]) (by conv => lhs; simp) hsw (by exact ⟨.inl rfl, .inl rfl, trivial⟩) (pendOk_refl _) ?_)
      repeat' (first | (with_reducible first | refine st_reg ?_ | refine sN (by conv => lhs; simp [dInp]) ?_ | refine rN ?_ ?_ | refine rO ?_ ?_ | refine rF ?_ ?_ | refine sG (by conv => lhs; simp [dInp]) ?_ | refine gF ?_ | refine gS rfl (by conv => lhs; simp [dInp]) ?_ ?_ | (refine st_gef0 ?_ ?_; focus (conv => (lhs; simp [dInp])); done) | refine sE (by conv => lhs; simp) ?_ | refine Nx.go ?_ | refine st_blke' (by decide) ?_ | refine st_seq ?_ | refine st_blk ?_ | refine st_cond (by conv => lhs; simp) (by conv => lhs; simp [dInp]) ?_ ?_ ?_ | refine st_lexit ?_) | (intro h_; try simp only [reduceCtorEq, y1, y2, y3, y4, y5, y6, y7, y8, y9, z1, z2, z3, z4, z5, z6, z7, ne_eq] at h_))
      all_goals try (first | contradiction | exact True.intro | omega | rfl | (simp [AV.fits, AV.cells, AV.one, DV.fits, DV.cells, DV.one, DV.conf, confL, DV.conf1]; done) | (simp [AV.fits, AV.cells, AV.one, DV.fits, DV.cells, DV.one, DV.conf, confL, DV.conf1, *] <;> omega))
      exact fin _ _ _ rfl (by simp [optK, optS, hs])
    | true =>
    rw [hs] at hsw
    have hsl := swapB_lt hs
    have h1 : i < x.cols.length := by omega
    by_cases h2 : j + 1 < y.length
    rotate_left
    · have hwj : IntKind.i64.wrap ((j : Int) + 1) = (j : Int) + 1 := wrap64 (by omega) (by omega)
      have h2' : ¬ ((j : Int) + 1 < y.length) := by omega
      repeat' (first | (with_reducible first | refine st_reg ?_ | refine sN (by conv => lhs; simp [dInp]) ?_ | refine rN ?_ ?_ | refine rO ?_ ?_ | refine rF ?_ ?_ | refine sG (by conv => lhs; simp [dInp]) ?_ | refine gF ?_ | refine gS rfl (by conv => lhs; simp [dInp]) ?_ ?_ | (refine st_gef0 ?_ ?_; focus (conv => (lhs; simp [dInp])); done) | refine sE (by conv => lhs; simp) ?_ | refine Nx.go ?_ | refine st_blke' (by decide) ?_ | refine st_seq ?_ | refine st_blk ?_ | refine st_cond (by conv => lhs; simp) (by conv => lhs; simp [dInp]) ?_ ?_ ?_ | refine st_lexit ?_) | (intro h_; try simp only [reduceCtorEq, y1, y2, y3, y4, y5, y6, y7, y8, y9, z1, z2, z3, z4, z5, z6, z7, ne_eq] at h_))
      all_goals try (first | contradiction | exact True.intro | omega | rfl | (simp [AV.fits, AV.cells, AV.one, DV.fits, DV.cells, DV.one, DV.conf, confL, DV.conf1]; done) | (simp [AV.fits, AV.cells, AV.one, DV.fits, DV.cells, DV.one, DV.conf, confL, DV.conf1, *] <;> omega))
      refine st_get (by conv => lhs; simp) (st_call (by simp [solidOk]) (by conv => lhs; simp) hsw (by exact ⟨.inl rfl, .inl rfl, trivial⟩) (pendOk_refl _) ?_)
      repeat' (first | (with_reducible first | refine st_reg ?_ | refine sN (by conv => lhs; simp [dInp, hwj, h2']) ?_ | refine rN ?_ ?_ | refine rO ?_ ?_ | refine rF ?_ ?_ | refine sG (by conv => lhs; simp [dInp, hwj, h2']) ?_ | refine gF ?_ | refine gS rfl (by conv => lhs; simp [dInp, hwj, h2']) ?_ ?_ | (refine st_gef0 ?_ ?_; focus (conv => (lhs; simp [dInp, hwj, h2'])); done) | refine sE (by conv => lhs; simp) ?_ | refine Nx.go ?_ | refine st_blke' (by decide) ?_ | refine st_seq ?_ | refine st_blk ?_ | refine st_cond (by conv => lhs; simp) (by conv => lhs; simp [dInp, hwj, h2']) ?_ ?_ ?_ | refine st_lexit ?_) | (intro h_; try simp only [reduceCtorEq, y1, y2, y3, y4, y5, y6, y7, y8, y9, z1, z2, z3, z4, z5, z6, z7, ne_eq] at h_))
      all_goals try (first | contradiction | exact True.intro | omega | rfl | (simp [AV.fits, AV.cells, AV.one, DV.fits, DV.cells, DV.one, DV.conf, confL, DV.conf1]; done) | (simp [AV.fits, AV.cells, AV.one, DV.fits, DV.cells, DV.one, DV.conf, confL, DV.conf1, *] <;> omega))
      exact fin _ _ _ rfl (by simp [optK, optS, h2])
    have h3 : j < y.length := by omega
    obtain ⟨i1, hi1⟩ : ∃ i1, i1 = i + 1 := ⟨_, rfl⟩
    obtain ⟨j1, hj1⟩ : ∃ j1, j1 = j + 1 := ⟨_, rfl⟩
    have hwi1 : IntKind.i64.wrap ((i : Int) + 1) = (i1 : Int) := by rw [wrap64 (by omega) (by omega)]; omega
    have hwj1 : IntKind.i64.wrap ((j : Int) + 1) = (j1 : Int) := by rw [wrap64 (by omega) (by omega)]; omega
    have h1s : i1 < x.cols.length := by omega
    have h2s : j1 < y.length := by omega
    obtain ⟨t, ht⟩ : ∃ t, t = y[j] := ⟨_, rfl⟩
    obtain ⟨u, hu⟩ : ∃ u, u = y[j1] := ⟨_, rfl⟩
    have hgt : y.getD j 0 = t := by rw [ht]; simp [List.getD_eq_getElem?_getD, h3]
    have hgu : y.getD (j + 1) 0 = u := by rw [← hj1, hu]; simp [List.getD_eq_getElem?_getD, h2s]
    obtain ⟨c, hc⟩ : ∃ c, c = x.cols[i] := ⟨_, rfl⟩
    obtain ⟨c1, hc1⟩ : ∃ c1, c1 = x.cols[i1] := ⟨_, rfl⟩
    have hk0 : kindAt x i = c.kind := by simp [kindAt, List.getElem?_eq_getElem h1, ← hc]
    have hk1 : kindAt x (i + 1) = c1.kind := by rw [← hi1]; simp [kindAt, List.getElem?_eq_getElem h1s, ← hc1]
    by_cases h4 : t = c1.kind
    rotate_left
    · have h4b : (t == c1.kind) = false := by simpa using h4
      repeat' (first | (with_reducible first | refine st_reg ?_ | refine sN (by conv => lhs; simp [dInp]) ?_ | refine rN ?_ ?_ | refine rO ?_ ?_ | refine rF ?_ ?_ | refine sG (by conv => lhs; simp [dInp]) ?_ | refine gF ?_ | refine gS rfl (by conv => lhs; simp [dInp]) ?_ ?_ | (refine st_gef0 ?_ ?_; focus (conv => (lhs; simp [dInp])); done) | refine sE (by conv => lhs; simp) ?_ | refine Nx.go ?_ | refine st_blke' (by decide) ?_ | refine st_seq ?_ | refine st_blk ?_ | refine st_cond (by conv => lhs; simp) (by conv => lhs; simp [dInp]) ?_ ?_ ?_ | refine st_lexit ?_) | (intro h_; try simp only [reduceCtorEq, y1, y2, y3, y4, y5, y6, y7, y8, y9, z1, z2, z3, z4, z5, z6, z7, ne_eq] at h_))
      all_goals try (first | contradiction | exact True.intro | omega | rfl | (simp [AV.fits, AV.cells, AV.one, DV.fits, DV.cells, DV.one, DV.conf, confL, DV.conf1]; done) | (simp [AV.fits, AV.cells, AV.one, DV.fits, DV.cells, DV.one, DV.conf, confL, DV.conf1, *] <;> omega))
      refine st_get (by conv => lhs; simp) (st_call (by simp [solidOk]) (by conv => lhs; simp) hsw (by exact ⟨.inl rfl, .inl rfl, trivial⟩) (pendOk_refl _) ?_)
      repeat' (first | (with_reducible first | refine st_reg ?_ | refine sN (by conv => lhs; simp [dInp, hwj1, hwi1, h2s, h3, h1s, h1, getD_map_lt, dI, dCol, ← ht, ← hu, ← hc, ← hc1, h4b]) ?_ | refine rN ?_ ?_ | refine rO ?_ ?_ | refine rF ?_ ?_ | refine sG (by conv => lhs; simp [dInp, hwj1, hwi1, h2s, h3, h1s, h1, getD_map_lt, dI, dCol, ← ht, ← hu, ← hc, ← hc1, h4b]) ?_ | refine gF ?_ | refine gS rfl (by conv => lhs; simp [dInp, hwj1, hwi1, h2s, h3, h1s, h1, getD_map_lt, dI, dCol, ← ht, ← hu, ← hc, ← hc1, h4b]) ?_ ?_ | (refine st_gef0 ?_ ?_; focus (conv => (lhs; simp [dInp, hwj1, hwi1, h2s, h3, h1s, h1, getD_map_lt, dI, dCol, ← ht, ← hu, ← hc, ← hc1, h4b])); done) | refine sE (by conv => lhs; simp) ?_ | refine Nx.go ?_ | refine st_blke' (by decide) ?_ | refine st_seq ?_ | refine st_blk ?_ | refine st_cond (by conv => lhs; simp) (by conv => lhs; simp [dInp, hwj1, hwi1, h2s, h3, h1s, h1, getD_map_lt, dI, dCol, ← ht, ← hu, ← hc, ← hc1, h4b]) ?_ ?_ ?_ | refine st_lexit ?_) | (intro h_; try simp only [reduceCtorEq, y1, y2, y3, y4, y5, y6, y7, y8, y9, z1, z2, z3, z4, z5, z6, z7, ne_eq] at h_))
      all_goals try (first | contradiction | exact True.intro | omega | rfl | (simp [AV.fits, AV.cells, AV.one, DV.fits, DV.cells, DV.one, DV.conf, confL, DV.conf1]; done) | (simp [AV.fits, AV.cells, AV.one, DV.fits, DV.cells, DV.one, DV.conf, confL, DV.conf1, *] <;> omega))
      refine fin _ _ _ rfl ?_
      simp only [optK, optS, hgt, hk1]; rw [if_neg (fun h => h4 h.2.2.1)]
    have h4b : (t == c1.kind) = true := by simpa using h4
    by_cases h5 : u = c.kind
    rotate_left
    · have h5b : (u == c.kind) = false := by simpa using h5
      repeat' (first | (with_reducible first | refine st_reg ?_ | refine sN (by conv => lhs; simp [dInp]) ?_ | refine rN ?_ ?_ | refine rO ?_ ?_ | refine rF ?_ ?_ | refine sG (by conv => lhs; simp [dInp]) ?_ | refine gF ?_ | refine gS rfl (by conv => lhs; simp [dInp]) ?_ ?_ | (refine st_gef0 ?_ ?_; focus (conv => (lhs; simp [dInp])); done) | refine sE (by conv => lhs; simp) ?_ | refine Nx.go ?_ | refine st_blke' (by decide) ?_ | refine st_seq ?_ | refine st_blk ?_ | refine st_cond (by conv => lhs; simp) (by conv => lhs; simp [dInp]) ?_ ?_ ?_ | refine st_lexit ?_) | (intro h_; try simp only [reduceCtorEq, y1, y2, y3, y4, y5, y6, y7, y8, y9, z1, z2, z3, z4, z5, z6, z7, ne_eq] at h_))
      all_goals try (first | contradiction | exact True.intro | omega | rfl | (simp [AV.fits, AV.cells, AV.one, DV.fits, DV.cells, DV.one, DV.conf, confL, DV.conf1]; done) | (simp [AV.fits, AV.cells, AV.one, DV.fits, DV.cells, DV.one, DV.conf, confL, DV.conf1, *] <;> omega))
      refine st_get (by conv => lhs; simp) (st_call (by simp [solidOk]) (by conv => lhs; simp) hsw (by exact ⟨.inl rfl, .inl rfl, trivial⟩) (pendOk_refl _) ?_)
      repeat' (first | (with_reducible first | refine st_reg ?_ | refine sN (by conv => lhs; simp [dInp, hwj1, hwi1, h2s, h3, h1s, h1, getD_map_lt, dI, dCol, ← ht, ← hu, ← hc, ← hc1, h4b, h5b]) ?_ | refine rN ?_ ?_ | refine rO ?_ ?_ | refine rF ?_ ?_ | refine sG (by conv => lhs; simp [dInp, hwj1, hwi1, h2s, h3, h1s, h1, getD_map_lt, dI, dCol, ← ht, ← hu, ← hc, ← hc1, h4b, h5b]) ?_ | refine gF ?_ | refine gS rfl (by conv => lhs; simp [dInp, hwj1, hwi1, h2s, h3, h1s, h1, getD_map_lt, dI, dCol, ← ht, ← hu, ← hc, ← hc1, h4b, h5b]) ?_ ?_ | (refine st_gef0 ?_ ?_; focus (conv => (lhs; simp [dInp, hwj1, hwi1, h2s, h3, h1s, h1, getD_map_lt, dI, dCol, ← ht, ← hu, ← hc, ← hc1, h4b, h5b])); done) | refine sE (by conv => lhs; simp) ?_ | refine Nx.go ?_ | refine st_blke' (by decide) ?_ | refine st_seq ?_ | refine st_blk ?_ | refine st_cond (by conv => lhs; simp) (by conv => lhs; simp [dInp, hwj1, hwi1, h2s, h3, h1s, h1, getD_map_lt, dI, dCol, ← ht, ← hu, ← hc, ← hc1, h4b, h5b]) ?_ ?_ ?_ | refine st_lexit ?_) | (intro h_; try simp only [reduceCtorEq, y1, y2, y3, y4, y5, y6, y7, y8, y9, z1, z2, z3, z4, z5, z6, z7, ne_eq] at h_))
      all_goals try (first | contradiction | exact True.intro | omega | rfl | (simp [AV.fits, AV.cells, AV.one, DV.fits, DV.cells, DV.one, DV.conf, confL, DV.conf1]; done) | (simp [AV.fits, AV.cells, AV.one, DV.fits, DV.cells, DV.one, DV.conf, confL, DV.conf1, *] <;> omega))
      refine fin _ _ _ rfl ?_
      simp only [optK, optS, hgu, hk0]; rw [if_neg (fun h => h5 h.2.2.2)]
    have h5b : (u == c.kind) = true := by simpa using h5
    obtain ⟨a, ha⟩ : ∃ a, a = (i + 2) * W := ⟨_, rfl⟩
    have hab := hmul (i + 2) (by omega)
    rw [← ha] at hab
    have wi2 : IntKind.i64.wrap ((i : Int) + 2) = (i : Int) + 2 := wrap64 (by omega) (by omega)
    have wa : IntKind.i64.wrap (((i : Int) + 2) * (W : Int)) = (a : Int) := by
      rw [show ((i : Int) + 2) * (W : Int) = (a : Int) by rw [ha, hcast]; rfl]; exact wrap64 (by omega) (by omega)
    obtain ⟨b, hb⟩ : ∃ b, b = a + j := ⟨_, rfl⟩
    have wb : IntKind.i64.wrap ((a : Int) + (j : Int)) = (b : Int) := by rw [wrap64 (by omega) (by omega)]; omega
    obtain ⟨e, he⟩ : ∃ e, e = b + 2 := ⟨_, rfl⟩
    have we : IntKind.i64.wrap ((b : Int) + 2) = (e : Int) := by rw [wrap64 (by omega) (by omega)]; omega
    have heN : e < N := by omega
    have gn := hget heN
    have gn2 : EN[e]'(by omega) = .d (.int .i64 (ts.getD e 0)) := (List.getElem?_eq_some_iff.1 gn).2
    have hT : tabT ts W (i + 2) (j + 2) = ts.getD e 0 := by unfold tabT; congr 1; omega
    have gb := hgb heN
    have hsx := hx.swap
    have hent := ent x.swap e heN (by omega)
    obtain ⟨v, hv⟩ : ∃ v, v = ts.getD e 0 := ⟨_, rfl⟩
    rw [← hv] at gn gn2 hT gb hent
    have hfin : min (x.swap + v) 1099511627776 = optK x y (tabT ts W) i j 4 := by
      simp only [optK, optS, hgt, hgu, hk0, hk1, hT]; rw [if_pos ⟨hs, h2, h4, h5⟩]
    clear ha hb he hj1 hi1
    repeat' (first | (with_reducible first | refine st_reg ?_ | refine sN (by conv => lhs; simp [dInp]) ?_ | refine rN ?_ ?_ | refine rO ?_ ?_ | refine rF ?_ ?_ | refine sG (by conv => lhs; simp [dInp]) ?_ | refine gF ?_ | refine gS rfl (by conv => lhs; simp [dInp]) ?_ ?_ | (refine st_gef0 ?_ ?_; focus (conv => (lhs; simp [dInp])); done) | refine sE (by conv => lhs; simp) ?_ | refine Nx.go ?_ | refine st_blke' (by decide) ?_ | refine st_seq ?_ | refine st_blk ?_ | refine st_cond (by conv => lhs; simp) (by conv => lhs; simp [dInp]) ?_ ?_ ?_ | refine st_lexit ?_) | (intro h_; try simp only [reduceCtorEq, y1, y2, y3, y4, y5, y6, y7, y8, y9, z1, z2, z3, z4, z5, z6, z7, ne_eq] at h_))
    all_goals try (first | contradiction | exact True.intro | omega | rfl | (simp [AV.fits, AV.cells, AV.one, DV.fits, DV.cells, DV.one, DV.conf, confL, DV.conf1]; done) | (simp [AV.fits, AV.cells, AV.one, DV.fits, DV.cells, DV.one, DV.conf, confL, DV.conf1, *] <;> omega))
    refine st_get (by conv => lhs; simp) (st_call (by simp [solidOk]) (by conv => lhs; simp) hsw (by exact ⟨.inl rfl, .inl rfl, trivial⟩) (pendOk_refl _) ?_)
    repeat' (first | (with_reducible first | refine st_reg ?_ | refine sN (by conv => lhs; simp [dInp, hwj1, hwi1, h2s, h3, h1s, h1, getD_map_lt, dI, dCol, ← ht, ← hu, ← hc, ← hc1, h4b, h5b, wi2, wa, wb, we, heN, gn, gn2, lEN]) ?_ | refine rN ?_ ?_ | refine rO ?_ ?_ | refine rF ?_ ?_ | refine sG (by conv => lhs; simp [dInp, hwj1, hwi1, h2s, h3, h1s, h1, getD_map_lt, dI, dCol, ← ht, ← hu, ← hc, ← hc1, h4b, h5b, wi2, wa, wb, we, heN, gn, gn2, lEN]) ?_ | refine gF ?_ | refine gS rfl (by conv => lhs; simp [dInp, hwj1, hwi1, h2s, h3, h1s, h1, getD_map_lt, dI, dCol, ← ht, ← hu, ← hc, ← hc1, h4b, h5b, wi2, wa, wb, we, heN, gn, gn2, lEN]) ?_ ?_ | (refine st_gef0 ?_ ?_; focus (conv => (lhs; simp [dInp, hwj1, hwi1, h2s, h3, h1s, h1, getD_map_lt, dI, dCol, ← ht, ← hu, ← hc, ← hc1, h4b, h5b, wi2, wa, wb, we, heN, gn, gn2, lEN])); done) | refine sE (by conv => lhs; simp) ?_ | refine Nx.go ?_ | refine st_blke' (by decide) ?_ | refine st_seq ?_ | refine st_blk ?_ | refine st_cond (by conv => lhs; simp) (by conv => lhs; simp [dInp, hwj1, hwi1, h2s, h3, h1s, h1, getD_map_lt, dI, dCol, ← ht, ← hu, ← hc, ← hc1, h4b, h5b, wi2, wa, wb, we, heN, gn, gn2, lEN]) ?_ ?_ ?_ | refine st_lexit ?_) | (intro h_; try simp only [reduceCtorEq, y1, y2, y3, y4, y5, y6, y7, y8, y9, z1, z2, z3, z4, z5, z6, z7, ne_eq] at h_))
    all_goals try (first | contradiction | exact True.intro | omega | rfl | (simp [AV.fits, AV.cells, AV.one, DV.fits, DV.cells, DV.one, DV.conf, confL, DV.conf1]; done) | (simp [AV.fits, AV.cells, AV.one, DV.fits, DV.cells, DV.one, DV.conf, confL, DV.conf1, *] <;> omega))
    refine st_e (st_call (by simp [solidOk]) (by conv => lhs; simp) hent (by exact ⟨.inl rfl, .inl rfl, trivial⟩) (pendOk_refl _) ?_)
    repeat' (first | (with_reducible first | refine st_reg ?_ | refine sN (by conv => lhs; simp) ?_ | refine rN ?_ ?_ | refine rO ?_ ?_ | refine rF ?_ ?_ | refine sG (by conv => lhs; simp) ?_ | refine gF ?_ | refine gS rfl (by conv => lhs; simp) ?_ ?_ | (refine st_gef0 ?_ ?_; focus (conv => (lhs; simp)); done) | refine sE (by conv => lhs; simp) ?_ | refine Nx.go ?_ | refine st_blke' (by decide) ?_ | refine st_seq ?_ | refine st_blk ?_ | refine st_cond (by conv => lhs; simp) (by conv => lhs; simp) ?_ ?_ ?_ | refine st_lexit ?_) | (intro h_; try simp only [reduceCtorEq, y1, y2, y3, y4, y5, y6, y7, y8, y9, z1, z2, z3, z4, z5, z6, z7, ne_eq] at h_))
    all_goals try (first | contradiction | exact True.intro | omega | rfl | (simp [AV.fits, AV.cells, AV.one, DV.fits, DV.cells, DV.one, DV.conf, confL, DV.conf1]; done) | (simp [AV.fits, AV.cells, AV.one, DV.fits, DV.cells, DV.one, DV.conf, confL, DV.conf1, *] <;> omega))
    exact fin _ _ _ rfl hfin
end Go.Vm.L
