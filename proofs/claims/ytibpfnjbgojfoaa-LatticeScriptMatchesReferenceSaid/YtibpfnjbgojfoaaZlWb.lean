/- Lattice: the reference's scripts; the law of scripts. -/
import Derived.Test.YtibpfnjbgojfoaaZlW
import Derived.Test.YtibpfnjbgojfoaaZlX
set_option linter.all false
set_option maxHeartbeats 8000000
namespace Go.Vm.L
open Go Go.Vm
attribute [local simp] q_and q_loc q_var q_k q_sob_undef q_strip_undef q_sob_d q_strip_d q_sob_nils q_strip_nils q_sob_ptr q_strip_ptr q_sob_hs q_strip_hs q_sob_mp q_strip_mp q_sob_it q_strip_it q_sob_fp q_strip_fp q_sob_clo q_strip_clo q_sob_ifc q_strip_ifc q_sob_agg q_strip_agg q_sob_tup q_strip_tup q_sob_when q_strip_when q_argsOb0 q_argsOb1 q_mov q_pick q_pick000 q_pick001 q_pick010 q_pick011 q_pick100 q_pick101 q_pick110 q_pick111 q_bin q_eqs q_not q_neg q_conv q_fieldAddr q_load q_extract q_len q_nilCheck q_mkIface q_alloc q_box q_build q_lit q_mkFunc q_mkMap q_mkSlice q_slice q_idx q_lookup q_field q_minmax q_i_add q_i_sub q_i_mul q_i_quo q_i_rem q_i_eql q_i_neq q_i_lss q_i_leq q_i_gtr q_i_geq q_i_and q_i_or q_i_xor q_i_shl q_i_shr q_b_eql q_s_eql q_b_neq q_s_neq q_s_add q_eqsd q_notd q_negd q_convd q_fap q_faf q_ldf q_ldp q_ldps q_exd q_len0 q_len0n q_len0h q_len1 q_len2 q_lenp q_lkp q_lkf q_lkps q_ncp q_ncf q_mkI q_mkF q_mkS q_ixd q_ixh q_slvs q_slvh q_slvl q_mm1 q_mm2 q_mx2 q_fl q_flw q_bo q_bow q_add0 q_addf q_addo q_so0 q_so1 q_mk_mov q_mk_bin q_mk_eqs q_mk_not q_mk_neg q_mk_conv q_mk_fieldAddr q_mk_load q_mk_idx q_mk_lookup q_mk_len q_mk_pick q_mk_field q_mk_slice q_mk_build q_mk_minmax q_mk_extract q_mk_nilCheck q_mk_lit q_mk_box q_mk_alloc q_pd0 q_pdo0 q_pdb q_pdob q_pdv q_pdov q_pda q_pdoa q_pad q_paod q_paa q_paoa q_pdT q_pdoT q_obz q_obs q_eqk q_eqL0 q_eqL1 q_eq1i q_fitd

theorem Script21 (x : Inp) (l : Lat) (path : List Int) (hx : x.cols.length < 1000) (hl : WS l) (hp : path.length < 1000) :
    Fn prog 21 [.d (dInp x), .d (dLat l), .d (.vs (path.map dI))] [] (fun r H' => r = .tup [.d (.vs ((scriptL x l path).1.map dOp)), .d (.int .i64 (scriptL x l path).2)] ∧ H' = []) := by
  have hn1 := hl.n1
  have hn2 := hl.n2
  have han := hl.an
  refine fn_of e21 hm (by rfl) (vs := [.d (dInp x), .d (dLat l), .d (.vs (path.map dI)), .undef, .undef, .undef, .undef, .undef, .undef, .undef, .undef, .undef, .undef, .undef, .undef]) rfl ?_
  unfold c21
  repeat' (first | (with_reducible first | refine st_reg ?_ | refine sN (by conv => lhs; simp [litV, litE, litOb, toDL, AV.toD, AV.norm, List.replicate, fillC, fillOb, AV.mkAgg, AV.allD, AV.cells, DV.cells, dLat, dInp]) ?_ | refine rN ?_ ?_ | refine rO ?_ ?_ | refine rF ?_ ?_ | refine sG (by conv => lhs; simp [litV, litE, litOb, toDL, AV.toD, AV.norm, List.replicate, fillC, fillOb, AV.mkAgg, AV.allD, AV.cells, DV.cells, dLat, dInp]) ?_ | refine gF ?_ | refine gS rfl (by conv => lhs; simp [litV, litE, litOb, toDL, AV.toD, AV.norm, List.replicate, fillC, fillOb, AV.mkAgg, AV.allD, AV.cells, DV.cells, dLat, dInp]) ?_ ?_ | (refine st_gef0 ?_ ?_; focus (conv => (lhs; simp [litV, litE, litOb, toDL, AV.toD, AV.norm, List.replicate, fillC, fillOb, AV.mkAgg, AV.allD, AV.cells, DV.cells, dLat, dInp])); done) | refine sE (by conv => lhs; simp) ?_ | refine Nx.go ?_ | refine st_blke' (by decide) ?_ | refine st_seq ?_ | refine st_blk ?_ | refine st_cond (by conv => lhs; simp) (by conv => lhs; simp [litV, litE, litOb, toDL, AV.toD, AV.norm, List.replicate, fillC, fillOb, AV.mkAgg, AV.allD, AV.cells, DV.cells, dLat, dInp]) ?_ ?_ ?_ | refine st_lexit ?_) | (intro h_; try simp only [reduceCtorEq, y1, y2, y3, y4, y5, y6, y7, y8, y9, z1, z2, z3, z4, z5, z6, z7, ne_eq] at h_))
  all_goals try (first | contradiction | exact True.intro | omega | rfl | (simp [AV.fits, AV.cells, AV.one, DV.fits, DV.cells, DV.one, DV.conf, confL, DV.conf1]; done) | (simp [AV.fits, AV.cells, AV.one, DV.fits, DV.cells, DV.one, DV.conf, confL, DV.conf1, *] <;> omega))
  refine st_e (stA_call (R := fun r H' => r = dPath (pathL l path) ∧ H' = []) (Hc := []) [] (by simp [solidOk]) (by conv => lhs; simp) (Path40 l path hl hp) (by exact ⟨.inl rfl, .inl rfl, trivial⟩) trivial List.nodup_nil ?_)
  rintro _ _ H1 ⟨rfl, rfl⟩ hc
  refine ⟨trivial, ?_⟩
  have g0 : H1.ob 0 = some (.arr 3 [.d (dInp x)]) := hc.ob' (by simp) rfl
  have g1 : H1.ob 1 = some (.arr 3 [.d (dLat l)]) := hc.ob' (by simp) rfl
  clear hc
  cases hpc : pathC l path 0 0 with
  | none =>
    have hto : pathTo l path 0 [] = none := by
      have := pathC_to l path 0 0 []
      rw [hpc] at this
      cases h : pathTo l path 0 [] with
      | none => rfl
      | some z => rw [h] at this; cases this
    have hp0 : pathL l path = (0, 0, false) := by simp [pathL, hpc]
    have hs : scriptL x l path = ([], 1) := by simp [scriptL, hto]
    rw [hp0]
    repeat' (first | (with_reducible first | refine st_reg ?_ | refine sN (by conv => lhs; simp [litV, litE, litOb, toDL, AV.toD, AV.norm, List.replicate, fillC, fillOb, AV.mkAgg, AV.allD, AV.cells, DV.cells, dPath, AV.ren, renL]) ?_ | refine rN ?_ ?_ | refine rO ?_ ?_ | refine rF ?_ ?_ | refine sG (by conv => lhs; simp [litV, litE, litOb, toDL, AV.toD, AV.norm, List.replicate, fillC, fillOb, AV.mkAgg, AV.allD, AV.cells, DV.cells, dPath, AV.ren, renL]) ?_ | refine gF ?_ | refine gS rfl (by conv => lhs; simp [litV, litE, litOb, toDL, AV.toD, AV.norm, List.replicate, fillC, fillOb, AV.mkAgg, AV.allD, AV.cells, DV.cells, dPath, AV.ren, renL]) ?_ ?_ | (refine st_gef0 ?_ ?_; focus (conv => (lhs; simp [litV, litE, litOb, toDL, AV.toD, AV.norm, List.replicate, fillC, fillOb, AV.mkAgg, AV.allD, AV.cells, DV.cells, dPath, AV.ren, renL])); done) | refine sE (by conv => lhs; simp) ?_ | refine Nx.go ?_ | refine st_blke' (by decide) ?_ | refine st_seq ?_ | refine st_blk ?_ | refine st_cond (by conv => lhs; simp) (by conv => lhs; simp [litV, litE, litOb, toDL, AV.toD, AV.norm, List.replicate, fillC, fillOb, AV.mkAgg, AV.allD, AV.cells, DV.cells, dPath, AV.ren, renL]) ?_ ?_ ?_ | refine st_lexit ?_) | (intro h_; try simp only [reduceCtorEq, y1, y2, y3, y4, y5, y6, y7, y8, y9, z1, z2, z3, z4, z5, z6, z7, ne_eq] at h_))
    all_goals try (first | contradiction | exact True.intro | omega | rfl | (simp [AV.fits, AV.cells, AV.one, DV.fits, DV.cells, DV.one, DV.conf, confL, DV.conf1]; done) | (simp [AV.fits, AV.cells, AV.one, DV.fits, DV.cells, DV.one, DV.conf, confL, DV.conf1, *] <;> omega))
    rw [hs]
    exact atEnd_own2 (v := 5) (u := 6) rfl (OwnS.nils _ 2) rfl (by omega)
  | some z =>
  obtain ⟨st, c⟩ := z
  obtain ⟨ops, hto⟩ : ∃ ops, pathTo l path 0 [] = some (st, ops) := by
    have := pathC_to l path 0 0 []
    rw [hpc] at this
    cases h : pathTo l path 0 [] with
    | none => rw [h] at this; cases this
    | some z => rw [h] at this; simp at this; exact ⟨z.2, by rw [this]⟩
  by_cases hinf : l.final.getD st.toNat 0 ≥ 1099511627776
  · have hp0 : pathL l path = (0, 0, false) := by simp only [pathL, hpc]; rw [if_pos hinf]
    have hs : scriptL x l path = ([], 1) := by simp only [scriptL, hto]; rw [if_pos hinf]
    rw [hp0]
    repeat' (first | (with_reducible first | refine st_reg ?_ | refine sN (by conv => lhs; simp [litV, litE, litOb, toDL, AV.toD, AV.norm, List.replicate, fillC, fillOb, AV.mkAgg, AV.allD, AV.cells, DV.cells, dPath, AV.ren, renL]) ?_ | refine rN ?_ ?_ | refine rO ?_ ?_ | refine rF ?_ ?_ | refine sG (by conv => lhs; simp [litV, litE, litOb, toDL, AV.toD, AV.norm, List.replicate, fillC, fillOb, AV.mkAgg, AV.allD, AV.cells, DV.cells, dPath, AV.ren, renL]) ?_ | refine gF ?_ | refine gS rfl (by conv => lhs; simp [litV, litE, litOb, toDL, AV.toD, AV.norm, List.replicate, fillC, fillOb, AV.mkAgg, AV.allD, AV.cells, DV.cells, dPath, AV.ren, renL]) ?_ ?_ | (refine st_gef0 ?_ ?_; focus (conv => (lhs; simp [litV, litE, litOb, toDL, AV.toD, AV.norm, List.replicate, fillC, fillOb, AV.mkAgg, AV.allD, AV.cells, DV.cells, dPath, AV.ren, renL])); done) | refine sE (by conv => lhs; simp) ?_ | refine Nx.go ?_ | refine st_blke' (by decide) ?_ | refine st_seq ?_ | refine st_blk ?_ | refine st_cond (by conv => lhs; simp) (by conv => lhs; simp [litV, litE, litOb, toDL, AV.toD, AV.norm, List.replicate, fillC, fillOb, AV.mkAgg, AV.allD, AV.cells, DV.cells, dPath, AV.ren, renL]) ?_ ?_ ?_ | refine st_lexit ?_) | (intro h_; try simp only [reduceCtorEq, y1, y2, y3, y4, y5, y6, y7, y8, y9, z1, z2, z3, z4, z5, z6, z7, ne_eq] at h_))
    all_goals try (first | contradiction | exact True.intro | omega | rfl | (simp [AV.fits, AV.cells, AV.one, DV.fits, DV.cells, DV.one, DV.conf, confL, DV.conf1]; done) | (simp [AV.fits, AV.cells, AV.one, DV.fits, DV.cells, DV.one, DV.conf, confL, DV.conf1, *] <;> omega))
    rw [hs]
    exact atEnd_own2 (v := 5) (u := 6) rfl (OwnS.nils _ 2) rfl (by omega)
  obtain ⟨c', hp0⟩ : ∃ c', pathL l path = (st, c', true) := ⟨_, by simp only [pathL, hpc]; rw [if_neg hinf]⟩
  have hscr : scriptL x l path = (ops ++ delOps (x.cols.length - st.toNat / 2), 0) := by
    simp only [scriptL, hto]; rw [if_neg hinf]
  have hbd0 := pathTo_bd hl _ _ _ _ _ (Int.le_refl 0) (by omega) hto
  rw [hp0]
  have l1 := ob_lt g1
  repeat' (first | (with_reducible first | refine st_reg ?_ | refine sN (by conv => lhs; simp [litV, litE, litOb, toDL, AV.toD, AV.norm, List.replicate, fillC, fillOb, AV.mkAgg, AV.allD, AV.cells, DV.cells, dPath, AV.ren, renL]) ?_ | refine rN ?_ ?_ | refine rO ?_ ?_ | refine rF ?_ ?_ | refine sG (by conv => lhs; simp [litV, litE, litOb, toDL, AV.toD, AV.norm, List.replicate, fillC, fillOb, AV.mkAgg, AV.allD, AV.cells, DV.cells, dPath, AV.ren, renL]) ?_ | refine gF ?_ | refine gS rfl (by conv => lhs; simp [litV, litE, litOb, toDL, AV.toD, AV.norm, List.replicate, fillC, fillOb, AV.mkAgg, AV.allD, AV.cells, DV.cells, dPath, AV.ren, renL]) ?_ ?_ | (refine st_gef0 ?_ ?_; focus (conv => (lhs; simp [litV, litE, litOb, toDL, AV.toD, AV.norm, List.replicate, fillC, fillOb, AV.mkAgg, AV.allD, AV.cells, DV.cells, dPath, AV.ren, renL])); done) | refine sE (by conv => lhs; simp) ?_ | refine Nx.go ?_ | refine st_blke' (by decide) ?_ | refine st_seq ?_ | refine st_blk ?_ | refine st_cond (by conv => lhs; simp) (by conv => lhs; simp [litV, litE, litOb, toDL, AV.toD, AV.norm, List.replicate, fillC, fillOb, AV.mkAgg, AV.allD, AV.cells, DV.cells, dPath, AV.ren, renL]) ?_ ?_ ?_ | refine st_lexit ?_) | (intro h_; try simp only [reduceCtorEq, y1, y2, y3, y4, y5, y6, y7, y8, y9, z1, z2, z3, z4, z5, z6, z7, ne_eq] at h_))
  all_goals try (first | contradiction | exact True.intro | omega | rfl | (simp [AV.fits, AV.cells, AV.one, DV.fits, DV.cells, DV.one, DV.conf, confL, DV.conf1]; done) | (simp [AV.fits, AV.cells, AV.one, DV.fits, DV.cells, DV.one, DV.conf, confL, DV.conf1, *] <;> omega))
  refine wpC_loop (fun s => ∃ (k : Nat) (H : Heap) (s1 : Int) (outL : List Op) (v9 v11 v13 : AV), k ≤ path.length ∧ pathTo l (path.take k) 0 [] = some (s1, outL) ∧ s = ⟨[.d (dInp x), .d (dLat l), .d (.vs (path.map dI)), .ptr 0 0 0, .ptr 1 0 0, .undef, .undef, .d (.int .i64 st), .undef, v9, .d (.int .i64 k), v11, .undef, v13, .undef], H⟩ ∧
      H.ob 0 = some (.arr 3 [.d (dInp x)]) ∧ H.ob 1 = some (.arr 3 [.d (dLat l)]) ∧ OwnS H v9 2 (outL.map dOp) ∧ ∀ id, v9.rid = some id → 2 ≤ id)
    (fun s => path.length - (s.int 10).toNat)
    (s' := ⟨[.d (dInp x), .d (dLat l), .d (.vs (path.map dI)), .ptr 0 0 0, .ptr 1 0 0, .undef, .undef, .d (.int .i64 st), .undef, .nils, .d (.int .i64 (0 : Nat)), .undef, .undef, .undef, .undef], H1⟩)
    (Gh.weak (by simp [weak])) ⟨0, _, 0, [], .nils, _, _, by omega, rfl, rfl, g0, g1, OwnS.nils _ _, by simp [AV.rid]⟩ ?_
  clear g0 g1 l1
  rintro _ ⟨k, H, s1, outL, v9, v11, v13, hk, hpt, rfl, h0, h1, ho, hr9⟩
  obtain ⟨e1, e2, e3, e4⟩ := ho.sob
  have hbd := pathTo_bd hl _ _ _ _ _ (Int.le_refl 0) (by omega) hpt
  have hbl : outL.length ≤ 1000000 := by have := hbd.2.2; simp at this; omega
  have hw : IntKind.i64.wrap ((k : Int) + 1) = ((k + 1 : Nat) : Int) := by rw [wrap64 (by omega) (by omega)]; simp
  have h0' := h0
  simp only [dInp] at h0'
  have h1' := h1
  simp only [dLat] at h1'
  have l1 := ob_lt h1
  rcases Nat.lt_or_ge k path.length with hlt | hlt
  · obtain ⟨i, hi⟩ : ∃ i, i = path[k] := ⟨_, rfl⟩
    have hsplit : path = path.take k ++ (i :: path.drop (k + 1)) := by
      rw [hi, ← List.drop_eq_getElem_cons hlt, List.take_append_drop]
    have hall : pathTo l path 0 [] = pathTo l (i :: path.drop (k + 1)) s1 outL := by
      rw [hsplit, pathTo_append, ← hsplit, hpt]; rfl
    have hnx : pathTo l (path.take (k + 1)) 0 [] = pathTo l [i] s1 outL := by
      rw [List.take_add_one, List.getElem?_eq_getElem hlt, pathTo_append, hpt, hi]; rfl
    clear hsplit
    rw [hto] at hall
    have hneg : ¬ i < 0 := fun h => by simp [pathTo, h] at hall
    obtain ⟨q, hq⟩ : ∃ q : Nat, i = q := ⟨i.toNat, by omega⟩
    have hnq : ¬ (q : Int) < 0 := by omega
    rw [hq] at hi hall hnx
    have hql : q < l.arcs.length := by
      rcases Nat.lt_or_ge q l.arcs.length with h | h
      · exact h
      · simp [pathTo, List.getElem?_eq_none h] at hall
    have haq : l.arcs[q]? = some l.arcs[q] := List.getElem?_eq_getElem hql
    obtain ⟨a, hae⟩ : ∃ a, a = l.arcs[q] := ⟨_, rfl⟩
    rw [← hae] at haq
    have hfr : a.frm = s1 := by
      by_cases h : a.frm = s1
      · exact h
      · simp [pathTo, haq, h] at hall
    have hnx2 : pathTo l (path.take (k + 1)) 0 [] = some (a.to, outL ++ a.ops) := by
      rw [hnx]; simp [pathTo, haq, hfr]
    have hops := (hl.arc a (List.mem_of_getElem? haq)).2.2
    repeat' (first | (with_reducible first | refine st_reg ?_ | refine sN (by conv => lhs; simp [litV, litE, litOb, toDL, AV.toD, AV.norm, List.replicate, fillC, fillOb, AV.mkAgg, AV.allD, AV.cells, DV.cells, getD_map_lt, hlt, dI, ← hi, h1', hql, dArc, ← hae]) ?_ | refine rN ?_ ?_ | refine rO ?_ ?_ | refine rF ?_ ?_ | refine sG (by conv => lhs; simp [litV, litE, litOb, toDL, AV.toD, AV.norm, List.replicate, fillC, fillOb, AV.mkAgg, AV.allD, AV.cells, DV.cells, getD_map_lt, hlt, dI, ← hi, h1', hql, dArc, ← hae]) ?_ | refine gF ?_ | refine gS rfl (by conv => lhs; simp [litV, litE, litOb, toDL, AV.toD, AV.norm, List.replicate, fillC, fillOb, AV.mkAgg, AV.allD, AV.cells, DV.cells, getD_map_lt, hlt, dI, ← hi, h1', hql, dArc, ← hae]) ?_ ?_ | (refine st_gef0 ?_ ?_; focus (conv => (lhs; simp [litV, litE, litOb, toDL, AV.toD, AV.norm, List.replicate, fillC, fillOb, AV.mkAgg, AV.allD, AV.cells, DV.cells, getD_map_lt, hlt, dI, ← hi, h1', hql, dArc, ← hae])); done) | refine sE (by conv => lhs; simp) ?_ | refine Nx.go ?_ | refine st_blke' (by decide) ?_ | refine st_seq ?_ | refine st_blk ?_ | refine st_cond (by conv => lhs; simp) (by conv => lhs; simp [litV, litE, litOb, toDL, AV.toD, AV.norm, List.replicate, fillC, fillOb, AV.mkAgg, AV.allD, AV.cells, DV.cells, getD_map_lt, hlt, dI, ← hi, h1', hql, dArc, ← hae]) ?_ ?_ ?_ | refine st_lexit ?_) | (intro h_; try simp only [reduceCtorEq, y1, y2, y3, y4, y5, y6, y7, y8, y9, z1, z2, z3, z4, z5, z6, z7, ne_eq] at h_))
    all_goals try (first | contradiction | exact True.intro | omega | rfl | (simp [AV.fits, AV.cells, AV.one, DV.fits, DV.cells, DV.one, DV.conf, confL, DV.conf1]; done) | (simp [AV.fits, AV.cells, AV.one, DV.fits, DV.cells, DV.one, DV.conf, confL, DV.conf1, *] <;> omega))
    refine st_e (stA_appO2 (v := v9) (olds := outL.map dOp) (ds := a.ops.map dOp) (by simp [e1, e2]) (by conv => lhs; simp [e1, e2]) (by simp) ho (by simp [DV.fits, DV.cells, DV.one]) (by simp; omega) (fun v' H3 qo qr ql qf => ?_))
    obtain ⟨r1, r2, _, _⟩ := qo.sob
    repeat' (first | (with_reducible first | refine st_reg ?_ | refine sN (by conv => lhs; simp [r1, r2, hw]) ?_ | refine rN ?_ ?_ | refine rO ?_ ?_ | refine rF ?_ ?_ | refine sG (by conv => lhs; simp [r1, r2, hw]) ?_ | refine gF ?_ | refine gS rfl (by conv => lhs; simp [r1, r2, hw]) ?_ ?_ | (refine st_gef0 ?_ ?_; focus (conv => (lhs; simp [r1, r2, hw])); done) | refine sE (by conv => lhs; simp) ?_ | refine Nx.go ?_ | refine st_blke' (by decide) ?_ | refine st_seq ?_ | refine st_blk ?_ | refine st_cond (by conv => lhs; simp) (by conv => lhs; simp [r1, r2, hw]) ?_ ?_ ?_ | refine st_lexit ?_) | (intro h_; try simp only [reduceCtorEq, y1, y2, y3, y4, y5, y6, y7, y8, y9, z1, z2, z3, z4, z5, z6, z7, ne_eq] at h_))
    all_goals try (first | contradiction | exact True.intro | omega | rfl | (simp [AV.fits, AV.cells, AV.one, DV.fits, DV.cells, DV.one, DV.conf, confL, DV.conf1]; done) | (simp [AV.fits, AV.cells, AV.one, DV.fits, DV.cells, DV.one, DV.conf, confL, DV.conf1, *] <;> omega))
    refine st_lnormw (ys := [.d (dInp x), .d (dLat l), .d (.vs (path.map dI)), .ptr 0 0 0, .ptr 1 0 0, .undef, .undef, .d (.int .i64 st), .undef, v', .d (.int .i64 (k + 1 : Nat)), .undef, .undef, .undef, .undef]) (by simp [weak])
      ⟨k + 1, H3, a.to, outL ++ a.ops, v', _, _, by omega, hnx2, rfl, by rw [qf 0 (by omega) (fun e => by have := hr9 0 e; omega)]; exact h0, by rw [qf 1 (by omega) (fun e => by have := hr9 1 e; omega)]; exact h1, by simpa using qo, fun id hid => by rw [qr] at hid; cases hid; omega⟩ (by simp [St.int]; omega)
  · have hkn : k = path.length := by omega
    subst hkn
    rw [List.take_length, hto] at hpt
    simp only [Option.some.injEq, Prod.mk.injEq] at hpt
    obtain ⟨rfl, rfl⟩ := hpt
    obtain ⟨q, hq⟩ : ∃ q : Nat, st = q := ⟨st.toNat, by omega⟩
    rw [hq, Int.toNat_natCast] at hscr
    rw [hq]
    have hqn : q < l.final.length := by omega
    obtain ⟨qh, hqh⟩ : ∃ qh, qh = q / 2 := ⟨_, rfl⟩
    rw [← hqh] at hscr
    have htd : (q : Int).tdiv 2 = (qh : Int) := by rw [Int.tdiv_eq_ediv_of_nonneg (by omega)]; omega
    have hwd : IntKind.i64.wrap (qh : Int) = (qh : Int) := wrap64 (by omega) (by omega)
    have hqb : qh < 1000 := by omega
    repeat' (first | (with_reducible first | refine st_reg ?_ | refine sN (by conv => lhs; simp [litV, litE, litOb, toDL, AV.toD, AV.norm, List.replicate, fillC, fillOb, AV.mkAgg, AV.allD, AV.cells, DV.cells, hlt, htd, hwd]) ?_ | refine rN ?_ ?_ | refine rO ?_ ?_ | refine rF ?_ ?_ | refine sG (by conv => lhs; simp [litV, litE, litOb, toDL, AV.toD, AV.norm, List.replicate, fillC, fillOb, AV.mkAgg, AV.allD, AV.cells, DV.cells, hlt, htd, hwd]) ?_ | refine gF ?_ | refine gS rfl (by conv => lhs; simp [litV, litE, litOb, toDL, AV.toD, AV.norm, List.replicate, fillC, fillOb, AV.mkAgg, AV.allD, AV.cells, DV.cells, hlt, htd, hwd]) ?_ ?_ | (refine st_gef0 ?_ ?_; focus (conv => (lhs; simp [litV, litE, litOb, toDL, AV.toD, AV.norm, List.replicate, fillC, fillOb, AV.mkAgg, AV.allD, AV.cells, DV.cells, hlt, htd, hwd])); done) | refine sE (by conv => lhs; simp) ?_ | refine Nx.go ?_ | refine st_blke' (by decide) ?_ | refine st_seq ?_ | refine st_blk ?_ | refine st_cond (by conv => lhs; simp) (by conv => lhs; simp [litV, litE, litOb, toDL, AV.toD, AV.norm, List.replicate, fillC, fillOb, AV.mkAgg, AV.allD, AV.cells, DV.cells, hlt, htd, hwd]) ?_ ?_ ?_ | refine st_lexit ?_) | (intro h_; try simp only [reduceCtorEq, y1, y2, y3, y4, y5, y6, y7, y8, y9, z1, z2, z3, z4, z5, z6, z7, ne_eq] at h_))
    all_goals try (first | contradiction | exact True.intro | omega | rfl | (simp [AV.fits, AV.cells, AV.one, DV.fits, DV.cells, DV.one, DV.conf, confL, DV.conf1]; done) | (simp [AV.fits, AV.cells, AV.one, DV.fits, DV.cells, DV.one, DV.conf, confL, DV.conf1, *] <;> omega))
    refine wpC_loop (fun s => ∃ (p : Nat) (H : Heap) (v9 v14 : AV), (qh ≤ p ∧ (p = qh ∨ p ≤ x.cols.length)) ∧ s = ⟨[.d (dInp x), .d (dLat l), .d (.vs (path.map dI)), .ptr 0 0 0, .ptr 1 0 0, .undef, .undef, .undef, .undef, v9, .undef, .d (.int .i64 p), .undef, .undef, v14], H⟩ ∧
        H.ob 0 = some (.arr 3 [.d (dInp x)]) ∧ OwnS H v9 2 ((ops ++ delOps (p - qh)).map dOp) ∧ ∀ id, v9.rid = some id → 1 ≤ id)
      (fun s => 100000 - (s.int 11).toNat)
      (s' := ⟨[.d (dInp x), .d (dLat l), .d (.vs (path.map dI)), .ptr 0 0 0, .ptr 1 0 0, .undef, .undef, .undef, .undef, v9, .undef, .d (.int .i64 qh), .undef, .undef, .undef], H⟩)
      (Gh.weak (by simp [weak])) ⟨qh, H, _, _, by omega, rfl, h0, by simpa [delOps] using ho, fun id h => by have := hr9 id h; omega⟩ ?_
    clear ho hr9 e1 e2 e3 e4 h0 h1 h0' h1' l1 hw
    rintro _ ⟨p, H1, v9', v14, ⟨hj1, hj2⟩, rfl, h0, ho, hr9⟩
    obtain ⟨e1, e2, e3, e4⟩ := ho.sob
    have h0' := h0
    simp only [dInp] at h0'
    have l0 := ob_lt h0
    have hpb : p < 2000 := by omega
    have hwj : IntKind.i64.wrap ((p : Int) + 1) = ((p + 1 : Nat) : Int) := by rw [wrap64 (by omega) (by omega)]; omega
    rcases Nat.lt_or_ge p x.cols.length with hlj | hlj
    · skip
      repeat' (first | (with_reducible first | refine st_reg ?_ | refine sN (by conv => lhs; simp [litV, litE, litOb, toDL, AV.toD, AV.norm, List.replicate, fillC, fillOb, AV.mkAgg, AV.allD, AV.cells, DV.cells, h0', hlj, e1, e2]) ?_ | refine rN ?_ ?_ | refine rO ?_ ?_ | refine rF ?_ ?_ | refine sG (by conv => lhs; simp [litV, litE, litOb, toDL, AV.toD, AV.norm, List.replicate, fillC, fillOb, AV.mkAgg, AV.allD, AV.cells, DV.cells, h0', hlj, e1, e2]) ?_ | refine gF ?_ | refine gS rfl (by conv => lhs; simp [litV, litE, litOb, toDL, AV.toD, AV.norm, List.replicate, fillC, fillOb, AV.mkAgg, AV.allD, AV.cells, DV.cells, h0', hlj, e1, e2]) ?_ ?_ | (refine st_gef0 ?_ ?_; focus (conv => (lhs; simp [litV, litE, litOb, toDL, AV.toD, AV.norm, List.replicate, fillC, fillOb, AV.mkAgg, AV.allD, AV.cells, DV.cells, h0', hlj, e1, e2])); done) | refine sE (by conv => lhs; simp) ?_ | refine Nx.go ?_ | refine st_blke' (by decide) ?_ | refine st_seq ?_ | refine st_blk ?_ | refine st_cond (by conv => lhs; simp) (by conv => lhs; simp [litV, litE, litOb, toDL, AV.toD, AV.norm, List.replicate, fillC, fillOb, AV.mkAgg, AV.allD, AV.cells, DV.cells, h0', hlj, e1, e2]) ?_ ?_ ?_ | refine st_lexit ?_) | (intro h_; try simp only [reduceCtorEq, y1, y2, y3, y4, y5, y6, y7, y8, y9, z1, z2, z3, z4, z5, z6, z7, ne_eq] at h_))
      all_goals try (first | contradiction | exact True.intro | omega | rfl | (simp [AV.fits, AV.cells, AV.one, DV.fits, DV.cells, DV.one, DV.conf, confL, DV.conf1]; done) | (simp [AV.fits, AV.cells, AV.one, DV.fits, DV.cells, DV.one, DV.conf, confL, DV.conf1, *] <;> omega))
      refine st_e (stA_appO2 (v := v9') (olds := (ops ++ delOps (p - qh)).map dOp) (ds := [.agg [.int .i64 2, .int .i64 0]]) (by simp [e1, e2]) (by conv => lhs; simp [e1, e2]) (by simp) ho (by simp [DV.fits, DV.cells, DV.one]) (by simp [delOps]; omega) (fun v' H3 qo qr ql qf => ?_))
      obtain ⟨r1, r2, _, _⟩ := qo.sob
      repeat' (first | (with_reducible first | refine st_reg ?_ | refine sN (by conv => lhs; simp [r1, r2, hwj]) ?_ | refine rN ?_ ?_ | refine rO ?_ ?_ | refine rF ?_ ?_ | refine sG (by conv => lhs; simp [r1, r2, hwj]) ?_ | refine gF ?_ | refine gS rfl (by conv => lhs; simp [r1, r2, hwj]) ?_ ?_ | (refine st_gef0 ?_ ?_; focus (conv => (lhs; simp [r1, r2, hwj])); done) | refine sE (by conv => lhs; simp) ?_ | refine Nx.go ?_ | refine st_blke' (by decide) ?_ | refine st_seq ?_ | refine st_blk ?_ | refine st_cond (by conv => lhs; simp) (by conv => lhs; simp [r1, r2, hwj]) ?_ ?_ ?_ | refine st_lexit ?_) | (intro h_; try simp only [reduceCtorEq, y1, y2, y3, y4, y5, y6, y7, y8, y9, z1, z2, z3, z4, z5, z6, z7, ne_eq] at h_))
      all_goals try (first | contradiction | exact True.intro | omega | rfl | (simp [AV.fits, AV.cells, AV.one, DV.fits, DV.cells, DV.one, DV.conf, confL, DV.conf1]; done) | (simp [AV.fits, AV.cells, AV.one, DV.fits, DV.cells, DV.one, DV.conf, confL, DV.conf1, *] <;> omega))
      refine st_lnormw (ys := [.d (dInp x), .d (dLat l), .d (.vs (path.map dI)), .ptr 0 0 0, .ptr 1 0 0, .undef, .undef, .undef, .undef, v', .undef, .d (.int .i64 (p + 1 : Nat)), .undef, .undef, .undef]) (by simp [weak])
        ⟨p + 1, H3, v', _, by omega, rfl, by rw [qf 0 (by omega) (fun e => by have := hr9 0 e; omega)]; exact h0, ?_, fun id hid => by rw [qr] at hid; cases hid; omega⟩ (by simp [St.int]; omega)
      have e : (ops ++ delOps (p + 1 - qh)).map dOp = (ops ++ delOps (p - qh)).map dOp ++ [.agg [.int .i64 2, .int .i64 0]] := by
        rw [show p + 1 - qh = (p - qh) + 1 by omega]; simp [delOps, List.replicate_succ', delOp]
      rw [e]; exact qo
    · have hj2 : delOps (p - qh) = delOps (x.cols.length - qh) := by congr 1; omega
      repeat' (first | (with_reducible first | refine st_reg ?_ | refine sN (by conv => lhs; simp [litV, litE, litOb, toDL, AV.toD, AV.norm, List.replicate, fillC, fillOb, AV.mkAgg, AV.allD, AV.cells, DV.cells, h0', hlj, e1, e2]) ?_ | refine rN ?_ ?_ | refine rO ?_ ?_ | refine rF ?_ ?_ | refine sG (by conv => lhs; simp [litV, litE, litOb, toDL, AV.toD, AV.norm, List.replicate, fillC, fillOb, AV.mkAgg, AV.allD, AV.cells, DV.cells, h0', hlj, e1, e2]) ?_ | refine gF ?_ | refine gS rfl (by conv => lhs; simp [litV, litE, litOb, toDL, AV.toD, AV.norm, List.replicate, fillC, fillOb, AV.mkAgg, AV.allD, AV.cells, DV.cells, h0', hlj, e1, e2]) ?_ ?_ | (refine st_gef0 ?_ ?_; focus (conv => (lhs; simp [litV, litE, litOb, toDL, AV.toD, AV.norm, List.replicate, fillC, fillOb, AV.mkAgg, AV.allD, AV.cells, DV.cells, h0', hlj, e1, e2])); done) | refine sE (by conv => lhs; simp) ?_ | refine Nx.go ?_ | refine st_blke' (by decide) ?_ | refine st_seq ?_ | refine st_blk ?_ | refine st_cond (by conv => lhs; simp) (by conv => lhs; simp [litV, litE, litOb, toDL, AV.toD, AV.norm, List.replicate, fillC, fillOb, AV.mkAgg, AV.allD, AV.cells, DV.cells, h0', hlj, e1, e2]) ?_ ?_ ?_ | refine st_lexit ?_) | (intro h_; try simp only [reduceCtorEq, y1, y2, y3, y4, y5, y6, y7, y8, y9, z1, z2, z3, z4, z5, z6, z7, ne_eq] at h_))
      all_goals try (first | contradiction | exact True.intro | omega | rfl | (simp [AV.fits, AV.cells, AV.one, DV.fits, DV.cells, DV.one, DV.conf, confL, DV.conf1]; done) | (simp [AV.fits, AV.cells, AV.one, DV.fits, DV.cells, DV.one, DV.conf, confL, DV.conf1, *] <;> omega))
      rw [hscr]
      exact atEnd_own2 (v := 5) (u := 6) rfl (by rw [← hj2]; exact ho) rfl (by omega)

theorem law6 (x : Inp) (path : List Int) : Pure prog 6 [.d (dInp x), .d (.vs (path.map dI))] (.d (.bool true)) := by
  refine fn_of e6 hm (by rfl) (vs := [.d (dInp x), .d (.vs (path.map dI)), .undef, .undef, .undef, .undef, .undef, .undef, .undef, .undef, .undef]) rfl ?_
  unfold c6
  repeat' (first | (with_reducible first | refine st_reg ?_ | refine sN (by conv => lhs; simp [dInp]) ?_ | refine rN ?_ ?_ | refine rO ?_ ?_ | refine rF ?_ ?_ | refine sG (by conv => lhs; simp [dInp]) ?_ | refine gF ?_ | refine gS rfl (by conv => lhs; simp [dInp]) ?_ ?_ | (refine st_gef0 ?_ ?_; focus (conv => (lhs; simp [dInp])); done) | refine sE (by conv => lhs; simp) ?_ | refine Nx.go ?_ | refine st_blke' (by decide) ?_ | refine st_seq ?_ | refine st_blk ?_ | refine st_cond (by conv => lhs; simp) (by conv => lhs; simp [dInp]) ?_ ?_ ?_ | refine st_lexit ?_) | (intro h_; try simp only [reduceCtorEq, y1, y2, y3, y4, y5, y6, y7, y8, y9, z1, z2, z3, z4, z5, z6, z7, ne_eq] at h_))
  all_goals try (first | contradiction | exact True.intro | omega | rfl | (simp [AV.fits, AV.cells, AV.one, DV.fits, DV.cells, DV.one, DV.conf, confL, DV.conf1]; done) | (simp [AV.fits, AV.cells, AV.one, DV.fits, DV.cells, DV.one, DV.conf, confL, DV.conf1, *] <;> omega))
  refine st_e (st_call (xs := []) (ys := []) (by simp [solidOk]) (by simp) awake10 (by simp [argsM, AV.ren]) (pendOk_refl _) ?_)
  repeat' (first | (with_reducible first | refine st_reg ?_ | refine sN (by conv => lhs; simp [dInp]) ?_ | refine rN ?_ ?_ | refine rO ?_ ?_ | refine rF ?_ ?_ | refine sG (by conv => lhs; simp [dInp]) ?_ | refine gF ?_ | refine gS rfl (by conv => lhs; simp [dInp]) ?_ ?_ | (refine st_gef0 ?_ ?_; focus (conv => (lhs; simp [dInp])); done) | refine sE (by conv => lhs; simp) ?_ | refine Nx.go ?_ | refine st_blke' (by decide) ?_ | refine st_seq ?_ | refine st_blk ?_ | refine st_cond (by conv => lhs; simp) (by conv => lhs; simp [dInp]) ?_ ?_ ?_ | refine st_lexit ?_) | (intro h_; try simp only [reduceCtorEq, y1, y2, y3, y4, y5, y6, y7, y8, y9, z1, z2, z3, z4, z5, z6, z7, ne_eq] at h_))
  all_goals try (first | contradiction | exact True.intro | omega | rfl | (simp [AV.fits, AV.cells, AV.one, DV.fits, DV.cells, DV.one, DV.conf, confL, DV.conf1]; done) | (simp [AV.fits, AV.cells, AV.one, DV.fits, DV.cells, DV.one, DV.conf, confL, DV.conf1, *] <;> omega))
  refine st_e (st_call (by simp [solidOk]) (by conv => lhs; simp) (fair11 x 6) (by exact ⟨.inl rfl, .inl rfl, trivial⟩) (pendOk_refl _) ?_)
  rcases hf : fairB x 6 with _ | _
  · skip
    repeat' (first | (with_reducible first | refine st_reg ?_ | refine sN (by conv => lhs; simp [dInp]) ?_ | refine rN ?_ ?_ | refine rO ?_ ?_ | refine rF ?_ ?_ | refine sG (by conv => lhs; simp [dInp]) ?_ | refine gF ?_ | refine gS rfl (by conv => lhs; simp [dInp]) ?_ ?_ | (refine st_gef0 ?_ ?_; focus (conv => (lhs; simp [dInp])); done) | refine sE (by conv => lhs; simp) ?_ | refine Nx.go ?_ | refine st_blke' (by decide) ?_ | refine st_seq ?_ | refine st_blk ?_ | refine st_cond (by conv => lhs; simp) (by conv => lhs; simp [dInp]) ?_ ?_ ?_ | refine st_lexit ?_) | (intro h_; try simp only [reduceCtorEq, y1, y2, y3, y4, y5, y6, y7, y8, y9, z1, z2, z3, z4, z5, z6, z7, ne_eq] at h_))
    all_goals try (first | contradiction | exact True.intro | omega | rfl | (simp [AV.fits, AV.cells, AV.one, DV.fits, DV.cells, DV.one, DV.conf, confL, DV.conf1]; done) | (simp [AV.fits, AV.cells, AV.one, DV.fits, DV.cells, DV.one, DV.conf, confL, DV.conf1, *] <;> omega))
    exact atEnd_pure ⟨trivial, trivial⟩ rfl rfl
  by_cases hp : (20 : Int) < path.length
  · skip
    repeat' (first | (with_reducible first | refine st_reg ?_ | refine sN (by conv => lhs; simp [dInp, hp]) ?_ | refine rN ?_ ?_ | refine rO ?_ ?_ | refine rF ?_ ?_ | refine sG (by conv => lhs; simp [dInp, hp]) ?_ | refine gF ?_ | refine gS rfl (by conv => lhs; simp [dInp, hp]) ?_ ?_ | (refine st_gef0 ?_ ?_; focus (conv => (lhs; simp [dInp, hp])); done) | refine sE (by conv => lhs; simp) ?_ | refine Nx.go ?_ | refine st_blke' (by decide) ?_ | refine st_seq ?_ | refine st_blk ?_ | refine st_cond (by conv => lhs; simp) (by conv => lhs; simp [dInp, hp]) ?_ ?_ ?_ | refine st_lexit ?_) | (intro h_; try simp only [reduceCtorEq, y1, y2, y3, y4, y5, y6, y7, y8, y9, z1, z2, z3, z4, z5, z6, z7, ne_eq] at h_))
    all_goals try (first | contradiction | exact True.intro | omega | rfl | (simp [AV.fits, AV.cells, AV.one, DV.fits, DV.cells, DV.one, DV.conf, confL, DV.conf1]; done) | (simp [AV.fits, AV.cells, AV.one, DV.fits, DV.cells, DV.one, DV.conf, confL, DV.conf1, *] <;> omega))
    exact atEnd_pure ⟨trivial, trivial⟩ rfl rfl
  obtain ⟨hx, hn, ht⟩ := wf_of_fair hf
  have hn : x.cols.length ≤ 8 := by omega
  have hws := ws_ref hx ht hn
  have hsl : (scriptL x (refL x) path).1.length < 1000000 := by
    unfold scriptL
    split
    · simp
    · rename_i s ops hto
      have := (pathTo_bd hws _ _ _ _ _ (Int.le_refl 0) (by have := hws.n1; omega) hto).2.2
      split
      · simp
      · simp [delOps] at this ⊢; omega
  repeat' (first | (with_reducible first | refine st_reg ?_ | refine sN (by conv => lhs; simp [dInp, hp]) ?_ | refine rN ?_ ?_ | refine rO ?_ ?_ | refine rF ?_ ?_ | refine sG (by conv => lhs; simp [dInp, hp]) ?_ | refine gF ?_ | refine gS rfl (by conv => lhs; simp [dInp, hp]) ?_ ?_ | (refine st_gef0 ?_ ?_; focus (conv => (lhs; simp [dInp, hp])); done) | refine sE (by conv => lhs; simp) ?_ | refine Nx.go ?_ | refine st_blke' (by decide) ?_ | refine st_seq ?_ | refine st_blk ?_ | refine st_cond (by conv => lhs; simp) (by conv => lhs; simp [dInp, hp]) ?_ ?_ ?_ | refine st_lexit ?_) | (intro h_; try simp only [reduceCtorEq, y1, y2, y3, y4, y5, y6, y7, y8, y9, z1, z2, z3, z4, z5, z6, z7, ne_eq] at h_))
  all_goals try (first | contradiction | exact True.intro | omega | rfl | (simp [AV.fits, AV.cells, AV.one, DV.fits, DV.cells, DV.one, DV.conf, confL, DV.conf1]; done) | (simp [AV.fits, AV.cells, AV.one, DV.fits, DV.cells, DV.one, DV.conf, confL, DV.conf1, *] <;> omega))
  refine st_e (st_call (by simp [solidOk]) (by conv => lhs; simp) (Build14 x hx hn ht) (by exact ⟨.inl rfl, trivial⟩) (pendOk_refl _) ?_)
  repeat' (first | (with_reducible first | refine st_reg ?_ | refine sN (by conv => lhs; simp [dInp]) ?_ | refine rN ?_ ?_ | refine rO ?_ ?_ | refine rF ?_ ?_ | refine sG (by conv => lhs; simp [dInp]) ?_ | refine gF ?_ | refine gS rfl (by conv => lhs; simp [dInp]) ?_ ?_ | (refine st_gef0 ?_ ?_; focus (conv => (lhs; simp [dInp])); done) | refine sE (by conv => lhs; simp) ?_ | refine Nx.go ?_ | refine st_blke' (by decide) ?_ | refine st_seq ?_ | refine st_blk ?_ | refine st_cond (by conv => lhs; simp) (by conv => lhs; simp [dInp]) ?_ ?_ ?_ | refine st_lexit ?_) | (intro h_; try simp only [reduceCtorEq, y1, y2, y3, y4, y5, y6, y7, y8, y9, z1, z2, z3, z4, z5, z6, z7, ne_eq] at h_))
  all_goals try (first | contradiction | exact True.intro | omega | rfl | (simp [AV.fits, AV.cells, AV.one, DV.fits, DV.cells, DV.one, DV.conf, confL, DV.conf1]; done) | (simp [AV.fits, AV.cells, AV.one, DV.fits, DV.cells, DV.one, DV.conf, confL, DV.conf1, *] <;> omega))
  refine st_e (st_store ⟨by simp, trivial⟩ (by conv => lhs; simp) (by conv => lhs; simp) rfl (by simp) (by first | assumption | simp [AV.fits, DV.fits, DV.cells, DV.one]) updA_whole (by first | assumption | simp [AV.fits, DV.fits, DV.cells, DV.one]) ⟨trivial, ?_⟩); simp only [List.set_cons_zero, List.set_cons_succ]
  repeat' (first | (with_reducible first | refine st_reg ?_ | refine sN (by conv => lhs; simp [dInp]) ?_ | refine rN ?_ ?_ | refine rO ?_ ?_ | refine rF ?_ ?_ | refine sG (by conv => lhs; simp [dInp]) ?_ | refine gF ?_ | refine gS rfl (by conv => lhs; simp [dInp]) ?_ ?_ | (refine st_gef0 ?_ ?_; focus (conv => (lhs; simp [dInp])); done) | refine sE (by conv => lhs; simp) ?_ | refine Nx.go ?_ | refine st_blke' (by decide) ?_ | refine st_seq ?_ | refine st_blk ?_ | refine st_cond (by conv => lhs; simp) (by conv => lhs; simp [dInp]) ?_ ?_ ?_ | refine st_lexit ?_) | (intro h_; try simp only [reduceCtorEq, y1, y2, y3, y4, y5, y6, y7, y8, y9, z1, z2, z3, z4, z5, z6, z7, ne_eq] at h_))
  all_goals try (first | contradiction | exact True.intro | omega | rfl | (simp [AV.fits, AV.cells, AV.one, DV.fits, DV.cells, DV.one, DV.conf, confL, DV.conf1]; done) | (simp [AV.fits, AV.cells, AV.one, DV.fits, DV.cells, DV.one, DV.conf, confL, DV.conf1, *] <;> omega))
  refine st_e (stA_call (Hc := []) [] (by simp [solidOk]) (by conv => lhs; simp) (Script20 x (refL x) path (by omega) hws (by omega)) (by exact ⟨.inl rfl, .inl rfl, .inl rfl, trivial⟩) trivial List.nodup_nil ?_)
  rintro _ _ H1 ⟨rfl, rfl⟩ hc
  refine ⟨trivial, ?_⟩
  have g0 : H1.ob 0 = some (.arr 3 [.d (dInp x)]) := hc.ob' (by simp) rfl
  have g1 : H1.ob 1 = some (.arr 3 [.d (dLat (refL x))]) := hc.ob' (by simp) rfl
  clear hc
  repeat' (first | (with_reducible first | refine st_reg ?_ | refine sN (by conv => lhs; simp [litV, litE, litOb, toDL, AV.toD, AV.norm, List.replicate, fillC, fillOb, AV.mkAgg, AV.allD, AV.cells, DV.cells, AV.ren, renL, g0, g1]) ?_ | refine rN ?_ ?_ | refine rO ?_ ?_ | refine rF ?_ ?_ | refine sG (by conv => lhs; simp [litV, litE, litOb, toDL, AV.toD, AV.norm, List.replicate, fillC, fillOb, AV.mkAgg, AV.allD, AV.cells, DV.cells, AV.ren, renL, g0, g1]) ?_ | refine gF ?_ | refine gS rfl (by conv => lhs; simp [litV, litE, litOb, toDL, AV.toD, AV.norm, List.replicate, fillC, fillOb, AV.mkAgg, AV.allD, AV.cells, DV.cells, AV.ren, renL, g0, g1]) ?_ ?_ | (refine st_gef0 ?_ ?_; focus (conv => (lhs; simp [litV, litE, litOb, toDL, AV.toD, AV.norm, List.replicate, fillC, fillOb, AV.mkAgg, AV.allD, AV.cells, DV.cells, AV.ren, renL, g0, g1])); done) | refine sE (by conv => lhs; simp) ?_ | refine Nx.go ?_ | refine st_blke' (by decide) ?_ | refine st_seq ?_ | refine st_blk ?_ | refine st_cond (by conv => lhs; simp) (by conv => lhs; simp [litV, litE, litOb, toDL, AV.toD, AV.norm, List.replicate, fillC, fillOb, AV.mkAgg, AV.allD, AV.cells, DV.cells, AV.ren, renL, g0, g1]) ?_ ?_ ?_ | refine st_lexit ?_) | (intro h_; try simp only [reduceCtorEq, y1, y2, y3, y4, y5, y6, y7, y8, y9, z1, z2, z3, z4, z5, z6, z7, ne_eq] at h_))
  all_goals try (first | contradiction | exact True.intro | omega | rfl | (simp [AV.fits, AV.cells, AV.one, DV.fits, DV.cells, DV.one, DV.conf, confL, DV.conf1]; done) | (simp [AV.fits, AV.cells, AV.one, DV.fits, DV.cells, DV.one, DV.conf, confL, DV.conf1, *] <;> omega))
  refine st_e (stA_call (Hc := []) [] (by simp [solidOk]) (by conv => lhs; simp) (Script21 x (refL x) path (by omega) hws (by omega)) (by exact ⟨.inl rfl, .inl rfl, .inl rfl, trivial⟩) trivial List.nodup_nil ?_)
  rintro _ _ H2 ⟨rfl, rfl⟩ hc
  refine ⟨trivial, ?_⟩
  repeat' (first | (with_reducible first | refine st_reg ?_ | refine sN (by conv => lhs; simp [litV, litE, litOb, toDL, AV.toD, AV.norm, List.replicate, fillC, fillOb, AV.mkAgg, AV.allD, AV.cells, DV.cells, AV.ren, renL]) ?_ | refine rN ?_ ?_ | refine rO ?_ ?_ | refine rF ?_ ?_ | refine sG (by conv => lhs; simp [litV, litE, litOb, toDL, AV.toD, AV.norm, List.replicate, fillC, fillOb, AV.mkAgg, AV.allD, AV.cells, DV.cells, AV.ren, renL]) ?_ | refine gF ?_ | refine gS rfl (by conv => lhs; simp [litV, litE, litOb, toDL, AV.toD, AV.norm, List.replicate, fillC, fillOb, AV.mkAgg, AV.allD, AV.cells, DV.cells, AV.ren, renL]) ?_ ?_ | (refine st_gef0 ?_ ?_; focus (conv => (lhs; simp [litV, litE, litOb, toDL, AV.toD, AV.norm, List.replicate, fillC, fillOb, AV.mkAgg, AV.allD, AV.cells, DV.cells, AV.ren, renL])); done) | refine sE (by conv => lhs; simp) ?_ | refine Nx.go ?_ | refine st_blke' (by decide) ?_ | refine st_seq ?_ | refine st_blk ?_ | refine st_cond (by conv => lhs; simp) (by conv => lhs; simp [litV, litE, litOb, toDL, AV.toD, AV.norm, List.replicate, fillC, fillOb, AV.mkAgg, AV.allD, AV.cells, DV.cells, AV.ren, renL]) ?_ ?_ ?_ | refine st_lexit ?_) | (intro h_; try simp only [reduceCtorEq, y1, y2, y3, y4, y5, y6, y7, y8, y9, z1, z2, z3, z4, z5, z6, z7, ne_eq] at h_))
  all_goals try (first | contradiction | exact True.intro | omega | rfl | (simp [AV.fits, AV.cells, AV.one, DV.fits, DV.cells, DV.one, DV.conf, confL, DV.conf1]; done) | (simp [AV.fits, AV.cells, AV.one, DV.fits, DV.cells, DV.one, DV.conf, confL, DV.conf1, *] <;> omega))
  refine st_get (by conv => lhs; simp) (st_call (by simp [solidOk]) (by conv => lhs; simp) (SameOps22 (scriptL x (refL x) path).1 (scriptL x (refL x) path).1 (by omega)) (by exact ⟨.inl rfl, .inl rfl, trivial⟩) (pendOk_refl _) ?_)
  repeat' (first | (with_reducible first | refine st_reg ?_ | refine sN (by conv => lhs; simp) ?_ | refine rN ?_ ?_ | refine rO ?_ ?_ | refine rF ?_ ?_ | refine sG (by conv => lhs; simp) ?_ | refine gF ?_ | refine gS rfl (by conv => lhs; simp) ?_ ?_ | (refine st_gef0 ?_ ?_; focus (conv => (lhs; simp)); done) | refine sE (by conv => lhs; simp) ?_ | refine Nx.go ?_ | refine st_blke' (by decide) ?_ | refine st_seq ?_ | refine st_blk ?_ | refine st_cond (by conv => lhs; simp) (by conv => lhs; simp) ?_ ?_ ?_ | refine st_lexit ?_) | (intro h_; try simp only [reduceCtorEq, y1, y2, y3, y4, y5, y6, y7, y8, y9, z1, z2, z3, z4, z5, z6, z7, ne_eq] at h_))
  all_goals try (first | contradiction | exact True.intro | omega | rfl | (simp [AV.fits, AV.cells, AV.one, DV.fits, DV.cells, DV.one, DV.conf, confL, DV.conf1]; done) | (simp [AV.fits, AV.cells, AV.one, DV.fits, DV.cells, DV.one, DV.conf, confL, DV.conf1, *] <;> omega))
  exact atEnd_pure ⟨trivial, trivial⟩ rfl rfl
end Go.Vm.L
