/- Lattice: prices of deletions, swaps, lists of deletions. -/
import Derived.Test.YtibpfnjbgojfoaaZlA
set_option linter.all false
namespace Go.Vm.L
open Go Go.Vm
attribute [local simp] q_and q_loc q_var q_k q_sob_undef q_strip_undef q_sob_d q_strip_d q_sob_nils q_strip_nils q_sob_ptr q_strip_ptr q_sob_hs q_strip_hs q_sob_mp q_strip_mp q_sob_it q_strip_it q_sob_fp q_strip_fp q_sob_clo q_strip_clo q_sob_ifc q_strip_ifc q_sob_agg q_strip_agg q_sob_tup q_strip_tup q_sob_when q_strip_when q_argsOb0 q_argsOb1 q_mov q_pick q_pick000 q_pick001 q_pick010 q_pick011 q_pick100 q_pick101 q_pick110 q_pick111 q_bin q_eqs q_not q_neg q_conv q_fieldAddr q_load q_extract q_len q_nilCheck q_mkIface q_alloc q_box q_build q_lit q_mkFunc q_mkMap q_mkSlice q_slice q_ixa q_idx q_lookup q_field q_minmax q_i_add q_i_sub q_i_mul q_i_quo q_i_rem q_i_eql q_i_neq q_i_lss q_i_leq q_i_gtr q_i_geq q_i_and q_i_or q_i_xor q_i_shl q_i_shr q_b_eql q_s_eql q_b_neq q_s_neq q_s_add q_eqsd q_notd q_negd q_convd q_fap q_faf q_ldf q_ldp q_ldps q_exd q_len0 q_len0n q_len0h q_len1 q_len2 q_lenp q_lkp q_lkf q_lkps q_ncp q_ncf q_mkI q_mkF q_mkS q_ixd q_iaf q_iap q_ixh q_slvs q_slvh q_slvl q_mm1 q_mm2 q_mx2 q_fl q_flw q_bo q_bow q_add0 q_addf q_addo q_so0 q_so1 q_mk_mov q_mk_bin q_mk_eqs q_mk_not q_mk_neg q_mk_conv q_mk_fieldAddr q_mk_load q_mk_ixa q_mk_idx q_mk_lookup q_mk_len q_mk_pick q_mk_field q_mk_slice q_mk_build q_mk_minmax q_mk_extract q_mk_nilCheck q_mk_lit q_mk_box q_mk_alloc q_pd0 q_pdo0 q_pdb q_pdob q_pdv q_pdov q_pda q_pdoa q_pad q_paod q_paa q_paoa q_pdT q_pdoT q_obz q_obs q_eqk q_eqL0 q_eqL1 q_eq1i q_fitd
structure Col where
  kind : Int
  read : List Int
  del : Int
structure Inp where
  cols : List Col
  insert : List Int
  swap : Int
@[simp] def dCol (c : Col) : DV := .agg [.int .i64 c.kind, .vs (c.read.map dI), .int .i64 c.del]
@[simp] def dInp (x : Inp) : DV := .agg [.vs (x.cols.map dCol), .vs (x.insert.map dI), .int .i64 x.swap]

def delS (x : Inp) (i m : Nat) : Int := ((x.cols.drop i).take (m - i)).foldl (fun s c => addW s c.del) 0

theorem delS_succ (x : Inp) {i k : Nat} (hi : i ≤ k) (hk : k < x.cols.length) : delS x i (k + 1) = addW (delS x i k) x.cols[k].del := by
  unfold delS
  rw [show k + 1 - i = (k - i) + 1 from by omega, List.take_add_one, List.foldl_append]
  have : (x.cols.drop i)[k - i]? = some x.cols[k] := by rw [List.getElem?_drop, show i + (k - i) = k from by omega, List.getElem?_eq_getElem hk]
  rw [this]; rfl

theorem Deletion34 (x : Inp) (i m : Nat) (hb : x.cols.length < 4611686018427387904) (him : i ≤ m) (hm' : m ≤ x.cols.length) :
    Pure prog 34 [.d (dInp x), .d (.int .i64 i), .d (.int .i64 m)] (.d (.int .i64 (delS x i m))) := by
  refine fn_of e34 hm (by rfl) (vs := [.d (dInp x), .d (.int .i64 i), .d (.int .i64 m), .undef, .undef, .undef, .undef, .undef]) rfl ?_
  unfold c34
  repeat' (first | (with_reducible first | refine st_reg ?_ | refine sN (by conv => lhs; simp [dInp]) ?_ | refine rN ?_ ?_ | refine rO ?_ ?_ | refine rF ?_ ?_ | refine sG (by conv => lhs; simp [dInp]) ?_ | refine gF ?_ | refine gS rfl (by conv => lhs; simp [dInp]) ?_ ?_ | (refine st_gef0 ?_ ?_; focus (conv => (lhs; simp [dInp])); done) | refine sE (by conv => lhs; simp) ?_ | refine Nx.go ?_ | refine st_blke' (by decide) ?_ | refine st_seq ?_ | refine st_blk ?_ | refine st_cond (by conv => lhs; simp) (by conv => lhs; simp [dInp]) ?_ ?_ ?_ | refine st_lexit ?_) | (intro h_; try simp only [reduceCtorEq, y1, y2, y3, y4, y5, y6, y7, y8, y9, z1, z2, z3, z4, z5, z6, z7, ne_eq] at h_))
  all_goals try (first | contradiction | exact True.intro | omega | rfl | (simp [AV.fits, AV.cells, AV.one, DV.fits, DV.cells, DV.one, DV.conf, confL, DV.conf1]; done) | (simp [AV.fits, AV.cells, AV.one, DV.fits, DV.cells, DV.one, DV.conf, confL, DV.conf1, *] <;> omega))
  refine st_loop (fun s => ∃ k : Nat, i ≤ k ∧ k ≤ m ∧ s = ⟨[.d (dInp x), .d (.int .i64 i), .d (.int .i64 m), .ptr 0 0 0, .d (.int .i64 0), .d (.int .i64 (delS x i k)), .d (.int .i64 k), .undef], [some (.arr 3 [.d (dInp x)])]⟩) (fun s => m - (s.int 6).toNat)
      (ys := [.d (dInp x), .d (.int .i64 i), .d (.int .i64 m), .ptr 0 0 0, .d (.int .i64 0), .d (.int .i64 (delS x i i)), .d (.int .i64 i), .undef]) (by simp [weak, delS]) ⟨i, by omega, by omega, rfl⟩ ?_
  rintro _ ⟨k, hi, hk, rfl⟩
  rcases Nat.lt_or_ge k m with hkm | hkm
  · have hkl : k < x.cols.length := by omega
    repeat' (first | (with_reducible first | refine st_reg ?_ | refine sN (by conv => lhs; simp [getD_map_lt, dInp, dCol, *]) ?_ | refine rN ?_ ?_ | refine rO ?_ ?_ | refine rF ?_ ?_ | refine sG (by conv => lhs; simp [getD_map_lt, dInp, dCol, *]) ?_ | refine gF ?_ | refine gS rfl (by conv => lhs; simp [getD_map_lt, dInp, dCol, *]) ?_ ?_ | (refine st_gef0 ?_ ?_; focus (conv => (lhs; simp [getD_map_lt, dInp, dCol, *])); done) | refine sE (by conv => lhs; simp [getD_map_lt, dInp, dCol, *]) ?_ | refine Nx.go ?_ | refine st_blke' (by decide) ?_ | refine st_seq ?_ | refine st_blk ?_ | refine st_cond (by conv => lhs; simp [getD_map_lt, dInp, dCol, *]) (by conv => lhs; simp [getD_map_lt, dInp, dCol, *]) ?_ ?_ ?_ | refine st_lexit ?_) | (intro h_; try simp only [reduceCtorEq, y1, y2, y3, y4, y5, y6, y7, y8, y9, z1, z2, z3, z4, z5, z6, z7, ne_eq] at h_))
    all_goals try (first | contradiction | exact True.intro | omega | rfl | (simp [AV.fits, AV.cells, AV.one, DV.fits, DV.cells, DV.one, DV.conf, confL, DV.conf1]; done) | (simp [AV.fits, AV.cells, AV.one, DV.fits, DV.cells, DV.one, DV.conf, confL, DV.conf1, *] <;> omega))
    refine st_e (st_call (xs := [.d (.int .i64 (delS x i k)), .d (.int .i64 x.cols[k].del)]) (ys := [.d (.int .i64 (delS x i k)), .d (.int .i64 x.cols[k].del)]) ?_ (by simp) (add36 _ _) (by simp [argsM, AV.ren]) trivial ?_)
    · simp [solidOk]
    · skip
      repeat' (first | (with_reducible first | refine st_reg ?_ | refine sN (by conv => lhs; simp [dInp, dCol]) ?_ | refine rN ?_ ?_ | refine rO ?_ ?_ | refine rF ?_ ?_ | refine sG (by conv => lhs; simp [dInp, dCol]) ?_ | refine gF ?_ | refine gS rfl (by conv => lhs; simp [dInp, dCol]) ?_ ?_ | (refine st_gef0 ?_ ?_; focus (conv => (lhs; simp [dInp, dCol])); done) | refine sE (by conv => lhs; simp) ?_ | refine Nx.go ?_ | refine st_blke' (by decide) ?_ | refine st_seq ?_ | refine st_blk ?_ | refine st_cond (by conv => lhs; simp) (by conv => lhs; simp [dInp, dCol]) ?_ ?_ ?_ | refine st_lexit ?_) | (intro h_; try simp only [reduceCtorEq, y1, y2, y3, y4, y5, y6, y7, y8, y9, z1, z2, z3, z4, z5, z6, z7, ne_eq] at h_))
      all_goals try (first | contradiction | exact True.intro | omega | rfl | (simp [AV.fits, AV.cells, AV.one, DV.fits, DV.cells, DV.one, DV.conf, confL, DV.conf1]; done) | (simp [AV.fits, AV.cells, AV.one, DV.fits, DV.cells, DV.one, DV.conf, confL, DV.conf1, *] <;> omega))
      refine st_lnormw (ys := [.d (dInp x), .d (.int .i64 i), .d (.int .i64 m), .ptr 0 0 0, .d (.int .i64 0), .d (.int .i64 (delS x i (k + 1))), .d (.int .i64 (k + 1 : Nat)), .undef]) ?_ ⟨k + 1, by omega, by omega, rfl⟩ ?_
      · simp only [weak, and_true, true_or, or_true, true_and]
        exact ⟨.inr (by simp), .inr (by rw [delS_succ x hi hkl]), .inr (by rw [show ((k + 1 : Nat) : Int) = (k : Int) + 1 from by simp, wrap64 (by omega) (by omega)])⟩
      · simp [St.int]; omega
  · have hkm : k = m := by omega
    subst hkm
    repeat' (first | (with_reducible first | refine st_reg ?_ | refine sN (by conv => lhs; simp [dInp, dCol]) ?_ | refine rN ?_ ?_ | refine rO ?_ ?_ | refine rF ?_ ?_ | refine sG (by conv => lhs; simp [dInp, dCol]) ?_ | refine gF ?_ | refine gS rfl (by conv => lhs; simp [dInp, dCol]) ?_ ?_ | (refine st_gef0 ?_ ?_; focus (conv => (lhs; simp [dInp, dCol])); done) | refine sE (by conv => lhs; simp) ?_ | refine Nx.go ?_ | refine st_blke' (by decide) ?_ | refine st_seq ?_ | refine st_blk ?_ | refine st_cond (by conv => lhs; simp) (by conv => lhs; simp [dInp, dCol]) ?_ ?_ ?_ | refine st_lexit ?_) | (intro h_; try simp only [reduceCtorEq, y1, y2, y3, y4, y5, y6, y7, y8, y9, z1, z2, z3, z4, z5, z6, z7, ne_eq] at h_))
    all_goals try (first | contradiction | exact True.intro | omega | rfl | (simp [AV.fits, AV.cells, AV.one, DV.fits, DV.cells, DV.one, DV.conf, confL, DV.conf1]; done) | (simp [AV.fits, AV.cells, AV.one, DV.fits, DV.cells, DV.one, DV.conf, confL, DV.conf1, *] <;> omega))
    refine atEnd_pure ⟨trivial, trivial⟩ ?_ rfl
    rfl
end Go.Vm.L
