/- Lattice: Build comes to the reference's lattice. -/
import Derived.Test.YtibpfnjbgojfoaaZlX
set_option linter.all false
set_option maxHeartbeats 8000000
namespace Go.Vm.L
open Go Go.Vm
attribute [local simp] q_and q_loc q_var q_k q_sob_undef q_strip_undef q_sob_d q_strip_d q_sob_nils q_strip_nils q_sob_ptr q_strip_ptr q_sob_hs q_strip_hs q_sob_mp q_strip_mp q_sob_it q_strip_it q_sob_fp q_strip_fp q_sob_clo q_strip_clo q_sob_ifc q_strip_ifc q_sob_agg q_strip_agg q_sob_tup q_strip_tup q_sob_when q_strip_when q_argsOb0 q_argsOb1 q_mov q_pick q_pick000 q_pick001 q_pick010 q_pick011 q_pick100 q_pick101 q_pick110 q_pick111 q_bin q_eqs q_not q_neg q_conv q_fieldAddr q_load q_extract q_len q_nilCheck q_mkIface q_alloc q_box q_build q_lit q_mkFunc q_mkMap q_mkSlice q_slice q_ixa q_idx q_lookup q_field q_minmax q_i_add q_i_sub q_i_mul q_i_quo q_i_rem q_i_eql q_i_neq q_i_lss q_i_leq q_i_gtr q_i_geq q_i_and q_i_or q_i_xor q_i_shl q_i_shr q_b_eql q_s_eql q_b_neq q_s_neq q_s_add q_eqsd q_notd q_negd q_convd q_fap q_faf q_ldf q_ldp q_ldps q_exd q_len0 q_len0n q_len0h q_len1 q_len2 q_lenp q_lkp q_lkf q_lkps q_ncp q_ncf q_mkI q_mkF q_mkS q_ixd q_iaf q_iap q_ixh q_slvs q_slvh q_slvl q_mm1 q_mm2 q_mx2 q_fl q_flw q_bo q_bow q_add0 q_addf q_addo q_so0 q_so1 q_mk_mov q_mk_bin q_mk_eqs q_mk_not q_mk_neg q_mk_conv q_mk_fieldAddr q_mk_load q_mk_ixa q_mk_idx q_mk_lookup q_mk_len q_mk_pick q_mk_field q_mk_slice q_mk_build q_mk_minmax q_mk_extract q_mk_nilCheck q_mk_lit q_mk_box q_mk_alloc q_pd0 q_pdo0 q_pdb q_pdob q_pdv q_pdov q_pda q_pdoa q_pad q_paod q_paa q_paoa q_pdT q_pdoT q_obz q_obs q_eqk q_eqL0 q_eqL1 q_eq1i q_fitd

theorem mtab_len {x : Inp} (ht : x.insert.length ≤ 5) (hn : x.cols.length ≤ 8) : ∀ M, M = buildM x (x.cols.length + 1) → M.length < 1000000 := by
  intro M hM
  have h1 : (sortK (M.map (·.1))).length = M.length := by rw [(sortK_perm _).length_eq]; simp
  have h2 : (buildA x).length = M.length := by rw [buildA, List.length_map, ← hM, h1]
  rw [buildA_ref] at h2
  have := refA_len ht hn
  omega
theorem Build12p (x : Inp) (hx : WF x) (ht : x.insert.length ≤ 5) (hn : x.cols.length ≤ 8) : Pure prog 12 [.d (dInp x)] (.d (dLat (refL x))) := by
  have := Build12 sortC x hx (mtab_len ht hn)
  rw [buildL_ref] at this
  exact this
end Go.Vm.L
