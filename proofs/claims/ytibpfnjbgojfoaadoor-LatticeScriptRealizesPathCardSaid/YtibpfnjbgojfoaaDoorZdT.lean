/- A part of the proof. -/
import Derived.Test.YtibpfnjbgojfoaaDoorZdIr
import Derived.Test.YtibpfnjbgojfoaaDoorV7
import Derived.IntWalk
set_option linter.all false
namespace Go.Vm.L
open Go Go.Vm
noncomputable abbrev prog := Go.Proofs.Tryd.prog
theorem hm : prog.follows .mixedOrders = true := by kernel_rfl
attribute [simp] q_and q_loc q_var q_k q_sob_undef q_strip_undef q_sob_d q_strip_d q_sob_nils q_strip_nils q_sob_ptr q_strip_ptr q_sob_hs q_strip_hs q_sob_mp q_strip_mp q_sob_it q_strip_it q_sob_fp q_strip_fp q_sob_clo q_strip_clo q_sob_ifc q_strip_ifc q_sob_agg q_strip_agg q_sob_tup q_strip_tup q_sob_when q_strip_when q_argsOb0 q_argsOb1 q_mov q_pick q_pick000 q_pick001 q_pick010 q_pick011 q_pick100 q_pick101 q_pick110 q_pick111 q_bin q_eqs q_not q_neg q_conv q_fieldAddr q_load q_extract q_len q_nilCheck q_mkIface q_alloc q_box q_build q_lit q_mkFunc q_mkMap q_mkSlice q_slice q_ixa q_idx q_lookup q_field q_minmax q_i_add q_i_sub q_i_mul q_i_quo q_i_rem q_i_eql q_i_neq q_i_lss q_i_leq q_i_gtr q_i_geq q_i_and q_i_or q_i_xor q_i_shl q_i_shr q_b_eql q_s_eql q_b_neq q_s_neq q_s_add q_eqsd q_notd q_negd q_convd q_fap q_faf q_ldf q_ldp q_ldps q_exd q_len0 q_len0n q_len0h q_len1 q_len2 q_lenp q_lkp q_lkf q_lkps q_ncp q_ncf q_mkI q_mkF q_mkS q_ixd q_iaf q_iap q_ixh q_slvs q_slvh q_slvl q_mm1 q_mm2 q_mx2 q_fl q_flw q_bo q_bow q_add0 q_addf q_addo q_so0 q_so1 q_mk_mov q_mk_bin q_mk_eqs q_mk_not q_mk_neg q_mk_conv q_mk_fieldAddr q_mk_load q_mk_ixa q_mk_idx q_mk_lookup q_mk_len q_mk_pick q_mk_field q_mk_slice q_mk_build q_mk_minmax q_mk_extract q_mk_nilCheck q_mk_lit q_mk_box q_mk_alloc q_pd0 q_pdo0 q_pdb q_pdob q_pdv q_pdov q_pda q_pdoa q_pad q_paod q_paa q_paoa q_pdT q_pdoT q_obz q_obs q_eqk q_eqL0 q_eqL1 q_eq1i q_fitd

def addW (a b : Int) : Int := if a ≥ 1099511627776 ∨ b ≥ 1099511627776 ∨ IntKind.wrap .i64 (a + b) ≥ 1099511627776 then 1099511627776 else IntKind.wrap .i64 (a + b)

theorem wrap64 {n : Int} (h1 : -9223372036854775808 ≤ n) (h2 : n < 9223372036854775808) : IntKind.wrap .i64 n = n := IntWalk.i64_in n ⟨h1, by omega⟩

theorem add36 (a b : Int) : Pure prog 28 [.d (.int .i64 a), .d (.int .i64 b)] (.d (.int .i64 (addW a b))) := by
  refine fn_of e28 hm (by rfl) (vs := [.d (.int .i64 a), .d (.int .i64 b), .undef, .undef]) rfl ?_
  unfold c28
  repeat' (first | (with_reducible first | refine st_reg ?_ | refine sN (by conv => lhs; simp) ?_ | refine rN ?_ ?_ | refine rO ?_ ?_ | refine rF ?_ ?_ | refine sG (by conv => lhs; simp) ?_ | refine gF ?_ | refine gS rfl (by conv => lhs; simp) ?_ ?_ | (refine st_gef0 ?_ ?_; focus (conv => (lhs; simp)); done) | refine sE (by conv => lhs; simp) ?_ | refine Nx.go ?_ | refine st_blke' (by decide) ?_ | refine st_seq ?_ | refine st_blk ?_ | refine st_cond (by conv => lhs; simp) (by conv => lhs; simp) ?_ ?_ ?_ | refine st_lexit ?_) | (intro h_; try simp only [reduceCtorEq, y1, y2, y3, y4, y5, y6, y7, y8, y9, z1, z2, z3, z4, z5, z6, z7, ne_eq] at h_))
  all_goals try (first | contradiction | exact True.intro | omega | rfl | (simp [AV.fits, AV.cells, AV.one, DV.fits, DV.cells, DV.one, DV.conf, confL, DV.conf1]; done) | (simp [AV.fits, AV.cells, AV.one, DV.fits, DV.cells, DV.one, DV.conf, confL, DV.conf1, *] <;> omega))
  · refine atEnd_pure ⟨trivial, trivial⟩ ?_ rfl
    show AV.d (DV.int .i64 _) = _
    rw [addW, if_pos (by omega)]
  · refine atEnd_pure ⟨trivial, trivial⟩ ?_ rfl
    show AV.d (DV.int .i64 _) = _
    rw [addW, if_neg (by omega)]

def dI (n : Int) : DV := .int .i64 n
theorem Ints26 (xs ys : List Int) (hb : xs.length < 4611686018427387904) : Pure prog 14 [.d (.vs (xs.map dI)), .d (.vs (ys.map dI))] (.d (.bool (decide (xs = ys)))) := by
  refine fn_of e14 hm (by rfl) (vs := [.d (.vs (xs.map dI)), .d (.vs (ys.map dI)), .undef, .undef, .undef, .undef, .undef]) rfl ?_
  unfold c14
  repeat' (first | (with_reducible first | refine st_reg ?_ | refine sN (by conv => lhs; simp) ?_ | refine rN ?_ ?_ | refine rO ?_ ?_ | refine rF ?_ ?_ | refine sG (by conv => lhs; simp) ?_ | refine gF ?_ | refine gS rfl (by conv => lhs; simp) ?_ ?_ | (refine st_gef0 ?_ ?_; focus (conv => (lhs; simp)); done) | refine sE (by conv => lhs; simp) ?_ | refine Nx.go ?_ | refine st_blke' (by decide) ?_ | refine st_seq ?_ | refine st_blk ?_ | refine st_cond (by conv => lhs; simp) (by conv => lhs; simp) ?_ ?_ ?_ | refine st_lexit ?_) | (intro h_; try simp only [reduceCtorEq, y1, y2, y3, y4, y5, y6, y7, y8, y9, z1, z2, z3, z4, z5, z6, z7, ne_eq] at h_))
  all_goals try (first | contradiction | exact True.intro | omega | rfl | (simp [AV.fits, AV.cells, AV.one, DV.fits, DV.cells, DV.one, DV.conf, confL, DV.conf1]; done) | (simp [AV.fits, AV.cells, AV.one, DV.fits, DV.cells, DV.one, DV.conf, confL, DV.conf1, *] <;> omega))
  · refine atEnd_pure ⟨trivial, trivial⟩ ?_ rfl
    show AV.d (DV.bool false) = _
    rw [decide_eq_false]
    rintro rfl; exact h_ rfl
  · refine st_loop (fun s => ∃ i : Nat, i ≤ xs.length ∧ xs.take i = ys.take i ∧ s = ⟨[.d (.vs (xs.map dI)), .d (.vs (ys.map dI)), .d (.bool false), .d (.int .i64 i), .undef, .undef, .undef], []⟩) (fun s => xs.length - (s.int 3).toNat)
      (ys := [.d (.vs (xs.map dI)), .d (.vs (ys.map dI)), .d (.bool false), .d (.int .i64 (0 : Nat)), .undef, .undef, .undef]) (by simp [weak]) ⟨0, by omega, by simp, rfl⟩ ?_
    rintro _ ⟨i, hi, hk, rfl⟩
    repeat' (first | (with_reducible first | refine st_reg ?_ | refine sN (by conv => lhs; simp [getD_map_lt, dI, *]) ?_ | refine rN ?_ ?_ | refine rO ?_ ?_ | refine rF ?_ ?_ | refine sG (by conv => lhs; simp [getD_map_lt, dI, *]) ?_ | refine gF ?_ | refine gS rfl (by conv => lhs; simp [getD_map_lt, dI, *]) ?_ ?_ | (refine st_gef0 ?_ ?_; focus (conv => (lhs; simp [getD_map_lt, dI, *])); done) | refine sE (by conv => lhs; simp [getD_map_lt, dI, *]) ?_ | refine Nx.go ?_ | refine st_blke' (by decide) ?_ | refine st_seq ?_ | refine st_blk ?_ | refine st_cond (by conv => lhs; simp [getD_map_lt, dI, *]) (by conv => lhs; simp [getD_map_lt, dI, *]) ?_ ?_ ?_ | refine st_lexit ?_) | (intro h_; try simp only [reduceCtorEq, y1, y2, y3, y4, y5, y6, y7, y8, y9, z1, z2, z3, z4, z5, z6, z7, ne_eq] at h_))
    all_goals try (first | contradiction | exact True.intro | omega | rfl | (simp [AV.fits, AV.cells, AV.one, DV.fits, DV.cells, DV.one, DV.conf, confL, DV.conf1]; done) | (simp [AV.fits, AV.cells, AV.one, DV.fits, DV.cells, DV.one, DV.conf, confL, DV.conf1, *] <;> omega))
    · refine atEnd_pure ⟨trivial, trivial⟩ ?_ rfl
      show AV.d (DV.bool false) = _
      rw [decide_eq_false]
      rintro rfl; exact h_ rfl
    · refine st_lnormw (ys := [.d (.vs (xs.map dI)), .d (.vs (ys.map dI)), .d (.bool false), .d (.int .i64 (i + 1 : Nat)), .undef, .undef, .undef]) ?_ ⟨i + 1, by omega, ?_, rfl⟩ ?_
      · simp only [weak, and_true, true_or, or_true, true_and]
        exact .inr (by rw [show ((i + 1 : Nat) : Int) = (i : Int) + 1 from by simp, wrap64 (by omega) (by omega)])
      · have h1 : i < xs.length := by omega
        rw [List.take_add_one, List.take_add_one, hk]
        rename_i hl hy
        simp only [List.getElem?_eq_getElem h1, List.getElem?_eq_getElem hy, h_]
      · simp [St.int]; omega
    · refine atEnd_pure ⟨trivial, trivial⟩ ?_ rfl
      show AV.d (DV.bool true) = _
      rw [decide_eq_true]
      have h1 : i = xs.length := by omega
      subst h1
      rename_i hl
      rw [List.take_of_length_le (Nat.le_refl _), List.take_of_length_le (by omega)] at hk
      exact hk
end Go.Vm.L
