/- Lattice: the laws of locality and of the triangle. -/
import Derived.Test.YtibpfnjbgojfoaaZlY
import Derived.Test.YtibpfnjbgojfoaaZlR
set_option linter.all false
set_option maxHeartbeats 8000000
namespace Go.Vm.L
open Go Go.Vm
attribute [local simp] q_and q_loc q_var q_k q_sob_undef q_strip_undef q_sob_d q_strip_d q_sob_nils q_strip_nils q_sob_ptr q_strip_ptr q_sob_hs q_strip_hs q_sob_mp q_strip_mp q_sob_it q_strip_it q_sob_fp q_strip_fp q_sob_clo q_strip_clo q_sob_ifc q_strip_ifc q_sob_agg q_strip_agg q_sob_tup q_strip_tup q_sob_when q_strip_when q_argsOb0 q_argsOb1 q_mov q_pick q_pick000 q_pick001 q_pick010 q_pick011 q_pick100 q_pick101 q_pick110 q_pick111 q_bin q_eqs q_not q_neg q_conv q_fieldAddr q_load q_extract q_len q_nilCheck q_mkIface q_alloc q_box q_build q_lit q_mkFunc q_mkMap q_mkSlice q_slice q_idx q_lookup q_field q_minmax q_i_add q_i_sub q_i_mul q_i_quo q_i_rem q_i_eql q_i_neq q_i_lss q_i_leq q_i_gtr q_i_geq q_i_and q_i_or q_i_xor q_i_shl q_i_shr q_b_eql q_s_eql q_b_neq q_s_neq q_s_add q_eqsd q_notd q_negd q_convd q_fap q_faf q_ldf q_ldp q_ldps q_exd q_len0 q_len0n q_len0h q_len1 q_len2 q_lenp q_lkp q_lkf q_lkps q_ncp q_ncf q_mkI q_mkF q_mkS q_ixd q_ixh q_slvs q_slvh q_slvl q_mm1 q_mm2 q_mx2 q_fl q_flw q_bo q_bow q_add0 q_addf q_addo q_so0 q_so1 q_mk_mov q_mk_bin q_mk_eqs q_mk_not q_mk_neg q_mk_conv q_mk_fieldAddr q_mk_load q_mk_idx q_mk_lookup q_mk_len q_mk_pick q_mk_field q_mk_slice q_mk_build q_mk_minmax q_mk_extract q_mk_nilCheck q_mk_lit q_mk_box q_mk_alloc q_pd0 q_pdo0 q_pdb q_pdob q_pdv q_pdov q_pda q_pdoa q_pad q_paod q_paa q_paoa q_pdT q_pdoT q_obz q_obs q_eqk q_eqL0 q_eqL1 q_eq1i q_fitd

theorem st_storeE {P : Program} {vs env : List AV} {H : Heap} {K : AV → Heap → Prop} {n sz id ix o : Nat} {agg : Bool} {x y : Arg} {es es' : List AV} {v : AV} (ho : argsOb (evalA vs env) [x, y]) (hx : (evalA vs env x).strip = .ptr id ix o) (hy : (evalA vs env y).strip = v)
    (ha : H.ob id = some (.arr sz es)) (hl : ix < es.length ∧ o + n ≤ sz) (hv : v.fits n = true) (he : es.set ix (updA sz (es.getD ix .undef) o n v) = es') (hf : (updA sz (es.getD ix .undef) o n v).fits sz = true)
    (hk : ∀ H', Wrote H id (.arr sz es') H' → K .undef H') : wpEff P (evalA vs env) H (.store n agg x y) [] [] false K :=
  stA_store ⟨ho, trivial⟩ hx hy (arrOf_ob ha) hl hv rfl hf fun H' hW => ⟨trivial, hk H' (he ▸ hW)⟩

theorem law7 (x : Inp) (c : Int) (hc0 : 0 ≤ c ∧ c < 256) : Pure prog 7 [.d (dInp x), .d (.int .u8 c)] (.d (.bool true)) := by
  refine fn_of e7 hm (by rfl) (vs := [.d (dInp x), .d (.int .u8 c), .undef, .undef, .undef, .undef, .undef, .undef, .undef, .undef, .undef, .undef, .undef, .undef, .undef, .undef]) rfl ?_
  unfold c7
  repeat' (first | (with_reducible first | refine st_reg ?_ | refine sN (by conv => lhs; simp [dInp]) ?_ | refine rN ?_ ?_ | refine rO ?_ ?_ | refine rF ?_ ?_ | refine sG (by conv => lhs; simp [dInp]) ?_ | refine gF ?_ | refine gS rfl (by conv => lhs; simp [dInp]) ?_ ?_ | (refine st_gef0 ?_ ?_; focus (conv => (lhs; simp [dInp])); done) | refine sE (by conv => lhs; simp) ?_ | refine Nx.go ?_ | refine st_blke' (by decide) ?_ | refine st_seq ?_ | refine st_blk ?_ | refine st_cond (by conv => lhs; simp) (by conv => lhs; simp [dInp]) ?_ ?_ ?_ | refine st_lexit ?_) | (intro h_; try simp only [reduceCtorEq, y1, y2, y3, y4, y5, y6, y7, y8, y9, z1, z2, z3, z4, z5, z6, z7, ne_eq] at h_))
  all_goals try (first | contradiction | exact True.intro | omega | rfl | (simp [AV.fits, AV.cells, AV.one, DV.fits, DV.cells, DV.one, DV.conf, confL, DV.conf1]; done) | (simp [AV.fits, AV.cells, AV.one, DV.fits, DV.cells, DV.one, DV.conf, confL, DV.conf1, *] <;> omega))
  refine st_e (st_call (xs := []) (ys := []) (by simp [solidOk]) (by simp) awake10 (by simp [argsM, AV.ren]) (pendOk_refl _) ?_)
  repeat' (first | (with_reducible first | refine st_reg ?_ | refine sN (by conv => lhs; simp [dInp]) ?_ | refine rN ?_ ?_ | refine rO ?_ ?_ | refine rF ?_ ?_ | refine sG (by conv => lhs; simp [dInp]) ?_ | refine gF ?_ | refine gS rfl (by conv => lhs; simp [dInp]) ?_ ?_ | (refine st_gef0 ?_ ?_; focus (conv => (lhs; simp [dInp])); done) | refine sE (by conv => lhs; simp) ?_ | refine Nx.go ?_ | refine st_blke' (by decide) ?_ | refine st_seq ?_ | refine st_blk ?_ | refine st_cond (by conv => lhs; simp) (by conv => lhs; simp [dInp]) ?_ ?_ ?_ | refine st_lexit ?_) | (intro h_; try simp only [reduceCtorEq, y1, y2, y3, y4, y5, y6, y7, y8, y9, z1, z2, z3, z4, z5, z6, z7, ne_eq] at h_))
  all_goals try (first | contradiction | exact True.intro | omega | rfl | (simp [AV.fits, AV.cells, AV.one, DV.fits, DV.cells, DV.one, DV.conf, confL, DV.conf1]; done) | (simp [AV.fits, AV.cells, AV.one, DV.fits, DV.cells, DV.one, DV.conf, confL, DV.conf1, *] <;> omega))
  refine st_e (st_call (by simp [solidOk]) (by conv => lhs; simp) (fair11 x 8) (by exact ⟨.inl rfl, .inl rfl, trivial⟩) (pendOk_refl _) ?_)
  rcases hf : fairB x 8 with _ | _
  · skip
    repeat' (first | (with_reducible first | refine st_reg ?_ | refine sN (by conv => lhs; simp [dInp]) ?_ | refine rN ?_ ?_ | refine rO ?_ ?_ | refine rF ?_ ?_ | refine sG (by conv => lhs; simp [dInp]) ?_ | refine gF ?_ | refine gS rfl (by conv => lhs; simp [dInp]) ?_ ?_ | (refine st_gef0 ?_ ?_; focus (conv => (lhs; simp [dInp])); done) | refine sE (by conv => lhs; simp) ?_ | refine Nx.go ?_ | refine st_blke' (by decide) ?_ | refine st_seq ?_ | refine st_blk ?_ | refine st_cond (by conv => lhs; simp) (by conv => lhs; simp [dInp]) ?_ ?_ ?_ | refine st_lexit ?_) | (intro h_; try simp only [reduceCtorEq, y1, y2, y3, y4, y5, y6, y7, y8, y9, z1, z2, z3, z4, z5, z6, z7, ne_eq] at h_))
    all_goals try (first | contradiction | exact True.intro | omega | rfl | (simp [AV.fits, AV.cells, AV.one, DV.fits, DV.cells, DV.one, DV.conf, confL, DV.conf1]; done) | (simp [AV.fits, AV.cells, AV.one, DV.fits, DV.cells, DV.one, DV.conf, confL, DV.conf1, *] <;> omega))
    exact atEnd_pure ⟨trivial, trivial⟩ rfl rfl
  obtain ⟨hx, hn, ht⟩ := wf_of_fair hf
  have hn : x.cols.length ≤ 8 := by omega
  obtain ⟨cn, hcn⟩ : ∃ cn : Nat, c = cn := ⟨c.toNat, by omega⟩
  obtain ⟨k, hk⟩ : ∃ k, k = cn % (x.cols.length + 1) := ⟨_, rfl⟩
  have hkl : k ≤ x.cols.length := by have := Nat.mod_lt cn (show 0 < x.cols.length + 1 by omega); omega
  have hw0 : IntKind.i64.wrap c = (cn : Int) := by rw [wrap64 (by omega) (by omega)]; exact hcn
  have hw1 : IntKind.i64.wrap ((x.cols.length : Int) + 1) = (x.cols.length : Int) + 1 := wrap64 (by omega) (by omega)
  have hmd : (cn : Int).tmod ((x.cols.length : Int) + 1) = (k : Int) := by rw [hk]; rfl
  have hne : ¬ ((x.cols.length : Int) + 1) = 0 := by omega
  have hcut := cut_len hkl
  have hxc := cut_wf hx k
  have hfitC : ∀ z ∈ x.cols.map dCol, z.fits 3 = true := by
    intro z hz
    obtain ⟨q, _, rfl⟩ := List.mem_map.1 hz
    rfl
  clear hcn hk
  repeat' (first | (with_reducible first | refine st_reg ?_ | refine sN (by conv => lhs; simp [dInp, hw0, hw1, hmd, hne]) ?_ | refine rN ?_ ?_ | refine rO ?_ ?_ | refine rF ?_ ?_ | refine sG (by conv => lhs; simp [dInp, hw0, hw1, hmd, hne]) ?_ | refine gF ?_ | refine gS rfl (by conv => lhs; simp [dInp, hw0, hw1, hmd, hne]) ?_ ?_ | (refine st_gef0 ?_ ?_; focus (conv => (lhs; simp [dInp, hw0, hw1, hmd, hne])); done) | refine sE (by conv => lhs; simp) ?_ | refine Nx.go ?_ | refine st_blke' (by decide) ?_ | refine st_seq ?_ | refine st_blk ?_ | refine st_cond (by conv => lhs; simp) (by conv => lhs; simp [dInp, hw0, hw1, hmd, hne]) ?_ ?_ ?_ | refine st_lexit ?_) | (intro h_; try simp only [reduceCtorEq, y1, y2, y3, y4, y5, y6, y7, y8, y9, z1, z2, z3, z4, z5, z6, z7, ne_eq] at h_))
  all_goals try (first | contradiction | exact True.intro | omega | rfl | (simp [AV.fits, AV.cells, AV.one, DV.fits, DV.cells, DV.one, DV.conf, confL, DV.conf1]; done) | (simp [AV.fits, AV.cells, AV.one, DV.fits, DV.cells, DV.one, DV.conf, confL, DV.conf1, *] <;> omega))
  refine st_e (st_store ⟨by simp, trivial⟩ (by conv => lhs; simp) (by conv => lhs; simp) rfl (by simp) (by first | assumption | simp [AV.fits, DV.fits, DV.cells, DV.one]) updA_whole (by first | assumption | simp [AV.fits, DV.fits, DV.cells, DV.one]) ⟨trivial, ?_⟩); simp only [List.set_cons_zero, List.set_cons_succ]
  repeat' (first | (with_reducible first | refine st_reg ?_ | refine sN (by conv => lhs; simp [dInp, hkl, hfitC]) ?_ | refine rN ?_ ?_ | refine rO ?_ ?_ | refine rF ?_ ?_ | refine sG (by conv => lhs; simp [dInp, hkl, hfitC]) ?_ | refine gF ?_ | refine gS rfl (by conv => lhs; simp [dInp, hkl, hfitC]) ?_ ?_ | (refine st_gef0 ?_ ?_; focus (conv => (lhs; simp [dInp, hkl, hfitC])); done) | refine sE (by conv => lhs; simp) ?_ | refine Nx.go ?_ | refine st_blke' (by decide) ?_ | refine st_seq ?_ | refine st_blk ?_ | refine st_cond (by conv => lhs; simp) (by conv => lhs; simp [dInp, hkl, hfitC]) ?_ ?_ ?_ | refine st_lexit ?_) | (intro h_; try simp only [reduceCtorEq, y1, y2, y3, y4, y5, y6, y7, y8, y9, z1, z2, z3, z4, z5, z6, z7, ne_eq] at h_))
  all_goals try (first | contradiction | exact True.intro | omega | rfl | (simp [AV.fits, AV.cells, AV.one, DV.fits, DV.cells, DV.one, DV.conf, confL, DV.conf1]; done) | (simp [AV.fits, AV.cells, AV.one, DV.fits, DV.cells, DV.one, DV.conf, confL, DV.conf1, *] <;> omega))
  refine st_e (st_storeE (id := 1) (ix := 0) (o := 0) (sz := 3) (es' := [.d (dInp (cut x k))]) (by simp) (by conv => lhs; simp) (by conv => lhs; simp) rfl (by simp) (by simp [AV.fits, DV.fits, DV.cells, DV.one]) ?_ (by simp [updA, AV.mkAgg, AV.allD, AV.cells, DV.cells, AV.fits, DV.fits, DV.one]) ?_)
  · simp [updA, AV.mkAgg, AV.allD, AV.cells, DV.cells, cut, List.map_take]
  intro H1 hW
  have l1 := hW.len
  simp at l1
  have g0 : H1.ob 0 = some (.arr 3 [.d (dInp x)]) := hW.ob' (by omega) rfl
  have g1 := hW.self
  clear hW
  have g0' := g0
  have g1' := g1
  simp only [dInp] at g0' g1'
  repeat' (first | (with_reducible first | refine st_reg ?_ | refine sN (by conv => lhs; simp [g0']) ?_ | refine rN ?_ ?_ | refine rO ?_ ?_ | refine rF ?_ ?_ | refine sG (by conv => lhs; simp [g0']) ?_ | refine gF ?_ | refine gS rfl (by conv => lhs; simp [g0']) ?_ ?_ | (refine st_gef0 ?_ ?_; focus (conv => (lhs; simp [g0'])); done) | refine sE (by conv => lhs; simp) ?_ | refine Nx.go ?_ | refine st_blke' (by decide) ?_ | refine st_seq ?_ | refine st_blk ?_ | refine st_cond (by conv => lhs; simp) (by conv => lhs; simp [g0']) ?_ ?_ ?_ | refine st_lexit ?_) | (intro h_; try simp only [reduceCtorEq, y1, y2, y3, y4, y5, y6, y7, y8, y9, z1, z2, z3, z4, z5, z6, z7, ne_eq] at h_))
  all_goals try (first | contradiction | exact True.intro | omega | rfl | (simp [AV.fits, AV.cells, AV.one, DV.fits, DV.cells, DV.one, DV.conf, confL, DV.conf1]; done) | (simp [AV.fits, AV.cells, AV.one, DV.fits, DV.cells, DV.one, DV.conf, confL, DV.conf1, *] <;> omega))
  refine st_e (st_call (by simp [solidOk]) (by conv => lhs; simp [g0']) (Build12p x hx ht hn) (by exact ⟨.inl rfl, trivial⟩) (pendOk_refl _) ?_)
  repeat' (first | (with_reducible first | refine st_reg ?_ | refine sN (by conv => lhs; simp) ?_ | refine rN ?_ ?_ | refine rO ?_ ?_ | refine rF ?_ ?_ | refine sG (by conv => lhs; simp) ?_ | refine gF ?_ | refine gS rfl (by conv => lhs; simp) ?_ ?_ | (refine st_gef0 ?_ ?_; focus (conv => (lhs; simp)); done) | refine sE (by conv => lhs; simp) ?_ | refine Nx.go ?_ | refine st_blke' (by decide) ?_ | refine st_seq ?_ | refine st_blk ?_ | refine st_cond (by conv => lhs; simp) (by conv => lhs; simp) ?_ ?_ ?_ | refine st_lexit ?_) | (intro h_; try simp only [reduceCtorEq, y1, y2, y3, y4, y5, y6, y7, y8, y9, z1, z2, z3, z4, z5, z6, z7, ne_eq] at h_))
  all_goals try (first | contradiction | exact True.intro | omega | rfl | (simp [AV.fits, AV.cells, AV.one, DV.fits, DV.cells, DV.one, DV.conf, confL, DV.conf1]; done) | (simp [AV.fits, AV.cells, AV.one, DV.fits, DV.cells, DV.one, DV.conf, confL, DV.conf1, *] <;> omega))
  refine st_e (stA_store ⟨by simp, trivial⟩ (by conv => lhs; simp) (by conv => lhs; simp) (arrOf_ob ob_new) (by simp) (by simp [AV.fits, DV.fits, DV.cells, DV.one]) updA_whole (by simp [AV.fits, DV.fits, DV.cells, DV.one]) (fun H2 hW => ⟨trivial, ?_⟩))
  have l2 := hW.len
  simp at l2
  have i0 := hW.ob' (by omega) (ob_old g0)
  have i1 := hW.ob' (by omega) (ob_old g1)
  have i2 := hW.self
  simp only [List.set_cons_zero] at i2
  rw [l1] at i2
  clear hW g0 g1 g0' g1'
  have i1' := i1
  simp only [dInp] at i1'
  repeat' (first | (with_reducible first | refine st_reg ?_ | refine sN (by conv => lhs; simp [i1']) ?_ | refine rN ?_ ?_ | refine rO ?_ ?_ | refine rF ?_ ?_ | refine sG (by conv => lhs; simp [i1']) ?_ | refine gF ?_ | refine gS rfl (by conv => lhs; simp [i1']) ?_ ?_ | (refine st_gef0 ?_ ?_; focus (conv => (lhs; simp [i1'])); done) | refine sE (by conv => lhs; simp) ?_ | refine Nx.go ?_ | refine st_blke' (by decide) ?_ | refine st_seq ?_ | refine st_blk ?_ | refine st_cond (by conv => lhs; simp) (by conv => lhs; simp [i1']) ?_ ?_ ?_ | refine st_lexit ?_) | (intro h_; try simp only [reduceCtorEq, y1, y2, y3, y4, y5, y6, y7, y8, y9, z1, z2, z3, z4, z5, z6, z7, ne_eq] at h_))
  all_goals try (first | contradiction | exact True.intro | omega | rfl | (simp [AV.fits, AV.cells, AV.one, DV.fits, DV.cells, DV.one, DV.conf, confL, DV.conf1]; done) | (simp [AV.fits, AV.cells, AV.one, DV.fits, DV.cells, DV.one, DV.conf, confL, DV.conf1, *] <;> omega))
  refine st_e (st_call (by simp [solidOk]) (by conv => lhs; simp [i1']) (Build12p (cut x k) hxc ht (by omega)) (by exact ⟨.inl rfl, trivial⟩) (pendOk_refl _) ?_)
  repeat' (first | (with_reducible first | refine st_reg ?_ | refine sN (by conv => lhs; simp) ?_ | refine rN ?_ ?_ | refine rO ?_ ?_ | refine rF ?_ ?_ | refine sG (by conv => lhs; simp) ?_ | refine gF ?_ | refine gS rfl (by conv => lhs; simp) ?_ ?_ | (refine st_gef0 ?_ ?_; focus (conv => (lhs; simp)); done) | refine sE (by conv => lhs; simp) ?_ | refine Nx.go ?_ | refine st_blke' (by decide) ?_ | refine st_seq ?_ | refine st_blk ?_ | refine st_cond (by conv => lhs; simp) (by conv => lhs; simp) ?_ ?_ ?_ | refine st_lexit ?_) | (intro h_; try simp only [reduceCtorEq, y1, y2, y3, y4, y5, y6, y7, y8, y9, z1, z2, z3, z4, z5, z6, z7, ne_eq] at h_))
  all_goals try (first | contradiction | exact True.intro | omega | rfl | (simp [AV.fits, AV.cells, AV.one, DV.fits, DV.cells, DV.one, DV.conf, confL, DV.conf1]; done) | (simp [AV.fits, AV.cells, AV.one, DV.fits, DV.cells, DV.one, DV.conf, confL, DV.conf1, *] <;> omega))
  refine st_e (stA_store ⟨by simp, trivial⟩ (by conv => lhs; simp) (by conv => lhs; simp) (arrOf_ob ob_new) (by simp) (by simp [AV.fits, DV.fits, DV.cells, DV.one]) updA_whole (by simp [AV.fits, DV.fits, DV.cells, DV.one]) (fun H3 hW => ⟨trivial, ?_⟩))
  have l3 := hW.len
  simp [l1, l2] at l3
  have j2 := hW.ob' (by omega) (ob_old i2)
  have j3 := hW.self
  simp only [List.set_cons_zero] at j3
  rw [l2, l1] at j3
  clear hW i0 i1 i2 i1'
  repeat' (first | (with_reducible first | refine st_reg ?_ | refine sN (by conv => lhs; simp [l1, l2]) ?_ | refine rN ?_ ?_ | refine rO ?_ ?_ | refine rF ?_ ?_ | refine sG (by conv => lhs; simp [l1, l2]) ?_ | refine gF ?_ | refine gS rfl (by conv => lhs; simp [l1, l2]) ?_ ?_ | (refine st_gef0 ?_ ?_; focus (conv => (lhs; simp [l1, l2])); done) | refine sE (by conv => lhs; simp) ?_ | refine Nx.go ?_ | refine st_blke' (by decide) ?_ | refine st_seq ?_ | refine st_blk ?_ | refine st_cond (by conv => lhs; simp) (by conv => lhs; simp [l1, l2]) ?_ ?_ ?_ | refine st_lexit ?_) | (intro h_; try simp only [reduceCtorEq, y1, y2, y3, y4, y5, y6, y7, y8, y9, z1, z2, z3, z4, z5, z6, z7, ne_eq] at h_))
  all_goals try (first | contradiction | exact True.intro | omega | rfl | (simp [AV.fits, AV.cells, AV.one, DV.fits, DV.cells, DV.one, DV.conf, confL, DV.conf1]; done) | (simp [AV.fits, AV.cells, AV.one, DV.fits, DV.cells, DV.one, DV.conf, confL, DV.conf1, *] <;> omega))
  obtain ⟨A, hA⟩ : ∃ A, A = refA x := ⟨_, rfl⟩
  obtain ⟨B, hB⟩ : ∃ B, B = refA (cut x k) := ⟨_, rfl⟩
  have hAB : A.filter (fun a => befK k (keyOf a)) = B := by rw [hA, hB]; exact local_cut hkl
  have hAl := refA_len ht hn
  rw [← hA] at hAl
  have hBl : B.length ≤ A.length := by rw [← hAB]; exact List.length_filter_le _ _
  have hAo : ∀ a ∈ A, a.ops.length ≤ 1000 := fun a ha => by have := (refA_ok hx (hA ▸ ha)).1.o; omega
  rw [show refL x = ⟨(2 * x.cols.length + 1 : Nat), A, finTo x (x.cols.length + 1)⟩ by rw [hA]; rfl] at j2
  rw [show refL (cut x k) = ⟨(2 * (cut x k).cols.length + 1 : Nat), B, finTo (cut x k) ((cut x k).cols.length + 1)⟩ by rw [hB]; rfl] at j3
  clear hA hB
  refine wpC_loop (fun s => ∃ (i : Nat) (H : Heap) (v10 v13 v14 v15 : AV), i ≤ A.length ∧ s = ⟨[.d (dInp x), .d (.int .u8 c), .undef, .undef, .d (.int .i64 k), .undef, .ptr 2 0 0, .ptr 3 0 0, .d (.int .i64 ((A.take i).filter fun a => befK k (keyOf a)).length), .d (.int .i64 i), v10, .undef, .undef, v13, v14, v15], H⟩ ∧
      H.ob 2 = some (.arr 3 [.d (dLat ⟨(2 * x.cols.length + 1 : Nat), A, finTo x (x.cols.length + 1)⟩)]) ∧ H.ob 3 = some (.arr 3 [.d (dLat ⟨(2 * (cut x k).cols.length + 1 : Nat), B, finTo (cut x k) ((cut x k).cols.length + 1)⟩)]))
    (fun s => A.length - (s.int 9).toNat)
    (s' := ⟨[.d (dInp x), .d (.int .u8 c), .undef, .undef, .d (.int .i64 k), .undef, .ptr 2 0 0, .ptr 3 0 0, .d (.int .i64 (0 : Nat)), .d (.int .i64 (0 : Nat)), .undef, .undef, .undef, .undef, .undef, .undef], H3⟩)
    (Gh.weak (by simp [weak, l1, l2])) ⟨0, _, _, _, _, _, by omega, rfl, j2, j3⟩ ?_
  clear j2 j3 l1 l2 l3
  rintro _ ⟨i, H, v10, v13, v14, v15, hi, rfl, h2, h3⟩
  have q3 := ob_lt h3
  have h2' := h2
  have h3' := h3
  simp only [dLat] at h2' h3'
  have hsplit : ((A.take i).filter fun a => befK k (keyOf a)) ++ ((A.drop i).filter fun a => befK k (keyOf a)) = B := by
    rw [← List.filter_append, List.take_append_drop, hAB]
  obtain ⟨m, hmm⟩ : ∃ m, m = ((A.take i).filter fun a => befK k (keyOf a)).length := ⟨_, rfl⟩
  have hmb : m ≤ 1000 := by rw [hmm]; have := List.length_filter_le (fun a => befK k (keyOf a)) (A.take i); simp at this; omega
  rw [← hmm]
  have hw : IntKind.i64.wrap ((i : Int) + 1) = ((i + 1 : Nat) : Int) := by rw [wrap64 (by omega) (by omega)]; simp
  have hwm : IntKind.i64.wrap ((m : Int) + 1) = ((m + 1 : Nat) : Int) := by rw [wrap64 (by omega) (by omega)]; simp
  have hwk : IntKind.i64.wrap (2 * (k : Int)) = 2 * (k : Int) := wrap64 (by omega) (by omega)
  have hwk2 : IntKind.i64.wrap (2 * (k : Int) - 1) = 2 * (k : Int) - 1 := wrap64 (by omega) (by omega)
  rcases Nat.lt_or_ge i A.length with hil | hil
  · obtain ⟨a, hae⟩ : ∃ a, a = A[i] := ⟨_, rfl⟩
    have hdr : A.drop i = a :: A.drop (i + 1) := by rw [hae]; exact List.drop_eq_getElem_cons hil
    have htk : (A.take (i + 1)).filter (fun a => befK k (keyOf a)) = (A.take i).filter (fun a => befK k (keyOf a)) ++ [a].filter (fun a => befK k (keyOf a)) := by
      rw [List.take_add_one, List.getElem?_eq_getElem hil, List.filter_append, hae]; rfl
    repeat' (first | (with_reducible first | refine st_reg ?_ | refine sN (by conv => lhs; simp [litV, litE, litOb, toDL, AV.toD, AV.norm, List.replicate, fillC, fillOb, AV.mkAgg, AV.allD, AV.cells, DV.cells, dLat, h2', hil, getD_map_lt, dArc, ← hae]) ?_ | refine rN ?_ ?_ | refine rO ?_ ?_ | refine rF ?_ ?_ | refine sG (by conv => lhs; simp [litV, litE, litOb, toDL, AV.toD, AV.norm, List.replicate, fillC, fillOb, AV.mkAgg, AV.allD, AV.cells, DV.cells, dLat, h2', hil, getD_map_lt, dArc, ← hae]) ?_ | refine gF ?_ | refine gS rfl (by conv => lhs; simp [litV, litE, litOb, toDL, AV.toD, AV.norm, List.replicate, fillC, fillOb, AV.mkAgg, AV.allD, AV.cells, DV.cells, dLat, h2', hil, getD_map_lt, dArc, ← hae]) ?_ ?_ | (refine st_gef0 ?_ ?_; focus (conv => (lhs; simp [litV, litE, litOb, toDL, AV.toD, AV.norm, List.replicate, fillC, fillOb, AV.mkAgg, AV.allD, AV.cells, DV.cells, dLat, h2', hil, getD_map_lt, dArc, ← hae])); done) | refine sE (by conv => lhs; simp) ?_ | refine Nx.go ?_ | refine st_blke' (by decide) ?_ | refine st_seq ?_ | refine st_blk ?_ | refine st_cond (by conv => lhs; simp) (by conv => lhs; simp [litV, litE, litOb, toDL, AV.toD, AV.norm, List.replicate, fillC, fillOb, AV.mkAgg, AV.allD, AV.cells, DV.cells, dLat, h2', hil, getD_map_lt, dArc, ← hae]) ?_ ?_ ?_ | refine st_lexit ?_) | (intro h_; try simp only [reduceCtorEq, y1, y2, y3, y4, y5, y6, y7, y8, y9, z1, z2, z3, z4, z5, z6, z7, ne_eq] at h_))
    all_goals try (first | contradiction | exact True.intro | omega | rfl | (simp [AV.fits, AV.cells, AV.one, DV.fits, DV.cells, DV.one, DV.conf, confL, DV.conf1]; done) | (simp [AV.fits, AV.cells, AV.one, DV.fits, DV.cells, DV.one, DV.conf, confL, DV.conf1, *] <;> omega))
    refine st_e (stA_store ⟨by simp, trivial⟩ (by conv => lhs; simp) (by conv => lhs; simp [getD_map_lt, hil, dArc, ← hae]) (arrOf_ob ob_new) (by simp) (by simp [AV.fits, DV.fits, DV.cells, DV.one]) updA_whole (by simp [AV.fits, DV.fits, DV.cells, DV.one]) (fun H4 hW => ⟨trivial, ?_⟩))
    have l4 := hW.len
    simp at l4
    have k2 := hW.ob' (by omega) (ob_old h2)
    have k3 := hW.ob' (by omega) (ob_old h3)
    have ka := hW.self
    simp only [List.set_cons_zero] at ka
    clear hW
    have k3' := k3
    simp only [dLat] at k3'
    rcases hb : befK k (keyOf a) with _ | _
    · have hto : a.to > 2 * (k : Int) ∨ a.to = 2 * (k : Int) - 1 := by
        exact Classical.byContradiction fun hn => by
          have := (befK_iff k (keyOf a)).2 hn
          rw [hb] at this; cases this
      have hcn : ((A.take (i + 1)).filter fun a => befK k (keyOf a)).length = m := by rw [htk, List.filter_cons_of_neg (by simp [hb])]; simp [hmm]
      rcases hto with h | h
      · skip
        repeat' (first | (with_reducible first | refine st_reg ?_ | refine sN (by conv => lhs; simp [litV, litE, litOb, toDL, AV.toD, AV.norm, List.replicate, fillC, fillOb, AV.mkAgg, AV.allD, AV.cells, DV.cells, ka, hwk, h, hw]) ?_ | refine rN ?_ ?_ | refine rO ?_ ?_ | refine rF ?_ ?_ | refine sG (by conv => lhs; simp [litV, litE, litOb, toDL, AV.toD, AV.norm, List.replicate, fillC, fillOb, AV.mkAgg, AV.allD, AV.cells, DV.cells, ka, hwk, h, hw]) ?_ | refine gF ?_ | refine gS rfl (by conv => lhs; simp [litV, litE, litOb, toDL, AV.toD, AV.norm, List.replicate, fillC, fillOb, AV.mkAgg, AV.allD, AV.cells, DV.cells, ka, hwk, h, hw]) ?_ ?_ | (refine st_gef0 ?_ ?_; focus (conv => (lhs; simp [litV, litE, litOb, toDL, AV.toD, AV.norm, List.replicate, fillC, fillOb, AV.mkAgg, AV.allD, AV.cells, DV.cells, ka, hwk, h, hw])); done) | refine sE (by conv => lhs; simp) ?_ | refine Nx.go ?_ | refine st_blke' (by decide) ?_ | refine st_seq ?_ | refine st_blk ?_ | refine st_cond (by conv => lhs; simp) (by conv => lhs; simp [litV, litE, litOb, toDL, AV.toD, AV.norm, List.replicate, fillC, fillOb, AV.mkAgg, AV.allD, AV.cells, DV.cells, ka, hwk, h, hw]) ?_ ?_ ?_ | refine st_lexit ?_) | (intro h_; try simp only [reduceCtorEq, y1, y2, y3, y4, y5, y6, y7, y8, y9, z1, z2, z3, z4, z5, z6, z7, ne_eq] at h_))
        all_goals try (first | contradiction | exact True.intro | omega | rfl | (simp [AV.fits, AV.cells, AV.one, DV.fits, DV.cells, DV.one, DV.conf, confL, DV.conf1]; done) | (simp [AV.fits, AV.cells, AV.one, DV.fits, DV.cells, DV.one, DV.conf, confL, DV.conf1, *] <;> omega))
        refine st_lnormw (ys := [.d (dInp x), .d (.int .u8 c), .undef, .undef, .d (.int .i64 k), .undef, .ptr 2 0 0, .ptr 3 0 0, .d (.int .i64 m), .d (.int .i64 (i + 1 : Nat)), .undef, .undef, .undef, .undef, .undef, .undef]) (by simp [weak])
          ⟨i + 1, H4, _, _, _, _, by omega, by rw [hcn], k2, k3⟩ (by simp [St.int]; omega)
      · have h1 : ¬ 2 * (k : Int) < a.to := by omega
        repeat' (first | (with_reducible first | refine st_reg ?_ | refine sN (by conv => lhs; simp [litV, litE, litOb, toDL, AV.toD, AV.norm, List.replicate, fillC, fillOb, AV.mkAgg, AV.allD, AV.cells, DV.cells, ka, hwk, hwk2, h1, h, hw]) ?_ | refine rN ?_ ?_ | refine rO ?_ ?_ | refine rF ?_ ?_ | refine sG (by conv => lhs; simp [litV, litE, litOb, toDL, AV.toD, AV.norm, List.replicate, fillC, fillOb, AV.mkAgg, AV.allD, AV.cells, DV.cells, ka, hwk, hwk2, h1, h, hw]) ?_ | refine gF ?_ | refine gS rfl (by conv => lhs; simp [litV, litE, litOb, toDL, AV.toD, AV.norm, List.replicate, fillC, fillOb, AV.mkAgg, AV.allD, AV.cells, DV.cells, ka, hwk, hwk2, h1, h, hw]) ?_ ?_ | (refine st_gef0 ?_ ?_; focus (conv => (lhs; simp [litV, litE, litOb, toDL, AV.toD, AV.norm, List.replicate, fillC, fillOb, AV.mkAgg, AV.allD, AV.cells, DV.cells, ka, hwk, hwk2, h1, h, hw])); done) | refine sE (by conv => lhs; simp) ?_ | refine Nx.go ?_ | refine st_blke' (by decide) ?_ | refine st_seq ?_ | refine st_blk ?_ | refine st_cond (by conv => lhs; simp) (by conv => lhs; simp [litV, litE, litOb, toDL, AV.toD, AV.norm, List.replicate, fillC, fillOb, AV.mkAgg, AV.allD, AV.cells, DV.cells, ka, hwk, hwk2, h1, h, hw]) ?_ ?_ ?_ | refine st_lexit ?_) | (intro h_; try simp only [reduceCtorEq, y1, y2, y3, y4, y5, y6, y7, y8, y9, z1, z2, z3, z4, z5, z6, z7, ne_eq] at h_))
        all_goals try (first | contradiction | exact True.intro | omega | rfl | (simp [AV.fits, AV.cells, AV.one, DV.fits, DV.cells, DV.one, DV.conf, confL, DV.conf1]; done) | (simp [AV.fits, AV.cells, AV.one, DV.fits, DV.cells, DV.one, DV.conf, confL, DV.conf1, *] <;> omega))
        refine st_lnormw (ys := [.d (dInp x), .d (.int .u8 c), .undef, .undef, .d (.int .i64 k), .undef, .ptr 2 0 0, .ptr 3 0 0, .d (.int .i64 m), .d (.int .i64 (i + 1 : Nat)), .undef, .undef, .undef, .undef, .undef, .undef]) (by simp [weak])
          ⟨i + 1, H4, _, _, _, _, by omega, by rw [hcn], k2, k3⟩ (by simp [St.int]; omega)
    · have hto : ¬ (a.to > 2 * (k : Int) ∨ a.to = 2 * (k : Int) - 1) := by
        simpa [keyOf] using (befK_iff k (keyOf a)).1 hb
      have h1 : ¬ 2 * (k : Int) < a.to := by omega
      have h2n : ¬ a.to = 2 * (k : Int) - 1 := by omega
      have hcn : ((A.take (i + 1)).filter fun a => befK k (keyOf a)).length = m + 1 := by rw [htk, List.filter_cons_of_pos (by simp [hb])]; simp [hmm]
      have hBm : B[m]? = some a := by
        rw [← hsplit, hmm, List.getElem?_append_right (Nat.le_refl _), Nat.sub_self, hdr, List.filter_cons_of_pos (by simp [hb])]; rfl
      have hml := (List.getElem?_eq_some_iff.1 hBm).1
      have hBa : B[m] = a := (List.getElem?_eq_some_iff.1 hBm).2
      have hmn : ¬ B.length ≤ m := by omega
      repeat' (first | (with_reducible first | refine st_reg ?_ | refine sN (by conv => lhs; simp [litV, litE, litOb, toDL, AV.toD, AV.norm, List.replicate, fillC, fillOb, AV.mkAgg, AV.allD, AV.cells, DV.cells, ka, hwk, hwk2, h1, h2n, k3', hml, hmn, getD_map_lt, hBa, dArc]) ?_ | refine rN ?_ ?_ | refine rO ?_ ?_ | refine rF ?_ ?_ | refine sG (by conv => lhs; simp [litV, litE, litOb, toDL, AV.toD, AV.norm, List.replicate, fillC, fillOb, AV.mkAgg, AV.allD, AV.cells, DV.cells, ka, hwk, hwk2, h1, h2n, k3', hml, hmn, getD_map_lt, hBa, dArc]) ?_ | refine gF ?_ | refine gS rfl (by conv => lhs; simp [litV, litE, litOb, toDL, AV.toD, AV.norm, List.replicate, fillC, fillOb, AV.mkAgg, AV.allD, AV.cells, DV.cells, ka, hwk, hwk2, h1, h2n, k3', hml, hmn, getD_map_lt, hBa, dArc]) ?_ ?_ | (refine st_gef0 ?_ ?_; focus (conv => (lhs; simp [litV, litE, litOb, toDL, AV.toD, AV.norm, List.replicate, fillC, fillOb, AV.mkAgg, AV.allD, AV.cells, DV.cells, ka, hwk, hwk2, h1, h2n, k3', hml, hmn, getD_map_lt, hBa, dArc])); done) | refine sE (by conv => lhs; simp) ?_ | refine Nx.go ?_ | refine st_blke' (by decide) ?_ | refine st_seq ?_ | refine st_blk ?_ | refine st_cond (by conv => lhs; simp) (by conv => lhs; simp [litV, litE, litOb, toDL, AV.toD, AV.norm, List.replicate, fillC, fillOb, AV.mkAgg, AV.allD, AV.cells, DV.cells, ka, hwk, hwk2, h1, h2n, k3', hml, hmn, getD_map_lt, hBa, dArc]) ?_ ?_ ?_ | refine st_lexit ?_) | (intro h_; try simp only [reduceCtorEq, y1, y2, y3, y4, y5, y6, y7, y8, y9, z1, z2, z3, z4, z5, z6, z7, ne_eq] at h_))
      all_goals try (first | contradiction | exact True.intro | omega | rfl | (simp [AV.fits, AV.cells, AV.one, DV.fits, DV.cells, DV.one, DV.conf, confL, DV.conf1]; done) | (simp [AV.fits, AV.cells, AV.one, DV.fits, DV.cells, DV.one, DV.conf, confL, DV.conf1, *] <;> omega))
      refine st_get (by conv => lhs; simp) (st_call (by simp [solidOk]) (by conv => lhs; simp) (SameArc23 a a (by have := hAo a (hae ▸ List.getElem_mem hil); omega)) (by exact ⟨.inl rfl, .inl rfl, trivial⟩) (pendOk_refl _) ?_)
      repeat' (first | (with_reducible first | refine st_reg ?_ | refine sN (by conv => lhs; simp [hw, hwm]) ?_ | refine rN ?_ ?_ | refine rO ?_ ?_ | refine rF ?_ ?_ | refine sG (by conv => lhs; simp [hw, hwm]) ?_ | refine gF ?_ | refine gS rfl (by conv => lhs; simp [hw, hwm]) ?_ ?_ | (refine st_gef0 ?_ ?_; focus (conv => (lhs; simp [hw, hwm])); done) | refine sE (by conv => lhs; simp) ?_ | refine Nx.go ?_ | refine st_blke' (by decide) ?_ | refine st_seq ?_ | refine st_blk ?_ | refine st_cond (by conv => lhs; simp) (by conv => lhs; simp [hw, hwm]) ?_ ?_ ?_ | refine st_lexit ?_) | (intro h_; try simp only [reduceCtorEq, y1, y2, y3, y4, y5, y6, y7, y8, y9, z1, z2, z3, z4, z5, z6, z7, ne_eq] at h_))
      all_goals try (first | contradiction | exact True.intro | omega | rfl | (simp [AV.fits, AV.cells, AV.one, DV.fits, DV.cells, DV.one, DV.conf, confL, DV.conf1]; done) | (simp [AV.fits, AV.cells, AV.one, DV.fits, DV.cells, DV.one, DV.conf, confL, DV.conf1, *] <;> omega))
      refine st_lnormw (ys := [.d (dInp x), .d (.int .u8 c), .undef, .undef, .d (.int .i64 k), .undef, .ptr 2 0 0, .ptr 3 0 0, .d (.int .i64 (m + 1 : Nat)), .d (.int .i64 (i + 1 : Nat)), .undef, .undef, .undef, .undef, .undef, .undef]) (by simp [weak])
        ⟨i + 1, H4, _, _, _, _, by omega, by rw [hcn], k2, k3⟩ (by simp [St.int]; omega)
  · have hin : i = A.length := by omega
    have hmB : m = B.length := by rw [hmm, hin, List.take_length, hAB]
    repeat' (first | (with_reducible first | refine st_reg ?_ | refine sN (by conv => lhs; simp [litV, litE, litOb, toDL, AV.toD, AV.norm, List.replicate, fillC, fillOb, AV.mkAgg, AV.allD, AV.cells, DV.cells, h2', h3', hil, hmB]) ?_ | refine rN ?_ ?_ | refine rO ?_ ?_ | refine rF ?_ ?_ | refine sG (by conv => lhs; simp [litV, litE, litOb, toDL, AV.toD, AV.norm, List.replicate, fillC, fillOb, AV.mkAgg, AV.allD, AV.cells, DV.cells, h2', h3', hil, hmB]) ?_ | refine gF ?_ | refine gS rfl (by conv => lhs; simp [litV, litE, litOb, toDL, AV.toD, AV.norm, List.replicate, fillC, fillOb, AV.mkAgg, AV.allD, AV.cells, DV.cells, h2', h3', hil, hmB]) ?_ ?_ | (refine st_gef0 ?_ ?_; focus (conv => (lhs; simp [litV, litE, litOb, toDL, AV.toD, AV.norm, List.replicate, fillC, fillOb, AV.mkAgg, AV.allD, AV.cells, DV.cells, h2', h3', hil, hmB])); done) | refine sE (by conv => lhs; simp) ?_ | refine Nx.go ?_ | refine st_blke' (by decide) ?_ | refine st_seq ?_ | refine st_blk ?_ | refine st_cond (by conv => lhs; simp) (by conv => lhs; simp [litV, litE, litOb, toDL, AV.toD, AV.norm, List.replicate, fillC, fillOb, AV.mkAgg, AV.allD, AV.cells, DV.cells, h2', h3', hil, hmB]) ?_ ?_ ?_ | refine st_lexit ?_) | (intro h_; try simp only [reduceCtorEq, y1, y2, y3, y4, y5, y6, y7, y8, y9, z1, z2, z3, z4, z5, z6, z7, ne_eq] at h_))
    all_goals try (first | contradiction | exact True.intro | omega | rfl | (simp [AV.fits, AV.cells, AV.one, DV.fits, DV.cells, DV.one, DV.conf, confL, DV.conf1]; done) | (simp [AV.fits, AV.cells, AV.one, DV.fits, DV.cells, DV.one, DV.conf, confL, DV.conf1, *] <;> omega))
    exact atEnd_pure ⟨trivial, trivial⟩ rfl rfl

theorem dist_bd {l : Lat} (hl : WL l) (y : List Int) : 0 ≤ distL l y ∧ distL l y ≤ 1099511627776 := by
  have hb := Bd.toks hl y (at0 l) (Bd.at0 l)
  constructor
  · rw [le_dist]
    refine ⟨by omega, fun s hs => ?_⟩
    have h1 := hb.get hs
    have h2 := getD_bd (P := fun f => 0 ≤ f ∧ f ≤ 1099511627776) hs hl.fin
    unfold atL; omega
  · exact (le_dist.1 (Int.le_refl _)).1
theorem law8 (x : Inp) (y : List Int) : Pure prog 8 [.d (dInp x), .d (.vs (y.map dI))] (.d (.bool true)) := by
  refine fn_of e8 hm (by rfl) (vs := [.d (dInp x), .d (.vs (y.map dI)), .undef, .undef, .undef, .undef, .undef, .undef]) rfl ?_
  unfold c8
  repeat' (first | (with_reducible first | refine st_reg ?_ | refine sN (by conv => lhs; simp [dInp]) ?_ | refine rN ?_ ?_ | refine rO ?_ ?_ | refine rF ?_ ?_ | refine sG (by conv => lhs; simp [dInp]) ?_ | refine gF ?_ | refine gS rfl (by conv => lhs; simp [dInp]) ?_ ?_ | (refine st_gef0 ?_ ?_; focus (conv => (lhs; simp [dInp])); done) | refine sE (by conv => lhs; simp) ?_ | refine Nx.go ?_ | refine st_blke' (by decide) ?_ | refine st_seq ?_ | refine st_blk ?_ | refine st_cond (by conv => lhs; simp) (by conv => lhs; simp [dInp]) ?_ ?_ ?_ | refine st_lexit ?_) | (intro h_; try simp only [reduceCtorEq, y1, y2, y3, y4, y5, y6, y7, y8, y9, z1, z2, z3, z4, z5, z6, z7, ne_eq] at h_))
  all_goals try (first | contradiction | exact True.intro | omega | rfl | (simp [AV.fits, AV.cells, AV.one, DV.fits, DV.cells, DV.one, DV.conf, confL, DV.conf1]; done) | (simp [AV.fits, AV.cells, AV.one, DV.fits, DV.cells, DV.one, DV.conf, confL, DV.conf1, *] <;> omega))
  refine st_e (st_call (xs := []) (ys := []) (by simp [solidOk]) (by simp) awake10 (by simp [argsM, AV.ren]) (pendOk_refl _) ?_)
  repeat' (first | (with_reducible first | refine st_reg ?_ | refine sN (by conv => lhs; simp [dInp]) ?_ | refine rN ?_ ?_ | refine rO ?_ ?_ | refine rF ?_ ?_ | refine sG (by conv => lhs; simp [dInp]) ?_ | refine gF ?_ | refine gS rfl (by conv => lhs; simp [dInp]) ?_ ?_ | (refine st_gef0 ?_ ?_; focus (conv => (lhs; simp [dInp])); done) | refine sE (by conv => lhs; simp) ?_ | refine Nx.go ?_ | refine st_blke' (by decide) ?_ | refine st_seq ?_ | refine st_blk ?_ | refine st_cond (by conv => lhs; simp) (by conv => lhs; simp [dInp]) ?_ ?_ ?_ | refine st_lexit ?_) | (intro h_; try simp only [reduceCtorEq, y1, y2, y3, y4, y5, y6, y7, y8, y9, z1, z2, z3, z4, z5, z6, z7, ne_eq] at h_))
  all_goals try (first | contradiction | exact True.intro | omega | rfl | (simp [AV.fits, AV.cells, AV.one, DV.fits, DV.cells, DV.one, DV.conf, confL, DV.conf1]; done) | (simp [AV.fits, AV.cells, AV.one, DV.fits, DV.cells, DV.one, DV.conf, confL, DV.conf1, *] <;> omega))
  refine st_e (st_call (by simp [solidOk]) (by conv => lhs; simp) (fair11 x 6) (by exact ⟨.inl rfl, .inl rfl, trivial⟩) (pendOk_refl _) ?_)
  rcases hf : fairB x 6 with _ | _
  · skip
    repeat' (first | (with_reducible first | refine st_reg ?_ | refine sN (by conv => lhs; simp [dInp]) ?_ | refine rN ?_ ?_ | refine rO ?_ ?_ | refine rF ?_ ?_ | refine sG (by conv => lhs; simp [dInp]) ?_ | refine gF ?_ | refine gS rfl (by conv => lhs; simp [dInp]) ?_ ?_ | (refine st_gef0 ?_ ?_; focus (conv => (lhs; simp [dInp])); done) | refine sE (by conv => lhs; simp) ?_ | refine Nx.go ?_ | refine st_blke' (by decide) ?_ | refine st_seq ?_ | refine st_blk ?_ | refine st_cond (by conv => lhs; simp) (by conv => lhs; simp [dInp]) ?_ ?_ ?_ | refine st_lexit ?_) | (intro h_; try simp only [reduceCtorEq, y1, y2, y3, y4, y5, y6, y7, y8, y9, z1, z2, z3, z4, z5, z6, z7, ne_eq] at h_))
    all_goals try (first | contradiction | exact True.intro | omega | rfl | (simp [AV.fits, AV.cells, AV.one, DV.fits, DV.cells, DV.one, DV.conf, confL, DV.conf1]; done) | (simp [AV.fits, AV.cells, AV.one, DV.fits, DV.cells, DV.one, DV.conf, confL, DV.conf1, *] <;> omega))
    exact atEnd_pure ⟨trivial, trivial⟩ rfl rfl
  by_cases g1 : x.cols.length = 0
  · skip
    repeat' (first | (with_reducible first | refine st_reg ?_ | refine sN (by conv => lhs; simp [dInp, g1]) ?_ | refine rN ?_ ?_ | refine rO ?_ ?_ | refine rF ?_ ?_ | refine sG (by conv => lhs; simp [dInp, g1]) ?_ | refine gF ?_ | refine gS rfl (by conv => lhs; simp [dInp, g1]) ?_ ?_ | (refine st_gef0 ?_ ?_; focus (conv => (lhs; simp [dInp, g1])); done) | refine sE (by conv => lhs; simp) ?_ | refine Nx.go ?_ | refine st_blke' (by decide) ?_ | refine st_seq ?_ | refine st_blk ?_ | refine st_cond (by conv => lhs; simp) (by conv => lhs; simp [dInp, g1]) ?_ ?_ ?_ | refine st_lexit ?_) | (intro h_; try simp only [reduceCtorEq, y1, y2, y3, y4, y5, y6, y7, y8, y9, z1, z2, z3, z4, z5, z6, z7, ne_eq] at h_))
    all_goals try (first | contradiction | exact True.intro | omega | rfl | (simp [AV.fits, AV.cells, AV.one, DV.fits, DV.cells, DV.one, DV.conf, confL, DV.conf1]; done) | (simp [AV.fits, AV.cells, AV.one, DV.fits, DV.cells, DV.one, DV.conf, confL, DV.conf1, *] <;> omega))
    exact atEnd_pure ⟨trivial, trivial⟩ rfl rfl
  by_cases g2 : (6 : Int) < y.length
  · skip
    repeat' (first | (with_reducible first | refine st_reg ?_ | refine sN (by conv => lhs; simp [dInp, g1, g2]) ?_ | refine rN ?_ ?_ | refine rO ?_ ?_ | refine rF ?_ ?_ | refine sG (by conv => lhs; simp [dInp, g1, g2]) ?_ | refine gF ?_ | refine gS rfl (by conv => lhs; simp [dInp, g1, g2]) ?_ ?_ | (refine st_gef0 ?_ ?_; focus (conv => (lhs; simp [dInp, g1, g2])); done) | refine sE (by conv => lhs; simp) ?_ | refine Nx.go ?_ | refine st_blke' (by decide) ?_ | refine st_seq ?_ | refine st_blk ?_ | refine st_cond (by conv => lhs; simp) (by conv => lhs; simp [dInp, g1, g2]) ?_ ?_ ?_ | refine st_lexit ?_) | (intro h_; try simp only [reduceCtorEq, y1, y2, y3, y4, y5, y6, y7, y8, y9, z1, z2, z3, z4, z5, z6, z7, ne_eq] at h_))
    all_goals try (first | contradiction | exact True.intro | omega | rfl | (simp [AV.fits, AV.cells, AV.one, DV.fits, DV.cells, DV.one, DV.conf, confL, DV.conf1]; done) | (simp [AV.fits, AV.cells, AV.one, DV.fits, DV.cells, DV.one, DV.conf, confL, DV.conf1, *] <;> omega))
    exact atEnd_pure ⟨trivial, trivial⟩ rfl rfl
  obtain ⟨hx, hn, ht⟩ := wf_of_fair hf
  have hn : x.cols.length ≤ 8 := by omega
  repeat' (first | (with_reducible first | refine st_reg ?_ | refine sN (by conv => lhs; simp [dInp, g1, g2]) ?_ | refine rN ?_ ?_ | refine rO ?_ ?_ | refine rF ?_ ?_ | refine sG (by conv => lhs; simp [dInp, g1, g2]) ?_ | refine gF ?_ | refine gS rfl (by conv => lhs; simp [dInp, g1, g2]) ?_ ?_ | (refine st_gef0 ?_ ?_; focus (conv => (lhs; simp [dInp, g1, g2])); done) | refine sE (by conv => lhs; simp) ?_ | refine Nx.go ?_ | refine st_blke' (by decide) ?_ | refine st_seq ?_ | refine st_blk ?_ | refine st_cond (by conv => lhs; simp) (by conv => lhs; simp [dInp, g1, g2]) ?_ ?_ ?_ | refine st_lexit ?_) | (intro h_; try simp only [reduceCtorEq, y1, y2, y3, y4, y5, y6, y7, y8, y9, z1, z2, z3, z4, z5, z6, z7, ne_eq] at h_))
  all_goals try (first | contradiction | exact True.intro | omega | rfl | (simp [AV.fits, AV.cells, AV.one, DV.fits, DV.cells, DV.one, DV.conf, confL, DV.conf1]; done) | (simp [AV.fits, AV.cells, AV.one, DV.fits, DV.cells, DV.one, DV.conf, confL, DV.conf1, *] <;> omega))
  refine st_get (by conv => lhs; simp) (st_call (by simp [solidOk]) (by conv => lhs; simp) (below17 y x.insert.length (by omega)) (by exact ⟨.inl rfl, .inl rfl, trivial⟩) (pendOk_refl _) ?_)
  rcases hb : y.all (okT x.insert.length) with _ | _
  · skip
    repeat' (first | (with_reducible first | refine st_reg ?_ | refine sN (by conv => lhs; simp [dInp]) ?_ | refine rN ?_ ?_ | refine rO ?_ ?_ | refine rF ?_ ?_ | refine sG (by conv => lhs; simp [dInp]) ?_ | refine gF ?_ | refine gS rfl (by conv => lhs; simp [dInp]) ?_ ?_ | (refine st_gef0 ?_ ?_; focus (conv => (lhs; simp [dInp])); done) | refine sE (by conv => lhs; simp) ?_ | refine Nx.go ?_ | refine st_blke' (by decide) ?_ | refine st_seq ?_ | refine st_blk ?_ | refine st_cond (by conv => lhs; simp) (by conv => lhs; simp [dInp]) ?_ ?_ ?_ | refine st_lexit ?_) | (intro h_; try simp only [reduceCtorEq, y1, y2, y3, y4, y5, y6, y7, y8, y9, z1, z2, z3, z4, z5, z6, z7, ne_eq] at h_))
    all_goals try (first | contradiction | exact True.intro | omega | rfl | (simp [AV.fits, AV.cells, AV.one, DV.fits, DV.cells, DV.one, DV.conf, confL, DV.conf1]; done) | (simp [AV.fits, AV.cells, AV.one, DV.fits, DV.cells, DV.one, DV.conf, confL, DV.conf1, *] <;> omega))
    exact atEnd_pure ⟨trivial, trivial⟩ rfl rfl
  obtain ⟨k, hk⟩ : ∃ k, k = x.cols.length - 1 := ⟨_, rfl⟩
  have hkl : k < x.cols.length := by omega
  have hkl' : k ≤ x.cols.length := by omega
  have hw1 : IntKind.i64.wrap ((x.cols.length : Int) - 1) = (k : Int) := by rw [wrap64 (by omega) (by omega)]; omega
  have hcut := cut_len hkl'
  have hxc := cut_wf hx k
  have hfitC : ∀ z ∈ x.cols.map dCol, z.fits 3 = true := by
    intro z hz
    obtain ⟨q, _, rfl⟩ := List.mem_map.1 hz
    rfl
  repeat' (first | (with_reducible first | refine st_reg ?_ | refine sN (by conv => lhs; simp [dInp, hw1]) ?_ | refine rN ?_ ?_ | refine rO ?_ ?_ | refine rF ?_ ?_ | refine sG (by conv => lhs; simp [dInp, hw1]) ?_ | refine gF ?_ | refine gS rfl (by conv => lhs; simp [dInp, hw1]) ?_ ?_ | (refine st_gef0 ?_ ?_; focus (conv => (lhs; simp [dInp, hw1])); done) | refine sE (by conv => lhs; simp) ?_ | refine Nx.go ?_ | refine st_blke' (by decide) ?_ | refine st_seq ?_ | refine st_blk ?_ | refine st_cond (by conv => lhs; simp) (by conv => lhs; simp [dInp, hw1]) ?_ ?_ ?_ | refine st_lexit ?_) | (intro h_; try simp only [reduceCtorEq, y1, y2, y3, y4, y5, y6, y7, y8, y9, z1, z2, z3, z4, z5, z6, z7, ne_eq] at h_))
  all_goals try (first | contradiction | exact True.intro | omega | rfl | (simp [AV.fits, AV.cells, AV.one, DV.fits, DV.cells, DV.one, DV.conf, confL, DV.conf1]; done) | (simp [AV.fits, AV.cells, AV.one, DV.fits, DV.cells, DV.one, DV.conf, confL, DV.conf1, *] <;> omega))
  refine st_e (st_store ⟨by simp, trivial⟩ (by conv => lhs; simp) (by conv => lhs; simp) rfl (by simp) (by first | assumption | simp [AV.fits, DV.fits, DV.cells, DV.one]) updA_whole (by first | assumption | simp [AV.fits, DV.fits, DV.cells, DV.one]) ⟨trivial, ?_⟩); simp only [List.set_cons_zero, List.set_cons_succ]
  repeat' (first | (with_reducible first | refine st_reg ?_ | refine sN (by conv => lhs; simp [dInp, hw1, hkl', hfitC]) ?_ | refine rN ?_ ?_ | refine rO ?_ ?_ | refine rF ?_ ?_ | refine sG (by conv => lhs; simp [dInp, hw1, hkl', hfitC]) ?_ | refine gF ?_ | refine gS rfl (by conv => lhs; simp [dInp, hw1, hkl', hfitC]) ?_ ?_ | (refine st_gef0 ?_ ?_; focus (conv => (lhs; simp [dInp, hw1, hkl', hfitC])); done) | refine sE (by conv => lhs; simp) ?_ | refine Nx.go ?_ | refine st_blke' (by decide) ?_ | refine st_seq ?_ | refine st_blk ?_ | refine st_cond (by conv => lhs; simp) (by conv => lhs; simp [dInp, hw1, hkl', hfitC]) ?_ ?_ ?_ | refine st_lexit ?_) | (intro h_; try simp only [reduceCtorEq, y1, y2, y3, y4, y5, y6, y7, y8, y9, z1, z2, z3, z4, z5, z6, z7, ne_eq] at h_))
  all_goals try (first | contradiction | exact True.intro | omega | rfl | (simp [AV.fits, AV.cells, AV.one, DV.fits, DV.cells, DV.one, DV.conf, confL, DV.conf1]; done) | (simp [AV.fits, AV.cells, AV.one, DV.fits, DV.cells, DV.one, DV.conf, confL, DV.conf1, *] <;> omega))
  refine st_e (st_storeE (id := 1) (ix := 0) (o := 0) (sz := 3) (es' := [.d (dInp (cut x k))]) (by simp) (by conv => lhs; simp) (by conv => lhs; simp) rfl (by simp) (by simp [AV.fits, DV.fits, DV.cells, DV.one]) ?_ (by simp [updA, AV.mkAgg, AV.allD, AV.cells, DV.cells, AV.fits, DV.fits, DV.one]) ?_)
  · simp [updA, AV.mkAgg, AV.allD, AV.cells, DV.cells, cut, List.map_take]
  intro H1 hW
  have l1 := hW.len
  simp at l1
  have g0 : H1.ob 0 = some (.arr 3 [.d (dInp x)]) := hW.ob' (by omega) rfl
  have g1 := hW.self
  clear hW
  have g0' := g0
  have g1' := g1
  simp only [dInp] at g0' g1'
  obtain ⟨dc, hdc⟩ : ∃ dc, dc = x.cols[k] := ⟨_, rfl⟩
  have hd := hx.cols _ (List.getElem_mem hkl)
  rw [← hdc] at hd
  repeat' (first | (with_reducible first | refine st_reg ?_ | refine sN (by conv => lhs; simp [g0', hw1, hkl, getD_map_lt, ← hdc]) ?_ | refine rN ?_ ?_ | refine rO ?_ ?_ | refine rF ?_ ?_ | refine sG (by conv => lhs; simp [g0', hw1, hkl, getD_map_lt, ← hdc]) ?_ | refine gF ?_ | refine gS rfl (by conv => lhs; simp [g0', hw1, hkl, getD_map_lt, ← hdc]) ?_ ?_ | (refine st_gef0 ?_ ?_; focus (conv => (lhs; simp [g0', hw1, hkl, getD_map_lt, ← hdc])); done) | refine sE (by conv => lhs; simp) ?_ | refine Nx.go ?_ | refine st_blke' (by decide) ?_ | refine st_seq ?_ | refine st_blk ?_ | refine st_cond (by conv => lhs; simp) (by conv => lhs; simp [g0', hw1, hkl, getD_map_lt, ← hdc]) ?_ ?_ ?_ | refine st_lexit ?_) | (intro h_; try simp only [reduceCtorEq, y1, y2, y3, y4, y5, y6, y7, y8, y9, z1, z2, z3, z4, z5, z6, z7, ne_eq] at h_))
  all_goals try (first | contradiction | exact True.intro | omega | rfl | (simp [AV.fits, AV.cells, AV.one, DV.fits, DV.cells, DV.one, DV.conf, confL, DV.conf1]; done) | (simp [AV.fits, AV.cells, AV.one, DV.fits, DV.cells, DV.one, DV.conf, confL, DV.conf1, *] <;> omega))
  by_cases hdi : (1099511627776 : Int) ≤ dc.del
  · skip
    repeat' (first | (with_reducible first | refine st_reg ?_ | refine sN (by conv => lhs; simp [hdi]) ?_ | refine rN ?_ ?_ | refine rO ?_ ?_ | refine rF ?_ ?_ | refine sG (by conv => lhs; simp [hdi]) ?_ | refine gF ?_ | refine gS rfl (by conv => lhs; simp [hdi]) ?_ ?_ | (refine st_gef0 ?_ ?_; focus (conv => (lhs; simp [hdi])); done) | refine sE (by conv => lhs; simp) ?_ | refine Nx.go ?_ | refine st_blke' (by decide) ?_ | refine st_seq ?_ | refine st_blk ?_ | refine st_cond (by conv => lhs; simp) (by conv => lhs; simp [hdi]) ?_ ?_ ?_ | refine st_lexit ?_) | (intro h_; try simp only [reduceCtorEq, y1, y2, y3, y4, y5, y6, y7, y8, y9, z1, z2, z3, z4, z5, z6, z7, ne_eq] at h_))
    all_goals try (first | contradiction | exact True.intro | omega | rfl | (simp [AV.fits, AV.cells, AV.one, DV.fits, DV.cells, DV.one, DV.conf, confL, DV.conf1]; done) | (simp [AV.fits, AV.cells, AV.one, DV.fits, DV.cells, DV.one, DV.conf, confL, DV.conf1, *] <;> omega))
    exact atEnd_pure ⟨trivial, trivial⟩ rfl rfl
  have hdl : dc.del < 1099511627776 := Int.not_le.1 hdi
  have hdec : decide ((1099511627776 : Int) ≤ dc.del) = false := by simp; omega
  have hwl := wl_ref hx ht hn
  have hwl' := wl_ref hxc ht (by omega)
  have hb1 := dist_bd hwl y
  have hb2 := dist_bd hwl' y
  have hws : IntKind.i64.wrap (distL (refL (cut x k)) y + dc.del) = distL (refL (cut x k)) y + dc.del := wrap64 (by omega) (by omega)
  have htri : distL (refL x) y ≤ distL (refL (cut x k)) y + dc.del := by
    rw [hk]; exact triangle hx ht hn (by omega) y _ (by rw [hdc]; simp only [hk])
  repeat' (first | (with_reducible first | refine st_reg ?_ | refine sN (by conv => lhs; simp [hdec, g0', g1']) ?_ | refine rN ?_ ?_ | refine rO ?_ ?_ | refine rF ?_ ?_ | refine sG (by conv => lhs; simp [hdec, g0', g1']) ?_ | refine gF ?_ | refine gS rfl (by conv => lhs; simp [hdec, g0', g1']) ?_ ?_ | (refine st_gef0 ?_ ?_; focus (conv => (lhs; simp [hdec, g0', g1'])); done) | refine sE (by conv => lhs; simp) ?_ | refine Nx.go ?_ | refine st_blke' (by decide) ?_ | refine st_seq ?_ | refine st_blk ?_ | refine st_cond (by conv => lhs; simp) (by conv => lhs; simp [hdec, g0', g1']) ?_ ?_ ?_ | refine st_lexit ?_) | (intro h_; try simp only [reduceCtorEq, y1, y2, y3, y4, y5, y6, y7, y8, y9, z1, z2, z3, z4, z5, z6, z7, ne_eq] at h_))
  all_goals try (first | contradiction | exact True.intro | omega | rfl | (simp [AV.fits, AV.cells, AV.one, DV.fits, DV.cells, DV.one, DV.conf, confL, DV.conf1]; done) | (simp [AV.fits, AV.cells, AV.one, DV.fits, DV.cells, DV.one, DV.conf, confL, DV.conf1, *] <;> omega))
  refine st_get (by conv => lhs; simp [hdec]) (st_call (by simp [solidOk, hdl]) (by conv => lhs; simp [g0']) (Build12p x hx ht hn) (by exact ⟨.inl rfl, trivial⟩) (pendOk_refl _) ?_)
  repeat' (first | (with_reducible first | refine st_reg ?_ | refine sN (by conv => lhs; simp [hdec, g0', g1']) ?_ | refine rN ?_ ?_ | refine rO ?_ ?_ | refine rF ?_ ?_ | refine sG (by conv => lhs; simp [hdec, g0', g1']) ?_ | refine gF ?_ | refine gS rfl (by conv => lhs; simp [hdec, g0', g1']) ?_ ?_ | (refine st_gef0 ?_ ?_; focus (conv => (lhs; simp [hdec, g0', g1'])); done) | refine sE (by conv => lhs; simp) ?_ | refine Nx.go ?_ | refine st_blke' (by decide) ?_ | refine st_seq ?_ | refine st_blk ?_ | refine st_cond (by conv => lhs; simp) (by conv => lhs; simp [hdec, g0', g1']) ?_ ?_ ?_ | refine st_lexit ?_) | (intro h_; try simp only [reduceCtorEq, y1, y2, y3, y4, y5, y6, y7, y8, y9, z1, z2, z3, z4, z5, z6, z7, ne_eq] at h_))
  all_goals try (first | contradiction | exact True.intro | omega | rfl | (simp [AV.fits, AV.cells, AV.one, DV.fits, DV.cells, DV.one, DV.conf, confL, DV.conf1]; done) | (simp [AV.fits, AV.cells, AV.one, DV.fits, DV.cells, DV.one, DV.conf, confL, DV.conf1, *] <;> omega))
  refine st_get (by conv => lhs; simp [hdec]) (st_call (by simp [solidOk, hdl]) (by conv => lhs; simp) (Distance18 (refL x) y hwl (by omega)) (by exact ⟨.inl rfl, .inl rfl, trivial⟩) (pendOk_refl _) ?_)
  refine st_get (by conv => lhs; simp [hdec]) (st_call (by simp [solidOk, hdl]) (by conv => lhs; simp [g1']) (Build12p (cut x k) hxc ht (by omega)) (by exact ⟨.inl rfl, trivial⟩) (pendOk_refl _) ?_)
  repeat' (first | (with_reducible first | refine st_reg ?_ | refine sN (by conv => lhs; simp [hdec, g0', g1']) ?_ | refine rN ?_ ?_ | refine rO ?_ ?_ | refine rF ?_ ?_ | refine sG (by conv => lhs; simp [hdec, g0', g1']) ?_ | refine gF ?_ | refine gS rfl (by conv => lhs; simp [hdec, g0', g1']) ?_ ?_ | (refine st_gef0 ?_ ?_; focus (conv => (lhs; simp [hdec, g0', g1'])); done) | refine sE (by conv => lhs; simp) ?_ | refine Nx.go ?_ | refine st_blke' (by decide) ?_ | refine st_seq ?_ | refine st_blk ?_ | refine st_cond (by conv => lhs; simp) (by conv => lhs; simp [hdec, g0', g1']) ?_ ?_ ?_ | refine st_lexit ?_) | (intro h_; try simp only [reduceCtorEq, y1, y2, y3, y4, y5, y6, y7, y8, y9, z1, z2, z3, z4, z5, z6, z7, ne_eq] at h_))
  all_goals try (first | contradiction | exact True.intro | omega | rfl | (simp [AV.fits, AV.cells, AV.one, DV.fits, DV.cells, DV.one, DV.conf, confL, DV.conf1]; done) | (simp [AV.fits, AV.cells, AV.one, DV.fits, DV.cells, DV.one, DV.conf, confL, DV.conf1, *] <;> omega))
  refine st_get (by conv => lhs; simp [hdec]) (st_call (by simp [solidOk, hdl]) (by conv => lhs; simp) (Distance18 (refL (cut x k)) y hwl' (by omega)) (by exact ⟨.inl rfl, .inl rfl, trivial⟩) (pendOk_refl _) ?_)
  repeat' (first | (with_reducible first | refine st_reg ?_ | refine sN (by conv => lhs; simp [hdec, hws, htri]) ?_ | refine rN ?_ ?_ | refine rO ?_ ?_ | refine rF ?_ ?_ | refine sG (by conv => lhs; simp [hdec, hws, htri]) ?_ | refine gF ?_ | refine gS rfl (by conv => lhs; simp [hdec, hws, htri]) ?_ ?_ | (refine st_gef0 ?_ ?_; focus (conv => (lhs; simp [hdec, hws, htri])); done) | refine sE (by conv => lhs; simp) ?_ | refine Nx.go ?_ | refine st_blke' (by decide) ?_ | refine st_seq ?_ | refine st_blk ?_ | refine st_cond (by conv => lhs; simp) (by conv => lhs; simp [hdec, hws, htri]) ?_ ?_ ?_ | refine st_lexit ?_) | (intro h_; try simp only [reduceCtorEq, y1, y2, y3, y4, y5, y6, y7, y8, y9, z1, z2, z3, z4, z5, z6, z7, ne_eq] at h_))
  all_goals try (first | contradiction | exact True.intro | omega | rfl | (simp [AV.fits, AV.cells, AV.one, DV.fits, DV.cells, DV.one, DV.conf, confL, DV.conf1]; done) | (simp [AV.fits, AV.cells, AV.one, DV.fits, DV.cells, DV.one, DV.conf, confL, DV.conf1, *] <;> omega))
  exact atEnd_pure ⟨trivial, trivial⟩ rfl rfl
end Go.Vm.L
