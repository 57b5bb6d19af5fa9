/- Lattice: the table of edit distances, the reference's. -/
import Derived.Test.YtibpfnjbgojfoaaZlEa
set_option linter.all false
set_option maxHeartbeats 8000000
namespace Go.Vm.L
open Go Go.Vm
attribute [local simp] q_and q_loc q_var q_k q_sob_undef q_strip_undef q_sob_d q_strip_d q_sob_nils q_strip_nils q_sob_ptr q_strip_ptr q_sob_hs q_strip_hs q_sob_mp q_strip_mp q_sob_it q_strip_it q_sob_fp q_strip_fp q_sob_clo q_strip_clo q_sob_ifc q_strip_ifc q_sob_agg q_strip_agg q_sob_tup q_strip_tup q_sob_when q_strip_when q_argsOb0 q_argsOb1 q_mov q_pick q_pick000 q_pick001 q_pick010 q_pick011 q_pick100 q_pick101 q_pick110 q_pick111 q_bin q_eqs q_not q_neg q_conv q_fieldAddr q_load q_extract q_len q_nilCheck q_mkIface q_alloc q_box q_build q_lit q_mkFunc q_mkMap q_mkSlice q_slice q_ixa q_idx q_lookup q_field q_minmax q_i_add q_i_sub q_i_mul q_i_quo q_i_rem q_i_eql q_i_neq q_i_lss q_i_leq q_i_gtr q_i_geq q_i_and q_i_or q_i_xor q_i_shl q_i_shr q_b_eql q_s_eql q_b_neq q_s_neq q_s_add q_eqsd q_notd q_negd q_convd q_fap q_faf q_ldf q_ldp q_ldps q_exd q_len0 q_len0n q_len0h q_len1 q_len2 q_lenp q_lkp q_lkf q_lkps q_ncp q_ncf q_mkI q_mkF q_mkS q_ixd q_iaf q_iap q_ixh q_slvs q_slvh q_slvl q_mm1 q_mm2 q_mx2 q_fl q_flw q_bo q_bow q_add0 q_addf q_addo q_so0 q_so1 q_mk_mov q_mk_bin q_mk_eqs q_mk_not q_mk_neg q_mk_conv q_mk_fieldAddr q_mk_load q_mk_ixa q_mk_idx q_mk_lookup q_mk_len q_mk_pick q_mk_field q_mk_slice q_mk_build q_mk_minmax q_mk_extract q_mk_nilCheck q_mk_lit q_mk_box q_mk_alloc q_pd0 q_pdo0 q_pdb q_pdob q_pdv q_pdov q_pda q_pdoa q_pad q_paod q_paa q_paoa q_pdT q_pdoT q_obz q_obs q_eqk q_eqL0 q_eqL1 q_eq1i q_fitd

def fillE (x : Inp) (y : List Int) (W N p : Nat) : List Int := (List.range N).map fun q => if p ≤ q then ed x y (q / W) (q % W) else 0
theorem fillE_len (x : Inp) (y : List Int) (W N p : Nat) : (fillE x y W N p).length = N := by simp [fillE]
theorem fillE_set {x : Inp} {y : List Int} {W N p : Nat} : (fillE x y W N (p + 1)).set p (ed x y (p / W) (p % W)) = fillE x y W N p := by
  apply List.ext_getElem?
  intro q
  simp only [fillE, List.getElem?_set, List.getElem?_map, List.length_map, List.length_range]
  by_cases h : p = q
  · subst h
    by_cases h2 : p < N
    · simp [h2]
    · simp [h2]
  · rw [if_neg h]
    by_cases h2 : q < N
    · simp only [List.getElem?_range h2, Option.map_some, Option.some.injEq]
      by_cases h3 : p ≤ q
      · rw [if_pos h3, if_pos (by omega)]
      · rw [if_neg h3, if_neg (by omega)]
    · rw [List.getElem?_eq_none (by simp; omega)]; rfl
theorem fillE_all (x : Inp) (y : List Int) (W N : Nat) : fillE x y W N N = List.replicate N 0 := by
  apply List.ext_getElem?
  intro q
  simp only [fillE, List.getElem?_map, List.getElem?_replicate]
  by_cases h2 : q < N
  · rw [List.getElem?_range h2, if_pos h2]; simp; omega
  · rw [List.getElem?_eq_none (by simp; omega), if_neg h2]; rfl
theorem fillE_tab {x : Inp} {y : List Int} {W N p i j : Nat} (hj : j < W) (hp : p ≤ i * W + j) (hN : i * W + j < N) : tabT (fillE x y W N p) W i j = ed x y i j := by
  have hW : 0 < W := by omega
  have e1 : (i * W + j) / W = i := by rw [Nat.mul_comm, Nat.mul_add_div hW, Nat.div_eq_of_lt hj, Nat.add_zero]
  have e2 : (i * W + j) % W = j := by rw [Nat.mul_comm, Nat.mul_add_mod, Nat.mod_eq_of_lt hj]
  simp only [tabT, fillE, List.getD_eq_getElem?_getD, List.getElem?_map, List.getElem?_range hN, Option.map_some, Option.getD_some, if_pos hp, e1, e2]
theorem fillE_bd {x : Inp} (hx : WF x) {y : List Int} (hy : ∀ t ∈ y, 0 ≤ t ∧ t < x.insert.length) {W N p : Nat} (hW : W = y.length + 1) (hN : N = (x.cols.length + 1) * W) : ∀ v ∈ fillE x y W N p, 0 ≤ v ∧ v ≤ 1099511627776 := by
  intro v hv
  simp only [fillE, List.mem_map, List.mem_range] at hv
  obtain ⟨q, hq, rfl⟩ := hv
  split
  · have h1 : q / W < x.cols.length + 1 := Nat.div_lt_of_lt_mul (by rw [Nat.mul_comm]; omega)
    have h2 : q % W < W := Nat.mod_lt _ (by omega)
    exact ed_bd hx hy (by omega) (by omega)
  · omega
def edB (x : Inp) (y : List Int) (T : Nat → Nat → Int) (i j : Nat) : Nat → Int
  | 0 => if i = x.cols.length ∧ j = y.length then 0 else 1099511627776
  | k + 1 => min (edB x y T i j k) (optK x y T i j (k + 1))
theorem edB4 {x : Inp} {y : List Int} {T : Nat → Nat → Int} {i j : Nat} (hi : i ≤ x.cols.length) (hj : j ≤ y.length) : edB x y T i j 4 = edS x y T i j := by
  simp only [edB, optK, edS]
  by_cases h : i = x.cols.length ∧ j = y.length
  · rw [if_pos h, if_pos h]
    have h1 : optR x y T i j = 1099511627776 := by unfold optR; rw [if_neg (by omega)]
    have h2 : optD x T i j = 1099511627776 := by unfold optD; rw [if_neg (by omega)]
    have h3 : optI x y T i j = 1099511627776 := by unfold optI; rw [if_neg (by omega)]
    have h4 : optS x y T i j = 1099511627776 := by unfold optS; rw [if_neg (fun h => by have := swapB_lt h.1; omega)]
    rw [h1, h2, h3, h4]; omega
  · rw [if_neg h, if_neg h]
    have h1 : optR x y T i j ≤ 1099511627776 := by unfold optR; split <;> omega
    omega

theorem table42 (x : Inp) (y : List Int) (W N : Nat) (hx : WF x) (hyl : y.length ≤ 1000) (hy : ∀ t ∈ y, 0 ≤ t ∧ t < x.insert.length) (hW : W = y.length + 1) (hN : N = (x.cols.length + 1) * W) :
    Pure prog 42 [.d (dInp x), .d (.vs (y.map dI))] (.d (.vs ((fillE x y W N 0).map dI))) := by
  have hn := hx.n
  have hNb : N ≤ 61 * 1001 := by rw [hN]; exact Nat.mul_le_mul (by omega) (by omega)
  refine fn_of e42 hm (by rfl) (vs := [.d (dInp x), .d (.vs (y.map dI)), .undef, .undef, .undef, .undef, .undef, .undef, .undef, .undef, .undef, .undef, .undef, .undef, .undef]) rfl ?_
  unfold c42
  obtain ⟨n, hnn⟩ : ∃ n, n = x.cols.length := ⟨_, rfl⟩
  have w1 : IntKind.i64.wrap ((y.length : Int) + 1) = (W : Int) := by rw [wrap64 (by omega) (by omega)]; omega
  have w2 : IntKind.i64.wrap ((x.cols.length : Int) + 1) = (x.cols.length : Int) + 1 := wrap64 (by omega) (by omega)
  have w3 : IntKind.i64.wrap (((x.cols.length : Int) + 1) * (W : Int)) = (N : Int) := by
    rw [show ((x.cols.length : Int) + 1) * (W : Int) = (N : Int) by rw [hN, Int.natCast_mul]; rfl]; exact wrap64 (by omega) (by omega)
  have hNb2 : ¬ (140737488355328 < (N : Int) * 8) := by omega
  repeat' (first | (with_reducible first | refine st_reg ?_ | refine sN (by conv => lhs; simp [litV, litE, litOb, toDL, AV.toD, AV.norm, List.replicate, fillC, fillOb, AV.mkAgg, AV.allD, AV.cells, DV.cells, dInp, w1, w2, w3]) ?_ | refine rN ?_ ?_ | refine rO ?_ ?_ | refine rF ?_ ?_ | refine sG (by conv => lhs; simp [litV, litE, litOb, toDL, AV.toD, AV.norm, List.replicate, fillC, fillOb, AV.mkAgg, AV.allD, AV.cells, DV.cells, dInp, w1, w2, w3]) ?_ | refine gF ?_ | refine gS rfl (by conv => lhs; simp [litV, litE, litOb, toDL, AV.toD, AV.norm, List.replicate, fillC, fillOb, AV.mkAgg, AV.allD, AV.cells, DV.cells, dInp, w1, w2, w3]) ?_ ?_ | (refine st_gef0 ?_ ?_; focus (conv => (lhs; simp [litV, litE, litOb, toDL, AV.toD, AV.norm, List.replicate, fillC, fillOb, AV.mkAgg, AV.allD, AV.cells, DV.cells, dInp, w1, w2, w3])); done) | refine sE (by conv => lhs; simp) ?_ | refine Nx.go ?_ | refine st_blke' (by decide) ?_ | refine st_seq ?_ | refine st_blk ?_ | refine st_cond (by conv => lhs; simp) (by conv => lhs; simp [litV, litE, litOb, toDL, AV.toD, AV.norm, List.replicate, fillC, fillOb, AV.mkAgg, AV.allD, AV.cells, DV.cells, dInp, w1, w2, w3]) ?_ ?_ ?_ | refine st_lexit ?_) | (intro h_; try simp only [reduceCtorEq, y1, y2, y3, y4, y5, y6, y7, y8, y9, z1, z2, z3, z4, z5, z6, z7, ne_eq] at h_))
  all_goals try (first | contradiction | exact True.intro | omega | rfl | (simp [AV.fits, AV.cells, AV.one, DV.fits, DV.cells, DV.one, DV.conf, confL, DV.conf1]; done) | (simp [AV.fits, AV.cells, AV.one, DV.fits, DV.cells, DV.one, DV.conf, confL, DV.conf1, *] <;> omega))
  · exact ⟨by omega, by omega, rfl⟩
  refine wpC_loop (fun s => ∃ (pr : Nat) (H : Heap) (v8 v9 v10 v11 v12 v13 v14 : AV), pr ≤ n + 1 ∧ s = ⟨[.d (dInp x), .d (.vs (y.map dI)), .ptr 0 0 0, .nils, .d (.int .i64 n), .d (.int .i64 W), .hs 1 0 N 1, .d (.int .i64 ((pr : Int) - 1)), v8, v9, v10, v11, v12, v13, v14], H⟩ ∧
      H.ob 0 = some (.arr 3 [.d (dInp x)]) ∧ H.ob 1 = some (.arr 1 (((fillE x y W N (pr * W)).map dI).map .d)))
    (fun s => (s.int 7 + 1).toNat)
    (s' := ⟨[.d (dInp x), .d (.vs (y.map dI)), .ptr 0 0 0, .nils, .d (.int .i64 n), .d (.int .i64 W), .hs 1 0 N 1, .d (.int .i64 (((n + 1 : Nat) : Int) - 1)), .undef, .undef, .undef, .undef, .undef, .undef, .undef], [some (.arr 3 [.d (dInp x)]), some (.arr 1 (List.replicate N (.d (.int .i64 0))))]⟩)
    (Gh.weak (by simp [weak, hnn])) ⟨n + 1, _, _, _, _, _, _, _, _, by omega, rfl, rfl, ?_⟩ ?_
  · rw [show (n + 1) * W = N by rw [hN, hnn], fillE_all]; simp [Heap.ob, dI]
  rintro _ ⟨pr, H, v8, v9, v10, v11, v12, v13, v14, hpr, rfl, h0, h1⟩
  cases pr with
  | zero =>
    repeat' (first | (with_reducible first | refine st_reg ?_ | refine sN (by conv => lhs; simp) ?_ | refine rN ?_ ?_ | refine rO ?_ ?_ | refine rF ?_ ?_ | refine sG (by conv => lhs; simp) ?_ | refine gF ?_ | refine gS rfl (by conv => lhs; simp) ?_ ?_ | (refine st_gef0 ?_ ?_; focus (conv => (lhs; simp)); done) | refine sE (by conv => lhs; simp) ?_ | refine Nx.go ?_ | refine st_blke' (by decide) ?_ | refine st_seq ?_ | refine st_blk ?_ | refine st_cond (by conv => lhs; simp) (by conv => lhs; simp) ?_ ?_ ?_ | refine st_lexit ?_) | (intro h_; try simp only [reduceCtorEq, y1, y2, y3, y4, y5, y6, y7, y8, y9, z1, z2, z3, z4, z5, z6, z7, ne_eq] at h_))
    all_goals try (first | contradiction | exact True.intro | omega | rfl | (simp [AV.fits, AV.cells, AV.one, DV.fits, DV.cells, DV.one, DV.conf, confL, DV.conf1]; done) | (simp [AV.fits, AV.cells, AV.one, DV.fits, DV.cells, DV.one, DV.conf, confL, DV.conf1, *] <;> omega))
    refine atEnd_frz (id := 1) (off := 0) (len := N) (sz := 1) rfl (arrOf_ob h1) (by simp [fillE_len]) (ds := (fillE x y W N 0).map dI) ?_ rfl
    rw [List.drop_zero, List.take_of_length_le (by simp [fillE_len]), toDL_map, Nat.zero_mul]
  | succ i =>
    have hi : i ≤ x.cols.length := by omega
    rw [show ((i + 1 : Nat) : Int) - 1 = (i : Int) by omega]
    repeat' (first | (with_reducible first | refine st_reg ?_ | refine sN (by conv => lhs; simp) ?_ | refine rN ?_ ?_ | refine rO ?_ ?_ | refine rF ?_ ?_ | refine sG (by conv => lhs; simp) ?_ | refine gF ?_ | refine gS rfl (by conv => lhs; simp) ?_ ?_ | (refine st_gef0 ?_ ?_; focus (conv => (lhs; simp)); done) | refine sE (by conv => lhs; simp) ?_ | refine Nx.go ?_ | refine st_blke' (by decide) ?_ | refine st_seq ?_ | refine st_blk ?_ | refine st_cond (by conv => lhs; simp) (by conv => lhs; simp) ?_ ?_ ?_ | refine st_lexit ?_) | (intro h_; try simp only [reduceCtorEq, y1, y2, y3, y4, y5, y6, y7, y8, y9, z1, z2, z3, z4, z5, z6, z7, ne_eq] at h_))
    all_goals try (first | contradiction | exact True.intro | omega | rfl | (simp [AV.fits, AV.cells, AV.one, DV.fits, DV.cells, DV.one, DV.conf, confL, DV.conf1]; done) | (simp [AV.fits, AV.cells, AV.one, DV.fits, DV.cells, DV.one, DV.conf, confL, DV.conf1, *] <;> omega))
    refine wpC_loop (fun s => ∃ (qr : Nat) (H : Heap) (v9 v10 v12 v13 v14 : AV), qr ≤ W ∧ s = ⟨[.d (dInp x), .d (.vs (y.map dI)), .ptr 0 0 0, .nils, .d (.int .i64 n), .d (.int .i64 W), .hs 1 0 N 1, .d (.int .i64 (i : Int)), .d (.int .i64 ((qr : Int) - 1)), v9, v10, .undef, v12, v13, v14], H⟩ ∧
        H.ob 0 = some (.arr 3 [.d (dInp x)]) ∧ H.ob 1 = some (.arr 1 (((fillE x y W N (i * W + qr)).map dI).map .d)))
      (fun s => (s.int 8 + 1).toNat)
      (s' := ⟨[.d (dInp x), .d (.vs (y.map dI)), .ptr 0 0 0, .nils, .d (.int .i64 n), .d (.int .i64 W), .hs 1 0 N 1, .d (.int .i64 (i : Int)), .d (.int .i64 (((y.length + 1 : Nat) : Int) - 1)), .undef, .undef, .undef, .undef, .undef, .undef], H⟩)
      (Gh.weak (by simp [weak])) ⟨W, H, _, _, _, _, _, by omega, by rw [hW], h0, by rw [← Nat.succ_mul]; exact h1⟩ ?_
    clear h0 h1
    rintro _ ⟨qr, H, v9, v10, v12, v13, v14, hqr, rfl, h0, h1⟩
    cases qr with
    | zero =>
      have hwd : IntKind.i64.wrap ((i : Int) - 1) = (i : Int) - 1 := wrap64 (by omega) (by omega)
      repeat' (first | (with_reducible first | refine st_reg ?_ | refine sN (by conv => lhs; simp [hwd]) ?_ | refine rN ?_ ?_ | refine rO ?_ ?_ | refine rF ?_ ?_ | refine sG (by conv => lhs; simp [hwd]) ?_ | refine gF ?_ | refine gS rfl (by conv => lhs; simp [hwd]) ?_ ?_ | (refine st_gef0 ?_ ?_; focus (conv => (lhs; simp [hwd])); done) | refine sE (by conv => lhs; simp) ?_ | refine Nx.go ?_ | refine st_blke' (by decide) ?_ | refine st_seq ?_ | refine st_blk ?_ | refine st_cond (by conv => lhs; simp) (by conv => lhs; simp [hwd]) ?_ ?_ ?_ | refine st_lexit ?_) | (intro h_; try simp only [reduceCtorEq, y1, y2, y3, y4, y5, y6, y7, y8, y9, z1, z2, z3, z4, z5, z6, z7, ne_eq] at h_))
      all_goals try (first | contradiction | exact True.intro | omega | rfl | (simp [AV.fits, AV.cells, AV.one, DV.fits, DV.cells, DV.one, DV.conf, confL, DV.conf1]; done) | (simp [AV.fits, AV.cells, AV.one, DV.fits, DV.cells, DV.one, DV.conf, confL, DV.conf1, *] <;> omega))
      exact st_lnormw (ys := [.d (dInp x), .d (.vs (y.map dI)), .ptr 0 0 0, .nils, .d (.int .i64 n), .d (.int .i64 W), .hs 1 0 N 1, .d (.int .i64 ((i : Int) - 1)), .undef, .undef, .undef, .undef, .undef, .undef, .undef]) (by simp [weak])
        ⟨i, H, _, _, _, _, _, _, _, by omega, rfl, h0, by simpa using h1⟩ (by simp [St.int] <;> omega)
    | succ j =>
      have hj : j ≤ y.length := by omega
      rw [show ((j + 1 : Nat) : Int) - 1 = (j : Int) by omega]
      obtain ⟨ts, hts⟩ : ∃ ts, ts = fillE x y W N (i * W + (j + 1)) := ⟨_, rfl⟩
      have htl : ts.length = N := by rw [hts, fillE_len]
      have htb : ∀ v ∈ ts, 0 ≤ v ∧ v ≤ 1099511627776 := by rw [hts]; exact fillE_bd hx hy hW hN
      have hrow : i * W + W ≤ N := by
        rw [hN, show i * W + W = (i + 1) * W by rw [Nat.succ_mul]]
        exact Nat.mul_le_mul_right _ (by omega)
      have hval : edB x y (tabT ts W) i j 4 = ed x y i j := by
        rw [edB4 hi hj, ed_eq hi hj]
        refine edS_congr hi hj fun i' j' a1 a2 a3 a4 a5 => ?_
        rw [hts]
        have hrow' : i' * W + W ≤ N := by
          rw [hN, show i' * W + W = (i' + 1) * W by rw [Nat.succ_mul]]
          exact Nat.mul_le_mul_right _ (by omega)
        refine fillE_tab (by omega) ?_ (by omega)
        rcases Nat.eq_or_lt_of_le a1 with rfl | h
        · omega
        · have : (i + 1) * W ≤ i' * W := Nat.mul_le_mul_right _ h
          rw [Nat.succ_mul] at this
          omega
      have hset : ts.set (i * W + j) (ed x y i j) = fillE x y W N (i * W + j) := by
        have hW0 : 0 < W := by omega
        have e1 : (i * W + j) / W = i := by rw [Nat.mul_comm, Nat.mul_add_div hW0, Nat.div_eq_of_lt (by omega), Nat.add_zero]
        have e2 : (i * W + j) % W = j := by rw [Nat.mul_comm, Nat.mul_add_mod, Nat.mod_eq_of_lt (by omega)]
        have := fillE_set (x := x) (y := y) (W := W) (N := N) (p := i * W + j)
        rw [e1, e2] at this
        rw [hts]; exact this
      rw [← hts] at h1
      have l1 := ob_lt h1
      -- the four kinds
      have body : ∀ (H : Heap) (v10 v13 v14 : AV), H.ob 0 = some (.arr 3 [.d (dInp x)]) → H.ob 1 = some (.arr 1 ((ts.map dI).map .d)) → True := fun _ _ _ _ _ _ => trivial
      obtain ⟨z, hz⟩ : ∃ z, z = edB x y (tabT ts W) i j 0 := ⟨_, rfl⟩
      have kinds : ∀ (Q : XE → St → Prop) (H : Heap) (v11 v12 v13 v14 : AV), H.ob 0 = some (.arr 3 [.d (dInp x)]) → H.ob 1 = some (.arr 1 ((ts.map dI).map .d)) →
          (∀ (H' : Heap) (v14' : AV), H'.ob 0 = some (.arr 3 [.d (dInp x)]) → H'.ob 1 = some (.arr 1 ((ts.map dI).map .d)) → Q (.exit 4) ⟨[.d (dInp x), .d (.vs (y.map dI)), .ptr 0 0 0, .nils, .d (.int .i64 n), .d (.int .i64 W), .hs 1 0 N 1, .d (.int .i64 (i : Int)), .d (.int .i64 (j : Int)), .d (.int .i64 (ed x y i j)), .d (.int .i64 5), .undef, .undef, .undef, v14'], H'⟩) →
          wpC prog (.loop (.seq (.seq (.reg c42r11) (.cond (.var 14) .skip (.exit 4))) (.seq (.block 5 (.reg c42r12)) (.reg c42r13)))) Q
            ⟨[.d (dInp x), .d (.vs (y.map dI)), .ptr 0 0 0, .nils, .d (.int .i64 n), .d (.int .i64 W), .hs 1 0 N 1, .d (.int .i64 (i : Int)), .d (.int .i64 (j : Int)), .d (.int .i64 z), .d (.int .i64 1), v11, v12, v13, v14], H⟩ := by
        intro Q H v11 v12 v13 v14 h0 h1 hk
        refine wpC_loop (fun s => ∃ (k : Nat) (H : Heap) (v14 : AV), k ≤ 4 ∧ s = ⟨[.d (dInp x), .d (.vs (y.map dI)), .ptr 0 0 0, .nils, .d (.int .i64 n), .d (.int .i64 W), .hs 1 0 N 1, .d (.int .i64 (i : Int)), .d (.int .i64 (j : Int)), .d (.int .i64 (edB x y (tabT ts W) i j k)), .d (.int .i64 ((k + 1 : Nat) : Int)), .undef, .undef, .undef, v14], H⟩ ∧
            H.ob 0 = some (.arr 3 [.d (dInp x)]) ∧ H.ob 1 = some (.arr 1 ((ts.map dI).map .d)))
          (fun s => (10 - s.int 10).toNat)
          (s' := ⟨[.d (dInp x), .d (.vs (y.map dI)), .ptr 0 0 0, .nils, .d (.int .i64 n), .d (.int .i64 W), .hs 1 0 N 1, .d (.int .i64 (i : Int)), .d (.int .i64 (j : Int)), .d (.int .i64 z), .d (.int .i64 ((0 + 1 : Nat) : Int)), .undef, .undef, .undef, .undef], H⟩)
          (Gh.weak (by simp [weak])) ⟨0, H, _, by omega, by rw [hz], h0, h1⟩ ?_
        clear h0 h1
        rintro _ ⟨k, H, v14, hk4, rfl, h0, h1⟩
        obtain ⟨kd, hkd⟩ : ∃ kd, kd = k + 1 := ⟨_, rfl⟩
        rw [← hkd]
        have h0' := h0
        simp only [dInp] at h0'
        have l1 := ob_lt h1
        by_cases hlt : kd ≤ 4
        · have hst := step55 x y ts i j kd W N hx hyl hy hi hj hW hN htl htb (by omega)
          have hlt' : (kd : Int) ≤ 4 := by omega
          obtain ⟨bv, hbv⟩ : ∃ bv, bv = edB x y (tabT ts W) i j k := ⟨_, rfl⟩
          obtain ⟨ov, hov⟩ : ∃ ov, ov = optK x y (tabT ts W) i j kd := ⟨_, rfl⟩
          have hnx : edB x y (tabT ts W) i j (k + 1) = min bv ov := by rw [hbv, hov, hkd]; rfl
          rw [← hov] at hst
          rw [← hbv]
          have hwk : IntKind.i64.wrap ((kd : Int) + 1) = ((kd + 1 : Nat) : Int) := by rw [wrap64 (by omega) (by omega)]; omega
          have hmin : (if ov < bv then ov else bv) = min bv ov := by split <;> omega
          repeat' (first | (with_reducible first | refine st_reg ?_ | refine sN (by conv => lhs; simp [h0', hlt']) ?_ | refine rN ?_ ?_ | refine rO ?_ ?_ | refine rF ?_ ?_ | refine sG (by conv => lhs; simp [h0', hlt']) ?_ | refine gF ?_ | refine gS rfl (by conv => lhs; simp [h0', hlt']) ?_ ?_ | (refine st_gef0 ?_ ?_; focus (conv => (lhs; simp [h0', hlt'])); done) | refine sE (by conv => lhs; simp) ?_ | refine Nx.go ?_ | refine st_blke' (by decide) ?_ | refine st_seq ?_ | refine st_blk ?_ | refine st_cond (by conv => lhs; simp) (by conv => lhs; simp [h0', hlt']) ?_ ?_ ?_ | refine st_lexit ?_) | (intro h_; try simp only [reduceCtorEq, y1, y2, y3, y4, y5, y6, y7, y8, y9, z1, z2, z3, z4, z5, z6, z7, ne_eq] at h_))
          all_goals try (first | contradiction | exact True.intro | omega | rfl | (simp [AV.fits, AV.cells, AV.one, DV.fits, DV.cells, DV.one, DV.conf, confL, DV.conf1]; done) | (simp [AV.fits, AV.cells, AV.one, DV.fits, DV.cells, DV.one, DV.conf, confL, DV.conf1, *] <;> omega))
          refine st_e (stA_call [1] (by simp [solidOk]) (by conv => lhs; simp [h0']) hst (by exact ⟨.inl rfl, .inl rfl, .inl rfl, .inl rfl, .inl rfl, .inl rfl, .inl rfl, trivial⟩) ⟨l1, by rw [ob_get h1, Option.map_some, ren_data], trivial⟩ (by simp) ?_)
          rintro _ _ H1 ⟨rfl, rfl⟩ hc
          have b0 := hc.ob' (j := 0) (by simp) h0
          have b1 := hc.inn 0 1 _ rfl rfl
          rw [ren_data] at b1
          refine ⟨trivial, ?_⟩
          repeat' (first | (with_reducible first | refine st_reg ?_ | refine sN (by conv => lhs; simp [AV.ren, hwk, hmin]) ?_ | refine rN ?_ ?_ | refine rO ?_ ?_ | refine rF ?_ ?_ | refine sG (by conv => lhs; simp [AV.ren, hwk, hmin]) ?_ | refine gF ?_ | refine gS rfl (by conv => lhs; simp [AV.ren, hwk, hmin]) ?_ ?_ | (refine st_gef0 ?_ ?_; focus (conv => (lhs; simp [AV.ren, hwk, hmin])); done) | refine sE (by conv => lhs; simp) ?_ | refine Nx.go ?_ | refine st_blke' (by decide) ?_ | refine st_seq ?_ | refine st_blk ?_ | refine st_cond (by conv => lhs; simp) (by conv => lhs; simp [AV.ren, hwk, hmin]) ?_ ?_ ?_ | refine st_lexit ?_) | (intro h_; try simp only [reduceCtorEq, y1, y2, y3, y4, y5, y6, y7, y8, y9, z1, z2, z3, z4, z5, z6, z7, ne_eq] at h_))
          all_goals try (first | contradiction | exact True.intro | omega | rfl | (simp [AV.fits, AV.cells, AV.one, DV.fits, DV.cells, DV.one, DV.conf, confL, DV.conf1]; done) | (simp [AV.fits, AV.cells, AV.one, DV.fits, DV.cells, DV.one, DV.conf, confL, DV.conf1, *] <;> omega))
          refine st_lnormw (ys := [.d (dInp x), .d (.vs (y.map dI)), .ptr 0 0 0, .nils, .d (.int .i64 n), .d (.int .i64 W), .hs 1 0 N 1, .d (.int .i64 (i : Int)), .d (.int .i64 (j : Int)), .d (.int .i64 (min bv ov)), .d (.int .i64 ((kd + 1 : Nat) : Int)), .undef, .undef, .undef, .undef]) (by simp [weak])
            ⟨k + 1, H1, _, by omega, by rw [hnx, ← hkd], b0, b1⟩ (by simp [St.int] <;> omega)
        · have hk5 : kd = 5 := by omega
          have hk44 : k = 4 := by omega
          rw [hk44, hval, hk5]
          repeat' (first | (with_reducible first | refine st_reg ?_ | refine sN (by conv => lhs; simp) ?_ | refine rN ?_ ?_ | refine rO ?_ ?_ | refine rF ?_ ?_ | refine sG (by conv => lhs; simp) ?_ | refine gF ?_ | refine gS rfl (by conv => lhs; simp) ?_ ?_ | (refine st_gef0 ?_ ?_; focus (conv => (lhs; simp)); done) | refine sE (by conv => lhs; simp) ?_ | refine Nx.go ?_ | refine st_blke' (by decide) ?_ | refine st_seq ?_ | refine st_blk ?_ | refine st_cond (by conv => lhs; simp) (by conv => lhs; simp) ?_ ?_ ?_ | refine st_lexit ?_) | (intro h_; try simp only [reduceCtorEq, y1, y2, y3, y4, y5, y6, y7, y8, y9, z1, z2, z3, z4, z5, z6, z7, ne_eq] at h_))
          all_goals try (first | contradiction | exact True.intro | omega | rfl | (simp [AV.fits, AV.cells, AV.one, DV.fits, DV.cells, DV.one, DV.conf, confL, DV.conf1]; done) | (simp [AV.fits, AV.cells, AV.one, DV.fits, DV.cells, DV.one, DV.conf, confL, DV.conf1, *] <;> omega))
          exact hk H _ h0 h1
      have hpos : i * W + j < N := by omega
      obtain ⟨a, ha⟩ : ∃ a, a = i * W := ⟨_, rfl⟩
      have wa : IntKind.i64.wrap ((i : Int) * (W : Int)) = (a : Int) := by
        rw [show (i : Int) * (W : Int) = (a : Int) by rw [ha, Int.natCast_mul]]; exact wrap64 (by omega) (by omega)
      obtain ⟨b, hb⟩ : ∃ b, b = a + j := ⟨_, rfl⟩
      have wb : IntKind.i64.wrap ((a : Int) + (j : Int)) = (b : Int) := by rw [wrap64 (by omega) (by omega)]; omega
      have hbN : b < N := by omega
      rw [show i * W + j = b by omega] at hset
      have hwd : IntKind.i64.wrap ((j : Int) - 1) = (j : Int) - 1 := wrap64 (by omega) (by omega)
      obtain ⟨e, he⟩ : ∃ e, e = ed x y i j := ⟨_, rfl⟩
      have wrap_up : ∀ (H' : Heap), H'.ob 0 = some (.arr 3 [.d (dInp x)]) → H'.ob 1 = some (.arr 1 ((ts.map dI).map .d)) → ∀ H3, Wrote H' 1 (.arr 1 (((ts.map dI).map AV.d).set b (.d (.int .i64 e)))) H3 → H3.ob 0 = some (.arr 3 [.d (dInp x)]) ∧ H3.ob 1 = some (.arr 1 (((fillE x y W N (i * W + j)).map dI).map .d)) := by
        intro H' g0 g1 H3 hW3
        refine ⟨hW3.ob' (by omega) g0, ?_⟩
        rw [hW3.self, show i * W + j = b by omega, ← hset, List.map_set, List.map_set, he]; rfl
      clear ha hb hval hset body hts
      by_cases hend : i = n ∧ j = y.length
      · have z0 : z = 0 := by rw [hz, edB, if_pos (by omega)]
        have e1 : ((i : Int) == (n : Int)) = true := by simp; omega
        have e2 : ((j : Int) == (y.length : Int)) = true := by simp; omega
        rw [z0] at kinds
        repeat' (first | (with_reducible first | refine st_reg ?_ | refine sN (by conv => lhs; simp [e1, e2]) ?_ | refine rN ?_ ?_ | refine rO ?_ ?_ | refine rF ?_ ?_ | refine sG (by conv => lhs; simp [e1, e2]) ?_ | refine gF ?_ | refine gS rfl (by conv => lhs; simp [e1, e2]) ?_ ?_ | (refine st_gef0 ?_ ?_; focus (conv => (lhs; simp [e1, e2])); done) | refine sE (by conv => lhs; simp) ?_ | refine Nx.go ?_ | refine st_blke' (by decide) ?_ | refine st_seq ?_ | refine st_blk ?_ | refine st_cond (by conv => lhs; simp) (by conv => lhs; simp [e1, e2]) ?_ ?_ ?_ | refine st_lexit ?_) | (intro h_; try simp only [reduceCtorEq, y1, y2, y3, y4, y5, y6, y7, y8, y9, z1, z2, z3, z4, z5, z6, z7, ne_eq] at h_))
        all_goals try (first | contradiction | exact True.intro | omega | rfl | (simp [AV.fits, AV.cells, AV.one, DV.fits, DV.cells, DV.one, DV.conf, confL, DV.conf1]; done) | (simp [AV.fits, AV.cells, AV.one, DV.fits, DV.cells, DV.one, DV.conf, confL, DV.conf1, *] <;> omega))
        refine kinds _ H _ _ _ _ h0 h1 fun H' v14' g0 g1 => ?_
        rw [← he]
        have lN : ((ts.map dI).map AV.d).length = N := by simp [htl]
        repeat' (first | (with_reducible first | refine st_reg ?_ | refine sN (by conv => lhs; simp [wa, wb, hbN]) ?_ | refine rN ?_ ?_ | refine rO ?_ ?_ | refine rF ?_ ?_ | refine sG (by conv => lhs; simp [wa, wb, hbN]) ?_ | refine gF ?_ | refine gS rfl (by conv => lhs; simp [wa, wb, hbN]) ?_ ?_ | (refine st_gef0 ?_ ?_; focus (conv => (lhs; simp [wa, wb, hbN])); done) | refine sE (by conv => lhs; simp) ?_ | refine Nx.go ?_ | refine st_blke' (by decide) ?_ | refine st_seq ?_ | refine st_blk ?_ | refine st_cond (by conv => lhs; simp) (by conv => lhs; simp [wa, wb, hbN]) ?_ ?_ ?_ | refine st_lexit ?_) | (intro h_; try simp only [reduceCtorEq, y1, y2, y3, y4, y5, y6, y7, y8, y9, z1, z2, z3, z4, z5, z6, z7, ne_eq] at h_))
        all_goals try (first | contradiction | exact True.intro | omega | rfl | (simp [AV.fits, AV.cells, AV.one, DV.fits, DV.cells, DV.one, DV.conf, confL, DV.conf1]; done) | (simp [AV.fits, AV.cells, AV.one, DV.fits, DV.cells, DV.one, DV.conf, confL, DV.conf1, *] <;> omega))
        refine st_e (stA_store ⟨by simp, trivial⟩ (by conv => lhs; simp) (by conv => lhs; simp) (arrOf_ob g1) ⟨by omega, by omega⟩ (by simp [AV.fits, DV.fits, DV.cells, DV.one]) updA_whole (by simp [AV.fits, DV.fits, DV.cells, DV.one]) (fun H3 hW3 => ⟨trivial, ?_⟩))
        obtain ⟨k0, k1⟩ := wrap_up H' g0 g1 H3 (by simpa using hW3)
        repeat' (first | (with_reducible first | refine st_reg ?_ | refine sN (by conv => lhs; simp [hwd]) ?_ | refine rN ?_ ?_ | refine rO ?_ ?_ | refine rF ?_ ?_ | refine sG (by conv => lhs; simp [hwd]) ?_ | refine gF ?_ | refine gS rfl (by conv => lhs; simp [hwd]) ?_ ?_ | (refine st_gef0 ?_ ?_; focus (conv => (lhs; simp [hwd])); done) | refine sE (by conv => lhs; simp) ?_ | refine Nx.go ?_ | refine st_blke' (by decide) ?_ | refine st_seq ?_ | refine st_blk ?_ | refine st_cond (by conv => lhs; simp) (by conv => lhs; simp [hwd]) ?_ ?_ ?_ | refine st_lexit ?_) | (intro h_; try simp only [reduceCtorEq, y1, y2, y3, y4, y5, y6, y7, y8, y9, z1, z2, z3, z4, z5, z6, z7, ne_eq] at h_))
        all_goals try (first | contradiction | exact True.intro | omega | rfl | (simp [AV.fits, AV.cells, AV.one, DV.fits, DV.cells, DV.one, DV.conf, confL, DV.conf1]; done) | (simp [AV.fits, AV.cells, AV.one, DV.fits, DV.cells, DV.one, DV.conf, confL, DV.conf1, *] <;> omega))
        exact st_lnormw (ys := [.d (dInp x), .d (.vs (y.map dI)), .ptr 0 0 0, .nils, .d (.int .i64 n), .d (.int .i64 W), .hs 1 0 N 1, .d (.int .i64 (i : Int)), .d (.int .i64 ((j : Int) - 1)), .undef, .undef, .undef, .undef, .undef, .undef]) (by simp [weak])
          ⟨j, H3, _, _, _, _, _, by omega, rfl, k0, k1⟩ (by simp [St.int] <;> omega)
      · have z0 : z = 1099511627776 := by rw [hz, edB, if_neg (by omega)]
        rw [z0] at kinds
        have tail : ∀ (H : Heap) (v13 v14 : AV), True := fun _ _ _ => trivial
        by_cases hin : i = n
        · have e1 : ((i : Int) == (n : Int)) = true := by simp; omega
          have e2 : ((j : Int) == (y.length : Int)) = false := by simp; omega
          repeat' (first | (with_reducible first | refine st_reg ?_ | refine sN (by conv => lhs; simp [e1, e2]) ?_ | refine rN ?_ ?_ | refine rO ?_ ?_ | refine rF ?_ ?_ | refine sG (by conv => lhs; simp [e1, e2]) ?_ | refine gF ?_ | refine gS rfl (by conv => lhs; simp [e1, e2]) ?_ ?_ | (refine st_gef0 ?_ ?_; focus (conv => (lhs; simp [e1, e2])); done) | refine sE (by conv => lhs; simp) ?_ | refine Nx.go ?_ | refine st_blke' (by decide) ?_ | refine st_seq ?_ | refine st_blk ?_ | refine st_cond (by conv => lhs; simp) (by conv => lhs; simp [e1, e2]) ?_ ?_ ?_ | refine st_lexit ?_) | (intro h_; try simp only [reduceCtorEq, y1, y2, y3, y4, y5, y6, y7, y8, y9, z1, z2, z3, z4, z5, z6, z7, ne_eq] at h_))
          all_goals try (first | contradiction | exact True.intro | omega | rfl | (simp [AV.fits, AV.cells, AV.one, DV.fits, DV.cells, DV.one, DV.conf, confL, DV.conf1]; done) | (simp [AV.fits, AV.cells, AV.one, DV.fits, DV.cells, DV.one, DV.conf, confL, DV.conf1, *] <;> omega))
          refine kinds _ H _ _ _ _ h0 h1 fun H' v14' g0 g1 => ?_
          rw [← he]
          have lN : ((ts.map dI).map AV.d).length = N := by simp [htl]
          repeat' (first | (with_reducible first | refine st_reg ?_ | refine sN (by conv => lhs; simp [wa, wb, hbN]) ?_ | refine rN ?_ ?_ | refine rO ?_ ?_ | refine rF ?_ ?_ | refine sG (by conv => lhs; simp [wa, wb, hbN]) ?_ | refine gF ?_ | refine gS rfl (by conv => lhs; simp [wa, wb, hbN]) ?_ ?_ | (refine st_gef0 ?_ ?_; focus (conv => (lhs; simp [wa, wb, hbN])); done) | refine sE (by conv => lhs; simp) ?_ | refine Nx.go ?_ | refine st_blke' (by decide) ?_ | refine st_seq ?_ | refine st_blk ?_ | refine st_cond (by conv => lhs; simp) (by conv => lhs; simp [wa, wb, hbN]) ?_ ?_ ?_ | refine st_lexit ?_) | (intro h_; try simp only [reduceCtorEq, y1, y2, y3, y4, y5, y6, y7, y8, y9, z1, z2, z3, z4, z5, z6, z7, ne_eq] at h_))
          all_goals try (first | contradiction | exact True.intro | omega | rfl | (simp [AV.fits, AV.cells, AV.one, DV.fits, DV.cells, DV.one, DV.conf, confL, DV.conf1]; done) | (simp [AV.fits, AV.cells, AV.one, DV.fits, DV.cells, DV.one, DV.conf, confL, DV.conf1, *] <;> omega))
          refine st_e (stA_store ⟨by simp, trivial⟩ (by conv => lhs; simp) (by conv => lhs; simp) (arrOf_ob g1) ⟨by omega, by omega⟩ (by simp [AV.fits, DV.fits, DV.cells, DV.one]) updA_whole (by simp [AV.fits, DV.fits, DV.cells, DV.one]) (fun H3 hW3 => ⟨trivial, ?_⟩))
          obtain ⟨k0, k1⟩ := wrap_up H' g0 g1 H3 (by simpa using hW3)
          repeat' (first | (with_reducible first | refine st_reg ?_ | refine sN (by conv => lhs; simp [hwd]) ?_ | refine rN ?_ ?_ | refine rO ?_ ?_ | refine rF ?_ ?_ | refine sG (by conv => lhs; simp [hwd]) ?_ | refine gF ?_ | refine gS rfl (by conv => lhs; simp [hwd]) ?_ ?_ | (refine st_gef0 ?_ ?_; focus (conv => (lhs; simp [hwd])); done) | refine sE (by conv => lhs; simp) ?_ | refine Nx.go ?_ | refine st_blke' (by decide) ?_ | refine st_seq ?_ | refine st_blk ?_ | refine st_cond (by conv => lhs; simp) (by conv => lhs; simp [hwd]) ?_ ?_ ?_ | refine st_lexit ?_) | (intro h_; try simp only [reduceCtorEq, y1, y2, y3, y4, y5, y6, y7, y8, y9, z1, z2, z3, z4, z5, z6, z7, ne_eq] at h_))
          all_goals try (first | contradiction | exact True.intro | omega | rfl | (simp [AV.fits, AV.cells, AV.one, DV.fits, DV.cells, DV.one, DV.conf, confL, DV.conf1]; done) | (simp [AV.fits, AV.cells, AV.one, DV.fits, DV.cells, DV.one, DV.conf, confL, DV.conf1, *] <;> omega))
          exact st_lnormw (ys := [.d (dInp x), .d (.vs (y.map dI)), .ptr 0 0 0, .nils, .d (.int .i64 n), .d (.int .i64 W), .hs 1 0 N 1, .d (.int .i64 (i : Int)), .d (.int .i64 ((j : Int) - 1)), .undef, .undef, .undef, .undef, .undef, .undef]) (by simp [weak])
            ⟨j, H3, _, _, _, _, _, by omega, rfl, k0, k1⟩ (by simp [St.int] <;> omega)
        · have e1 : ((i : Int) == (n : Int)) = false := by simp; omega
          repeat' (first | (with_reducible first | refine st_reg ?_ | refine sN (by conv => lhs; simp [e1]) ?_ | refine rN ?_ ?_ | refine rO ?_ ?_ | refine rF ?_ ?_ | refine sG (by conv => lhs; simp [e1]) ?_ | refine gF ?_ | refine gS rfl (by conv => lhs; simp [e1]) ?_ ?_ | (refine st_gef0 ?_ ?_; focus (conv => (lhs; simp [e1])); done) | refine sE (by conv => lhs; simp) ?_ | refine Nx.go ?_ | refine st_blke' (by decide) ?_ | refine st_seq ?_ | refine st_blk ?_ | refine st_cond (by conv => lhs; simp) (by conv => lhs; simp [e1]) ?_ ?_ ?_ | refine st_lexit ?_) | (intro h_; try simp only [reduceCtorEq, y1, y2, y3, y4, y5, y6, y7, y8, y9, z1, z2, z3, z4, z5, z6, z7, ne_eq] at h_))
          all_goals try (first | contradiction | exact True.intro | omega | rfl | (simp [AV.fits, AV.cells, AV.one, DV.fits, DV.cells, DV.one, DV.conf, confL, DV.conf1]; done) | (simp [AV.fits, AV.cells, AV.one, DV.fits, DV.cells, DV.one, DV.conf, confL, DV.conf1, *] <;> omega))
          refine kinds _ H _ _ _ _ h0 h1 fun H' v14' g0 g1 => ?_
          rw [← he]
          have lN : ((ts.map dI).map AV.d).length = N := by simp [htl]
          repeat' (first | (with_reducible first | refine st_reg ?_ | refine sN (by conv => lhs; simp [wa, wb, hbN]) ?_ | refine rN ?_ ?_ | refine rO ?_ ?_ | refine rF ?_ ?_ | refine sG (by conv => lhs; simp [wa, wb, hbN]) ?_ | refine gF ?_ | refine gS rfl (by conv => lhs; simp [wa, wb, hbN]) ?_ ?_ | (refine st_gef0 ?_ ?_; focus (conv => (lhs; simp [wa, wb, hbN])); done) | refine sE (by conv => lhs; simp) ?_ | refine Nx.go ?_ | refine st_blke' (by decide) ?_ | refine st_seq ?_ | refine st_blk ?_ | refine st_cond (by conv => lhs; simp) (by conv => lhs; simp [wa, wb, hbN]) ?_ ?_ ?_ | refine st_lexit ?_) | (intro h_; try simp only [reduceCtorEq, y1, y2, y3, y4, y5, y6, y7, y8, y9, z1, z2, z3, z4, z5, z6, z7, ne_eq] at h_))
          all_goals try (first | contradiction | exact True.intro | omega | rfl | (simp [AV.fits, AV.cells, AV.one, DV.fits, DV.cells, DV.one, DV.conf, confL, DV.conf1]; done) | (simp [AV.fits, AV.cells, AV.one, DV.fits, DV.cells, DV.one, DV.conf, confL, DV.conf1, *] <;> omega))
          refine st_e (stA_store ⟨by simp, trivial⟩ (by conv => lhs; simp) (by conv => lhs; simp) (arrOf_ob g1) ⟨by omega, by omega⟩ (by simp [AV.fits, DV.fits, DV.cells, DV.one]) updA_whole (by simp [AV.fits, DV.fits, DV.cells, DV.one]) (fun H3 hW3 => ⟨trivial, ?_⟩))
          obtain ⟨k0, k1⟩ := wrap_up H' g0 g1 H3 (by simpa using hW3)
          repeat' (first | (with_reducible first | refine st_reg ?_ | refine sN (by conv => lhs; simp [hwd]) ?_ | refine rN ?_ ?_ | refine rO ?_ ?_ | refine rF ?_ ?_ | refine sG (by conv => lhs; simp [hwd]) ?_ | refine gF ?_ | refine gS rfl (by conv => lhs; simp [hwd]) ?_ ?_ | (refine st_gef0 ?_ ?_; focus (conv => (lhs; simp [hwd])); done) | refine sE (by conv => lhs; simp) ?_ | refine Nx.go ?_ | refine st_blke' (by decide) ?_ | refine st_seq ?_ | refine st_blk ?_ | refine st_cond (by conv => lhs; simp) (by conv => lhs; simp [hwd]) ?_ ?_ ?_ | refine st_lexit ?_) | (intro h_; try simp only [reduceCtorEq, y1, y2, y3, y4, y5, y6, y7, y8, y9, z1, z2, z3, z4, z5, z6, z7, ne_eq] at h_))
          all_goals try (first | contradiction | exact True.intro | omega | rfl | (simp [AV.fits, AV.cells, AV.one, DV.fits, DV.cells, DV.one, DV.conf, confL, DV.conf1]; done) | (simp [AV.fits, AV.cells, AV.one, DV.fits, DV.cells, DV.one, DV.conf, confL, DV.conf1, *] <;> omega))
          exact st_lnormw (ys := [.d (dInp x), .d (.vs (y.map dI)), .ptr 0 0 0, .nils, .d (.int .i64 n), .d (.int .i64 W), .hs 1 0 N 1, .d (.int .i64 (i : Int)), .d (.int .i64 ((j : Int) - 1)), .undef, .undef, .undef, .undef, .undef, .undef]) (by simp [weak])
            ⟨j, H3, _, _, _, _, _, by omega, rfl, k0, k1⟩ (by simp [St.int] <;> omega)
end Go.Vm.L
