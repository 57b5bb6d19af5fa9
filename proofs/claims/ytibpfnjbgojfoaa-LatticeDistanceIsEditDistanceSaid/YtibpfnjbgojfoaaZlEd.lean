/- Lattice: the program's table of edit distances; the law of edit distances. -/
import Derived.Test.YtibpfnjbgojfoaaZlEc
set_option linter.all false
set_option maxHeartbeats 8000000
namespace Go.Vm.L
open Go Go.Vm
attribute [local simp] q_and q_loc q_var q_k q_sob_undef q_strip_undef q_sob_d q_strip_d q_sob_nils q_strip_nils q_sob_ptr q_strip_ptr q_sob_hs q_strip_hs q_sob_mp q_strip_mp q_sob_it q_strip_it q_sob_fp q_strip_fp q_sob_clo q_strip_clo q_sob_ifc q_strip_ifc q_sob_agg q_strip_agg q_sob_tup q_strip_tup q_sob_when q_strip_when q_argsOb0 q_argsOb1 q_mov q_pick q_pick000 q_pick001 q_pick010 q_pick011 q_pick100 q_pick101 q_pick110 q_pick111 q_bin q_eqs q_not q_neg q_conv q_fieldAddr q_load q_extract q_len q_nilCheck q_mkIface q_alloc q_box q_build q_lit q_mkFunc q_mkMap q_mkSlice q_slice q_ixa q_idx q_lookup q_field q_minmax q_i_add q_i_sub q_i_mul q_i_quo q_i_rem q_i_eql q_i_neq q_i_lss q_i_leq q_i_gtr q_i_geq q_i_and q_i_or q_i_xor q_i_shl q_i_shr q_b_eql q_s_eql q_b_neq q_s_neq q_s_add q_eqsd q_notd q_negd q_convd q_fap q_faf q_ldf q_ldp q_ldps q_exd q_len0 q_len0n q_len0h q_len1 q_len2 q_lenp q_lkp q_lkf q_lkps q_ncp q_ncf q_mkI q_mkF q_mkS q_ixd q_iaf q_iap q_ixh q_slvs q_slvh q_slvl q_mm1 q_mm2 q_mx2 q_fl q_flw q_bo q_bow q_add0 q_addf q_addo q_so0 q_so1 q_mk_mov q_mk_bin q_mk_eqs q_mk_not q_mk_neg q_mk_conv q_mk_fieldAddr q_mk_load q_mk_ixa q_mk_idx q_mk_lookup q_mk_len q_mk_pick q_mk_field q_mk_slice q_mk_build q_mk_minmax q_mk_extract q_mk_nilCheck q_mk_lit q_mk_box q_mk_alloc q_pd0 q_pdo0 q_pdb q_pdob q_pdv q_pdov q_pda q_pdoa q_pad q_paod q_paa q_paoa q_pdT q_pdoT q_obz q_obs q_eqk q_eqL0 q_eqL1 q_eq1i q_fitd

@[local simp] theorem pa_hs {a b c d : Nat} : partA (.hs a b c d) 0 1 false = .hs a b c d := (rfl)
@[local simp] theorem pao_hs {a b c d : Nat} : partAOb (.hs a b c d) 0 1 false = True := by simp [partAOb, AV.cells]
def rowL (x : Inp) (y : List Int) (W i : Nat) : List Int := (List.range W).map (ed x y i)
def fillR (x : Inp) (y : List Int) (W i p : Nat) : List Int := (List.range W).map fun q => if p ≤ q then ed x y i q else 0
theorem fillR_len (x : Inp) (y : List Int) (W i p : Nat) : (fillR x y W i p).length = W := by simp [fillR]
theorem fillR_set {x : Inp} {y : List Int} {W i p : Nat} : (fillR x y W i (p + 1)).set p (ed x y i p) = fillR x y W i p := by
  apply List.ext_getElem?
  intro q
  simp only [fillR, List.getElem?_set, List.getElem?_map, List.length_map, List.length_range]
  by_cases h : p = q
  · subst h
    by_cases h2 : p < W
    · simp [h2]
    · simp [h2]
  · rw [if_neg h]
    by_cases h2 : q < W
    · simp only [List.getElem?_range h2, Option.map_some, Option.some.injEq]
      by_cases h3 : p ≤ q
      · rw [if_pos h3, if_pos (by omega)]
      · rw [if_neg h3, if_neg (by omega)]
    · rw [List.getElem?_eq_none (by simp; omega)]; rfl
theorem fillR_all (x : Inp) (y : List Int) (W i : Nat) : fillR x y W i W = List.replicate W 0 := by
  apply List.ext_getElem?
  intro q
  simp only [fillR, List.getElem?_map, List.getElem?_replicate]
  by_cases h2 : q < W
  · rw [List.getElem?_range h2, if_pos h2]; simp; omega
  · rw [List.getElem?_eq_none (by simp; omega), if_neg h2]; rfl
theorem fillR_zero (x : Inp) (y : List Int) (W i : Nat) : fillR x y W i 0 = rowL x y W i := by simp [fillR, rowL]
theorem fillR_get {x : Inp} {y : List Int} {W i p q : Nat} (h1 : p ≤ q) (h2 : q < W) : (fillR x y W i p).getD q 0 = ed x y i q := by
  simp [fillR, List.getD_eq_getElem?_getD, h2, h1]
theorem rowL_get {x : Inp} {y : List Int} {W i q : Nat} (h2 : q < (rowL x y W i).length) : (rowL x y W i)[q] = ed x y i q := by simp [rowL]
def outE (x : Inp) (y : List Int) (W n p : Nat) : List AV := List.replicate p .nils ++ (List.range (n + 1 - p)).map fun k => .d (.vs ((rowL x y W (p + k)).map dI))
theorem outE_len {x : Inp} {y : List Int} {W n p : Nat} (h : p ≤ n + 1) : (outE x y W n p).length = n + 1 := by simp [outE]; omega
theorem outE_set (x : Inp) (y : List Int) (W n i : Nat) (v : AV) : (outE x y W n (i + 1)).set i v = List.replicate i .nils ++ v :: (List.range (n + 1 - (i + 1))).map fun k => .d (.vs ((rowL x y W (i + 1 + k)).map dI)) := by
  rw [outE, List.replicate_succ', List.append_assoc, List.set_append_right _ _ (by simp)]
  simp
theorem outE_step {x : Inp} {y : List Int} {W n i : Nat} (hi : i ≤ n) : outE x y W n i = List.replicate i .nils ++ .d (.vs ((rowL x y W i).map dI)) :: (List.range (n + 1 - (i + 1))).map fun k => .d (.vs ((rowL x y W (i + 1 + k)).map dI)) := by
  rw [outE, show n + 1 - i = (n + 1 - (i + 1)) + 1 by omega, List.range_succ_eq_map, List.map_cons, List.map_map]
  congr 2
  refine List.map_congr_left fun k _ => ?_
  simp only [Function.comp]
  congr 3; congr 1; omega
theorem outE_own {x : Inp} {y : List Int} {W n i : Nat} {v : AV} : ((outE x y W n (i + 1)).set i v)[i]? = some v := by
  rw [outE_set, List.getElem?_append_right (by simp)]; simp
theorem outE_old {x : Inp} {y : List Int} {W n i q : Nat} {v : AV} (h1 : i < q) (h2 : q ≤ n) : ((outE x y W n (i + 1)).set i v)[q]? = some (.d (.vs ((rowL x y W q).map dI))) := by
  rw [outE_set, List.getElem?_append_right (by simp; omega), List.length_replicate, show q - i = (q - i - 1) + 1 by omega, List.getElem?_cons_succ, List.getElem?_map, List.getElem?_range (by omega)]
  simp only [Option.map_some]
  congr 4; congr 1; omega

structure SF (x : Inp) (y : List Int) (i j : Nat) (s : Stp) : Prop where
  t : i + s.tok ≤ x.cols.length
  e : j + s.em ≤ y.length
  c : 0 ≤ s.cost ∧ s.cost ≤ 1099511627776
  z : s.tok = 0 → 1 ≤ s.em
theorem steps_ok {x : Inp} (hx : WF x) {y : List Int} (hy : ∀ t ∈ y, 0 ≤ t ∧ t < x.insert.length) {i j : Nat} (hi : i ≤ x.cols.length) (hj : j ≤ y.length) : ∀ s ∈ stepsL x y i j, SF x y i j s := by
  intro s hs
  simp only [stepsL, List.mem_append] at hs
  rcases hs with ((hs | hs) | hs) | hs
  · unfold sR at hs; split at hs
    · rename_i h
      simp only [List.mem_singleton] at hs; subst hs
      have ht := getD_bd (P := fun t => 0 ≤ t ∧ t < x.insert.length) h.2.1 hy
      have := readAt_bd hx h.1 (t := (y.getD j 0).toNat) (by omega)
      exact ⟨by simp only; omega, by simp only; omega, by simp only; omega, by simp⟩
    · cases hs
  · unfold sD at hs; split at hs
    · rename_i h
      simp only [List.mem_singleton] at hs; subst hs
      have hd := hx.cols x.cols[i] (List.getElem_mem h.1)
      have : delAt x i = x.cols[i].del := by simp [delAt, h.1]
      exact ⟨by simp only; omega, by simp only; omega, by simp only; omega, by simp⟩
    · cases hs
  · unfold sI at hs; split at hs
    · rename_i h
      simp only [List.mem_singleton] at hs; subst hs
      have ht := getD_bd (P := fun t => 0 ≤ t ∧ t < x.insert.length) h hy
      have := getD_bd (P := fun p => 1 ≤ p ∧ p ≤ 60000) (i := (y.getD j 0).toNat) (by omega) hx.ins
      exact ⟨by simp only; omega, by simp only; omega, by simp only; omega, by simp⟩
    · cases hs
  · unfold sS at hs; split at hs
    · rename_i h
      simp only [List.mem_singleton] at hs; subst hs
      have := swapB_lt h.1
      have := hx.swap
      exact ⟨by simp only; omega, by simp only; omega, by simp only; omega, by simp⟩
    · cases hs
def bestStep (x : Inp) (y : List Int) (i j : Nat) (b : Int) (s : Stp) : Int := min b (min (s.cost + ed x y (i + s.tok) (j + s.em)) 1099511627776)
def bestS (x : Inp) (y : List Int) (i j : Nat) (L : List Stp) : Int := L.foldl (bestStep x y i j) 1099511627776
theorem bestS_ed {x : Inp} (hx : WF x) {y : List Int} (hy : ∀ t ∈ y, 0 ≤ t ∧ t < x.insert.length) {i j : Nat} (hi : i ≤ x.cols.length) (hj : j ≤ y.length) (he : ¬ (i = x.cols.length ∧ j = y.length)) : bestS x y i j (stepsL x y i j) = ed x y i j := by
  rw [ed_eq hi hj, edS, if_neg he, bestS, stepsL, List.foldl_append, List.foldl_append, List.foldl_append]
  have h1 : ∀ b, b ≤ 1099511627776 → (sR x y i j).foldl (bestStep x y i j) b = min b (optR x y (ed x y) i j) := by
    intro b hb
    unfold sR optR; split
    · rfl
    · rw [List.foldl_nil]; omega
  have h2 : ∀ b, b ≤ 1099511627776 → (sD x i).foldl (bestStep x y i j) b = min b (optD x (ed x y) i j) := by
    intro b hb
    unfold sD optD
    by_cases h : i < x.cols.length
    · rw [if_pos h]
      by_cases h2 : delAt x i < 1099511627776
      · rw [if_pos ⟨h, h2⟩]; rfl
      · rw [if_neg (fun h' => h2 h'.2), List.foldl_nil]
        have := (ed_bd hx hy (show i + 1 ≤ x.cols.length by omega) hj).1
        omega
    · rw [if_neg h, if_neg (fun h' => h h'.1), List.foldl_nil]; omega
  have h3 : ∀ b, b ≤ 1099511627776 → (sI x y j).foldl (bestStep x y i j) b = min b (optI x y (ed x y) i j) := by
    intro b hb
    unfold sI optI; split
    · rfl
    · rw [List.foldl_nil]; omega
  have h4 : ∀ b, b ≤ 1099511627776 → (sS x y i j).foldl (bestStep x y i j) b = min b (optS x y (ed x y) i j) := by
    intro b hb
    unfold sS optS; split
    · rfl
    · rw [List.foldl_nil]; omega
  have hR : optR x y (ed x y) i j ≤ 1099511627776 := by unfold optR; split <;> omega
  rw [h1 _ (Int.le_refl _), h2 _ (by omega), h3 _ (by omega), h4 _ (by omega)]
  omega
theorem bestS_bd {x : Inp} (hx : WF x) {y : List Int} (hy : ∀ t ∈ y, 0 ≤ t ∧ t < x.insert.length) {i j : Nat} : ∀ (L : List Stp) (b : Int), (∀ s ∈ L, SF x y i j s) → 0 ≤ b → b ≤ 1099511627776 → 0 ≤ L.foldl (bestStep x y i j) b ∧ L.foldl (bestStep x y i j) b ≤ 1099511627776
  | [], b, _, h1, h2 => ⟨h1, h2⟩
  | s :: r, b, h, h1, h2 => by
    obtain ⟨a1, a2, a3, _⟩ := h s (by simp)
    have := ed_bd hx hy a1 a2
    rw [List.foldl_cons]
    refine bestS_bd hx hy r _ (fun s hs => h s (by simp [hs])) ?_ ?_ <;> (unfold bestStep; omega)

theorem table44 (x : Inp) (y : List Int) (W n : Nat) (hx : WF x) (hyl : y.length ≤ 1000) (hy : ∀ t ∈ y, 0 ≤ t ∧ t < x.insert.length) (hW : W = y.length + 1) (hn : n = x.cols.length) :
    Pure prog 44 [.d (dInp x), .d (.vs (y.map dI))] (.d (.vs ((List.range (n + 1)).map fun i => .vs ((rowL x y W i).map dI)))) := by
  have hnb := hx.n
  refine fn_of e44 hm (by rfl) (vs := [.d (dInp x), .d (.vs (y.map dI)), .undef, .undef, .undef, .undef, .undef, .undef, .undef, .undef, .undef, .undef, .undef, .undef, .undef, .undef, .undef, .undef]) rfl ?_
  unfold c44
  obtain ⟨m, hmm⟩ : ∃ m, m = y.length := ⟨_, rfl⟩
  obtain ⟨NR, hNR⟩ : ∃ NR, NR = n + 1 := ⟨_, rfl⟩
  have w1 : IntKind.i64.wrap ((x.cols.length : Int) + 1) = (NR : Int) := by rw [wrap64 (by omega) (by omega)]; omega
  have w2 : IntKind.i64.wrap ((m : Int) + 1) = (W : Int) := by rw [wrap64 (by omega) (by omega)]; omega
  have ln : (x.cols.length : Int) = (n : Int) := by omega
  have lm : (y.length : Int) = (m : Int) := by omega
  repeat' (first | (with_reducible first | refine st_reg ?_ | refine sN (by conv => lhs; simp [litV, litE, litOb, toDL, AV.toD, AV.norm, List.replicate, fillC, fillOb, AV.mkAgg, AV.allD, AV.cells, DV.cells, dInp, w1]) ?_ | refine rN ?_ ?_ | refine rO ?_ ?_ | refine rF ?_ ?_ | refine sG (by conv => lhs; simp [litV, litE, litOb, toDL, AV.toD, AV.norm, List.replicate, fillC, fillOb, AV.mkAgg, AV.allD, AV.cells, DV.cells, dInp, w1]) ?_ | refine gF ?_ | refine gS rfl (by conv => lhs; simp [litV, litE, litOb, toDL, AV.toD, AV.norm, List.replicate, fillC, fillOb, AV.mkAgg, AV.allD, AV.cells, DV.cells, dInp, w1]) ?_ ?_ | (refine st_gef0 ?_ ?_; focus (conv => (lhs; simp [litV, litE, litOb, toDL, AV.toD, AV.norm, List.replicate, fillC, fillOb, AV.mkAgg, AV.allD, AV.cells, DV.cells, dInp, w1])); done) | refine sE (by conv => lhs; simp) ?_ | refine Nx.go ?_ | refine st_blke' (by decide) ?_ | refine st_seq ?_ | refine st_blk ?_ | refine st_cond (by conv => lhs; simp) (by conv => lhs; simp [litV, litE, litOb, toDL, AV.toD, AV.norm, List.replicate, fillC, fillOb, AV.mkAgg, AV.allD, AV.cells, DV.cells, dInp, w1]) ?_ ?_ ?_ | refine st_lexit ?_) | (intro h_; try simp only [reduceCtorEq, y1, y2, y3, y4, y5, y6, y7, y8, y9, z1, z2, z3, z4, z5, z6, z7, ne_eq] at h_))
  all_goals try (first | contradiction | exact True.intro | omega | rfl | (simp [AV.fits, AV.cells, AV.one, DV.fits, DV.cells, DV.one, DV.conf, confL, DV.conf1]; done) | (simp [AV.fits, AV.cells, AV.one, DV.fits, DV.cells, DV.one, DV.conf, confL, DV.conf1, *] <;> omega))
  refine wpC_loop (fun s => ∃ (pr : Nat) (H : Heap) (v8 v9 v10 v11 v12 v13 v14 v15 v16 v17 : AV), pr ≤ n + 1 ∧ s = ⟨[.d (dInp x), .d (.vs (y.map dI)), .ptr 0 0 0, .nils, .d (.int .i64 n), .d (.int .i64 m), .hs 1 0 NR 1, .d (.int .i64 ((pr : Int) - 1)), v8, v9, v10, v11, v12, v13, v14, v15, v16, v17], H⟩ ∧
      H.ob 0 = some (.arr 3 [.d (dInp x)]) ∧ H.ob 1 = some (.arr 1 (outE x y W n pr)))
    (fun s => (s.int 7 + 1).toNat)
    (s' := ⟨[.d (dInp x), .d (.vs (y.map dI)), .ptr 0 0 0, .nils, .d (.int .i64 n), .d (.int .i64 m), .hs 1 0 NR 1, .d (.int .i64 (((n + 1 : Nat) : Int) - 1)), .undef, .undef, .undef, .undef, .undef, .undef, .undef, .undef, .undef, .undef], [some (.arr 3 [.d (dInp x)]), some (.arr 1 (List.replicate NR .nils))]⟩)
    (Gh.weak (by simp [weak, ln, lm])) ⟨n + 1, _, _, _, _, _, _, _, _, _, _, _, by omega, rfl, rfl, ?_⟩ ?_
  · rw [outE, Nat.sub_self, List.range_zero, List.map_nil, List.append_nil, ← hNR]; rfl
  rintro _ ⟨pr, H, v8, v9, v10, v11, v12, v13, v14, v15, v16, v17, hpr, rfl, h0, h1⟩
  cases pr with
  | zero =>
    repeat' (first | (with_reducible first | refine st_reg ?_ | refine sN (by conv => lhs; simp) ?_ | refine rN ?_ ?_ | refine rO ?_ ?_ | refine rF ?_ ?_ | refine sG (by conv => lhs; simp) ?_ | refine gF ?_ | refine gS rfl (by conv => lhs; simp) ?_ ?_ | (refine st_gef0 ?_ ?_; focus (conv => (lhs; simp)); done) | refine sE (by conv => lhs; simp) ?_ | refine Nx.go ?_ | refine st_blke' (by decide) ?_ | refine st_seq ?_ | refine st_blk ?_ | refine st_cond (by conv => lhs; simp) (by conv => lhs; simp) ?_ ?_ ?_ | refine st_lexit ?_) | (intro h_; try simp only [reduceCtorEq, y1, y2, y3, y4, y5, y6, y7, y8, y9, z1, z2, z3, z4, z5, z6, z7, ne_eq] at h_))
    all_goals try (first | contradiction | exact True.intro | omega | rfl | (simp [AV.fits, AV.cells, AV.one, DV.fits, DV.cells, DV.one, DV.conf, confL, DV.conf1]; done) | (simp [AV.fits, AV.cells, AV.one, DV.fits, DV.cells, DV.one, DV.conf, confL, DV.conf1, *] <;> omega))
    refine atEnd_frz (id := 1) (off := 0) (len := NR) (sz := 1) rfl (arrOf_ob h1) (by rw [outE_len (by omega)]; omega) (ds := (List.range (n + 1)).map fun i => .vs ((rowL x y W i).map dI)) ?_ rfl
    rw [List.drop_zero, List.take_of_length_le (by rw [outE_len (by omega)]; omega), outE, List.replicate_zero, List.nil_append, Nat.sub_zero]
    rw [show ((List.range (n + 1)).map fun k => AV.d (.vs ((rowL x y W (0 + k)).map dI))) = ((List.range (n + 1)).map fun i => DV.vs ((rowL x y W i).map dI)).map .d by rw [List.map_map]; refine List.map_congr_left fun k _ => ?_; simp only [Function.comp, Nat.zero_add]]
    exact toDL_map _
  | succ i =>
    have hi : i ≤ x.cols.length := by omega
    have hiN : i < NR := by omega
    rw [show ((i + 1 : Nat) : Int) - 1 = (i : Int) by omega]
    have l1 := ob_lt h1
    obtain ⟨rid, hrid⟩ : ∃ rid, rid = H.length := ⟨_, rfl⟩
    have lo1 : (outE x y W n (i + 1)).length = NR := by rw [outE_len (by omega), hNR]
    refine st_seq ?_
    repeat' (first | (with_reducible first | refine st_reg ?_ | refine sN (by conv => lhs; simp [w2]) ?_ | refine rN ?_ ?_ | refine rO ?_ ?_ | refine rF ?_ ?_ | refine sG (by conv => lhs; simp [w2]) ?_ | refine gF ?_ | refine gS rfl (by conv => lhs; simp [w2]) ?_ ?_ | (refine st_gef0 ?_ ?_; focus (conv => (lhs; simp [w2])); done) | refine sE (by conv => lhs; simp) ?_ | refine Nx.go ?_ | refine st_blke' (by decide) ?_ | refine st_seq ?_ | refine st_blk ?_ | refine st_cond (by conv => lhs; simp) (by conv => lhs; simp [w2]) ?_ ?_ ?_ | refine st_lexit ?_) | (intro h_; try simp only [reduceCtorEq, y1, y2, y3, y4, y5, y6, y7, y8, y9, z1, z2, z3, z4, z5, z6, z7, ne_eq] at h_))
    all_goals try (first | contradiction | exact True.intro | omega | rfl | (simp [AV.fits, AV.cells, AV.one, DV.fits, DV.cells, DV.one, DV.conf, confL, DV.conf1]; done) | (simp [AV.fits, AV.cells, AV.one, DV.fits, DV.cells, DV.one, DV.conf, confL, DV.conf1, *] <;> omega))
    refine st_e (stA_store (id := 1) (ix := i) (o := 0) (sz := 1) (v := .hs H.length 0 W 1) (es := outE x y W n (i + 1)) ⟨by simp, trivial⟩ (by conv => lhs; simp) (by conv => lhs; simp) (arrOf_ob (ob_old h1)) ⟨by omega, by omega⟩ (by simp [AV.fits, AV.cells, AV.one]) updA_whole (by simp [AV.fits, AV.cells, AV.one]) (fun H2 hW2 => ⟨trivial, ?_⟩))
    have b0 := hW2.ob' (by omega) (ob_old h0)
    have b1 := hW2.self
    have br : H2.ob rid = some (.arr 1 (List.replicate W (.d (.int .i64 0)))) := by rw [hW2.ob (by omega), hrid, ob_new]
    have bl : rid < H2.length := by rw [hW2.len]; simp; omega
    rw [← hrid]
    rw [← hrid] at b1
    obtain ⟨OE, hOE⟩ : ∃ OE, OE = (outE x y W n (i + 1)).set i (.hs rid 0 W 1) := ⟨_, rfl⟩
    have lOE : OE.length = NR := by rw [hOE, List.length_set, lo1]
    have gOwn : OE[i]? = some (.hs rid 0 W 1) := by rw [hOE]; exact outE_own
    have gOld : ∀ q, i < q → q ≤ n → OE[q]? = some (.d (.vs ((rowL x y W q).map dI))) := fun q a b => by rw [hOE]; exact outE_old a b
    rw [← hOE] at b1
    have hr2 : 2 ≤ rid := by omega
    clear hW2 h0 h1 l1
    repeat' (first | (with_reducible first | refine st_reg ?_ | refine sN (by conv => lhs; simp) ?_ | refine rN ?_ ?_ | refine rO ?_ ?_ | refine rF ?_ ?_ | refine sG (by conv => lhs; simp) ?_ | refine gF ?_ | refine gS rfl (by conv => lhs; simp) ?_ ?_ | (refine st_gef0 ?_ ?_; focus (conv => (lhs; simp)); done) | refine sE (by conv => lhs; simp) ?_ | refine Nx.go ?_ | refine st_blke' (by decide) ?_ | refine st_seq ?_ | refine st_blk ?_ | refine st_cond (by conv => lhs; simp) (by conv => lhs; simp) ?_ ?_ ?_ | refine st_lexit ?_) | (intro h_; try simp only [reduceCtorEq, y1, y2, y3, y4, y5, y6, y7, y8, y9, z1, z2, z3, z4, z5, z6, z7, ne_eq] at h_))
    all_goals try (first | contradiction | exact True.intro | omega | rfl | (simp [AV.fits, AV.cells, AV.one, DV.fits, DV.cells, DV.one, DV.conf, confL, DV.conf1]; done) | (simp [AV.fits, AV.cells, AV.one, DV.fits, DV.cells, DV.one, DV.conf, confL, DV.conf1, *] <;> omega))
    refine wpC_loop (fun s => ∃ (qr : Nat) (H : Heap) (v9 v10 v12 v13 v14 v15 v16 v17 : AV), qr ≤ W ∧ s = ⟨[.d (dInp x), .d (.vs (y.map dI)), .ptr 0 0 0, .nils, .d (.int .i64 n), .d (.int .i64 m), .hs 1 0 NR 1, .d (.int .i64 (i : Int)), .d (.int .i64 ((qr : Int) - 1)), v9, v10, .undef, v12, v13, v14, v15, v16, v17], H⟩ ∧
        H.ob 0 = some (.arr 3 [.d (dInp x)]) ∧ H.ob 1 = some (.arr 1 OE) ∧ H.ob rid = some (.arr 1 (((fillR x y W i qr).map dI).map .d)))
      (fun s => (s.int 8 + 1).toNat)
      (s' := ⟨[.d (dInp x), .d (.vs (y.map dI)), .ptr 0 0 0, .nils, .d (.int .i64 n), .d (.int .i64 m), .hs 1 0 NR 1, .d (.int .i64 (i : Int)), .d (.int .i64 (((m + 1 : Nat) : Int) - 1)), .undef, .undef, .undef, .undef, .undef, .undef, .undef, .undef, .undef], H2⟩)
      (Gh.weak (by simp [weak])) ⟨W, H2, _, _, _, _, _, _, _, _, by omega, by rw [hW, hmm], b0, b1, by rw [br, fillR_all]; simp [dI]⟩ ?_
    clear b0 b1 br bl
    rintro _ ⟨qr, H, v9, v10, v12, v13, v14, v15, v16, v17, hqr, rfl, h0, h1, hR⟩
    cases qr with
    | zero =>
      have hwd : IntKind.i64.wrap ((i : Int) - 1) = (i : Int) - 1 := wrap64 (by omega) (by omega)
      repeat' (first | (with_reducible first | refine st_reg ?_ | refine sN (by conv => lhs; simp [hwd]) ?_ | refine rN ?_ ?_ | refine rO ?_ ?_ | refine rF ?_ ?_ | refine sG (by conv => lhs; simp [hwd]) ?_ | refine gF ?_ | refine gS rfl (by conv => lhs; simp [hwd]) ?_ ?_ | (refine st_gef0 ?_ ?_; focus (conv => (lhs; simp [hwd])); done) | refine sE (by conv => lhs; simp) ?_ | refine Nx.go ?_ | refine st_blke' (by decide) ?_ | refine st_seq ?_ | refine st_blk ?_ | refine st_cond (by conv => lhs; simp) (by conv => lhs; simp [hwd]) ?_ ?_ ?_ | refine st_lexit ?_) | (intro h_; try simp only [reduceCtorEq, y1, y2, y3, y4, y5, y6, y7, y8, y9, z1, z2, z3, z4, z5, z6, z7, ne_eq] at h_))
      all_goals try (first | contradiction | exact True.intro | omega | rfl | (simp [AV.fits, AV.cells, AV.one, DV.fits, DV.cells, DV.one, DV.conf, confL, DV.conf1]; done) | (simp [AV.fits, AV.cells, AV.one, DV.fits, DV.cells, DV.one, DV.conf, confL, DV.conf1, *] <;> omega))
      refine st_lnorm (s' := ⟨[.d (dInp x), .d (.vs (y.map dI)), .ptr 0 0 0, .nils, .d (.int .i64 n), .d (.int .i64 m), .hs 1 0 NR 1, .d (.int .i64 ((i : Int) - 1)), .undef, .undef, .undef, .undef, .undef, .undef, .undef, .undef, .undef, .undef], Heap.subm (gArr rid ((fillR x y W i 0).map dI)) (H.set rid none)⟩)
        (Gh.trans (Gh.weak (ys := [.d (dInp x), .d (.vs (y.map dI)), .ptr 0 0 0, .nils, .d (.int .i64 n), .d (.int .i64 m), .hs 1 0 NR 1, .d (.int .i64 ((i : Int) - 1)), .undef, .undef, .undef, .undef, .undef, .undef, .undef, .undef, .undef, .undef]) (by simp [weak])) ?_)
        ⟨i, _, _, _, _, _, _, _, _, _, _, _, by omega, rfl, ?_, ?_⟩ (by simp [St.int] <;> omega)
      · have hg := Gh.letarr (xs := [.d (dInp x), .d (.vs (y.map dI)), .ptr 0 0 0, .nils, .d (.int .i64 n), .d (.int .i64 m), .hs 1 0 NR 1, .d (.int .i64 ((i : Int) - 1)), .undef, .undef, .undef, .undef, .undef, .undef, .undef, .undef, .undef, .undef]) (arrOf_ob hR) (ds := (fillR x y W i 0).map dI) (toDL_map _)
        have hne : ¬ (1 = rid) := by omega
        simpa [AV.subm, gArr, hne] using hg
      · rw [subm_ob, ob_set_ne (by omega), h0]; simp [Ob.subm, submL, AV.subm]
      · rw [subm_ob, ob_set_ne (by omega), h1, Option.map_some, Ob.subm, submL_map, hOE, outE_set, outE_step (by omega), fillR_zero]
        have e0 : (AV.hs rid 0 W 1).subm (gArr rid ((rowL x y W i).map dI)) = .d (.vs ((rowL x y W i).map dI)) := by
          have hl : (rowL x y W i).length = W := by simp [rowL]
          simp only [AV.subm, gArr, List.length_map, hl, Nat.zero_add, Nat.le_refl, and_self, if_true, List.drop_zero]
          rw [List.take_of_length_le (by simp [hl])]
        rw [List.map_append, List.map_cons, e0, List.map_replicate, List.map_map]
        congr 2
    | succ j =>
      have hj : j ≤ y.length := by omega
      have hjW : j < W := by omega
      rw [show ((j + 1 : Nat) : Int) - 1 = (j : Int) by omega]
      obtain ⟨ts, hts⟩ : ∃ ts, ts = fillR x y W i (j + 1) := ⟨_, rfl⟩
      have htl : ts.length = W := by rw [hts, fillR_len]
      have hset : ts.set j (ed x y i j) = fillR x y W i j := by rw [hts]; exact fillR_set
      have htg : ∀ q, j + 1 ≤ q → q < W → ts.getD q 0 = ed x y i q := fun q a b => by rw [hts]; exact fillR_get a b
      rw [← hts] at hR
      obtain ⟨RF, hRF⟩ : ∃ RF, RF = (ts.map dI).map AV.d := ⟨_, rfl⟩
      have lRF : RF.length = W := by rw [hRF]; simp [htl]
      rw [← hRF] at hR
      have lR := ob_lt hR
      have hwd : IntKind.i64.wrap ((j : Int) - 1) = (j : Int) - 1 := wrap64 (by omega) (by omega)
      have gOwn2 : OE[i]'(by omega) = .hs rid 0 W 1 := (List.getElem?_eq_some_iff.1 gOwn).2
      by_cases hend : i = n ∧ j = m
      · have e1 : ((i : Int) == (n : Int)) = true := by simp; omega
        have e2 : ((j : Int) == (m : Int)) = true := by simp; omega
        repeat' (first | (with_reducible first | refine st_reg ?_ | refine sN (by conv => lhs; simp [e1, e2, hwd]) ?_ | refine rN ?_ ?_ | refine rO ?_ ?_ | refine rF ?_ ?_ | refine sG (by conv => lhs; simp [e1, e2, hwd]) ?_ | refine gF ?_ | refine gS rfl (by conv => lhs; simp [e1, e2, hwd]) ?_ ?_ | (refine st_gef0 ?_ ?_; focus (conv => (lhs; simp [e1, e2, hwd])); done) | refine sE (by conv => lhs; simp) ?_ | refine Nx.go ?_ | refine st_blke' (by decide) ?_ | refine st_seq ?_ | refine st_blk ?_ | refine st_cond (by conv => lhs; simp) (by conv => lhs; simp [e1, e2, hwd]) ?_ ?_ ?_ | refine st_lexit ?_) | (intro h_; try simp only [reduceCtorEq, y1, y2, y3, y4, y5, y6, y7, y8, y9, z1, z2, z3, z4, z5, z6, z7, ne_eq] at h_))
        all_goals try (first | contradiction | exact True.intro | omega | rfl | (simp [AV.fits, AV.cells, AV.one, DV.fits, DV.cells, DV.one, DV.conf, confL, DV.conf1]; done) | (simp [AV.fits, AV.cells, AV.one, DV.fits, DV.cells, DV.one, DV.conf, confL, DV.conf1, *] <;> omega))
        refine st_lnormw (ys := [.d (dInp x), .d (.vs (y.map dI)), .ptr 0 0 0, .nils, .d (.int .i64 n), .d (.int .i64 m), .hs 1 0 NR 1, .d (.int .i64 (i : Int)), .d (.int .i64 ((j : Int) - 1)), .undef, .undef, .undef, .undef, .undef, .undef, .undef, .undef, .undef]) (by simp [weak])
          ⟨j, H, _, _, _, _, _, _, _, _, by omega, rfl, h0, h1, ?_⟩ (by simp [St.int] <;> omega)
        have z : ed x y i j = 0 := by rw [ed_eq hi hj, edS, if_pos (by omega)]
        rw [hR, hRF, ← hset, z]
        congr 4
        apply List.ext_getElem?
        intro q
        rw [List.getElem?_set]
        split
        · rename_i e; subst e
          rw [if_pos (by omega), hts]
          simp [fillR, hjW]
          intro h; omega
        · rfl
      have hne : ¬ (i = x.cols.length ∧ j = y.length) := by omega
      obtain ⟨L, hL⟩ : ∃ L, L = stepsL x y i j := ⟨_, rfl⟩
      have hLok := steps_ok hx hy hi hj
      have hLb := bestS_ed hx hy hi hj hne
      have hst := steps56 x y i j hx hyl hy hi hj
      rw [← hL] at hLok hLb hst
      have hLl : L.length ≤ 4 := by
        have q1 : (sR x y i j).length ≤ 1 := by unfold sR; split <;> simp
        have q2 : (sD x i).length ≤ 1 := by unfold sD; split <;> simp
        have q3 : (sI x y j).length ≤ 1 := by unfold sI; split <;> simp
        have q4 : (sS x y i j).length ≤ 1 := by unfold sS; split <;> simp
        rw [hL]; simp [stepsL]; omega
      clear hL
      have h0' := h0
      simp only [dInp] at h0'
      -- the loop over the steps, and what follows
      have rest : ∀ (Q : XE → St → Prop) (v10 v11 v12 v13 v17 : AV), (∀ (H' : Heap) (v10 v16 v17 : AV), H'.ob 0 = some (.arr 3 [.d (dInp x)]) → H'.ob 1 = some (.arr 1 OE) → H'.ob rid = some (.arr 1 RF) → Q (.exit 4) ⟨[.d (dInp x), .d (.vs (y.map dI)), .ptr 0 0 0, .nils, .d (.int .i64 n), .d (.int .i64 m), .hs 1 0 NR 1, .d (.int .i64 (i : Int)), .d (.int .i64 (j : Int)), .d (.int .i64 (ed x y i j)), v10, .undef, .undef, .undef, .d (.vs (L.map dStp)), .d (.int .i64 L.length), v16, v17], H'⟩) →
          wpC prog (.loop (.seq (.reg c44r11) (.seq (.cond (.var 17) .skip (.exit 4)) (.seq (.block 5 (.seq (.reg c44r12) (.reg c44r13))) (.reg c44r14))))) Q
            ⟨[.d (dInp x), .d (.vs (y.map dI)), .ptr 0 0 0, .nils, .d (.int .i64 n), .d (.int .i64 m), .hs 1 0 NR 1, .d (.int .i64 (i : Int)), .d (.int .i64 (j : Int)), .d (.int .i64 1099511627776), v10, v11, v12, v13, .d (.vs (L.map dStp)), .d (.int .i64 L.length), .d (.int .i64 0), v17], H⟩ := by
        intro Q v10 v11 v12 v13 v17 hk
        refine wpC_loop (fun s => ∃ (k : Nat) (H : Heap) (v10 v17 : AV), k ≤ L.length ∧ s = ⟨[.d (dInp x), .d (.vs (y.map dI)), .ptr 0 0 0, .nils, .d (.int .i64 n), .d (.int .i64 m), .hs 1 0 NR 1, .d (.int .i64 (i : Int)), .d (.int .i64 (j : Int)), .d (.int .i64 (bestS x y i j (L.take k))), v10, .undef, .undef, .undef, .d (.vs (L.map dStp)), .d (.int .i64 L.length), .d (.int .i64 k), v17], H⟩ ∧
            H.ob 0 = some (.arr 3 [.d (dInp x)]) ∧ H.ob 1 = some (.arr 1 OE) ∧ H.ob rid = some (.arr 1 RF))
          (fun s => L.length - (s.int 16).toNat)
          (s' := ⟨[.d (dInp x), .d (.vs (y.map dI)), .ptr 0 0 0, .nils, .d (.int .i64 n), .d (.int .i64 m), .hs 1 0 NR 1, .d (.int .i64 (i : Int)), .d (.int .i64 (j : Int)), .d (.int .i64 1099511627776), .undef, .undef, .undef, .undef, .d (.vs (L.map dStp)), .d (.int .i64 L.length), .d (.int .i64 (0 : Nat)), .undef], H⟩)
          (Gh.weak (by simp [weak])) ⟨0, H, _, _, by omega, rfl, h0, h1, hR⟩ ?_
        clear h0 h1 hR h0' lR
        rintro _ ⟨k, H, v10, v17, hkl, rfl, h0, h1, hR⟩
        have lR := ob_lt hR
        have hwk : IntKind.i64.wrap ((k : Int) + 1) = ((k + 1 : Nat) : Int) := by rw [wrap64 (by omega) (by omega)]; simp
        rcases Nat.lt_or_ge k L.length with hlt | hlt
        · obtain ⟨s, hs⟩ : ∃ s, s = L[k] := ⟨_, rfl⟩
          have hsm : s ∈ L := hs ▸ List.getElem_mem hlt
          obtain ⟨a1, a2, a3, a4⟩ := hLok s hsm
          have hnx : bestS x y i j (L.take (k + 1)) = bestStep x y i j (bestS x y i j (L.take k)) s := by
            rw [List.take_add_one, List.getElem?_eq_getElem hlt, bestS, List.foldl_append, ← hs]; rfl
          have hbb := bestS_bd hx hy (L.take k) 1099511627776 (fun s hs => hLok s (List.mem_of_mem_take hs)) (by omega) (by omega)
          obtain ⟨bv, hbv⟩ : ∃ bv, bv = bestS x y i j (L.take k) := ⟨_, rfl⟩
          rw [← hbv] at hnx
          rw [← hbv]
          obtain ⟨sk, st, sc, tk, em⟩ := s
          simp only at a1 a2 a3 a4
          obtain ⟨ev, hev⟩ : ∃ ev, ev = ed x y (i + tk) (j + em) := ⟨_, rfl⟩
          have heb := ed_bd hx hy a1 a2
          rw [← hev] at heb
          have hnx2 : bestS x y i j (L.take (k + 1)) = min bv (min (sc + ev) 1099511627776) := by rw [hnx, hev]; rfl
          repeat' (first | (with_reducible first | refine st_reg ?_ | refine sN (by conv => lhs; simp [litV, litE, litOb, toDL, AV.toD, AV.norm, List.replicate, fillC, fillOb, AV.mkAgg, AV.allD, AV.cells, DV.cells, getD_map_lt, hlt, dStp, ← hs]) ?_ | refine rN ?_ ?_ | refine rO ?_ ?_ | refine rF ?_ ?_ | refine sG (by conv => lhs; simp [litV, litE, litOb, toDL, AV.toD, AV.norm, List.replicate, fillC, fillOb, AV.mkAgg, AV.allD, AV.cells, DV.cells, getD_map_lt, hlt, dStp, ← hs]) ?_ | refine gF ?_ | refine gS rfl (by conv => lhs; simp [litV, litE, litOb, toDL, AV.toD, AV.norm, List.replicate, fillC, fillOb, AV.mkAgg, AV.allD, AV.cells, DV.cells, getD_map_lt, hlt, dStp, ← hs]) ?_ ?_ | (refine st_gef0 ?_ ?_; focus (conv => (lhs; simp [litV, litE, litOb, toDL, AV.toD, AV.norm, List.replicate, fillC, fillOb, AV.mkAgg, AV.allD, AV.cells, DV.cells, getD_map_lt, hlt, dStp, ← hs])); done) | refine sE (by conv => lhs; simp) ?_ | refine Nx.go ?_ | refine st_blke' (by decide) ?_ | refine st_seq ?_ | refine st_blk ?_ | refine st_cond (by conv => lhs; simp) (by conv => lhs; simp [litV, litE, litOb, toDL, AV.toD, AV.norm, List.replicate, fillC, fillOb, AV.mkAgg, AV.allD, AV.cells, DV.cells, getD_map_lt, hlt, dStp, ← hs]) ?_ ?_ ?_ | refine st_lexit ?_) | (intro h_; try simp only [reduceCtorEq, y1, y2, y3, y4, y5, y6, y7, y8, y9, z1, z2, z3, z4, z5, z6, z7, ne_eq] at h_))
          all_goals try (first | contradiction | exact True.intro | omega | rfl | (simp [AV.fits, AV.cells, AV.one, DV.fits, DV.cells, DV.one, DV.conf, confL, DV.conf1]; done) | (simp [AV.fits, AV.cells, AV.one, DV.fits, DV.cells, DV.one, DV.conf, confL, DV.conf1, *] <;> omega))
          refine st_e (stA_store ⟨by simp, trivial⟩ (by conv => lhs; simp) (by conv => lhs; simp) (arrOf_ob ob_new) (by simp) (by simp [AV.fits, DV.fits, DV.cells, DV.one]) updA_whole (by simp [AV.fits, DV.fits, DV.cells, DV.one]) (fun H4 hW4 => ⟨trivial, ?_⟩))
          have lW := hW4.len
          simp at lW
          have c0 := hW4.ob' (by omega) (ob_old h0)
          have c1 := hW4.ob' (by omega) (ob_old h1)
          have cr := hW4.ob' (by omega) (ob_old hR)
          have cs := hW4.self
          simp only [List.set_cons_zero] at cs
          clear hW4
          obtain ⟨A, hA⟩ : ∃ A, A = i + tk := ⟨_, rfl⟩
          obtain ⟨B, hB⟩ : ∃ B, B = j + em := ⟨_, rfl⟩
          have wA : IntKind.i64.wrap ((i : Int) + (tk : Int)) = (A : Int) := by rw [wrap64 (by omega) (by omega)]; omega
          have wB : IntKind.i64.wrap ((j : Int) + (em : Int)) = (B : Int) := by rw [wrap64 (by omega) (by omega)]; omega
          have hAN : A < NR := by omega
          have hBW : B < W := by omega
          have hAO : A < OE.length := by omega
          have hBF : B < RF.length := by omega
          rw [← hA, ← hB] at hev
          have hmin : (if min (sc + ev) 1099511627776 < bv then min (sc + ev) 1099511627776 else bv) = min bv (min (sc + ev) 1099511627776) := by split <;> omega
          obtain ⟨mv, hmv⟩ : ∃ mv, mv = min (sc + ev) 1099511627776 := ⟨_, rfl⟩
          have hadd := add57 sc ev (by omega) (by omega)
          rw [← hmv] at hadd hmin hnx2
          by_cases htk : tk = 0
          · have hAi : A = i := by omega
            have gA : OE[A]? = some (.hs rid 0 W 1) := by rw [hAi]; exact gOwn
            have gA2 : OE[A]'hAO = .hs rid 0 W 1 := (List.getElem?_eq_some_iff.1 gA).2
            have gB : RF[B]? = some (.d (.int .i64 ev)) := by
              rw [hRF, getI (by omega), htg B (by omega) hBW, hev, hAi]
            have gB2 : RF[B]'hBF = .d (.int .i64 ev) := (List.getElem?_eq_some_iff.1 gB).2
            clear hA hB hev hAi
            repeat' (first | (with_reducible first | refine st_reg ?_ | refine sN (by conv => lhs; simp [litV, litE, litOb, toDL, AV.toD, AV.norm, List.replicate, fillC, fillOb, AV.mkAgg, AV.allD, AV.cells, DV.cells, cs, wA, wB, hAN, hBW, c1, gA, gA2, lOE, cr, gB, gB2, lRF]) ?_ | refine rN ?_ ?_ | refine rO ?_ ?_ | refine rF ?_ ?_ | refine sG (by conv => lhs; simp [litV, litE, litOb, toDL, AV.toD, AV.norm, List.replicate, fillC, fillOb, AV.mkAgg, AV.allD, AV.cells, DV.cells, cs, wA, wB, hAN, hBW, c1, gA, gA2, lOE, cr, gB, gB2, lRF]) ?_ | refine gF ?_ | refine gS rfl (by conv => lhs; simp [litV, litE, litOb, toDL, AV.toD, AV.norm, List.replicate, fillC, fillOb, AV.mkAgg, AV.allD, AV.cells, DV.cells, cs, wA, wB, hAN, hBW, c1, gA, gA2, lOE, cr, gB, gB2, lRF]) ?_ ?_ | (refine st_gef0 ?_ ?_; focus (conv => (lhs; simp [litV, litE, litOb, toDL, AV.toD, AV.norm, List.replicate, fillC, fillOb, AV.mkAgg, AV.allD, AV.cells, DV.cells, cs, wA, wB, hAN, hBW, c1, gA, gA2, lOE, cr, gB, gB2, lRF])); done) | refine sE (by conv => lhs; simp) ?_ | refine Nx.go ?_ | refine st_blke' (by decide) ?_ | refine st_seq ?_ | refine st_blk ?_ | refine st_cond (by conv => lhs; simp) (by conv => lhs; simp [litV, litE, litOb, toDL, AV.toD, AV.norm, List.replicate, fillC, fillOb, AV.mkAgg, AV.allD, AV.cells, DV.cells, cs, wA, wB, hAN, hBW, c1, gA, gA2, lOE, cr, gB, gB2, lRF]) ?_ ?_ ?_ | refine st_lexit ?_) | (intro h_; try simp only [reduceCtorEq, y1, y2, y3, y4, y5, y6, y7, y8, y9, z1, z2, z3, z4, z5, z6, z7, ne_eq] at h_))
            all_goals try (first | contradiction | exact True.intro | omega | rfl | (simp [AV.fits, AV.cells, AV.one, DV.fits, DV.cells, DV.one, DV.conf, confL, DV.conf1]; done) | (simp [AV.fits, AV.cells, AV.one, DV.fits, DV.cells, DV.one, DV.conf, confL, DV.conf1, *] <;> omega))
            refine st_e (st_call (by simp [solidOk]) (by conv => lhs; simp) hadd (by exact ⟨.inl rfl, .inl rfl, trivial⟩) (pendOk_refl _) ?_)
            repeat' (first | (with_reducible first | refine st_reg ?_ | refine sN (by conv => lhs; simp [hmin, hwk]) ?_ | refine rN ?_ ?_ | refine rO ?_ ?_ | refine rF ?_ ?_ | refine sG (by conv => lhs; simp [hmin, hwk]) ?_ | refine gF ?_ | refine gS rfl (by conv => lhs; simp [hmin, hwk]) ?_ ?_ | (refine st_gef0 ?_ ?_; focus (conv => (lhs; simp [hmin, hwk])); done) | refine sE (by conv => lhs; simp) ?_ | refine Nx.go ?_ | refine st_blke' (by decide) ?_ | refine st_seq ?_ | refine st_blk ?_ | refine st_cond (by conv => lhs; simp) (by conv => lhs; simp [hmin, hwk]) ?_ ?_ ?_ | refine st_lexit ?_) | (intro h_; try simp only [reduceCtorEq, y1, y2, y3, y4, y5, y6, y7, y8, y9, z1, z2, z3, z4, z5, z6, z7, ne_eq] at h_))
            all_goals try (first | contradiction | exact True.intro | omega | rfl | (simp [AV.fits, AV.cells, AV.one, DV.fits, DV.cells, DV.one, DV.conf, confL, DV.conf1]; done) | (simp [AV.fits, AV.cells, AV.one, DV.fits, DV.cells, DV.one, DV.conf, confL, DV.conf1, *] <;> omega))
            refine st_lnormw (ys := [.d (dInp x), .d (.vs (y.map dI)), .ptr 0 0 0, .nils, .d (.int .i64 n), .d (.int .i64 m), .hs 1 0 NR 1, .d (.int .i64 (i : Int)), .d (.int .i64 (j : Int)), .d (.int .i64 (min bv mv)), .undef, .undef, .undef, .undef, .d (.vs (L.map dStp)), .d (.int .i64 L.length), .d (.int .i64 (k + 1 : Nat)), .undef]) (by simp [weak])
              ⟨k + 1, H4, _, _, by omega, by rw [hnx2], c0, c1, cr⟩ (by simp [St.int] <;> omega)
          · have gA : OE[A]? = some (.d (.vs ((rowL x y W A).map dI))) := gOld A (by omega) (by omega)
            have gA2 : OE[A]'hAO = .d (.vs ((rowL x y W A).map dI)) := (List.getElem?_eq_some_iff.1 gA).2
            have lRW : (rowL x y W A).length = W := by simp [rowL]
            have hBR : B < (rowL x y W A).length := by omega
            have gB : (rowL x y W A)[B] = ev := by rw [rowL_get, hev]
            clear hA hB hev
            repeat' (first | (with_reducible first | refine st_reg ?_ | refine sN (by conv => lhs; simp [litV, litE, litOb, toDL, AV.toD, AV.norm, List.replicate, fillC, fillOb, AV.mkAgg, AV.allD, AV.cells, DV.cells, cs, wA, wB, hAN, hBW, c1, gA, gA2, lOE, getD_map_lt, hBR, lRW, dI, gB]) ?_ | refine rN ?_ ?_ | refine rO ?_ ?_ | refine rF ?_ ?_ | refine sG (by conv => lhs; simp [litV, litE, litOb, toDL, AV.toD, AV.norm, List.replicate, fillC, fillOb, AV.mkAgg, AV.allD, AV.cells, DV.cells, cs, wA, wB, hAN, hBW, c1, gA, gA2, lOE, getD_map_lt, hBR, lRW, dI, gB]) ?_ | refine gF ?_ | refine gS rfl (by conv => lhs; simp [litV, litE, litOb, toDL, AV.toD, AV.norm, List.replicate, fillC, fillOb, AV.mkAgg, AV.allD, AV.cells, DV.cells, cs, wA, wB, hAN, hBW, c1, gA, gA2, lOE, getD_map_lt, hBR, lRW, dI, gB]) ?_ ?_ | (refine st_gef0 ?_ ?_; focus (conv => (lhs; simp [litV, litE, litOb, toDL, AV.toD, AV.norm, List.replicate, fillC, fillOb, AV.mkAgg, AV.allD, AV.cells, DV.cells, cs, wA, wB, hAN, hBW, c1, gA, gA2, lOE, getD_map_lt, hBR, lRW, dI, gB])); done) | refine sE (by conv => lhs; simp) ?_ | refine Nx.go ?_ | refine st_blke' (by decide) ?_ | refine st_seq ?_ | refine st_blk ?_ | refine st_cond (by conv => lhs; simp) (by conv => lhs; simp [litV, litE, litOb, toDL, AV.toD, AV.norm, List.replicate, fillC, fillOb, AV.mkAgg, AV.allD, AV.cells, DV.cells, cs, wA, wB, hAN, hBW, c1, gA, gA2, lOE, getD_map_lt, hBR, lRW, dI, gB]) ?_ ?_ ?_ | refine st_lexit ?_) | (intro h_; try simp only [reduceCtorEq, y1, y2, y3, y4, y5, y6, y7, y8, y9, z1, z2, z3, z4, z5, z6, z7, ne_eq] at h_))
            all_goals try (first | contradiction | exact True.intro | omega | rfl | (simp [AV.fits, AV.cells, AV.one, DV.fits, DV.cells, DV.one, DV.conf, confL, DV.conf1]; done) | (simp [AV.fits, AV.cells, AV.one, DV.fits, DV.cells, DV.one, DV.conf, confL, DV.conf1, *] <;> omega))
            refine st_e (st_call (by simp [solidOk]) (by conv => lhs; simp) hadd (by exact ⟨.inl rfl, .inl rfl, trivial⟩) (pendOk_refl _) ?_)
            repeat' (first | (with_reducible first | refine st_reg ?_ | refine sN (by conv => lhs; simp [hmin, hwk]) ?_ | refine rN ?_ ?_ | refine rO ?_ ?_ | refine rF ?_ ?_ | refine sG (by conv => lhs; simp [hmin, hwk]) ?_ | refine gF ?_ | refine gS rfl (by conv => lhs; simp [hmin, hwk]) ?_ ?_ | (refine st_gef0 ?_ ?_; focus (conv => (lhs; simp [hmin, hwk])); done) | refine sE (by conv => lhs; simp) ?_ | refine Nx.go ?_ | refine st_blke' (by decide) ?_ | refine st_seq ?_ | refine st_blk ?_ | refine st_cond (by conv => lhs; simp) (by conv => lhs; simp [hmin, hwk]) ?_ ?_ ?_ | refine st_lexit ?_) | (intro h_; try simp only [reduceCtorEq, y1, y2, y3, y4, y5, y6, y7, y8, y9, z1, z2, z3, z4, z5, z6, z7, ne_eq] at h_))
            all_goals try (first | contradiction | exact True.intro | omega | rfl | (simp [AV.fits, AV.cells, AV.one, DV.fits, DV.cells, DV.one, DV.conf, confL, DV.conf1]; done) | (simp [AV.fits, AV.cells, AV.one, DV.fits, DV.cells, DV.one, DV.conf, confL, DV.conf1, *] <;> omega))
            refine st_lnormw (ys := [.d (dInp x), .d (.vs (y.map dI)), .ptr 0 0 0, .nils, .d (.int .i64 n), .d (.int .i64 m), .hs 1 0 NR 1, .d (.int .i64 (i : Int)), .d (.int .i64 (j : Int)), .d (.int .i64 (min bv mv)), .undef, .undef, .undef, .undef, .d (.vs (L.map dStp)), .d (.int .i64 L.length), .d (.int .i64 (k + 1 : Nat)), .undef]) (by simp [weak])
              ⟨k + 1, H4, _, _, by omega, by rw [hnx2], c0, c1, cr⟩ (by simp [St.int] <;> omega)
        · have hkn : k = L.length := by omega
          subst hkn
          rw [List.take_length, hLb]
          repeat' (first | (with_reducible first | refine st_reg ?_ | refine sN (by conv => lhs; simp [hlt]) ?_ | refine rN ?_ ?_ | refine rO ?_ ?_ | refine rF ?_ ?_ | refine sG (by conv => lhs; simp [hlt]) ?_ | refine gF ?_ | refine gS rfl (by conv => lhs; simp [hlt]) ?_ ?_ | (refine st_gef0 ?_ ?_; focus (conv => (lhs; simp [hlt])); done) | refine sE (by conv => lhs; simp) ?_ | refine Nx.go ?_ | refine st_blke' (by decide) ?_ | refine st_seq ?_ | refine st_blk ?_ | refine st_cond (by conv => lhs; simp) (by conv => lhs; simp [hlt]) ?_ ?_ ?_ | refine st_lexit ?_) | (intro h_; try simp only [reduceCtorEq, y1, y2, y3, y4, y5, y6, y7, y8, y9, z1, z2, z3, z4, z5, z6, z7, ne_eq] at h_))
          all_goals try (first | contradiction | exact True.intro | omega | rfl | (simp [AV.fits, AV.cells, AV.one, DV.fits, DV.cells, DV.one, DV.conf, confL, DV.conf1]; done) | (simp [AV.fits, AV.cells, AV.one, DV.fits, DV.cells, DV.one, DV.conf, confL, DV.conf1, *] <;> omega))
          exact hk H _ _ _ h0 h1 hR
      obtain ⟨e, he⟩ : ∃ e, e = ed x y i j := ⟨_, rfl⟩
      have up : ∀ (H' : Heap), H'.ob 0 = some (.arr 3 [.d (dInp x)]) → H'.ob 1 = some (.arr 1 OE) → H'.ob rid = some (.arr 1 RF) → ∀ H3, Wrote H' rid (.arr 1 (RF.set j (.d (.int .i64 e)))) H3 → H3.ob 0 = some (.arr 3 [.d (dInp x)]) ∧ H3.ob 1 = some (.arr 1 OE) ∧ H3.ob rid = some (.arr 1 (((fillR x y W i j).map dI).map .d)) := by
        intro H' g0 g1 g2 H3 hW3
        refine ⟨hW3.ob' (by omega) g0, hW3.ob' (by omega) g1, ?_⟩
        rw [hW3.self, ← hset, List.map_set, List.map_set, he, hRF]; rfl
      rw [← he] at rest
      clear hLb he hset htg hts
      by_cases hin : i = n
      · have e1 : ((i : Int) == (n : Int)) = true := by simp; omega
        have e2 : ((j : Int) == (m : Int)) = false := by simp; omega
        repeat' (first | (with_reducible first | refine st_reg ?_ | refine sN (by conv => lhs; simp [e1, e2, h0']) ?_ | refine rN ?_ ?_ | refine rO ?_ ?_ | refine rF ?_ ?_ | refine sG (by conv => lhs; simp [e1, e2, h0']) ?_ | refine gF ?_ | refine gS rfl (by conv => lhs; simp [e1, e2, h0']) ?_ ?_ | (refine st_gef0 ?_ ?_; focus (conv => (lhs; simp [e1, e2, h0'])); done) | refine sE (by conv => lhs; simp) ?_ | refine Nx.go ?_ | refine st_blke' (by decide) ?_ | refine st_seq ?_ | refine st_blk ?_ | refine st_cond (by conv => lhs; simp) (by conv => lhs; simp [e1, e2, h0']) ?_ ?_ ?_ | refine st_lexit ?_) | (intro h_; try simp only [reduceCtorEq, y1, y2, y3, y4, y5, y6, y7, y8, y9, z1, z2, z3, z4, z5, z6, z7, ne_eq] at h_))
        all_goals try (first | contradiction | exact True.intro | omega | rfl | (simp [AV.fits, AV.cells, AV.one, DV.fits, DV.cells, DV.one, DV.conf, confL, DV.conf1]; done) | (simp [AV.fits, AV.cells, AV.one, DV.fits, DV.cells, DV.one, DV.conf, confL, DV.conf1, *] <;> omega))
        refine st_e (st_call (by simp [solidOk]) (by conv => lhs; simp [h0']) hst (by exact ⟨.inl rfl, .inl rfl, .inl rfl, .inl rfl, trivial⟩) (pendOk_refl _) ?_)
        repeat' (first | (with_reducible first | refine st_reg ?_ | refine sN (by conv => lhs; simp) ?_ | refine rN ?_ ?_ | refine rO ?_ ?_ | refine rF ?_ ?_ | refine sG (by conv => lhs; simp) ?_ | refine gF ?_ | refine gS rfl (by conv => lhs; simp) ?_ ?_ | (refine st_gef0 ?_ ?_; focus (conv => (lhs; simp)); done) | refine sE (by conv => lhs; simp) ?_ | refine Nx.go ?_ | refine st_blke' (by decide) ?_ | refine st_seq ?_ | refine st_blk ?_ | refine st_cond (by conv => lhs; simp) (by conv => lhs; simp) ?_ ?_ ?_ | refine st_lexit ?_) | (intro h_; try simp only [reduceCtorEq, y1, y2, y3, y4, y5, y6, y7, y8, y9, z1, z2, z3, z4, z5, z6, z7, ne_eq] at h_))
        all_goals try (first | contradiction | exact True.intro | omega | rfl | (simp [AV.fits, AV.cells, AV.one, DV.fits, DV.cells, DV.one, DV.conf, confL, DV.conf1]; done) | (simp [AV.fits, AV.cells, AV.one, DV.fits, DV.cells, DV.one, DV.conf, confL, DV.conf1, *] <;> omega))
        refine rest _ _ _ _ _ _ fun H' v10 v16 v17 g0 g1 g2 => ?_
        have lW := ob_lt g2
        repeat' (first | (with_reducible first | refine st_reg ?_ | refine sN (by conv => lhs; simp [hiN, g1, gOwn, gOwn2, lOE, hjW]) ?_ | refine rN ?_ ?_ | refine rO ?_ ?_ | refine rF ?_ ?_ | refine sG (by conv => lhs; simp [hiN, g1, gOwn, gOwn2, lOE, hjW]) ?_ | refine gF ?_ | refine gS rfl (by conv => lhs; simp [hiN, g1, gOwn, gOwn2, lOE, hjW]) ?_ ?_ | (refine st_gef0 ?_ ?_; focus (conv => (lhs; simp [hiN, g1, gOwn, gOwn2, lOE, hjW])); done) | refine sE (by conv => lhs; simp) ?_ | refine Nx.go ?_ | refine st_blke' (by decide) ?_ | refine st_seq ?_ | refine st_blk ?_ | refine st_cond (by conv => lhs; simp) (by conv => lhs; simp [hiN, g1, gOwn, gOwn2, lOE, hjW]) ?_ ?_ ?_ | refine st_lexit ?_) | (intro h_; try simp only [reduceCtorEq, y1, y2, y3, y4, y5, y6, y7, y8, y9, z1, z2, z3, z4, z5, z6, z7, ne_eq] at h_))
        all_goals try (first | contradiction | exact True.intro | omega | rfl | (simp [AV.fits, AV.cells, AV.one, DV.fits, DV.cells, DV.one, DV.conf, confL, DV.conf1]; done) | (simp [AV.fits, AV.cells, AV.one, DV.fits, DV.cells, DV.one, DV.conf, confL, DV.conf1, *] <;> omega))
        refine st_e (stA_store ⟨by simp, trivial⟩ (by conv => lhs; simp) (by conv => lhs; simp) (arrOf_ob g2) ⟨by omega, by omega⟩ (by simp [AV.fits, DV.fits, DV.cells, DV.one]) updA_whole (by simp [AV.fits, DV.fits, DV.cells, DV.one]) (fun H3 hW3 => ⟨trivial, ?_⟩))
        obtain ⟨k0, k1, k2⟩ := up H' g0 g1 g2 H3 (by simpa using hW3)
        repeat' (first | (with_reducible first | refine st_reg ?_ | refine sN (by conv => lhs; simp [hwd]) ?_ | refine rN ?_ ?_ | refine rO ?_ ?_ | refine rF ?_ ?_ | refine sG (by conv => lhs; simp [hwd]) ?_ | refine gF ?_ | refine gS rfl (by conv => lhs; simp [hwd]) ?_ ?_ | (refine st_gef0 ?_ ?_; focus (conv => (lhs; simp [hwd])); done) | refine sE (by conv => lhs; simp) ?_ | refine Nx.go ?_ | refine st_blke' (by decide) ?_ | refine st_seq ?_ | refine st_blk ?_ | refine st_cond (by conv => lhs; simp) (by conv => lhs; simp [hwd]) ?_ ?_ ?_ | refine st_lexit ?_) | (intro h_; try simp only [reduceCtorEq, y1, y2, y3, y4, y5, y6, y7, y8, y9, z1, z2, z3, z4, z5, z6, z7, ne_eq] at h_))
        all_goals try (first | contradiction | exact True.intro | omega | rfl | (simp [AV.fits, AV.cells, AV.one, DV.fits, DV.cells, DV.one, DV.conf, confL, DV.conf1]; done) | (simp [AV.fits, AV.cells, AV.one, DV.fits, DV.cells, DV.one, DV.conf, confL, DV.conf1, *] <;> omega))
        exact st_lnormw (ys := [.d (dInp x), .d (.vs (y.map dI)), .ptr 0 0 0, .nils, .d (.int .i64 n), .d (.int .i64 m), .hs 1 0 NR 1, .d (.int .i64 (i : Int)), .d (.int .i64 ((j : Int) - 1)), .undef, .undef, .undef, .undef, .undef, .undef, .undef, .undef, .undef]) (by simp [weak])
          ⟨j, H3, _, _, _, _, _, _, _, _, by omega, rfl, k0, k1, k2⟩ (by simp [St.int] <;> omega)
      · have e1 : ((i : Int) == (n : Int)) = false := by simp; omega
        repeat' (first | (with_reducible first | refine st_reg ?_ | refine sN (by conv => lhs; simp [e1, h0']) ?_ | refine rN ?_ ?_ | refine rO ?_ ?_ | refine rF ?_ ?_ | refine sG (by conv => lhs; simp [e1, h0']) ?_ | refine gF ?_ | refine gS rfl (by conv => lhs; simp [e1, h0']) ?_ ?_ | (refine st_gef0 ?_ ?_; focus (conv => (lhs; simp [e1, h0'])); done) | refine sE (by conv => lhs; simp) ?_ | refine Nx.go ?_ | refine st_blke' (by decide) ?_ | refine st_seq ?_ | refine st_blk ?_ | refine st_cond (by conv => lhs; simp) (by conv => lhs; simp [e1, h0']) ?_ ?_ ?_ | refine st_lexit ?_) | (intro h_; try simp only [reduceCtorEq, y1, y2, y3, y4, y5, y6, y7, y8, y9, z1, z2, z3, z4, z5, z6, z7, ne_eq] at h_))
        all_goals try (first | contradiction | exact True.intro | omega | rfl | (simp [AV.fits, AV.cells, AV.one, DV.fits, DV.cells, DV.one, DV.conf, confL, DV.conf1]; done) | (simp [AV.fits, AV.cells, AV.one, DV.fits, DV.cells, DV.one, DV.conf, confL, DV.conf1, *] <;> omega))
        refine st_e (st_call (by simp [solidOk]) (by conv => lhs; simp [h0']) hst (by exact ⟨.inl rfl, .inl rfl, .inl rfl, .inl rfl, trivial⟩) (pendOk_refl _) ?_)
        repeat' (first | (with_reducible first | refine st_reg ?_ | refine sN (by conv => lhs; simp) ?_ | refine rN ?_ ?_ | refine rO ?_ ?_ | refine rF ?_ ?_ | refine sG (by conv => lhs; simp) ?_ | refine gF ?_ | refine gS rfl (by conv => lhs; simp) ?_ ?_ | (refine st_gef0 ?_ ?_; focus (conv => (lhs; simp)); done) | refine sE (by conv => lhs; simp) ?_ | refine Nx.go ?_ | refine st_blke' (by decide) ?_ | refine st_seq ?_ | refine st_blk ?_ | refine st_cond (by conv => lhs; simp) (by conv => lhs; simp) ?_ ?_ ?_ | refine st_lexit ?_) | (intro h_; try simp only [reduceCtorEq, y1, y2, y3, y4, y5, y6, y7, y8, y9, z1, z2, z3, z4, z5, z6, z7, ne_eq] at h_))
        all_goals try (first | contradiction | exact True.intro | omega | rfl | (simp [AV.fits, AV.cells, AV.one, DV.fits, DV.cells, DV.one, DV.conf, confL, DV.conf1]; done) | (simp [AV.fits, AV.cells, AV.one, DV.fits, DV.cells, DV.one, DV.conf, confL, DV.conf1, *] <;> omega))
        refine rest _ _ _ _ _ _ fun H' v10 v16 v17 g0 g1 g2 => ?_
        have lW := ob_lt g2
        repeat' (first | (with_reducible first | refine st_reg ?_ | refine sN (by conv => lhs; simp [hiN, g1, gOwn, gOwn2, lOE, hjW]) ?_ | refine rN ?_ ?_ | refine rO ?_ ?_ | refine rF ?_ ?_ | refine sG (by conv => lhs; simp [hiN, g1, gOwn, gOwn2, lOE, hjW]) ?_ | refine gF ?_ | refine gS rfl (by conv => lhs; simp [hiN, g1, gOwn, gOwn2, lOE, hjW]) ?_ ?_ | (refine st_gef0 ?_ ?_; focus (conv => (lhs; simp [hiN, g1, gOwn, gOwn2, lOE, hjW])); done) | refine sE (by conv => lhs; simp) ?_ | refine Nx.go ?_ | refine st_blke' (by decide) ?_ | refine st_seq ?_ | refine st_blk ?_ | refine st_cond (by conv => lhs; simp) (by conv => lhs; simp [hiN, g1, gOwn, gOwn2, lOE, hjW]) ?_ ?_ ?_ | refine st_lexit ?_) | (intro h_; try simp only [reduceCtorEq, y1, y2, y3, y4, y5, y6, y7, y8, y9, z1, z2, z3, z4, z5, z6, z7, ne_eq] at h_))
        all_goals try (first | contradiction | exact True.intro | omega | rfl | (simp [AV.fits, AV.cells, AV.one, DV.fits, DV.cells, DV.one, DV.conf, confL, DV.conf1]; done) | (simp [AV.fits, AV.cells, AV.one, DV.fits, DV.cells, DV.one, DV.conf, confL, DV.conf1, *] <;> omega))
        refine st_e (stA_store ⟨by simp, trivial⟩ (by conv => lhs; simp) (by conv => lhs; simp) (arrOf_ob g2) ⟨by omega, by omega⟩ (by simp [AV.fits, DV.fits, DV.cells, DV.one]) updA_whole (by simp [AV.fits, DV.fits, DV.cells, DV.one]) (fun H3 hW3 => ⟨trivial, ?_⟩))
        obtain ⟨k0, k1, k2⟩ := up H' g0 g1 g2 H3 (by simpa using hW3)
        repeat' (first | (with_reducible first | refine st_reg ?_ | refine sN (by conv => lhs; simp [hwd]) ?_ | refine rN ?_ ?_ | refine rO ?_ ?_ | refine rF ?_ ?_ | refine sG (by conv => lhs; simp [hwd]) ?_ | refine gF ?_ | refine gS rfl (by conv => lhs; simp [hwd]) ?_ ?_ | (refine st_gef0 ?_ ?_; focus (conv => (lhs; simp [hwd])); done) | refine sE (by conv => lhs; simp) ?_ | refine Nx.go ?_ | refine st_blke' (by decide) ?_ | refine st_seq ?_ | refine st_blk ?_ | refine st_cond (by conv => lhs; simp) (by conv => lhs; simp [hwd]) ?_ ?_ ?_ | refine st_lexit ?_) | (intro h_; try simp only [reduceCtorEq, y1, y2, y3, y4, y5, y6, y7, y8, y9, z1, z2, z3, z4, z5, z6, z7, ne_eq] at h_))
        all_goals try (first | contradiction | exact True.intro | omega | rfl | (simp [AV.fits, AV.cells, AV.one, DV.fits, DV.cells, DV.one, DV.conf, confL, DV.conf1]; done) | (simp [AV.fits, AV.cells, AV.one, DV.fits, DV.cells, DV.one, DV.conf, confL, DV.conf1, *] <;> omega))
        exact st_lnormw (ys := [.d (dInp x), .d (.vs (y.map dI)), .ptr 0 0 0, .nils, .d (.int .i64 n), .d (.int .i64 m), .hs 1 0 NR 1, .d (.int .i64 (i : Int)), .d (.int .i64 ((j : Int) - 1)), .undef, .undef, .undef, .undef, .undef, .undef, .undef, .undef, .undef]) (by simp [weak])
          ⟨j, H3, _, _, _, _, _, _, _, _, by omega, rfl, k0, k1, k2⟩ (by simp [St.int] <;> omega)
end Go.Vm.L
