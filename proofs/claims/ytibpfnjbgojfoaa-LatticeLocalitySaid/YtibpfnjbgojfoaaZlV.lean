/- Lattice: the reference's Build. -/
import Derived.Test.YtibpfnjbgojfoaaZlU
import Derived.Test.YtibpfnjbgojfoaaZlM
set_option linter.all false
set_option maxHeartbeats 8000000
namespace Go.Vm.L
open Go Go.Vm
attribute [local simp] q_and q_loc q_var q_k q_sob_undef q_strip_undef q_sob_d q_strip_d q_sob_nils q_strip_nils q_sob_ptr q_strip_ptr q_sob_hs q_strip_hs q_sob_mp q_strip_mp q_sob_it q_strip_it q_sob_fp q_strip_fp q_sob_clo q_strip_clo q_sob_ifc q_strip_ifc q_sob_agg q_strip_agg q_sob_tup q_strip_tup q_sob_when q_strip_when q_argsOb0 q_argsOb1 q_mov q_pick q_pick000 q_pick001 q_pick010 q_pick011 q_pick100 q_pick101 q_pick110 q_pick111 q_bin q_eqs q_not q_neg q_conv q_fieldAddr q_load q_extract q_len q_nilCheck q_mkIface q_alloc q_box q_build q_lit q_mkFunc q_mkMap q_mkSlice q_slice q_idx q_lookup q_field q_minmax q_i_add q_i_sub q_i_mul q_i_quo q_i_rem q_i_eql q_i_neq q_i_lss q_i_leq q_i_gtr q_i_geq q_i_and q_i_or q_i_xor q_i_shl q_i_shr q_b_eql q_s_eql q_b_neq q_s_neq q_s_add q_eqsd q_notd q_negd q_convd q_fap q_faf q_ldf q_ldp q_ldps q_exd q_len0 q_len0n q_len0h q_len1 q_len2 q_lenp q_lkp q_lkf q_lkps q_ncp q_ncf q_mkI q_mkF q_mkS q_ixd q_ixh q_slvs q_slvh q_slvl q_mm1 q_mm2 q_mx2 q_fl q_flw q_bo q_bow q_add0 q_addf q_addo q_so0 q_so1 q_mk_mov q_mk_bin q_mk_eqs q_mk_not q_mk_neg q_mk_conv q_mk_fieldAddr q_mk_load q_mk_idx q_mk_lookup q_mk_len q_mk_pick q_mk_field q_mk_slice q_mk_build q_mk_minmax q_mk_extract q_mk_nilCheck q_mk_lit q_mk_box q_mk_alloc q_pd0 q_pdo0 q_pdb q_pdob q_pdv q_pdov q_pda q_pdoa q_pad q_paod q_paa q_paoa q_pdT q_pdoT q_obz q_obs q_eqk q_eqL0 q_eqL1 q_eq1i q_fitd

def rT (x : Inp) (i m : Nat) (L : List Arc) (t : Nat) : List Arc := if m < x.cols.length ∧ (readAt x m).getD t 0 ≥ 0 then putL L (readArc i m (delS x i m) (delOps (m - i)) (readAt x m) t) else L
def rTs (x : Inp) (i m : Nat) (L : List Arc) (k : Nat) : List Arc := (List.range k).foldl (rT x i m) L
def rM (x : Inp) (i : Nat) (L : List Arc) (m : Nat) : List Arc := if swapB x m then putL (rTs x i m L x.insert.length) (swapArc x i m) else rTs x i m L x.insert.length
def rMs (x : Inp) (i : Nat) (L : List Arc) (k : Nat) : List Arc := (List.range k).foldl (fun L j => rM x i L (i + j)) L
def rI (x : Inp) (L : List Arc) (i : Nat) : List Arc := if swapB x i then putL (rMs x i L (x.cols.length + 1 - i)) (lastArc x i) else rMs x i L (x.cols.length + 1 - i)
def rIs (x : Inp) (k : Nat) : List Arc := (List.range k).foldl (rI x) []
def iTs (x : Inp) (i m : Nat) (L : List Arc) (k : Nat) : List Arc := (List.range k).foldl (fun L t => putL L (insArc x i m t)) L
def iMs (x : Inp) (i : Nat) (L : List Arc) (k : Nat) : List Arc := (List.range k).foldl (fun L j => iTs x i (i + j) L x.insert.length) L
def iIs (x : Inp) (k : Nat) : List Arc := (List.range k).foldl (fun L i => iMs x i L (x.cols.length + 1 - i)) (rIs x (x.cols.length + 1))
def refA (x : Inp) : List Arc := iIs x (x.cols.length + 1)
def refL (x : Inp) : Lat := ⟨(2 * x.cols.length + 1 : Nat), refA x, finTo x (x.cols.length + 1)⟩

theorem putSteps_len (a : Arc) : ∀ (l : List Arc) (d : Bool) (out : List Arc), (l.foldl (putStep a) (d, out)).2.length + (if (l.foldl (putStep a) (d, out)).1 then 0 else 1) ≤ out.length + l.length + (if d then 0 else 1)
  | [], d, out => by cases d <;> simp
  | x :: r, d, out => by
    obtain ⟨d', out', he⟩ : ∃ d' out', putStep a (d, out) x = (d', out') := ⟨_, _, rfl⟩
    have h1 : out'.length + (if d' then 0 else 1) ≤ out.length + 1 + (if d then 0 else 1) := by
      unfold putStep at he
      cases d
      · split at he
        · split at he <;> · simp only [Prod.mk.injEq] at he; obtain ⟨rfl, rfl⟩ := he; simp
        · split at he <;> · simp only [Prod.mk.injEq] at he; obtain ⟨rfl, rfl⟩ := he; simp
      · simp at he
        obtain ⟨rfl, rfl⟩ := he; simp
    have h2 := putSteps_len a r d' out'
    rw [List.foldl_cons, he, List.length_cons]
    omega
theorem putL_len (l : List Arc) (a : Arc) : (putL l a).length ≤ l.length + 1 := by
  unfold putL
  have h := putSteps_len a l false []
  split
  · omega
  · split
    · simp_all
    · simp_all
theorem putL_sat (L : List Arc) (f t k : Int) (ops : List Op) {d p : Int} (hd : 0 ≤ d ∧ d ≤ 1099511627776) (hp : 0 ≤ p ∧ p ≤ 1099511627776) : putL L ⟨f, t, k, addW d p, ops⟩ = putL L ⟨f, t, k, d + p, ops⟩ := by
  rw [addW_min hd hp]
  rcases Int.lt_or_le (d + p) 1099511627776 with h | h
  · rw [show min (d + p) 1099511627776 = d + p by omega]
  · simp only [putL]
    rw [if_pos (by omega), if_pos (by omega)]
theorem foldl_len {f : List Arc → Nat → List Arc} {c : Nat} (h : ∀ L j, (f L j).length ≤ L.length + c) : ∀ (js : List Nat) (L : List Arc), (js.foldl f L).length ≤ L.length + js.length * c
  | [], L => by simp
  | j :: r, L => by
    have h1 := h L j
    have h2 := foldl_len h r (f L j)
    rw [List.foldl_cons, List.length_cons, Nat.add_mul]
    omega
theorem rTs_len (x : Inp) (i m : Nat) (L : List Arc) (k : Nat) : (rTs x i m L k).length ≤ L.length + k := by
  have := foldl_len (f := rT x i m) (c := 1) (fun L j => by unfold rT; split; exact putL_len _ _; omega) (List.range k) L
  simpa [rTs] using this
theorem rM_len (x : Inp) (i m : Nat) (L : List Arc) (ht : x.insert.length ≤ 5) : (rM x i L m).length ≤ L.length + 6 := by
  have h1 := rTs_len x i m L x.insert.length
  unfold rM
  split
  · have := putL_len (rTs x i m L x.insert.length) (swapArc x i m); omega
  · omega
theorem rMs_len (x : Inp) (i : Nat) (L : List Arc) (k : Nat) (ht : x.insert.length ≤ 5) : (rMs x i L k).length ≤ L.length + 6 * k := by
  have := foldl_len (f := fun L j => rM x i L (i + j)) (c := 6) (fun L j => rM_len x i (i + j) L ht) (List.range k) L
  simp at this
  unfold rMs; omega
theorem rI_len (x : Inp) (L : List Arc) (i : Nat) (ht : x.insert.length ≤ 5) (hn : x.cols.length ≤ 8) : (rI x L i).length ≤ L.length + 55 := by
  have h1 := rMs_len x i L (x.cols.length + 1 - i) ht
  unfold rI
  split
  · have := putL_len (rMs x i L (x.cols.length + 1 - i)) (lastArc x i); omega
  · omega
theorem rIs_len (x : Inp) (k : Nat) (ht : x.insert.length ≤ 5) (hn : x.cols.length ≤ 8) : (rIs x k).length ≤ 55 * k := by
  have := foldl_len (f := rI x) (c := 55) (fun L j => rI_len x L j ht hn) (List.range k) []
  simp at this
  unfold rIs; omega
theorem iTs_len (x : Inp) (i m : Nat) (L : List Arc) (k : Nat) : (iTs x i m L k).length ≤ L.length + k := by
  have := foldl_len (f := fun L t => putL L (insArc x i m t)) (c := 1) (fun L j => putL_len _ _) (List.range k) L
  simpa [iTs] using this
theorem iMs_len (x : Inp) (i : Nat) (L : List Arc) (k : Nat) (ht : x.insert.length ≤ 5) : (iMs x i L k).length ≤ L.length + 5 * k := by
  have := foldl_len (f := fun L j => iTs x i (i + j) L x.insert.length) (c := 5) (fun L j => by have := iTs_len x i (i + j) L x.insert.length; omega) (List.range k) L
  simp at this
  unfold iMs; omega
theorem iIs_len (x : Inp) (k : Nat) (ht : x.insert.length ≤ 5) (hn : x.cols.length ≤ 8) : (iIs x k).length ≤ 495 + 45 * k := by
  have h0 := rIs_len x (x.cols.length + 1) ht hn
  have := foldl_len (f := fun L i => iMs x i L (x.cols.length + 1 - i)) (c := 45) (fun L j => by have := iMs_len x j L (x.cols.length + 1 - j) ht; omega) (List.range k) (rIs x (x.cols.length + 1))
  simp at this
  unfold iIs; omega
def fillG (N k : Nat) (f : Nat → Int) : List Int := (List.range N).map fun i => if i < k then f i else 0
theorem fillG_set {N k : Nat} {f : Nat → Int} : (fillG N k f).set k (f k) = fillG N (k + 1) f := by
  refine List.ext_getElem (by simp [fillG]) fun i h1 h2 => ?_
  simp only [fillG, List.getElem_set, List.getElem_map, List.getElem_range]
  by_cases h : k = i
  · subst h; simp
  · rw [if_neg h]
    by_cases h3 : i < k
    · rw [if_pos h3, if_pos (by omega)]
    · rw [if_neg h3, if_neg (by omega)]
theorem fillG_zero (N : Nat) (f : Nat → Int) : fillG N 0 f = List.replicate N 0 := by
  refine List.ext_getElem (by simp [fillG]) fun i h1 h2 => ?_
  simp [fillG]
theorem fillG_full (N : Nat) (f : Nat → Int) : fillG N N f = (List.range N).map f := by
  refine List.ext_getElem (by simp [fillG]) fun i h1 h2 => ?_
  simp [fillG] at h1 ⊢; omega
theorem nilsD {xs : List AV} {H : Heap} {i : Nat} (hi : xs[i]? = some .nils) : Gh ⟨xs, H⟩ ⟨xs.set i (.d (.vs [])), H⟩ := fun μ F w hR => by
  refine ⟨μ, F, Post.refl hR, fun j y hy => ?_⟩
  rw [List.getElem?_set] at hy
  split at hy
  · rename_i e; subst e
    split at hy
    · obtain rfl := Option.some.inj hy
      refine ⟨_, hi, fun u hu => ?_⟩
      cases hu
      exact .d _ _ (.vs [] none 0 0 1 (fun _ _ => .bool false) rfl (Nat.le_refl _) (by simp) (fun h => absurd rfl h) (fun ad h => by cases h) (fun i j x y h => by simp at h))
    · cases hy
  · exact ⟨y, hy, fun _ h => h⟩

theorem Build14 (x : Inp) (hx : WF x) (hn8 : x.cols.length ≤ 8) (ht5 : x.insert.length ≤ 5) : Pure prog 14 [.d (dInp x)] (.d (dLat (refL x))) := by
  obtain ⟨n, hn⟩ : ∃ n, n = x.cols.length := ⟨_, rfl⟩
  refine fn_of e14 hm (by rfl) (vs := [.d (dInp x), .undef, .undef, .undef, .undef, .undef, .undef, .undef, .undef, .undef, .undef, .undef, .undef, .undef, .undef, .undef, .undef, .undef, .undef, .undef, .undef, .undef, .undef, .undef, .undef, .undef]) rfl ?_
  unfold c14
  obtain ⟨HP, hHP⟩ : ∃ HP : Heap, HP = [some (.arr 3 [.d (dInp x)]), some resO] := ⟨_, rfl⟩
  have hP0 : HP.ob 0 = some (.arr 3 [.d (dInp x)]) := by rw [hHP]; rfl
  have hP1 : HP.ob 1 = some resO := by rw [hHP]; rfl
  have hPl : HP.length = 2 := by rw [hHP]; rfl
  have hP0' := hP0
  simp only [dInp] at hP0'
  have hsw2 : ∀ m, swapB x m = true → m + 1 < x.cols.length := by
    intro m h
    by_cases h2 : m + 1 < x.cols.length
    · exact h2
    · rw [swapB, List.getElem?_eq_none (l := x.cols) (i := m + 1) (by omega)] at h
      cases x.cols[m]? <;> simp at h
  repeat' (first | (with_reducible first | refine st_reg ?_ | refine sN (by conv => lhs; simp [litV, litE, litOb, toDL, AV.toD, AV.norm, List.replicate, fillC, fillOb, AV.mkAgg, AV.allD, AV.cells, DV.cells, dInp]) ?_ | refine rN ?_ ?_ | refine rO ?_ ?_ | refine rF ?_ ?_ | refine sG (by conv => lhs; simp [litV, litE, litOb, toDL, AV.toD, AV.norm, List.replicate, fillC, fillOb, AV.mkAgg, AV.allD, AV.cells, DV.cells, dInp]) ?_ | refine gF ?_ | refine gS rfl (by conv => lhs; simp [litV, litE, litOb, toDL, AV.toD, AV.norm, List.replicate, fillC, fillOb, AV.mkAgg, AV.allD, AV.cells, DV.cells, dInp]) ?_ ?_ | (refine st_gef0 ?_ ?_; focus (conv => (lhs; simp [litV, litE, litOb, toDL, AV.toD, AV.norm, List.replicate, fillC, fillOb, AV.mkAgg, AV.allD, AV.cells, DV.cells, dInp])); done) | refine sE (by conv => lhs; simp) ?_ | refine Nx.go ?_ | refine st_blke' (by decide) ?_ | refine st_seq ?_ | refine st_blk ?_ | refine st_cond (by conv => lhs; simp) (by conv => lhs; simp [litV, litE, litOb, toDL, AV.toD, AV.norm, List.replicate, fillC, fillOb, AV.mkAgg, AV.allD, AV.cells, DV.cells, dInp]) ?_ ?_ ?_ | refine st_lexit ?_) | (intro h_; try simp only [reduceCtorEq, y1, y2, y3, y4, y5, y6, y7, y8, y9, z1, z2, z3, z4, z5, z6, z7, ne_eq] at h_))
  all_goals try (first | contradiction | exact True.intro | omega | rfl | (simp [AV.fits, AV.cells, AV.one, DV.fits, DV.cells, DV.one, DV.conf, confL, DV.conf1]; done) | (simp [AV.fits, AV.cells, AV.one, DV.fits, DV.cells, DV.one, DV.conf, confL, DV.conf1, *] <;> omega))
  refine wpC_loop (fun s => ∃ (i : Nat), i ≤ n + 1 ∧ s = ⟨[.d (dInp x), .ptr 0 0 0, .ptr 1 0 0, .d (.int .i64 n), .d (.vs ((rIs x i).map dArc)), .d (.int .i64 i), .undef, .undef, .undef, .undef, .undef, .undef, .undef, .undef, .undef, .undef, .undef, .undef, .undef, .undef, .undef, .undef, .undef, .undef, .undef, .undef], HP⟩)
    (fun s => n + 1 - (s.int 5).toNat)
    (s' := ⟨[.d (dInp x), .ptr 0 0 0, .ptr 1 0 0, .d (.int .i64 n), .d (.vs []), .d (.int .i64 (0 : Nat)), .undef, .undef, .undef, .undef, .undef, .undef, .undef, .undef, .undef, .undef, .undef, .undef, .undef, .undef, .undef, .undef, .undef, .undef, .undef, .undef], HP⟩)
    ?_ ⟨0, by omega, rfl⟩ ?_
  · rw [hHP]
    exact (nilsD (i := 4) rfl).trans (Gh.weak (by simp [weak, hn]))
  rintro _ ⟨i, hi, rfl⟩
  have hwi : IntKind.i64.wrap ((i : Int) + 1) = ((i + 1 : Nat) : Int) := by rw [wrap64 (by omega) (by omega)]; simp
  have w2i : IntKind.i64.wrap (2 * (i : Int)) = 2 * (i : Int) := wrap64 (by omega) (by omega)
  have w2i1 : IntKind.i64.wrap (2 * (i : Int) + 1) = 2 * (i : Int) + 1 := wrap64 (by omega) (by omega)
  have w2i4 : IntKind.i64.wrap (2 * (i : Int) + 4) = 2 * (i : Int) + 4 := wrap64 (by omega) (by omega)
  rcases Nat.lt_or_ge n i with hin | hin
  case inr =>
    have hLi : (rIs x i).length ≤ 495 := by have := rIs_len x i ht5 hn8; omega
    repeat' (first | (with_reducible first | refine st_reg ?_ | refine sN (by conv => lhs; simp [hin]) ?_ | refine rN ?_ ?_ | refine rO ?_ ?_ | refine rF ?_ ?_ | refine sG (by conv => lhs; simp [hin]) ?_ | refine gF ?_ | refine gS rfl (by conv => lhs; simp [hin]) ?_ ?_ | (refine st_gef0 ?_ ?_; focus (conv => (lhs; simp [hin])); done) | refine sE (by conv => lhs; simp) ?_ | refine Nx.go ?_ | refine st_blke' (by decide) ?_ | refine st_seq ?_ | refine st_blk ?_ | refine st_cond (by conv => lhs; simp) (by conv => lhs; simp [hin]) ?_ ?_ ?_ | refine st_lexit ?_) | (intro h_; try simp only [reduceCtorEq, y1, y2, y3, y4, y5, y6, y7, y8, y9, z1, z2, z3, z4, z5, z6, z7, ne_eq] at h_))
    all_goals try (first | contradiction | exact True.intro | omega | rfl | (simp [AV.fits, AV.cells, AV.one, DV.fits, DV.cells, DV.one, DV.conf, confL, DV.conf1]; done) | (simp [AV.fits, AV.cells, AV.one, DV.fits, DV.cells, DV.one, DV.conf, confL, DV.conf1, *] <;> omega))
    refine wpC_loop (fun s => ∃ (k m : Nat), k ≤ n + 1 - i ∧ m = i + k ∧ s = ⟨[.d (dInp x), .ptr 0 0 0, .ptr 1 0 0, .d (.int .i64 n), .d (.vs ((rMs x i (rIs x i) k).map dArc)), .d (.int .i64 i), .d (.int .i64 m), .undef, .undef, .undef, .undef, .undef, .undef, .undef, .undef, .undef, .undef, .undef, .undef, .undef, .undef, .undef, .undef, .undef, .undef, .undef], HP⟩)
      (fun s => n + 1 - (s.int 6).toNat)
      (s' := ⟨[.d (dInp x), .ptr 0 0 0, .ptr 1 0 0, .d (.int .i64 n), .d (.vs ((rIs x i).map dArc)), .d (.int .i64 i), .d (.int .i64 i), .undef, .undef, .undef, .undef, .undef, .undef, .undef, .undef, .undef, .undef, .undef, .undef, .undef, .undef, .undef, .undef, .undef, .undef, .undef], HP⟩)
      (Gh.weak (by simp [weak])) ⟨0, i, by omega, by omega, rfl⟩ ?_
    rintro _ ⟨k, m, hk, hm', rfl⟩
    have hwm : IntKind.i64.wrap ((m : Int) + 1) = ((m + 1 : Nat) : Int) := by rw [wrap64 (by omega) (by omega)]; simp
    have hLm : (rMs x i (rIs x i) k).length ≤ 495 + 54 := by have := rMs_len x i (rIs x i) k ht5; omega
    rcases Nat.lt_or_ge n m with hmn | hmn
    · have hmn2 : ¬ m ≤ n := by omega
      have hke : k = n + 1 - i := by omega
      rw [hke] at hLm ⊢
      repeat' (first | (with_reducible first | refine st_reg ?_ | refine sN (by conv => lhs; simp [hmn2, hP0']) ?_ | refine rN ?_ ?_ | refine rO ?_ ?_ | refine rF ?_ ?_ | refine sG (by conv => lhs; simp [hmn2, hP0']) ?_ | refine gF ?_ | refine gS rfl (by conv => lhs; simp [hmn2, hP0']) ?_ ?_ | (refine st_gef0 ?_ ?_; focus (conv => (lhs; simp [hmn2, hP0'])); done) | refine sE (by conv => lhs; simp) ?_ | refine Nx.go ?_ | refine st_blke' (by decide) ?_ | refine st_seq ?_ | refine st_blk ?_ | refine st_cond (by conv => lhs; simp) (by conv => lhs; simp [hmn2, hP0']) ?_ ?_ ?_ | refine st_lexit ?_) | (intro h_; try simp only [reduceCtorEq, y1, y2, y3, y4, y5, y6, y7, y8, y9, z1, z2, z3, z4, z5, z6, z7, ne_eq] at h_))
      all_goals try (first | contradiction | exact True.intro | omega | rfl | (simp [AV.fits, AV.cells, AV.one, DV.fits, DV.cells, DV.one, DV.conf, confL, DV.conf1]; done) | (simp [AV.fits, AV.cells, AV.one, DV.fits, DV.cells, DV.one, DV.conf, confL, DV.conf1, *] <;> omega))
      refine st_e (st_call (by simp [solidOk]) (by conv => lhs; simp) (Swappable38 x i (by omega) (by omega)) (by exact ⟨.inl rfl, .inl rfl, trivial⟩) (pendOk_refl _) ?_)
      have hst : rIs x (i + 1) = rI x (rIs x i) i := by simp [rIs, List.range_succ]
      rw [rI, ← hn] at hst
      rcases hsw : swapB x i with _ | _
      · rw [hsw, if_neg (by simp)] at hst
        repeat' (first | (with_reducible first | refine st_reg ?_ | refine sN (by conv => lhs; simp [hwi]) ?_ | refine rN ?_ ?_ | refine rO ?_ ?_ | refine rF ?_ ?_ | refine sG (by conv => lhs; simp [hwi]) ?_ | refine gF ?_ | refine gS rfl (by conv => lhs; simp [hwi]) ?_ ?_ | (refine st_gef0 ?_ ?_; focus (conv => (lhs; simp [hwi])); done) | refine sE (by conv => lhs; simp) ?_ | refine Nx.go ?_ | refine st_blke' (by decide) ?_ | refine st_seq ?_ | refine st_blk ?_ | refine st_cond (by conv => lhs; simp) (by conv => lhs; simp [hwi]) ?_ ?_ ?_ | refine st_lexit ?_) | (intro h_; try simp only [reduceCtorEq, y1, y2, y3, y4, y5, y6, y7, y8, y9, z1, z2, z3, z4, z5, z6, z7, ne_eq] at h_))
        all_goals try (first | contradiction | exact True.intro | omega | rfl | (simp [AV.fits, AV.cells, AV.one, DV.fits, DV.cells, DV.one, DV.conf, confL, DV.conf1]; done) | (simp [AV.fits, AV.cells, AV.one, DV.fits, DV.cells, DV.one, DV.conf, confL, DV.conf1, *] <;> omega))
        refine st_lnormw (ys := [.d (dInp x), .ptr 0 0 0, .ptr 1 0 0, .d (.int .i64 n), .d (.vs ((rIs x (i + 1)).map dArc)), .d (.int .i64 (i + 1 : Nat)), .undef, .undef, .undef, .undef, .undef, .undef, .undef, .undef, .undef, .undef, .undef, .undef, .undef, .undef, .undef, .undef, .undef, .undef, .undef, .undef]) (by rw [hst]; simp [weak]) ⟨i + 1, by omega, rfl⟩ (by simp [St.int]; omega)
      · rw [hsw, if_pos rfl] at hst
        have hi1 := hsw2 i hsw
        have hil : i < x.cols.length := by omega
        obtain ⟨c, hc⟩ : ∃ c, c = x.cols[i] := ⟨_, rfl⟩
        have hka : kindAt x i = c.kind := by simp [kindAt, hil, hc]
        repeat' (first | (with_reducible first | refine st_reg ?_ | refine sN (by conv => lhs; simp [litV, litE, litOb, toDL, AV.toD, AV.norm, List.replicate, fillC, fillOb, AV.mkAgg, AV.allD, AV.cells, DV.cells, hP0', hil, getD_map_lt, dCol, ← hc, w2i, w2i1, w2i4]) ?_ | refine rN ?_ ?_ | refine rO ?_ ?_ | refine rF ?_ ?_ | refine sG (by conv => lhs; simp [litV, litE, litOb, toDL, AV.toD, AV.norm, List.replicate, fillC, fillOb, AV.mkAgg, AV.allD, AV.cells, DV.cells, hP0', hil, getD_map_lt, dCol, ← hc, w2i, w2i1, w2i4]) ?_ | refine gF ?_ | refine gS rfl (by conv => lhs; simp [litV, litE, litOb, toDL, AV.toD, AV.norm, List.replicate, fillC, fillOb, AV.mkAgg, AV.allD, AV.cells, DV.cells, hP0', hil, getD_map_lt, dCol, ← hc, w2i, w2i1, w2i4]) ?_ ?_ | (refine st_gef0 ?_ ?_; focus (conv => (lhs; simp [litV, litE, litOb, toDL, AV.toD, AV.norm, List.replicate, fillC, fillOb, AV.mkAgg, AV.allD, AV.cells, DV.cells, hP0', hil, getD_map_lt, dCol, ← hc, w2i, w2i1, w2i4])); done) | refine sE (by conv => lhs; simp) ?_ | refine Nx.go ?_ | refine st_blke' (by decide) ?_ | refine st_seq ?_ | refine st_blk ?_ | refine st_cond (by conv => lhs; simp) (by conv => lhs; simp [litV, litE, litOb, toDL, AV.toD, AV.norm, List.replicate, fillC, fillOb, AV.mkAgg, AV.allD, AV.cells, DV.cells, hP0', hil, getD_map_lt, dCol, ← hc, w2i, w2i1, w2i4]) ?_ ?_ ?_ | refine st_lexit ?_) | (intro h_; try simp only [reduceCtorEq, y1, y2, y3, y4, y5, y6, y7, y8, y9, z1, z2, z3, z4, z5, z6, z7, ne_eq] at h_))
        all_goals try (first | contradiction | exact True.intro | omega | rfl | (simp [AV.fits, AV.cells, AV.one, DV.fits, DV.cells, DV.one, DV.conf, confL, DV.conf1]; done) | (simp [AV.fits, AV.cells, AV.one, DV.fits, DV.cells, DV.one, DV.conf, confL, DV.conf1, *] <;> omega))
        refine st_e (st_call (by simp [solidOk]) (by conv => lhs; simp) (put35 (rMs x i (rIs x i) (n + 1 - i)) (lastArc x i) (by omega)) (by exact ⟨.inl rfl, .inr (by rw [lastArc, hka]; rfl), trivial⟩) (pendOk_refl _) ?_)
        rw [← hst]
        repeat' (first | (with_reducible first | refine st_reg ?_ | refine sN (by conv => lhs; simp [hwi]) ?_ | refine rN ?_ ?_ | refine rO ?_ ?_ | refine rF ?_ ?_ | refine sG (by conv => lhs; simp [hwi]) ?_ | refine gF ?_ | refine gS rfl (by conv => lhs; simp [hwi]) ?_ ?_ | (refine st_gef0 ?_ ?_; focus (conv => (lhs; simp [hwi])); done) | refine sE (by conv => lhs; simp) ?_ | refine Nx.go ?_ | refine st_blke' (by decide) ?_ | refine st_seq ?_ | refine st_blk ?_ | refine st_cond (by conv => lhs; simp) (by conv => lhs; simp [hwi]) ?_ ?_ ?_ | refine st_lexit ?_) | (intro h_; try simp only [reduceCtorEq, y1, y2, y3, y4, y5, y6, y7, y8, y9, z1, z2, z3, z4, z5, z6, z7, ne_eq] at h_))
        all_goals try (first | contradiction | exact True.intro | omega | rfl | (simp [AV.fits, AV.cells, AV.one, DV.fits, DV.cells, DV.one, DV.conf, confL, DV.conf1]; done) | (simp [AV.fits, AV.cells, AV.one, DV.fits, DV.cells, DV.one, DV.conf, confL, DV.conf1, *] <;> omega))
        refine st_lnormw (ys := [.d (dInp x), .ptr 0 0 0, .ptr 1 0 0, .d (.int .i64 n), .d (.vs ((rIs x (i + 1)).map dArc)), .d (.int .i64 (i + 1 : Nat)), .undef, .undef, .undef, .undef, .undef, .undef, .undef, .undef, .undef, .undef, .undef, .undef, .undef, .undef, .undef, .undef, .undef, .undef, .undef, .undef]) (by simp [weak]) ⟨i + 1, by omega, rfl⟩ (by simp [St.int]; omega)
    · have w2m : IntKind.i64.wrap (2 * (m : Int)) = 2 * (m : Int) := wrap64 (by omega) (by omega)
      have w2m1 : IntKind.i64.wrap (2 * (m : Int) + 1) = 2 * (m : Int) + 1 := wrap64 (by omega) (by omega)
      have w2m2 : IntKind.i64.wrap (2 * (m : Int) + 2) = 2 * (m : Int) + 2 := wrap64 (by omega) (by omega)
      have wmi : IntKind.i64.wrap ((m : Int) - (i : Int)) = ((m - i : Nat) : Int) := by rw [wrap64 (by omega) (by omega)]; omega
      obtain ⟨Lm, hLme⟩ : ∃ Lm, Lm = rMs x i (rIs x i) k := ⟨_, rfl⟩
      have hst : rMs x i (rIs x i) (k + 1) = rM x i Lm m := by simp [rMs, List.range_succ, hLme, hm']
      rw [← hLme] at hLm ⊢
      have hdb := delS_bd hx (i := i) (m := m) (by omega) (by omega)
      repeat' (first | (with_reducible first | refine st_reg ?_ | refine sN (by conv => lhs; simp [hmn, hP0']) ?_ | refine rN ?_ ?_ | refine rO ?_ ?_ | refine rF ?_ ?_ | refine sG (by conv => lhs; simp [hmn, hP0']) ?_ | refine gF ?_ | refine gS rfl (by conv => lhs; simp [hmn, hP0']) ?_ ?_ | (refine st_gef0 ?_ ?_; focus (conv => (lhs; simp [hmn, hP0'])); done) | refine sE (by conv => lhs; simp) ?_ | refine Nx.go ?_ | refine st_blke' (by decide) ?_ | refine st_seq ?_ | refine st_blk ?_ | refine st_cond (by conv => lhs; simp) (by conv => lhs; simp [hmn, hP0']) ?_ ?_ ?_ | refine st_lexit ?_) | (intro h_; try simp only [reduceCtorEq, y1, y2, y3, y4, y5, y6, y7, y8, y9, z1, z2, z3, z4, z5, z6, z7, ne_eq] at h_))
      all_goals try (first | contradiction | exact True.intro | omega | rfl | (simp [AV.fits, AV.cells, AV.one, DV.fits, DV.cells, DV.one, DV.conf, confL, DV.conf1]; done) | (simp [AV.fits, AV.cells, AV.one, DV.fits, DV.cells, DV.one, DV.conf, confL, DV.conf1, *] <;> omega))
      refine st_e (st_call (by simp [solidOk]) (by conv => lhs; simp) (Deletion34 x i m (by omega) (by omega) (by omega)) (by exact ⟨.inl rfl, .inl rfl, .inl rfl, trivial⟩) (pendOk_refl _) ?_)
      obtain ⟨d, hd⟩ : ∃ d, d = delS x i m := ⟨_, rfl⟩
      rw [← hd] at hdb ⊢
      repeat' (first | (with_reducible first | refine st_reg ?_ | refine sN (by conv => lhs; simp) ?_ | refine rN ?_ ?_ | refine rO ?_ ?_ | refine rF ?_ ?_ | refine sG (by conv => lhs; simp) ?_ | refine gF ?_ | refine gS rfl (by conv => lhs; simp) ?_ ?_ | (refine st_gef0 ?_ ?_; focus (conv => (lhs; simp)); done) | refine sE (by conv => lhs; simp) ?_ | refine Nx.go ?_ | refine st_blke' (by decide) ?_ | refine st_seq ?_ | refine st_blk ?_ | refine st_cond (by conv => lhs; simp) (by conv => lhs; simp) ?_ ?_ ?_ | refine st_lexit ?_) | (intro h_; try simp only [reduceCtorEq, y1, y2, y3, y4, y5, y6, y7, y8, y9, z1, z2, z3, z4, z5, z6, z7, ne_eq] at h_))
      all_goals try (first | contradiction | exact True.intro | omega | rfl | (simp [AV.fits, AV.cells, AV.one, DV.fits, DV.cells, DV.one, DV.conf, confL, DV.conf1]; done) | (simp [AV.fits, AV.cells, AV.one, DV.fits, DV.cells, DV.one, DV.conf, confL, DV.conf1, *] <;> omega))
      refine wpC_loop (fun s => ∃ (t : Nat), t ≤ x.insert.length ∧ s = ⟨[.d (dInp x), .ptr 0 0 0, .ptr 1 0 0, .d (.int .i64 n), .d (.vs ((rTs x i m Lm t).map dArc)), .d (.int .i64 i), .d (.int .i64 m), .d (.int .i64 d), .d (.int .i64 t), .undef, .undef, .undef, .undef, .undef, .undef, .undef, .undef, .undef, .undef, .undef, .undef, .undef, .undef, .undef, .undef, .undef], HP⟩)
        (fun s => x.insert.length - (s.int 8).toNat)
        (s' := ⟨[.d (dInp x), .ptr 0 0 0, .ptr 1 0 0, .d (.int .i64 n), .d (.vs ((Lm).map dArc)), .d (.int .i64 i), .d (.int .i64 m), .d (.int .i64 d), .d (.int .i64 (0 : Nat)), .undef, .undef, .undef, .undef, .undef, .undef, .undef, .undef, .undef, .undef, .undef, .undef, .undef, .undef, .undef, .undef, .undef], HP⟩)
        (Gh.weak (by simp [weak])) ⟨0, by omega, rfl⟩ ?_
      rintro _ ⟨t, ht, rfl⟩
      have hwt : IntKind.i64.wrap ((t : Int) + 1) = ((t + 1 : Nat) : Int) := by rw [wrap64 (by omega) (by omega)]; simp
      have hLt : (rTs x i m Lm t).length ≤ 600 := by have := rTs_len x i m Lm t; omega
      rcases Nat.lt_or_ge t x.insert.length with htl | htl
      · obtain ⟨Lt, hLte⟩ : ∃ Lt, Lt = rTs x i m Lm t := ⟨_, rfl⟩
        have hs1 : rTs x i m Lm (t + 1) = rT x i m Lt t := by simp [rTs, List.range_succ, hLte]
        rw [← hLte] at hLt ⊢
        rw [rT, ← hn] at hs1
        by_cases hmc : m < n
        · have hml : m < x.cols.length := by omega
          obtain ⟨c, hc⟩ : ∃ c, c = x.cols[m] := ⟨_, rfl⟩
          obtain ⟨_, _, q3, _, _, q6⟩ := hx.cols c (by rw [hc]; exact List.getElem_mem hml)
          have hra : readAt x m = c.read := by simp [readAt, hml, hc]
          have htr : t < c.read.length := by omega
          obtain ⟨p, hp⟩ : ∃ p, p = c.read[t] := ⟨_, rfl⟩
          have hpb := q6 p (by rw [hp]; exact List.getElem_mem htr)
          have hgd : (readAt x m).getD t 0 = p := by rw [hra]; simp [List.getD_eq_getElem?_getD, htr, hp]
          by_cases hp0 : 0 ≤ p
          · obtain ⟨ops, hops⟩ : ∃ ops : List Op, ops = List.replicate (m - i) delOp ++ [⟨1, t⟩] := ⟨_, rfl⟩
            have hs2 : rTs x i m Lm (t + 1) = putL Lt ⟨2 * i, 2 * m + 2, t, addW d p, ops⟩ := by
              rw [hs1, if_pos ⟨hmc, by omega⟩, putL_sat _ _ _ _ _ hdb (by omega), readArc, hgd, ← hd, hops]; rfl
            repeat' (first | (with_reducible first | refine st_reg ?_ | refine sN (by conv => lhs; simp [litV, litE, litOb, toDL, AV.toD, AV.norm, List.replicate, fillC, fillOb, AV.mkAgg, AV.allD, AV.cells, DV.cells, hP0', htl, hmc, hml, getD_map_lt, dCol, ← hc, htr, dI, ← hp, hp0, w2i, w2m, w2m2, wmi]) ?_ | refine rN ?_ ?_ | refine rO ?_ ?_ | refine rF ?_ ?_ | refine sG (by conv => lhs; simp [litV, litE, litOb, toDL, AV.toD, AV.norm, List.replicate, fillC, fillOb, AV.mkAgg, AV.allD, AV.cells, DV.cells, hP0', htl, hmc, hml, getD_map_lt, dCol, ← hc, htr, dI, ← hp, hp0, w2i, w2m, w2m2, wmi]) ?_ | refine gF ?_ | refine gS rfl (by conv => lhs; simp [litV, litE, litOb, toDL, AV.toD, AV.norm, List.replicate, fillC, fillOb, AV.mkAgg, AV.allD, AV.cells, DV.cells, hP0', htl, hmc, hml, getD_map_lt, dCol, ← hc, htr, dI, ← hp, hp0, w2i, w2m, w2m2, wmi]) ?_ ?_ | (refine st_gef0 ?_ ?_; focus (conv => (lhs; simp [litV, litE, litOb, toDL, AV.toD, AV.norm, List.replicate, fillC, fillOb, AV.mkAgg, AV.allD, AV.cells, DV.cells, hP0', htl, hmc, hml, getD_map_lt, dCol, ← hc, htr, dI, ← hp, hp0, w2i, w2m, w2m2, wmi])); done) | refine sE (by conv => lhs; simp) ?_ | refine Nx.go ?_ | refine st_blke' (by decide) ?_ | refine st_seq ?_ | refine st_blk ?_ | refine st_cond (by conv => lhs; simp) (by conv => lhs; simp [litV, litE, litOb, toDL, AV.toD, AV.norm, List.replicate, fillC, fillOb, AV.mkAgg, AV.allD, AV.cells, DV.cells, hP0', htl, hmc, hml, getD_map_lt, dCol, ← hc, htr, dI, ← hp, hp0, w2i, w2m, w2m2, wmi]) ?_ ?_ ?_ | refine st_lexit ?_) | (intro h_; try simp only [reduceCtorEq, y1, y2, y3, y4, y5, y6, y7, y8, y9, z1, z2, z3, z4, z5, z6, z7, ne_eq] at h_))
            all_goals try (first | contradiction | exact True.intro | omega | rfl | (simp [AV.fits, AV.cells, AV.one, DV.fits, DV.cells, DV.one, DV.conf, confL, DV.conf1]; done) | (simp [AV.fits, AV.cells, AV.one, DV.fits, DV.cells, DV.one, DV.conf, confL, DV.conf1, *] <;> omega))
            refine st_e (st_call (by simp [solidOk]) (by conv => lhs; simp) (add36 d p) (by exact ⟨.inl rfl, .inl rfl, trivial⟩) (pendOk_refl _) ?_)
            repeat' (first | (with_reducible first | refine st_reg ?_ | refine sN (by conv => lhs; simp [litV, litE, litOb, toDL, AV.toD, AV.norm, List.replicate, fillC, fillOb, AV.mkAgg, AV.allD, AV.cells, DV.cells, w2i, w2m, w2m2, wmi]) ?_ | refine rN ?_ ?_ | refine rO ?_ ?_ | refine rF ?_ ?_ | refine sG (by conv => lhs; simp [litV, litE, litOb, toDL, AV.toD, AV.norm, List.replicate, fillC, fillOb, AV.mkAgg, AV.allD, AV.cells, DV.cells, w2i, w2m, w2m2, wmi]) ?_ | refine gF ?_ | refine gS rfl (by conv => lhs; simp [litV, litE, litOb, toDL, AV.toD, AV.norm, List.replicate, fillC, fillOb, AV.mkAgg, AV.allD, AV.cells, DV.cells, w2i, w2m, w2m2, wmi]) ?_ ?_ | (refine st_gef0 ?_ ?_; focus (conv => (lhs; simp [litV, litE, litOb, toDL, AV.toD, AV.norm, List.replicate, fillC, fillOb, AV.mkAgg, AV.allD, AV.cells, DV.cells, w2i, w2m, w2m2, wmi])); done) | refine sE (by conv => lhs; simp) ?_ | refine Nx.go ?_ | refine st_blke' (by decide) ?_ | refine st_seq ?_ | refine st_blk ?_ | refine st_cond (by conv => lhs; simp) (by conv => lhs; simp [litV, litE, litOb, toDL, AV.toD, AV.norm, List.replicate, fillC, fillOb, AV.mkAgg, AV.allD, AV.cells, DV.cells, w2i, w2m, w2m2, wmi]) ?_ ?_ ?_ | refine st_lexit ?_) | (intro h_; try simp only [reduceCtorEq, y1, y2, y3, y4, y5, y6, y7, y8, y9, z1, z2, z3, z4, z5, z6, z7, ne_eq] at h_))
            all_goals try (first | contradiction | exact True.intro | omega | rfl | (simp [AV.fits, AV.cells, AV.one, DV.fits, DV.cells, DV.one, DV.conf, confL, DV.conf1]; done) | (simp [AV.fits, AV.cells, AV.one, DV.fits, DV.cells, DV.one, DV.conf, confL, DV.conf1, *] <;> omega))
            refine st_e (st_call (by simp [solidOk]) (by conv => lhs; simp) (deletes37 (m - i) ⟨1, t⟩ (by omega)) (by exact ⟨.inl rfl, .inl rfl, trivial⟩) (pendOk_refl _) ?_)
            rw [← hops]
            repeat' (first | (with_reducible first | refine st_reg ?_ | refine sN (by conv => lhs; simp [litV, litE, litOb, toDL, AV.toD, AV.norm, List.replicate, fillC, fillOb, AV.mkAgg, AV.allD, AV.cells, DV.cells]) ?_ | refine rN ?_ ?_ | refine rO ?_ ?_ | refine rF ?_ ?_ | refine sG (by conv => lhs; simp [litV, litE, litOb, toDL, AV.toD, AV.norm, List.replicate, fillC, fillOb, AV.mkAgg, AV.allD, AV.cells, DV.cells]) ?_ | refine gF ?_ | refine gS rfl (by conv => lhs; simp [litV, litE, litOb, toDL, AV.toD, AV.norm, List.replicate, fillC, fillOb, AV.mkAgg, AV.allD, AV.cells, DV.cells]) ?_ ?_ | (refine st_gef0 ?_ ?_; focus (conv => (lhs; simp [litV, litE, litOb, toDL, AV.toD, AV.norm, List.replicate, fillC, fillOb, AV.mkAgg, AV.allD, AV.cells, DV.cells])); done) | refine sE (by conv => lhs; simp) ?_ | refine Nx.go ?_ | refine st_blke' (by decide) ?_ | refine st_seq ?_ | refine st_blk ?_ | refine st_cond (by conv => lhs; simp) (by conv => lhs; simp [litV, litE, litOb, toDL, AV.toD, AV.norm, List.replicate, fillC, fillOb, AV.mkAgg, AV.allD, AV.cells, DV.cells]) ?_ ?_ ?_ | refine st_lexit ?_) | (intro h_; try simp only [reduceCtorEq, y1, y2, y3, y4, y5, y6, y7, y8, y9, z1, z2, z3, z4, z5, z6, z7, ne_eq] at h_))
            all_goals try (first | contradiction | exact True.intro | omega | rfl | (simp [AV.fits, AV.cells, AV.one, DV.fits, DV.cells, DV.one, DV.conf, confL, DV.conf1]; done) | (simp [AV.fits, AV.cells, AV.one, DV.fits, DV.cells, DV.one, DV.conf, confL, DV.conf1, *] <;> omega))
            refine st_e (st_call (by simp [solidOk]) (by conv => lhs; simp) (put35 Lt ⟨2 * i, 2 * m + 2, t, addW d p, ops⟩ (by omega)) (by exact ⟨.inl rfl, .inl rfl, trivial⟩) (pendOk_refl _) ?_)
            rw [← hs2]
            repeat' (first | (with_reducible first | refine st_reg ?_ | refine sN (by conv => lhs; simp [hwt]) ?_ | refine rN ?_ ?_ | refine rO ?_ ?_ | refine rF ?_ ?_ | refine sG (by conv => lhs; simp [hwt]) ?_ | refine gF ?_ | refine gS rfl (by conv => lhs; simp [hwt]) ?_ ?_ | (refine st_gef0 ?_ ?_; focus (conv => (lhs; simp [hwt])); done) | refine sE (by conv => lhs; simp) ?_ | refine Nx.go ?_ | refine st_blke' (by decide) ?_ | refine st_seq ?_ | refine st_blk ?_ | refine st_cond (by conv => lhs; simp) (by conv => lhs; simp [hwt]) ?_ ?_ ?_ | refine st_lexit ?_) | (intro h_; try simp only [reduceCtorEq, y1, y2, y3, y4, y5, y6, y7, y8, y9, z1, z2, z3, z4, z5, z6, z7, ne_eq] at h_))
            all_goals try (first | contradiction | exact True.intro | omega | rfl | (simp [AV.fits, AV.cells, AV.one, DV.fits, DV.cells, DV.one, DV.conf, confL, DV.conf1]; done) | (simp [AV.fits, AV.cells, AV.one, DV.fits, DV.cells, DV.one, DV.conf, confL, DV.conf1, *] <;> omega))
            refine st_lnormw (ys := [.d (dInp x), .ptr 0 0 0, .ptr 1 0 0, .d (.int .i64 n), .d (.vs ((rTs x i m Lm (t + 1)).map dArc)), .d (.int .i64 i), .d (.int .i64 m), .d (.int .i64 d), .d (.int .i64 (t + 1 : Nat)), .undef, .undef, .undef, .undef, .undef, .undef, .undef, .undef, .undef, .undef, .undef, .undef, .undef, .undef, .undef, .undef, .undef]) (by simp [weak]) ⟨t + 1, by omega, rfl⟩ (by simp [St.int]; omega)
          · rw [if_neg (by omega)] at hs1
            repeat' (first | (with_reducible first | refine st_reg ?_ | refine sN (by conv => lhs; simp [litV, litE, litOb, toDL, AV.toD, AV.norm, List.replicate, fillC, fillOb, AV.mkAgg, AV.allD, AV.cells, DV.cells, hP0', htl, hmc, hml, getD_map_lt, dCol, ← hc, htr, dI, ← hp, hp0, hwt]) ?_ | refine rN ?_ ?_ | refine rO ?_ ?_ | refine rF ?_ ?_ | refine sG (by conv => lhs; simp [litV, litE, litOb, toDL, AV.toD, AV.norm, List.replicate, fillC, fillOb, AV.mkAgg, AV.allD, AV.cells, DV.cells, hP0', htl, hmc, hml, getD_map_lt, dCol, ← hc, htr, dI, ← hp, hp0, hwt]) ?_ | refine gF ?_ | refine gS rfl (by conv => lhs; simp [litV, litE, litOb, toDL, AV.toD, AV.norm, List.replicate, fillC, fillOb, AV.mkAgg, AV.allD, AV.cells, DV.cells, hP0', htl, hmc, hml, getD_map_lt, dCol, ← hc, htr, dI, ← hp, hp0, hwt]) ?_ ?_ | (refine st_gef0 ?_ ?_; focus (conv => (lhs; simp [litV, litE, litOb, toDL, AV.toD, AV.norm, List.replicate, fillC, fillOb, AV.mkAgg, AV.allD, AV.cells, DV.cells, hP0', htl, hmc, hml, getD_map_lt, dCol, ← hc, htr, dI, ← hp, hp0, hwt])); done) | refine sE (by conv => lhs; simp) ?_ | refine Nx.go ?_ | refine st_blke' (by decide) ?_ | refine st_seq ?_ | refine st_blk ?_ | refine st_cond (by conv => lhs; simp) (by conv => lhs; simp [litV, litE, litOb, toDL, AV.toD, AV.norm, List.replicate, fillC, fillOb, AV.mkAgg, AV.allD, AV.cells, DV.cells, hP0', htl, hmc, hml, getD_map_lt, dCol, ← hc, htr, dI, ← hp, hp0, hwt]) ?_ ?_ ?_ | refine st_lexit ?_) | (intro h_; try simp only [reduceCtorEq, y1, y2, y3, y4, y5, y6, y7, y8, y9, z1, z2, z3, z4, z5, z6, z7, ne_eq] at h_))
            all_goals try (first | contradiction | exact True.intro | omega | rfl | (simp [AV.fits, AV.cells, AV.one, DV.fits, DV.cells, DV.one, DV.conf, confL, DV.conf1]; done) | (simp [AV.fits, AV.cells, AV.one, DV.fits, DV.cells, DV.one, DV.conf, confL, DV.conf1, *] <;> omega))
            refine st_lnormw (ys := [.d (dInp x), .ptr 0 0 0, .ptr 1 0 0, .d (.int .i64 n), .d (.vs ((rTs x i m Lm (t + 1)).map dArc)), .d (.int .i64 i), .d (.int .i64 m), .d (.int .i64 d), .d (.int .i64 (t + 1 : Nat)), .undef, .undef, .undef, .undef, .undef, .undef, .undef, .undef, .undef, .undef, .undef, .undef, .undef, .undef, .undef, .undef, .undef]) (by rw [hs1]; simp [weak]) ⟨t + 1, by omega, rfl⟩ (by simp [St.int]; omega)
        · rw [if_neg (by omega)] at hs1
          repeat' (first | (with_reducible first | refine st_reg ?_ | refine sN (by conv => lhs; simp [litV, litE, litOb, toDL, AV.toD, AV.norm, List.replicate, fillC, fillOb, AV.mkAgg, AV.allD, AV.cells, DV.cells, hP0', htl, hmc, hwt]) ?_ | refine rN ?_ ?_ | refine rO ?_ ?_ | refine rF ?_ ?_ | refine sG (by conv => lhs; simp [litV, litE, litOb, toDL, AV.toD, AV.norm, List.replicate, fillC, fillOb, AV.mkAgg, AV.allD, AV.cells, DV.cells, hP0', htl, hmc, hwt]) ?_ | refine gF ?_ | refine gS rfl (by conv => lhs; simp [litV, litE, litOb, toDL, AV.toD, AV.norm, List.replicate, fillC, fillOb, AV.mkAgg, AV.allD, AV.cells, DV.cells, hP0', htl, hmc, hwt]) ?_ ?_ | (refine st_gef0 ?_ ?_; focus (conv => (lhs; simp [litV, litE, litOb, toDL, AV.toD, AV.norm, List.replicate, fillC, fillOb, AV.mkAgg, AV.allD, AV.cells, DV.cells, hP0', htl, hmc, hwt])); done) | refine sE (by conv => lhs; simp) ?_ | refine Nx.go ?_ | refine st_blke' (by decide) ?_ | refine st_seq ?_ | refine st_blk ?_ | refine st_cond (by conv => lhs; simp) (by conv => lhs; simp [litV, litE, litOb, toDL, AV.toD, AV.norm, List.replicate, fillC, fillOb, AV.mkAgg, AV.allD, AV.cells, DV.cells, hP0', htl, hmc, hwt]) ?_ ?_ ?_ | refine st_lexit ?_) | (intro h_; try simp only [reduceCtorEq, y1, y2, y3, y4, y5, y6, y7, y8, y9, z1, z2, z3, z4, z5, z6, z7, ne_eq] at h_))
          all_goals try (first | contradiction | exact True.intro | omega | rfl | (simp [AV.fits, AV.cells, AV.one, DV.fits, DV.cells, DV.one, DV.conf, confL, DV.conf1]; done) | (simp [AV.fits, AV.cells, AV.one, DV.fits, DV.cells, DV.one, DV.conf, confL, DV.conf1, *] <;> omega))
          refine st_lnormw (ys := [.d (dInp x), .ptr 0 0 0, .ptr 1 0 0, .d (.int .i64 n), .d (.vs ((rTs x i m Lm (t + 1)).map dArc)), .d (.int .i64 i), .d (.int .i64 m), .d (.int .i64 d), .d (.int .i64 (t + 1 : Nat)), .undef, .undef, .undef, .undef, .undef, .undef, .undef, .undef, .undef, .undef, .undef, .undef, .undef, .undef, .undef, .undef, .undef]) (by rw [hs1]; simp [weak]) ⟨t + 1, by omega, rfl⟩ (by simp [St.int]; omega)
      · have hte : t = x.insert.length := by omega
        have htl2 : ¬ t < x.insert.length := by omega
        obtain ⟨Lt, hLte⟩ : ∃ Lt, Lt = rTs x i m Lm t := ⟨_, rfl⟩
        rw [rM, ← hte, ← hLte] at hst
        rw [← hLte] at hLt ⊢
        repeat' (first | (with_reducible first | refine st_reg ?_ | refine sN (by conv => lhs; simp [hP0', htl2]) ?_ | refine rN ?_ ?_ | refine rO ?_ ?_ | refine rF ?_ ?_ | refine sG (by conv => lhs; simp [hP0', htl2]) ?_ | refine gF ?_ | refine gS rfl (by conv => lhs; simp [hP0', htl2]) ?_ ?_ | (refine st_gef0 ?_ ?_; focus (conv => (lhs; simp [hP0', htl2])); done) | refine sE (by conv => lhs; simp) ?_ | refine Nx.go ?_ | refine st_blke' (by decide) ?_ | refine st_seq ?_ | refine st_blk ?_ | refine st_cond (by conv => lhs; simp) (by conv => lhs; simp [hP0', htl2]) ?_ ?_ ?_ | refine st_lexit ?_) | (intro h_; try simp only [reduceCtorEq, y1, y2, y3, y4, y5, y6, y7, y8, y9, z1, z2, z3, z4, z5, z6, z7, ne_eq] at h_))
        all_goals try (first | contradiction | exact True.intro | omega | rfl | (simp [AV.fits, AV.cells, AV.one, DV.fits, DV.cells, DV.one, DV.conf, confL, DV.conf1]; done) | (simp [AV.fits, AV.cells, AV.one, DV.fits, DV.cells, DV.one, DV.conf, confL, DV.conf1, *] <;> omega))
        refine st_e (st_call (by simp [solidOk]) (by conv => lhs; simp) (Swappable38 x m (by omega) (by omega)) (by exact ⟨.inl rfl, .inl rfl, trivial⟩) (pendOk_refl _) ?_)
        rcases hsw : swapB x m with _ | _
        · rw [hsw, if_neg (by simp)] at hst
          repeat' (first | (with_reducible first | refine st_reg ?_ | refine sN (by conv => lhs; simp [hwm]) ?_ | refine rN ?_ ?_ | refine rO ?_ ?_ | refine rF ?_ ?_ | refine sG (by conv => lhs; simp [hwm]) ?_ | refine gF ?_ | refine gS rfl (by conv => lhs; simp [hwm]) ?_ ?_ | (refine st_gef0 ?_ ?_; focus (conv => (lhs; simp [hwm])); done) | refine sE (by conv => lhs; simp) ?_ | refine Nx.go ?_ | refine st_blke' (by decide) ?_ | refine st_seq ?_ | refine st_blk ?_ | refine st_cond (by conv => lhs; simp) (by conv => lhs; simp [hwm]) ?_ ?_ ?_ | refine st_lexit ?_) | (intro h_; try simp only [reduceCtorEq, y1, y2, y3, y4, y5, y6, y7, y8, y9, z1, z2, z3, z4, z5, z6, z7, ne_eq] at h_))
          all_goals try (first | contradiction | exact True.intro | omega | rfl | (simp [AV.fits, AV.cells, AV.one, DV.fits, DV.cells, DV.one, DV.conf, confL, DV.conf1]; done) | (simp [AV.fits, AV.cells, AV.one, DV.fits, DV.cells, DV.one, DV.conf, confL, DV.conf1, *] <;> omega))
          refine st_lnormw (ys := [.d (dInp x), .ptr 0 0 0, .ptr 1 0 0, .d (.int .i64 n), .d (.vs ((rMs x i (rIs x i) (k + 1)).map dArc)), .d (.int .i64 i), .d (.int .i64 (m + 1 : Nat)), .undef, .undef, .undef, .undef, .undef, .undef, .undef, .undef, .undef, .undef, .undef, .undef, .undef, .undef, .undef, .undef, .undef, .undef, .undef]) (by rw [hst]; simp [weak]) ⟨k + 1, m + 1, by omega, by omega, rfl⟩ (by simp [St.int]; omega)
        · rw [hsw, if_pos rfl] at hst
          have hm1 := hsw2 m hsw
          have hml : m + 1 < x.cols.length := by omega
          obtain ⟨c, hc⟩ : ∃ c, c = x.cols[m + 1] := ⟨_, rfl⟩
          have hka : kindAt x (m + 1) = c.kind := by simp [kindAt, hml, hc]
          obtain ⟨ops, hops⟩ : ∃ ops : List Op, ops = List.replicate (m - i) delOp ++ [⟨4, 0⟩] := ⟨_, rfl⟩
          have hs2 : rMs x i (rIs x i) (k + 1) = putL Lt ⟨2 * i, 2 * m + 1, c.kind, addW d x.swap, ops⟩ := by
            have := hx.swap
            rw [hst, putL_sat _ _ _ _ _ hdb (by omega), swapArc, hka, ← hd, hops]; rfl
          repeat' (first | (with_reducible first | refine st_reg ?_ | refine sN (by conv => lhs; simp [litV, litE, litOb, toDL, AV.toD, AV.norm, List.replicate, fillC, fillOb, AV.mkAgg, AV.allD, AV.cells, DV.cells, hP0', hml, getD_map_lt, dCol, ← hc, w2i, w2m, w2m1, wmi, hwm]) ?_ | refine rN ?_ ?_ | refine rO ?_ ?_ | refine rF ?_ ?_ | refine sG (by conv => lhs; simp [litV, litE, litOb, toDL, AV.toD, AV.norm, List.replicate, fillC, fillOb, AV.mkAgg, AV.allD, AV.cells, DV.cells, hP0', hml, getD_map_lt, dCol, ← hc, w2i, w2m, w2m1, wmi, hwm]) ?_ | refine gF ?_ | refine gS rfl (by conv => lhs; simp [litV, litE, litOb, toDL, AV.toD, AV.norm, List.replicate, fillC, fillOb, AV.mkAgg, AV.allD, AV.cells, DV.cells, hP0', hml, getD_map_lt, dCol, ← hc, w2i, w2m, w2m1, wmi, hwm]) ?_ ?_ | (refine st_gef0 ?_ ?_; focus (conv => (lhs; simp [litV, litE, litOb, toDL, AV.toD, AV.norm, List.replicate, fillC, fillOb, AV.mkAgg, AV.allD, AV.cells, DV.cells, hP0', hml, getD_map_lt, dCol, ← hc, w2i, w2m, w2m1, wmi, hwm])); done) | refine sE (by conv => lhs; simp) ?_ | refine Nx.go ?_ | refine st_blke' (by decide) ?_ | refine st_seq ?_ | refine st_blk ?_ | refine st_cond (by conv => lhs; simp) (by conv => lhs; simp [litV, litE, litOb, toDL, AV.toD, AV.norm, List.replicate, fillC, fillOb, AV.mkAgg, AV.allD, AV.cells, DV.cells, hP0', hml, getD_map_lt, dCol, ← hc, w2i, w2m, w2m1, wmi, hwm]) ?_ ?_ ?_ | refine st_lexit ?_) | (intro h_; try simp only [reduceCtorEq, y1, y2, y3, y4, y5, y6, y7, y8, y9, z1, z2, z3, z4, z5, z6, z7, ne_eq] at h_))
          all_goals try (first | contradiction | exact True.intro | omega | rfl | (simp [AV.fits, AV.cells, AV.one, DV.fits, DV.cells, DV.one, DV.conf, confL, DV.conf1]; done) | (simp [AV.fits, AV.cells, AV.one, DV.fits, DV.cells, DV.one, DV.conf, confL, DV.conf1, *] <;> omega))
          refine st_e (st_call (by simp [solidOk]) (by conv => lhs; simp) (add36 d x.swap) (by exact ⟨.inl rfl, .inl rfl, trivial⟩) (pendOk_refl _) ?_)
          repeat' (first | (with_reducible first | refine st_reg ?_ | refine sN (by conv => lhs; simp [litV, litE, litOb, toDL, AV.toD, AV.norm, List.replicate, fillC, fillOb, AV.mkAgg, AV.allD, AV.cells, DV.cells]) ?_ | refine rN ?_ ?_ | refine rO ?_ ?_ | refine rF ?_ ?_ | refine sG (by conv => lhs; simp [litV, litE, litOb, toDL, AV.toD, AV.norm, List.replicate, fillC, fillOb, AV.mkAgg, AV.allD, AV.cells, DV.cells]) ?_ | refine gF ?_ | refine gS rfl (by conv => lhs; simp [litV, litE, litOb, toDL, AV.toD, AV.norm, List.replicate, fillC, fillOb, AV.mkAgg, AV.allD, AV.cells, DV.cells]) ?_ ?_ | (refine st_gef0 ?_ ?_; focus (conv => (lhs; simp [litV, litE, litOb, toDL, AV.toD, AV.norm, List.replicate, fillC, fillOb, AV.mkAgg, AV.allD, AV.cells, DV.cells])); done) | refine sE (by conv => lhs; simp) ?_ | refine Nx.go ?_ | refine st_blke' (by decide) ?_ | refine st_seq ?_ | refine st_blk ?_ | refine st_cond (by conv => lhs; simp) (by conv => lhs; simp [litV, litE, litOb, toDL, AV.toD, AV.norm, List.replicate, fillC, fillOb, AV.mkAgg, AV.allD, AV.cells, DV.cells]) ?_ ?_ ?_ | refine st_lexit ?_) | (intro h_; try simp only [reduceCtorEq, y1, y2, y3, y4, y5, y6, y7, y8, y9, z1, z2, z3, z4, z5, z6, z7, ne_eq] at h_))
          all_goals try (first | contradiction | exact True.intro | omega | rfl | (simp [AV.fits, AV.cells, AV.one, DV.fits, DV.cells, DV.one, DV.conf, confL, DV.conf1]; done) | (simp [AV.fits, AV.cells, AV.one, DV.fits, DV.cells, DV.one, DV.conf, confL, DV.conf1, *] <;> omega))
          refine st_e (st_call (by simp [solidOk]) (by conv => lhs; simp) (deletes37 (m - i) ⟨4, 0⟩ (by omega)) (by exact ⟨.inl rfl, .inl rfl, trivial⟩) (pendOk_refl _) ?_)
          rw [← hops]
          repeat' (first | (with_reducible first | refine st_reg ?_ | refine sN (by conv => lhs; simp [litV, litE, litOb, toDL, AV.toD, AV.norm, List.replicate, fillC, fillOb, AV.mkAgg, AV.allD, AV.cells, DV.cells]) ?_ | refine rN ?_ ?_ | refine rO ?_ ?_ | refine rF ?_ ?_ | refine sG (by conv => lhs; simp [litV, litE, litOb, toDL, AV.toD, AV.norm, List.replicate, fillC, fillOb, AV.mkAgg, AV.allD, AV.cells, DV.cells]) ?_ | refine gF ?_ | refine gS rfl (by conv => lhs; simp [litV, litE, litOb, toDL, AV.toD, AV.norm, List.replicate, fillC, fillOb, AV.mkAgg, AV.allD, AV.cells, DV.cells]) ?_ ?_ | (refine st_gef0 ?_ ?_; focus (conv => (lhs; simp [litV, litE, litOb, toDL, AV.toD, AV.norm, List.replicate, fillC, fillOb, AV.mkAgg, AV.allD, AV.cells, DV.cells])); done) | refine sE (by conv => lhs; simp) ?_ | refine Nx.go ?_ | refine st_blke' (by decide) ?_ | refine st_seq ?_ | refine st_blk ?_ | refine st_cond (by conv => lhs; simp) (by conv => lhs; simp [litV, litE, litOb, toDL, AV.toD, AV.norm, List.replicate, fillC, fillOb, AV.mkAgg, AV.allD, AV.cells, DV.cells]) ?_ ?_ ?_ | refine st_lexit ?_) | (intro h_; try simp only [reduceCtorEq, y1, y2, y3, y4, y5, y6, y7, y8, y9, z1, z2, z3, z4, z5, z6, z7, ne_eq] at h_))
          all_goals try (first | contradiction | exact True.intro | omega | rfl | (simp [AV.fits, AV.cells, AV.one, DV.fits, DV.cells, DV.one, DV.conf, confL, DV.conf1]; done) | (simp [AV.fits, AV.cells, AV.one, DV.fits, DV.cells, DV.one, DV.conf, confL, DV.conf1, *] <;> omega))
          refine st_e (st_call (by simp [solidOk]) (by conv => lhs; simp) (put35 Lt ⟨2 * i, 2 * m + 1, c.kind, addW d x.swap, ops⟩ (by omega)) (by exact ⟨.inl rfl, .inl rfl, trivial⟩) (pendOk_refl _) ?_)
          rw [← hs2]
          repeat' (first | (with_reducible first | refine st_reg ?_ | refine sN (by conv => lhs; simp [hwm]) ?_ | refine rN ?_ ?_ | refine rO ?_ ?_ | refine rF ?_ ?_ | refine sG (by conv => lhs; simp [hwm]) ?_ | refine gF ?_ | refine gS rfl (by conv => lhs; simp [hwm]) ?_ ?_ | (refine st_gef0 ?_ ?_; focus (conv => (lhs; simp [hwm])); done) | refine sE (by conv => lhs; simp) ?_ | refine Nx.go ?_ | refine st_blke' (by decide) ?_ | refine st_seq ?_ | refine st_blk ?_ | refine st_cond (by conv => lhs; simp) (by conv => lhs; simp [hwm]) ?_ ?_ ?_ | refine st_lexit ?_) | (intro h_; try simp only [reduceCtorEq, y1, y2, y3, y4, y5, y6, y7, y8, y9, z1, z2, z3, z4, z5, z6, z7, ne_eq] at h_))
          all_goals try (first | contradiction | exact True.intro | omega | rfl | (simp [AV.fits, AV.cells, AV.one, DV.fits, DV.cells, DV.one, DV.conf, confL, DV.conf1]; done) | (simp [AV.fits, AV.cells, AV.one, DV.fits, DV.cells, DV.one, DV.conf, confL, DV.conf1, *] <;> omega))
          refine st_lnormw (ys := [.d (dInp x), .ptr 0 0 0, .ptr 1 0 0, .d (.int .i64 n), .d (.vs ((rMs x i (rIs x i) (k + 1)).map dArc)), .d (.int .i64 i), .d (.int .i64 (m + 1 : Nat)), .undef, .undef, .undef, .undef, .undef, .undef, .undef, .undef, .undef, .undef, .undef, .undef, .undef, .undef, .undef, .undef, .undef, .undef, .undef]) (by simp [weak]) ⟨k + 1, m + 1, by omega, by omega, rfl⟩ (by simp [St.int]; omega)
  case inl =>
    have hin2 : ¬ i ≤ n := by omega
    have hie : i = n + 1 := by omega
    have hL0 : rIs x i = iIs x 0 := by rw [hie, hn]; rfl
    rw [hL0]
    repeat' (first | (with_reducible first | refine st_reg ?_ | refine sN (by conv => lhs; simp [hin2]) ?_ | refine rN ?_ ?_ | refine rO ?_ ?_ | refine rF ?_ ?_ | refine sG (by conv => lhs; simp [hin2]) ?_ | refine gF ?_ | refine gS rfl (by conv => lhs; simp [hin2]) ?_ ?_ | (refine st_gef0 ?_ ?_; focus (conv => (lhs; simp [hin2])); done) | refine sE (by conv => lhs; simp) ?_ | refine Nx.go ?_ | refine st_blke' (by decide) ?_ | refine st_seq ?_ | refine st_blk ?_ | refine st_cond (by conv => lhs; simp) (by conv => lhs; simp [hin2]) ?_ ?_ ?_ | refine st_lexit ?_) | (intro h_; try simp only [reduceCtorEq, y1, y2, y3, y4, y5, y6, y7, y8, y9, z1, z2, z3, z4, z5, z6, z7, ne_eq] at h_))
    all_goals try (first | contradiction | exact True.intro | omega | rfl | (simp [AV.fits, AV.cells, AV.one, DV.fits, DV.cells, DV.one, DV.conf, confL, DV.conf1]; done) | (simp [AV.fits, AV.cells, AV.one, DV.fits, DV.cells, DV.one, DV.conf, confL, DV.conf1, *] <;> omega))
    clear hwi w2i w2i1 w2i4
    refine wpC_loop (fun s => ∃ (i : Nat), i ≤ n + 1 ∧ s = ⟨[.d (dInp x), .ptr 0 0 0, .ptr 1 0 0, .d (.int .i64 n), .d (.vs ((iIs x i).map dArc)), .undef, .undef, .undef, .undef, .d (.int .i64 i), .undef, .undef, .undef, .undef, .undef, .undef, .undef, .undef, .undef, .undef, .undef, .undef, .undef, .undef, .undef, .undef], HP⟩)
      (fun s => n + 1 - (s.int 9).toNat)
      (s' := ⟨[.d (dInp x), .ptr 0 0 0, .ptr 1 0 0, .d (.int .i64 n), .d (.vs ((iIs x 0).map dArc)), .undef, .undef, .undef, .undef, .d (.int .i64 (0 : Nat)), .undef, .undef, .undef, .undef, .undef, .undef, .undef, .undef, .undef, .undef, .undef, .undef, .undef, .undef, .undef, .undef], HP⟩)
      (Gh.weak (by simp [weak])) ⟨0, by omega, rfl⟩ ?_
    clear hin hin2 hie hL0 hi
    rintro _ ⟨i, hi, rfl⟩
    have hwi : IntKind.i64.wrap ((i : Int) + 1) = ((i + 1 : Nat) : Int) := by rw [wrap64 (by omega) (by omega)]; simp
    have w2i : IntKind.i64.wrap (2 * (i : Int)) = 2 * (i : Int) := wrap64 (by omega) (by omega)
    have hLi : (iIs x i).length ≤ 900 := by have := iIs_len x i ht5 hn8; omega
    rcases Nat.lt_or_ge n i with hin | hin
    case inr =>
      repeat' (first | (with_reducible first | refine st_reg ?_ | refine sN (by conv => lhs; simp [hin]) ?_ | refine rN ?_ ?_ | refine rO ?_ ?_ | refine rF ?_ ?_ | refine sG (by conv => lhs; simp [hin]) ?_ | refine gF ?_ | refine gS rfl (by conv => lhs; simp [hin]) ?_ ?_ | (refine st_gef0 ?_ ?_; focus (conv => (lhs; simp [hin])); done) | refine sE (by conv => lhs; simp) ?_ | refine Nx.go ?_ | refine st_blke' (by decide) ?_ | refine st_seq ?_ | refine st_blk ?_ | refine st_cond (by conv => lhs; simp) (by conv => lhs; simp [hin]) ?_ ?_ ?_ | refine st_lexit ?_) | (intro h_; try simp only [reduceCtorEq, y1, y2, y3, y4, y5, y6, y7, y8, y9, z1, z2, z3, z4, z5, z6, z7, ne_eq] at h_))
      all_goals try (first | contradiction | exact True.intro | omega | rfl | (simp [AV.fits, AV.cells, AV.one, DV.fits, DV.cells, DV.one, DV.conf, confL, DV.conf1]; done) | (simp [AV.fits, AV.cells, AV.one, DV.fits, DV.cells, DV.one, DV.conf, confL, DV.conf1, *] <;> omega))
      refine wpC_loop (fun s => ∃ (k m : Nat), k ≤ n + 1 - i ∧ m = i + k ∧ s = ⟨[.d (dInp x), .ptr 0 0 0, .ptr 1 0 0, .d (.int .i64 n), .d (.vs ((iMs x i (iIs x i) k).map dArc)), .undef, .undef, .undef, .undef, .d (.int .i64 i), .d (.int .i64 m), .undef, .undef, .undef, .undef, .undef, .undef, .undef, .undef, .undef, .undef, .undef, .undef, .undef, .undef, .undef], HP⟩)
        (fun s => n + 1 - (s.int 10).toNat)
        (s' := ⟨[.d (dInp x), .ptr 0 0 0, .ptr 1 0 0, .d (.int .i64 n), .d (.vs ((iIs x i).map dArc)), .undef, .undef, .undef, .undef, .d (.int .i64 i), .d (.int .i64 i), .undef, .undef, .undef, .undef, .undef, .undef, .undef, .undef, .undef, .undef, .undef, .undef, .undef, .undef, .undef], HP⟩)
        (Gh.weak (by simp [weak])) ⟨0, i, by omega, by omega, rfl⟩ ?_
      rintro _ ⟨k, m, hk, hm', rfl⟩
      have hwm : IntKind.i64.wrap ((m : Int) + 1) = ((m + 1 : Nat) : Int) := by rw [wrap64 (by omega) (by omega)]; simp
      have hLm : (iMs x i (iIs x i) k).length ≤ 950 := by have := iMs_len x i (iIs x i) k ht5; omega
      rcases Nat.lt_or_ge n m with hmn | hmn
      · have hmn2 : ¬ m ≤ n := by omega
        have hke : k = n + 1 - i := by omega
        have hst : iIs x (i + 1) = iMs x i (iIs x i) k := by rw [hke, hn]; simp [iIs, List.range_succ]
        rw [← hst]
        repeat' (first | (with_reducible first | refine st_reg ?_ | refine sN (by conv => lhs; simp [hmn2, hwi]) ?_ | refine rN ?_ ?_ | refine rO ?_ ?_ | refine rF ?_ ?_ | refine sG (by conv => lhs; simp [hmn2, hwi]) ?_ | refine gF ?_ | refine gS rfl (by conv => lhs; simp [hmn2, hwi]) ?_ ?_ | (refine st_gef0 ?_ ?_; focus (conv => (lhs; simp [hmn2, hwi])); done) | refine sE (by conv => lhs; simp) ?_ | refine Nx.go ?_ | refine st_blke' (by decide) ?_ | refine st_seq ?_ | refine st_blk ?_ | refine st_cond (by conv => lhs; simp) (by conv => lhs; simp [hmn2, hwi]) ?_ ?_ ?_ | refine st_lexit ?_) | (intro h_; try simp only [reduceCtorEq, y1, y2, y3, y4, y5, y6, y7, y8, y9, z1, z2, z3, z4, z5, z6, z7, ne_eq] at h_))
        all_goals try (first | contradiction | exact True.intro | omega | rfl | (simp [AV.fits, AV.cells, AV.one, DV.fits, DV.cells, DV.one, DV.conf, confL, DV.conf1]; done) | (simp [AV.fits, AV.cells, AV.one, DV.fits, DV.cells, DV.one, DV.conf, confL, DV.conf1, *] <;> omega))
        refine st_lnormw (ys := [.d (dInp x), .ptr 0 0 0, .ptr 1 0 0, .d (.int .i64 n), .d (.vs ((iIs x (i + 1)).map dArc)), .undef, .undef, .undef, .undef, .d (.int .i64 (i + 1 : Nat)), .undef, .undef, .undef, .undef, .undef, .undef, .undef, .undef, .undef, .undef, .undef, .undef, .undef, .undef, .undef, .undef]) (by simp [weak]) ⟨i + 1, by omega, rfl⟩ (by simp [St.int]; omega)
      · have w2m : IntKind.i64.wrap (2 * (m : Int)) = 2 * (m : Int) := wrap64 (by omega) (by omega)
        have wmi : IntKind.i64.wrap ((m : Int) - (i : Int)) = ((m - i : Nat) : Int) := by rw [wrap64 (by omega) (by omega)]; omega
        obtain ⟨Lm, hLme⟩ : ∃ Lm, Lm = iMs x i (iIs x i) k := ⟨_, rfl⟩
        have hst : iMs x i (iIs x i) (k + 1) = iTs x i m Lm x.insert.length := by simp [iMs, List.range_succ, hLme, hm']
        rw [← hLme] at hLm ⊢
        have hdb := delS_bd hx (i := i) (m := m) (by omega) (by omega)
        repeat' (first | (with_reducible first | refine st_reg ?_ | refine sN (by conv => lhs; simp [hmn]) ?_ | refine rN ?_ ?_ | refine rO ?_ ?_ | refine rF ?_ ?_ | refine sG (by conv => lhs; simp [hmn]) ?_ | refine gF ?_ | refine gS rfl (by conv => lhs; simp [hmn]) ?_ ?_ | (refine st_gef0 ?_ ?_; focus (conv => (lhs; simp [hmn])); done) | refine sE (by conv => lhs; simp) ?_ | refine Nx.go ?_ | refine st_blke' (by decide) ?_ | refine st_seq ?_ | refine st_blk ?_ | refine st_cond (by conv => lhs; simp) (by conv => lhs; simp [hmn]) ?_ ?_ ?_ | refine st_lexit ?_) | (intro h_; try simp only [reduceCtorEq, y1, y2, y3, y4, y5, y6, y7, y8, y9, z1, z2, z3, z4, z5, z6, z7, ne_eq] at h_))
        all_goals try (first | contradiction | exact True.intro | omega | rfl | (simp [AV.fits, AV.cells, AV.one, DV.fits, DV.cells, DV.one, DV.conf, confL, DV.conf1]; done) | (simp [AV.fits, AV.cells, AV.one, DV.fits, DV.cells, DV.one, DV.conf, confL, DV.conf1, *] <;> omega))
        refine wpC_loop (fun s => ∃ (t : Nat), t ≤ x.insert.length ∧ s = ⟨[.d (dInp x), .ptr 0 0 0, .ptr 1 0 0, .d (.int .i64 n), .d (.vs ((iTs x i m Lm t).map dArc)), .undef, .undef, .undef, .undef, .d (.int .i64 i), .d (.int .i64 m), .d (.int .i64 t), .undef, .undef, .undef, .undef, .undef, .undef, .undef, .undef, .undef, .undef, .undef, .undef, .undef, .undef], HP⟩)
          (fun s => x.insert.length - (s.int 11).toNat)
          (s' := ⟨[.d (dInp x), .ptr 0 0 0, .ptr 1 0 0, .d (.int .i64 n), .d (.vs ((Lm).map dArc)), .undef, .undef, .undef, .undef, .d (.int .i64 i), .d (.int .i64 m), .d (.int .i64 (0 : Nat)), .undef, .undef, .undef, .undef, .undef, .undef, .undef, .undef, .undef, .undef, .undef, .undef, .undef, .undef], HP⟩)
          (Gh.weak (by simp [weak])) ⟨0, by omega, rfl⟩ ?_
        rintro _ ⟨t, ht, rfl⟩
        have hwt : IntKind.i64.wrap ((t : Int) + 1) = ((t + 1 : Nat) : Int) := by rw [wrap64 (by omega) (by omega)]; simp
        have hLt : (iTs x i m Lm t).length ≤ 1000 := by have := iTs_len x i m Lm t; omega
        rcases Nat.lt_or_ge t x.insert.length with htl | htl
        · obtain ⟨Lt, hLte⟩ : ∃ Lt, Lt = iTs x i m Lm t := ⟨_, rfl⟩
          have hs1 : iTs x i m Lm (t + 1) = putL Lt (insArc x i m t) := by simp [iTs, List.range_succ, hLte]
          rw [← hLte] at hLt ⊢
          obtain ⟨p, hp⟩ : ∃ p, p = x.insert[t] := ⟨_, rfl⟩
          have hpb := hx.ins p (by rw [hp]; exact List.getElem_mem htl)
          have hgd : x.insert.getD t 0 = p := by simp [List.getD_eq_getElem?_getD, htl, hp]
          obtain ⟨d, hd⟩ : ∃ d, d = delS x i m := ⟨_, rfl⟩
          rw [← hd] at hdb
          obtain ⟨ops, hops⟩ : ∃ ops : List Op, ops = List.replicate (m - i) delOp ++ [⟨3, t⟩] := ⟨_, rfl⟩
          have hs2 : iTs x i m Lm (t + 1) = putL Lt ⟨2 * i, 2 * m, t, addW d p, ops⟩ := by
            rw [hs1, putL_sat _ _ _ _ _ hdb (by omega), insArc, hgd, ← hd, hops]; rfl
          repeat' (first | (with_reducible first | refine st_reg ?_ | refine sN (by conv => lhs; simp [litV, litE, litOb, toDL, AV.toD, AV.norm, List.replicate, fillC, fillOb, AV.mkAgg, AV.allD, AV.cells, DV.cells, hP0', htl, getD_map_lt, dI, ← hp, w2i, w2m, wmi]) ?_ | refine rN ?_ ?_ | refine rO ?_ ?_ | refine rF ?_ ?_ | refine sG (by conv => lhs; simp [litV, litE, litOb, toDL, AV.toD, AV.norm, List.replicate, fillC, fillOb, AV.mkAgg, AV.allD, AV.cells, DV.cells, hP0', htl, getD_map_lt, dI, ← hp, w2i, w2m, wmi]) ?_ | refine gF ?_ | refine gS rfl (by conv => lhs; simp [litV, litE, litOb, toDL, AV.toD, AV.norm, List.replicate, fillC, fillOb, AV.mkAgg, AV.allD, AV.cells, DV.cells, hP0', htl, getD_map_lt, dI, ← hp, w2i, w2m, wmi]) ?_ ?_ | (refine st_gef0 ?_ ?_; focus (conv => (lhs; simp [litV, litE, litOb, toDL, AV.toD, AV.norm, List.replicate, fillC, fillOb, AV.mkAgg, AV.allD, AV.cells, DV.cells, hP0', htl, getD_map_lt, dI, ← hp, w2i, w2m, wmi])); done) | refine sE (by conv => lhs; simp) ?_ | refine Nx.go ?_ | refine st_blke' (by decide) ?_ | refine st_seq ?_ | refine st_blk ?_ | refine st_cond (by conv => lhs; simp) (by conv => lhs; simp [litV, litE, litOb, toDL, AV.toD, AV.norm, List.replicate, fillC, fillOb, AV.mkAgg, AV.allD, AV.cells, DV.cells, hP0', htl, getD_map_lt, dI, ← hp, w2i, w2m, wmi]) ?_ ?_ ?_ | refine st_lexit ?_) | (intro h_; try simp only [reduceCtorEq, y1, y2, y3, y4, y5, y6, y7, y8, y9, z1, z2, z3, z4, z5, z6, z7, ne_eq] at h_))
          all_goals try (first | contradiction | exact True.intro | omega | rfl | (simp [AV.fits, AV.cells, AV.one, DV.fits, DV.cells, DV.one, DV.conf, confL, DV.conf1]; done) | (simp [AV.fits, AV.cells, AV.one, DV.fits, DV.cells, DV.one, DV.conf, confL, DV.conf1, *] <;> omega))
          refine st_e (st_call (by simp [solidOk]) (by conv => lhs; simp) (Deletion34 x i m (by omega) (by omega) (by omega)) (by exact ⟨.inl rfl, .inl rfl, .inl rfl, trivial⟩) (pendOk_refl _) ?_)
          rw [← hd]
          repeat' (first | (with_reducible first | refine st_reg ?_ | refine sN (by conv => lhs; simp [litV, litE, litOb, toDL, AV.toD, AV.norm, List.replicate, fillC, fillOb, AV.mkAgg, AV.allD, AV.cells, DV.cells]) ?_ | refine rN ?_ ?_ | refine rO ?_ ?_ | refine rF ?_ ?_ | refine sG (by conv => lhs; simp [litV, litE, litOb, toDL, AV.toD, AV.norm, List.replicate, fillC, fillOb, AV.mkAgg, AV.allD, AV.cells, DV.cells]) ?_ | refine gF ?_ | refine gS rfl (by conv => lhs; simp [litV, litE, litOb, toDL, AV.toD, AV.norm, List.replicate, fillC, fillOb, AV.mkAgg, AV.allD, AV.cells, DV.cells]) ?_ ?_ | (refine st_gef0 ?_ ?_; focus (conv => (lhs; simp [litV, litE, litOb, toDL, AV.toD, AV.norm, List.replicate, fillC, fillOb, AV.mkAgg, AV.allD, AV.cells, DV.cells])); done) | refine sE (by conv => lhs; simp) ?_ | refine Nx.go ?_ | refine st_blke' (by decide) ?_ | refine st_seq ?_ | refine st_blk ?_ | refine st_cond (by conv => lhs; simp) (by conv => lhs; simp [litV, litE, litOb, toDL, AV.toD, AV.norm, List.replicate, fillC, fillOb, AV.mkAgg, AV.allD, AV.cells, DV.cells]) ?_ ?_ ?_ | refine st_lexit ?_) | (intro h_; try simp only [reduceCtorEq, y1, y2, y3, y4, y5, y6, y7, y8, y9, z1, z2, z3, z4, z5, z6, z7, ne_eq] at h_))
          all_goals try (first | contradiction | exact True.intro | omega | rfl | (simp [AV.fits, AV.cells, AV.one, DV.fits, DV.cells, DV.one, DV.conf, confL, DV.conf1]; done) | (simp [AV.fits, AV.cells, AV.one, DV.fits, DV.cells, DV.one, DV.conf, confL, DV.conf1, *] <;> omega))
          refine st_e (st_call (by simp [solidOk]) (by conv => lhs; simp) (add36 d p) (by exact ⟨.inl rfl, .inl rfl, trivial⟩) (pendOk_refl _) ?_)
          repeat' (first | (with_reducible first | refine st_reg ?_ | refine sN (by conv => lhs; simp [litV, litE, litOb, toDL, AV.toD, AV.norm, List.replicate, fillC, fillOb, AV.mkAgg, AV.allD, AV.cells, DV.cells]) ?_ | refine rN ?_ ?_ | refine rO ?_ ?_ | refine rF ?_ ?_ | refine sG (by conv => lhs; simp [litV, litE, litOb, toDL, AV.toD, AV.norm, List.replicate, fillC, fillOb, AV.mkAgg, AV.allD, AV.cells, DV.cells]) ?_ | refine gF ?_ | refine gS rfl (by conv => lhs; simp [litV, litE, litOb, toDL, AV.toD, AV.norm, List.replicate, fillC, fillOb, AV.mkAgg, AV.allD, AV.cells, DV.cells]) ?_ ?_ | (refine st_gef0 ?_ ?_; focus (conv => (lhs; simp [litV, litE, litOb, toDL, AV.toD, AV.norm, List.replicate, fillC, fillOb, AV.mkAgg, AV.allD, AV.cells, DV.cells])); done) | refine sE (by conv => lhs; simp) ?_ | refine Nx.go ?_ | refine st_blke' (by decide) ?_ | refine st_seq ?_ | refine st_blk ?_ | refine st_cond (by conv => lhs; simp) (by conv => lhs; simp [litV, litE, litOb, toDL, AV.toD, AV.norm, List.replicate, fillC, fillOb, AV.mkAgg, AV.allD, AV.cells, DV.cells]) ?_ ?_ ?_ | refine st_lexit ?_) | (intro h_; try simp only [reduceCtorEq, y1, y2, y3, y4, y5, y6, y7, y8, y9, z1, z2, z3, z4, z5, z6, z7, ne_eq] at h_))
          all_goals try (first | contradiction | exact True.intro | omega | rfl | (simp [AV.fits, AV.cells, AV.one, DV.fits, DV.cells, DV.one, DV.conf, confL, DV.conf1]; done) | (simp [AV.fits, AV.cells, AV.one, DV.fits, DV.cells, DV.one, DV.conf, confL, DV.conf1, *] <;> omega))
          refine st_e (st_call (by simp [solidOk]) (by conv => lhs; simp) (deletes37 (m - i) ⟨3, t⟩ (by omega)) (by exact ⟨.inl rfl, .inl rfl, trivial⟩) (pendOk_refl _) ?_)
          rw [← hops]
          repeat' (first | (with_reducible first | refine st_reg ?_ | refine sN (by conv => lhs; simp [litV, litE, litOb, toDL, AV.toD, AV.norm, List.replicate, fillC, fillOb, AV.mkAgg, AV.allD, AV.cells, DV.cells]) ?_ | refine rN ?_ ?_ | refine rO ?_ ?_ | refine rF ?_ ?_ | refine sG (by conv => lhs; simp [litV, litE, litOb, toDL, AV.toD, AV.norm, List.replicate, fillC, fillOb, AV.mkAgg, AV.allD, AV.cells, DV.cells]) ?_ | refine gF ?_ | refine gS rfl (by conv => lhs; simp [litV, litE, litOb, toDL, AV.toD, AV.norm, List.replicate, fillC, fillOb, AV.mkAgg, AV.allD, AV.cells, DV.cells]) ?_ ?_ | (refine st_gef0 ?_ ?_; focus (conv => (lhs; simp [litV, litE, litOb, toDL, AV.toD, AV.norm, List.replicate, fillC, fillOb, AV.mkAgg, AV.allD, AV.cells, DV.cells])); done) | refine sE (by conv => lhs; simp) ?_ | refine Nx.go ?_ | refine st_blke' (by decide) ?_ | refine st_seq ?_ | refine st_blk ?_ | refine st_cond (by conv => lhs; simp) (by conv => lhs; simp [litV, litE, litOb, toDL, AV.toD, AV.norm, List.replicate, fillC, fillOb, AV.mkAgg, AV.allD, AV.cells, DV.cells]) ?_ ?_ ?_ | refine st_lexit ?_) | (intro h_; try simp only [reduceCtorEq, y1, y2, y3, y4, y5, y6, y7, y8, y9, z1, z2, z3, z4, z5, z6, z7, ne_eq] at h_))
          all_goals try (first | contradiction | exact True.intro | omega | rfl | (simp [AV.fits, AV.cells, AV.one, DV.fits, DV.cells, DV.one, DV.conf, confL, DV.conf1]; done) | (simp [AV.fits, AV.cells, AV.one, DV.fits, DV.cells, DV.one, DV.conf, confL, DV.conf1, *] <;> omega))
          refine st_e (st_call (by simp [solidOk]) (by conv => lhs; simp) (put35 Lt ⟨2 * i, 2 * m, t, addW d p, ops⟩ (by omega)) (by exact ⟨.inl rfl, .inl rfl, trivial⟩) (pendOk_refl _) ?_)
          rw [← hs2]
          repeat' (first | (with_reducible first | refine st_reg ?_ | refine sN (by conv => lhs; simp [hwt]) ?_ | refine rN ?_ ?_ | refine rO ?_ ?_ | refine rF ?_ ?_ | refine sG (by conv => lhs; simp [hwt]) ?_ | refine gF ?_ | refine gS rfl (by conv => lhs; simp [hwt]) ?_ ?_ | (refine st_gef0 ?_ ?_; focus (conv => (lhs; simp [hwt])); done) | refine sE (by conv => lhs; simp) ?_ | refine Nx.go ?_ | refine st_blke' (by decide) ?_ | refine st_seq ?_ | refine st_blk ?_ | refine st_cond (by conv => lhs; simp) (by conv => lhs; simp [hwt]) ?_ ?_ ?_ | refine st_lexit ?_) | (intro h_; try simp only [reduceCtorEq, y1, y2, y3, y4, y5, y6, y7, y8, y9, z1, z2, z3, z4, z5, z6, z7, ne_eq] at h_))
          all_goals try (first | contradiction | exact True.intro | omega | rfl | (simp [AV.fits, AV.cells, AV.one, DV.fits, DV.cells, DV.one, DV.conf, confL, DV.conf1]; done) | (simp [AV.fits, AV.cells, AV.one, DV.fits, DV.cells, DV.one, DV.conf, confL, DV.conf1, *] <;> omega))
          refine st_lnormw (ys := [.d (dInp x), .ptr 0 0 0, .ptr 1 0 0, .d (.int .i64 n), .d (.vs ((iTs x i m Lm (t + 1)).map dArc)), .undef, .undef, .undef, .undef, .d (.int .i64 i), .d (.int .i64 m), .d (.int .i64 (t + 1 : Nat)), .undef, .undef, .undef, .undef, .undef, .undef, .undef, .undef, .undef, .undef, .undef, .undef, .undef, .undef]) (by simp [weak]) ⟨t + 1, by omega, rfl⟩ (by simp [St.int]; omega)
        · have hte : t = x.insert.length := by omega
          have htl2 : ¬ t < x.insert.length := by omega
          rw [← hte] at hst
          rw [← hst]
          repeat' (first | (with_reducible first | refine st_reg ?_ | refine sN (by conv => lhs; simp [hP0', htl2, hwm]) ?_ | refine rN ?_ ?_ | refine rO ?_ ?_ | refine rF ?_ ?_ | refine sG (by conv => lhs; simp [hP0', htl2, hwm]) ?_ | refine gF ?_ | refine gS rfl (by conv => lhs; simp [hP0', htl2, hwm]) ?_ ?_ | (refine st_gef0 ?_ ?_; focus (conv => (lhs; simp [hP0', htl2, hwm])); done) | refine sE (by conv => lhs; simp) ?_ | refine Nx.go ?_ | refine st_blke' (by decide) ?_ | refine st_seq ?_ | refine st_blk ?_ | refine st_cond (by conv => lhs; simp) (by conv => lhs; simp [hP0', htl2, hwm]) ?_ ?_ ?_ | refine st_lexit ?_) | (intro h_; try simp only [reduceCtorEq, y1, y2, y3, y4, y5, y6, y7, y8, y9, z1, z2, z3, z4, z5, z6, z7, ne_eq] at h_))
          all_goals try (first | contradiction | exact True.intro | omega | rfl | (simp [AV.fits, AV.cells, AV.one, DV.fits, DV.cells, DV.one, DV.conf, confL, DV.conf1]; done) | (simp [AV.fits, AV.cells, AV.one, DV.fits, DV.cells, DV.one, DV.conf, confL, DV.conf1, *] <;> omega))
          refine st_lnormw (ys := [.d (dInp x), .ptr 0 0 0, .ptr 1 0 0, .d (.int .i64 n), .d (.vs ((iMs x i (iIs x i) (k + 1)).map dArc)), .undef, .undef, .undef, .undef, .d (.int .i64 i), .d (.int .i64 (m + 1 : Nat)), .undef, .undef, .undef, .undef, .undef, .undef, .undef, .undef, .undef, .undef, .undef, .undef, .undef, .undef, .undef]) (by simp [weak]) ⟨k + 1, m + 1, by omega, by omega, rfl⟩ (by simp [St.int]; omega)
    case inl =>
      have hin2 : ¬ i ≤ n := by omega
      have hie : i = n + 1 := by omega
      have hA : iIs x i = refA x := by rw [hie, hn]; rfl
      rw [hA] at hLi ⊢
      obtain ⟨A, hAe⟩ : ∃ A, A = refA x := ⟨_, rfl⟩
      rw [← hAe] at hLi ⊢
      have w2n : IntKind.i64.wrap (2 * (n : Int)) = 2 * (n : Int) := wrap64 (by omega) (by omega)
      have w2n1 : IntKind.i64.wrap (2 * (n : Int) + 1) = ((2 * n + 1 : Nat) : Int) := by rw [wrap64 (by omega) (by omega)]; simp
      obtain ⟨N, hN⟩ : ∃ N, N = 2 * n + 1 := ⟨_, rfl⟩
      rw [← hN] at w2n1
      repeat' (first | (with_reducible first | refine st_reg ?_ | refine sN (by conv => lhs; simp [litV, litE, litOb, toDL, AV.toD, AV.norm, List.replicate, fillC, fillOb, AV.mkAgg, AV.allD, AV.cells, DV.cells, hin2, w2n, w2n1]) ?_ | refine rN ?_ ?_ | refine rO ?_ ?_ | refine rF ?_ ?_ | refine sG (by conv => lhs; simp [litV, litE, litOb, toDL, AV.toD, AV.norm, List.replicate, fillC, fillOb, AV.mkAgg, AV.allD, AV.cells, DV.cells, hin2, w2n, w2n1]) ?_ | refine gF ?_ | refine gS rfl (by conv => lhs; simp [litV, litE, litOb, toDL, AV.toD, AV.norm, List.replicate, fillC, fillOb, AV.mkAgg, AV.allD, AV.cells, DV.cells, hin2, w2n, w2n1]) ?_ ?_ | (refine st_gef0 ?_ ?_; focus (conv => (lhs; simp [litV, litE, litOb, toDL, AV.toD, AV.norm, List.replicate, fillC, fillOb, AV.mkAgg, AV.allD, AV.cells, DV.cells, hin2, w2n, w2n1])); done) | refine sE (by conv => lhs; simp) ?_ | refine Nx.go ?_ | refine st_blke' (by decide) ?_ | refine st_seq ?_ | refine st_blk ?_ | refine st_cond (by conv => lhs; simp) (by conv => lhs; simp [litV, litE, litOb, toDL, AV.toD, AV.norm, List.replicate, fillC, fillOb, AV.mkAgg, AV.allD, AV.cells, DV.cells, hin2, w2n, w2n1]) ?_ ?_ ?_ | refine st_lexit ?_) | (intro h_; try simp only [reduceCtorEq, y1, y2, y3, y4, y5, y6, y7, y8, y9, z1, z2, z3, z4, z5, z6, z7, ne_eq] at h_))
      all_goals try (first | contradiction | exact True.intro | omega | rfl | (simp [AV.fits, AV.cells, AV.one, DV.fits, DV.cells, DV.one, DV.conf, confL, DV.conf1]; done) | (simp [AV.fits, AV.cells, AV.one, DV.fits, DV.cells, DV.one, DV.conf, confL, DV.conf1, *] <;> omega))
      refine st_e (stA_store (v := .agg [.d (.int .i64 N), .d (.vs (A.map dArc)), .nils]) ⟨by simp, trivial⟩ (by conv => lhs; simp) (by simp) (arrOf_ob ob_new) (by simp) (by simp [AV.fits, AV.cells, AV.one, DV.fits, DV.cells, DV.one]) updA_whole (by simp [AV.fits, AV.cells, AV.one, DV.fits, DV.cells, DV.one]) (fun H1 hW => ⟨trivial, ?_⟩))
      have t2 := hW.self
      simp only [List.set_cons_zero, hPl] at t2
      have t0 := hW.ob' (j := 0) (by omega) (ob_old hP0)
      have t1 := hW.ob' (j := 1) (by omega) (ob_old hP1)
      have l1 : H1.length = 3 := by rw [hW.len]; simp [hPl]
      clear hW
      repeat' (first | (with_reducible first | refine st_reg ?_ | refine sN (by conv => lhs; simp [litV, litE, litOb, toDL, AV.toD, AV.norm, List.replicate, fillC, fillOb, AV.mkAgg, AV.allD, AV.cells, DV.cells, w2n, w2n1, l1, hPl]) ?_ | refine rN ?_ ?_ | refine rO ?_ ?_ | refine rF ?_ ?_ | refine sG (by conv => lhs; simp [litV, litE, litOb, toDL, AV.toD, AV.norm, List.replicate, fillC, fillOb, AV.mkAgg, AV.allD, AV.cells, DV.cells, w2n, w2n1, l1, hPl]) ?_ | refine gF ?_ | refine gS rfl (by conv => lhs; simp [litV, litE, litOb, toDL, AV.toD, AV.norm, List.replicate, fillC, fillOb, AV.mkAgg, AV.allD, AV.cells, DV.cells, w2n, w2n1, l1, hPl]) ?_ ?_ | (refine st_gef0 ?_ ?_; focus (conv => (lhs; simp [litV, litE, litOb, toDL, AV.toD, AV.norm, List.replicate, fillC, fillOb, AV.mkAgg, AV.allD, AV.cells, DV.cells, w2n, w2n1, l1, hPl])); done) | refine sE (by conv => lhs; simp) ?_ | refine Nx.go ?_ | refine st_blke' (by decide) ?_ | refine st_seq ?_ | refine st_blk ?_ | refine st_cond (by conv => lhs; simp) (by conv => lhs; simp [litV, litE, litOb, toDL, AV.toD, AV.norm, List.replicate, fillC, fillOb, AV.mkAgg, AV.allD, AV.cells, DV.cells, w2n, w2n1, l1, hPl]) ?_ ?_ ?_ | refine st_lexit ?_) | (intro h_; try simp only [reduceCtorEq, y1, y2, y3, y4, y5, y6, y7, y8, y9, z1, z2, z3, z4, z5, z6, z7, ne_eq] at h_))
      all_goals try (first | contradiction | exact True.intro | omega | rfl | (simp [AV.fits, AV.cells, AV.one, DV.fits, DV.cells, DV.one, DV.conf, confL, DV.conf1]; done) | (simp [AV.fits, AV.cells, AV.one, DV.fits, DV.cells, DV.one, DV.conf, confL, DV.conf1, *] <;> omega))
      refine wpC_loop (fun s => ∃ (k : Nat) (H : Heap), k ≤ N ∧ s = ⟨[.d (dInp x), .ptr 0 0 0, .ptr 1 0 0, .d (.int .i64 n), .undef, .undef, .undef, .undef, .undef, .undef, .undef, .undef, .ptr 2 0 0, .hs 3 0 N 1, .d (.int .i64 k), .undef, .undef, .undef, .undef, .undef, .undef, .undef, .undef, .undef, .undef, .undef], H⟩ ∧
          H.ob 0 = some (.arr 3 [.d (dInp x)]) ∧ H.ob 1 = some resO ∧ H.ob 2 = some (.arr 3 [.agg [.d (.int .i64 N), .d (.vs (A.map dArc)), .nils]]) ∧ H.ob 3 = some (.arr 1 (((fillG N k (finAt x (n + 1))).map dI).map .d)))
        (fun s => N - (s.int 14).toNat)
        (s' := ⟨[.d (dInp x), .ptr 0 0 0, .ptr 1 0 0, .d (.int .i64 n), .undef, .undef, .undef, .undef, .undef, .undef, .undef, .undef, .ptr 2 0 0, .hs 3 0 N 1, .d (.int .i64 (0 : Nat)), .undef, .undef, .undef, .undef, .undef, .undef, .undef, .undef, .undef, .undef, .undef], H1 ++ [some (.arr 1 (List.replicate N (.d (.int .i64 0))))]⟩)
        (Gh.weak (by simp [weak, hPl])) ⟨0, _, by omega, rfl, ob_old t0, ob_old t1, ob_old t2, ?_⟩ ?_
      · have := ob_new (H := H1) (o := .arr 1 (List.replicate N (AV.d (.int .i64 0))))
        rw [l1] at this
        rw [this, fillG_zero]; simp [dI]
      rintro _ ⟨k, H, hk, rfl, o0, o1, o2, o3⟩
      have hwk : IntKind.i64.wrap ((k : Int) + 1) = ((k + 1 : Nat) : Int) := by rw [wrap64 (by omega) (by omega)]; simp
      have o0' := o0
      simp only [dInp] at o0'
      rcases Nat.lt_or_ge k N with hkN | hkN
      · skip
        repeat' (first | (with_reducible first | refine st_reg ?_ | refine sN (by conv => lhs; simp [hkN]) ?_ | refine rN ?_ ?_ | refine rO ?_ ?_ | refine rF ?_ ?_ | refine sG (by conv => lhs; simp [hkN]) ?_ | refine gF ?_ | refine gS rfl (by conv => lhs; simp [hkN]) ?_ ?_ | (refine st_gef0 ?_ ?_; focus (conv => (lhs; simp [hkN])); done) | refine sE (by conv => lhs; simp) ?_ | refine Nx.go ?_ | refine st_blke' (by decide) ?_ | refine st_seq ?_ | refine st_blk ?_ | refine st_cond (by conv => lhs; simp) (by conv => lhs; simp [hkN]) ?_ ?_ ?_ | refine st_lexit ?_) | (intro h_; try simp only [reduceCtorEq, y1, y2, y3, y4, y5, y6, y7, y8, y9, z1, z2, z3, z4, z5, z6, z7, ne_eq] at h_))
        all_goals try (first | contradiction | exact True.intro | omega | rfl | (simp [AV.fits, AV.cells, AV.one, DV.fits, DV.cells, DV.one, DV.conf, confL, DV.conf1]; done) | (simp [AV.fits, AV.cells, AV.one, DV.fits, DV.cells, DV.one, DV.conf, confL, DV.conf1, *] <;> omega))
        refine st_e (stA_store (v := .d (.int .i64 1099511627776)) ⟨by simp, trivial⟩ (by conv => lhs; simp) (by simp) (arrOf_ob o3) ⟨by simp [fillG]; omega, by omega⟩ (by simp [AV.fits, DV.fits, DV.cells, DV.one]) updA_whole (by simp [AV.fits, DV.fits, DV.cells, DV.one]) (fun H2 hW => ⟨trivial, ?_⟩))
        have p3 := hW.self
        have p0 := hW.ob' (j := 0) (by omega) o0'
        have p1 := hW.ob' (j := 1) (by omega) o1
        have p2 := hW.ob' (j := 2) (by omega) o2
        clear hW
        have hfl : (fillG N k (finAt x (n + 1))).length = N := by simp [fillG]
        have hkn : k / 2 ≤ n := by omega
        by_cases hev : k % 2 = 0
        · have hrem : Int.tmod (k : Int) 2 = 0 := by rw [Int.tmod_eq_emod_of_nonneg (by omega)]; omega
          have hquo : IntKind.i64.wrap ((k : Int) / 2) = ((k / 2 : Nat) : Int) := by rw [wrap64 (by omega) (by omega)]; omega
          have hfin : finAt x (n + 1) k = delS x (k / 2) n := by rw [finAt, if_pos ⟨hev, by omega⟩, hn]
          obtain ⟨q, hq⟩ : ∃ q, q = k / 2 := ⟨_, rfl⟩
          rw [← hq] at hquo hfin hkn
          repeat' (first | (with_reducible first | refine st_reg ?_ | refine sN (by conv => lhs; simp [hrem, hquo, p0, hkN]) ?_ | refine rN ?_ ?_ | refine rO ?_ ?_ | refine rF ?_ ?_ | refine sG (by conv => lhs; simp [hrem, hquo, p0, hkN]) ?_ | refine gF ?_ | refine gS rfl (by conv => lhs; simp [hrem, hquo, p0, hkN]) ?_ ?_ | (refine st_gef0 ?_ ?_; focus (conv => (lhs; simp [hrem, hquo, p0, hkN])); done) | refine sE (by conv => lhs; simp) ?_ | refine Nx.go ?_ | refine st_blke' (by decide) ?_ | refine st_seq ?_ | refine st_blk ?_ | refine st_cond (by conv => lhs; simp) (by conv => lhs; simp [hrem, hquo, p0, hkN]) ?_ ?_ ?_ | refine st_lexit ?_) | (intro h_; try simp only [reduceCtorEq, y1, y2, y3, y4, y5, y6, y7, y8, y9, z1, z2, z3, z4, z5, z6, z7, ne_eq] at h_))
          all_goals try (first | contradiction | exact True.intro | omega | rfl | (simp [AV.fits, AV.cells, AV.one, DV.fits, DV.cells, DV.one, DV.conf, confL, DV.conf1]; done) | (simp [AV.fits, AV.cells, AV.one, DV.fits, DV.cells, DV.one, DV.conf, confL, DV.conf1, *] <;> omega))
          refine st_e (st_call (by simp [solidOk]) (by conv => lhs; simp) (Deletion34 x q n (by omega) (by omega) (by omega)) (by exact ⟨.inl rfl, .inl rfl, .inl rfl, trivial⟩) (pendOk_refl _) ?_)
          rw [← hfin]
          repeat' (first | (with_reducible first | refine st_reg ?_ | refine sN (by conv => lhs; simp [hkN]) ?_ | refine rN ?_ ?_ | refine rO ?_ ?_ | refine rF ?_ ?_ | refine sG (by conv => lhs; simp [hkN]) ?_ | refine gF ?_ | refine gS rfl (by conv => lhs; simp [hkN]) ?_ ?_ | (refine st_gef0 ?_ ?_; focus (conv => (lhs; simp [hkN])); done) | refine sE (by conv => lhs; simp) ?_ | refine Nx.go ?_ | refine st_blke' (by decide) ?_ | refine st_seq ?_ | refine st_blk ?_ | refine st_cond (by conv => lhs; simp) (by conv => lhs; simp [hkN]) ?_ ?_ ?_ | refine st_lexit ?_) | (intro h_; try simp only [reduceCtorEq, y1, y2, y3, y4, y5, y6, y7, y8, y9, z1, z2, z3, z4, z5, z6, z7, ne_eq] at h_))
          all_goals try (first | contradiction | exact True.intro | omega | rfl | (simp [AV.fits, AV.cells, AV.one, DV.fits, DV.cells, DV.one, DV.conf, confL, DV.conf1]; done) | (simp [AV.fits, AV.cells, AV.one, DV.fits, DV.cells, DV.one, DV.conf, confL, DV.conf1, *] <;> omega))
          refine st_e (stA_store (v := .d (.int .i64 (finAt x (n + 1) k))) ⟨by simp, trivial⟩ (by conv => lhs; simp) (by simp) (arrOf_ob p3) ⟨by simp [hfl]; omega, by omega⟩ (by simp [AV.fits, DV.fits, DV.cells, DV.one]) updA_whole (by simp [AV.fits, DV.fits, DV.cells, DV.one]) (fun H3 hW => ⟨trivial, ?_⟩))
          have r3 := hW.self
          repeat' (first | (with_reducible first | refine st_reg ?_ | refine sN (by conv => lhs; simp [hwk]) ?_ | refine rN ?_ ?_ | refine rO ?_ ?_ | refine rF ?_ ?_ | refine sG (by conv => lhs; simp [hwk]) ?_ | refine gF ?_ | refine gS rfl (by conv => lhs; simp [hwk]) ?_ ?_ | (refine st_gef0 ?_ ?_; focus (conv => (lhs; simp [hwk])); done) | refine sE (by conv => lhs; simp) ?_ | refine Nx.go ?_ | refine st_blke' (by decide) ?_ | refine st_seq ?_ | refine st_blk ?_ | refine st_cond (by conv => lhs; simp) (by conv => lhs; simp [hwk]) ?_ ?_ ?_ | refine st_lexit ?_) | (intro h_; try simp only [reduceCtorEq, y1, y2, y3, y4, y5, y6, y7, y8, y9, z1, z2, z3, z4, z5, z6, z7, ne_eq] at h_))
          all_goals try (first | contradiction | exact True.intro | omega | rfl | (simp [AV.fits, AV.cells, AV.one, DV.fits, DV.cells, DV.one, DV.conf, confL, DV.conf1]; done) | (simp [AV.fits, AV.cells, AV.one, DV.fits, DV.cells, DV.one, DV.conf, confL, DV.conf1, *] <;> omega))
          refine st_lnormw (ys := [.d (dInp x), .ptr 0 0 0, .ptr 1 0 0, .d (.int .i64 n), .undef, .undef, .undef, .undef, .undef, .undef, .undef, .undef, .ptr 2 0 0, .hs 3 0 N 1, .d (.int .i64 (k + 1 : Nat)), .undef, .undef, .undef, .undef, .undef, .undef, .undef, .undef, .undef, .undef, .undef]) (by simp [weak]) ⟨k + 1, H3, by omega, rfl, hW.ob' (by omega) p0, hW.ob' (by omega) p1, hW.ob' (by omega) p2, ?_⟩ (by simp [St.int]; omega)
          rw [r3, List.set_set, ← fillG_set, List.map_set, List.map_set]; rfl
        · have hrem : Int.tmod (k : Int) 2 = 1 := by rw [Int.tmod_eq_emod_of_nonneg (by omega)]; omega
          have hfin : finAt x (n + 1) k = 1099511627776 := by rw [finAt, if_neg (by omega)]
          repeat' (first | (with_reducible first | refine st_reg ?_ | refine sN (by conv => lhs; simp [hrem, hkN, hwk]) ?_ | refine rN ?_ ?_ | refine rO ?_ ?_ | refine rF ?_ ?_ | refine sG (by conv => lhs; simp [hrem, hkN, hwk]) ?_ | refine gF ?_ | refine gS rfl (by conv => lhs; simp [hrem, hkN, hwk]) ?_ ?_ | (refine st_gef0 ?_ ?_; focus (conv => (lhs; simp [hrem, hkN, hwk])); done) | refine sE (by conv => lhs; simp) ?_ | refine Nx.go ?_ | refine st_blke' (by decide) ?_ | refine st_seq ?_ | refine st_blk ?_ | refine st_cond (by conv => lhs; simp) (by conv => lhs; simp [hrem, hkN, hwk]) ?_ ?_ ?_ | refine st_lexit ?_) | (intro h_; try simp only [reduceCtorEq, y1, y2, y3, y4, y5, y6, y7, y8, y9, z1, z2, z3, z4, z5, z6, z7, ne_eq] at h_))
          all_goals try (first | contradiction | exact True.intro | omega | rfl | (simp [AV.fits, AV.cells, AV.one, DV.fits, DV.cells, DV.one, DV.conf, confL, DV.conf1]; done) | (simp [AV.fits, AV.cells, AV.one, DV.fits, DV.cells, DV.one, DV.conf, confL, DV.conf1, *] <;> omega))
          refine st_lnormw (ys := [.d (dInp x), .ptr 0 0 0, .ptr 1 0 0, .d (.int .i64 n), .undef, .undef, .undef, .undef, .undef, .undef, .undef, .undef, .ptr 2 0 0, .hs 3 0 N 1, .d (.int .i64 (k + 1 : Nat)), .undef, .undef, .undef, .undef, .undef, .undef, .undef, .undef, .undef, .undef, .undef]) (by simp [weak]) ⟨k + 1, H2, by omega, rfl, p0, p1, p2, ?_⟩ (by simp [St.int]; omega)
          rw [p3, ← fillG_set, List.map_set, List.map_set, hfin]; rfl
      · have hke : k = N := by omega
        have hfe : fillG N k (finAt x (n + 1)) = finTo x (n + 1) := by rw [hke, fillG_full, finTo, hN, hn]
        rw [hfe] at o3
        obtain ⟨FN, hFN⟩ : ∃ FN, FN = finTo x (n + 1) := ⟨_, rfl⟩
        rw [← hFN] at o3
        have hfl : FN.length = N := by rw [hFN, finTo_len]; omega
        have hkN2 : ¬ k < N := by omega
        repeat' (first | (with_reducible first | refine st_reg ?_ | refine sN (by conv => lhs; simp [hkN2]) ?_ | refine rN ?_ ?_ | refine rO ?_ ?_ | refine rF ?_ ?_ | refine sG (by conv => lhs; simp [hkN2]) ?_ | refine gF ?_ | refine gS rfl (by conv => lhs; simp [hkN2]) ?_ ?_ | (refine st_gef0 ?_ ?_; focus (conv => (lhs; simp [hkN2])); done) | refine sE (by conv => lhs; simp) ?_ | refine Nx.go ?_ | refine st_blke' (by decide) ?_ | refine st_seq ?_ | refine st_blk ?_ | refine st_cond (by conv => lhs; simp) (by conv => lhs; simp [hkN2]) ?_ ?_ ?_) | (intro h_; try simp only [reduceCtorEq, y1, y2, y3, y4, y5, y6, y7, y8, y9, z1, z2, z3, z4, z5, z6, z7, ne_eq] at h_))
        all_goals try (first | contradiction | exact True.intro | omega | rfl | (simp [AV.fits, AV.cells, AV.one, DV.fits, DV.cells, DV.one, DV.conf, confL, DV.conf1]; done) | (simp [AV.fits, AV.cells, AV.one, DV.fits, DV.cells, DV.one, DV.conf, confL, DV.conf1, *] <;> omega))
        refine ⟨_, Gh.freeze (i := 13) (ds := FN.map dI) rfl (arrOf_ob o3) (by simp [hfl]) (by rw [List.drop_zero, List.take_of_length_le (by simp [hfl]), toDL_map]), ?_⟩
        simp only [List.set_cons_succ, List.set_cons_zero]
        obtain ⟨H3, hH3⟩ : ∃ H3 : Heap, H3 = H.set 3 none := ⟨_, rfl⟩
        have q0 : H3.ob 0 = some (.arr 3 [.d (dInp x)]) := by rw [hH3, ob_set_ne (by omega), o0]
        have q1 : H3.ob 1 = some resO := by rw [hH3, ob_set_ne (by omega), o1]
        have q2 : H3.ob 2 = some (.arr 3 [.agg [.d (.int .i64 N), .d (.vs (A.map dArc)), .nils]]) := by rw [hH3, ob_set_ne (by omega), o2]
        rw [← hH3]
        repeat' (first | (with_reducible first | refine st_reg ?_ | refine sN (by conv => lhs; simp [q2]) ?_ | refine rN ?_ ?_ | refine rO ?_ ?_ | refine rF ?_ ?_ | refine sG (by conv => lhs; simp [q2]) ?_ | refine gF ?_ | refine gS rfl (by conv => lhs; simp [q2]) ?_ ?_ | (refine st_gef0 ?_ ?_; focus (conv => (lhs; simp [q2])); done) | refine sE (by conv => lhs; simp) ?_ | refine Nx.go ?_ | refine st_blke' (by decide) ?_ | refine st_seq ?_ | refine st_blk ?_ | refine st_cond (by conv => lhs; simp) (by conv => lhs; simp [q2]) ?_ ?_ ?_ | refine st_lexit ?_) | (intro h_; try simp only [reduceCtorEq, y1, y2, y3, y4, y5, y6, y7, y8, y9, z1, z2, z3, z4, z5, z6, z7, ne_eq] at h_))
        all_goals try (first | contradiction | exact True.intro | omega | rfl | (simp [AV.fits, AV.cells, AV.one, DV.fits, DV.cells, DV.one, DV.conf, confL, DV.conf1]; done) | (simp [AV.fits, AV.cells, AV.one, DV.fits, DV.cells, DV.one, DV.conf, confL, DV.conf1, *] <;> omega))
        refine st_e (stA_store (v := .d (.vs (FN.map dI))) (e' := .d (.agg [.int .i64 N, .vs (A.map dArc), .vs (FN.map dI)])) ⟨by simp, trivial⟩ (by conv => lhs; simp) (by simp) (arrOf_ob q2) (by simp) (by simp [AV.fits, DV.fits, DV.cells, DV.one]) (by rfl) (by simp [AV.fits, AV.cells, AV.one, DV.fits, DV.cells, DV.one]) (fun H4 hW => ⟨trivial, ?_⟩))
        have r2 := hW.self
        simp only [List.set_cons_zero] at r2
        have r1 := hW.ob' (j := 1) (by omega) q1
        clear hW
        repeat' (first | (with_reducible first | refine st_reg ?_ | refine sN (by conv => lhs; simp [r2]) ?_ | refine rN ?_ ?_ | refine rO ?_ ?_ | refine rF ?_ ?_ | refine sG (by conv => lhs; simp [r2]) ?_ | refine gF ?_ | refine gS rfl (by conv => lhs; simp [r2]) ?_ ?_ | (refine st_gef0 ?_ ?_; focus (conv => (lhs; simp [r2])); done) | refine sE (by conv => lhs; simp) ?_ | refine Nx.go ?_ | refine st_blke' (by decide) ?_ | refine st_seq ?_ | refine st_blk ?_ | refine st_cond (by conv => lhs; simp) (by conv => lhs; simp [r2]) ?_ ?_ ?_ | refine st_lexit ?_) | (intro h_; try simp only [reduceCtorEq, y1, y2, y3, y4, y5, y6, y7, y8, y9, z1, z2, z3, z4, z5, z6, z7, ne_eq] at h_))
        all_goals try (first | contradiction | exact True.intro | omega | rfl | (simp [AV.fits, AV.cells, AV.one, DV.fits, DV.cells, DV.one, DV.conf, confL, DV.conf1]; done) | (simp [AV.fits, AV.cells, AV.one, DV.fits, DV.cells, DV.one, DV.conf, confL, DV.conf1, *] <;> omega))
        refine st_e (stA_store (v := .d (.agg [.int .i64 N, .vs (A.map dArc), .vs (FN.map dI)])) ⟨by simp, trivial⟩ (by conv => lhs; simp) (by conv => lhs; simp) (arrOf_ob r1) (by simp) (by simp [AV.fits, DV.fits, DV.cells, DV.one]) updA_whole (by simp [AV.fits, AV.cells, AV.one, DV.fits, DV.cells, DV.one]) (fun H5 hW => ⟨trivial, ?_⟩))
        have z1 := hW.self
        simp only [List.set_cons_zero] at z1
        repeat' (first | (with_reducible first | refine st_reg ?_ | refine sN (by conv => lhs; simp) ?_ | refine rN ?_ ?_ | refine rO ?_ ?_ | refine rF ?_ ?_ | refine sG (by conv => lhs; simp) ?_ | refine gF ?_ | refine gS rfl (by conv => lhs; simp) ?_ ?_ | (refine st_gef0 ?_ ?_; focus (conv => (lhs; simp)); done) | refine sE (by conv => lhs; simp) ?_ | refine Nx.go ?_ | refine st_blke' (by decide) ?_ | refine st_seq ?_ | refine st_blk ?_ | refine st_cond (by conv => lhs; simp) (by conv => lhs; simp) ?_ ?_ ?_ | refine st_lexit ?_) | (intro h_; try simp only [reduceCtorEq, y1, y2, y3, y4, y5, y6, y7, y8, y9, z1, z2, z3, z4, z5, z6, z7, ne_eq] at h_))
        all_goals try (first | contradiction | exact True.intro | omega | rfl | (simp [AV.fits, AV.cells, AV.one, DV.fits, DV.cells, DV.one, DV.conf, confL, DV.conf1]; done) | (simp [AV.fits, AV.cells, AV.one, DV.fits, DV.cells, DV.one, DV.conf, confL, DV.conf1, *] <;> omega))
        have hend : .d (.agg [.int .i64 N, .vs (A.map dArc), .vs (FN.map dI)]) = AV.d (dLat (refL x)) := by rw [refL, dLat, hAe, hFN, hN, hn]
        refine atEnd_pure ?_ ?_ rfl
        · show ((RV.cell 2 3 true).ev _).ob ∧ True
          simp [RV.ev, loadV, z1, AV.strip, AV.sob, AV.cells, DV.cells]
        · show ((RV.cell 2 3 true).ev _).v = _
          rw [← hend]
          simp [RV.ev, loadV, z1, AV.strip, AV.sob, AV.cells, DV.cells]
end Go.Vm.L
