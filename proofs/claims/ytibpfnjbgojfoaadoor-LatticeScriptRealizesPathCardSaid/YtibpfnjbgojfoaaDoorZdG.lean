/- Lattice: the builder's small methods. -/
import Derived.Test.YtibpfnjbgojfoaaDoorZdF
import Derived.Test.YtibpfnjbgojfoaaDoorV7
set_option linter.all false
set_option maxHeartbeats 4000000
namespace Go.Vm.L
open Go Go.Vm

structure WF (x : Inp) : Prop where
  n : x.cols.length ≤ 60
  cols : ∀ c ∈ x.cols, -1 ≤ c.kind ∧ c.kind < x.insert.length ∧ c.read.length = x.insert.length ∧ 1 ≤ c.del ∧ c.del ≤ 1099511627776 ∧ ∀ p ∈ c.read, -1 ≤ p ∧ p ≤ 60000
  ins : ∀ p ∈ x.insert, 1 ≤ p ∧ p ≤ 60000
  swap : 0 ≤ x.swap ∧ x.swap ≤ 60000
  t : x.insert.length ≤ 1000

theorem addW_min {a b : Int} (ha : 0 ≤ a ∧ a ≤ 1099511627776) (hb : 0 ≤ b ∧ b ≤ 1099511627776) : addW a b = min (a + b) 1099511627776 := by
  unfold addW
  rw [wrap64 (by omega) (by omega)]
  split <;> omega
theorem delS_self (x : Inp) (i : Nat) : delS x i i = 0 := by simp [delS]
theorem delS_bd {x : Inp} (hx : WF x) {i : Nat} : ∀ {m : Nat}, i ≤ m → m ≤ x.cols.length → 0 ≤ delS x i m ∧ delS x i m ≤ 1099511627776 := by
  intro m him
  induction him with
  | refl => intro _; rw [delS_self]; omega
  | step h ih =>
    rename_i m
    intro hm
    have hml : m < x.cols.length := by omega
    have hd := hx.cols x.cols[m] (List.getElem_mem hml)
    have := ih (by omega)
    rw [delS_succ x h hml, addW_min this (by omega)]
    omega

@[simp] def bldV (x : Inp) (m : Nat) : AV := .agg [.d (.vs (x.cols.map dCol)), .d (.vs (x.insert.map dI)), .d (.int .i64 x.swap), .mp m]
def mapV (M : List (Key × Arc)) : List (DV × AV) := M.map fun p => (dKey p.1, .d (dArc p.2))
def bldO (x : Inp) (m : Nat) : Ob := .arr 4 [bldV x m]
def mapO (M : List (Key × Arc)) : Ob := .map (.many [.int .i64, .int .i64, .int .i64]) (mapV M)
def BH (x : Inp) (M : List (Key × Arc)) : Heap := [some (bldO x 1), some (mapO M)]
theorem undE_mapV (n : Nat) : ∀ M : List (Key × Arc), undE n (mapV M) = true
  | [] => rfl
  | (k, a) :: r => by
    have := undE_mapV n r
    simp only [mapV, List.map_cons, undE, AV.und, Bool.true_and]
    exact this
theorem bld_und (x : Inp) : (bldO x 1).und 2 = true := by simp [bldO, Ob.und, undL, AV.und]
theorem BH_und {x : Inp} {M : List (Key × Arc)} {H : Heap} (h0 : H.ob 0 = some (bldO x 1)) (h1 : H.ob 1 = some (mapO M)) : ∀ (i : Nat) (o : Ob), i < 2 → H[i]? = some (some o) → o.und 2 = true := by
  intro i o hi ho
  match i, hi with
  | 0, _ => rw [ob_get h0] at ho; cases ho; exact bld_und x
  | 1, _ => rw [ob_get h1] at ho; cases ho; exact undE_mapV 2 M
def delOps (n : Nat) : List Op := List.replicate n delOp

theorem swap50 (x : Inp) (M : List (Key × Arc)) (m : Nat) (hx : WF x) (hm' : m ≤ x.cols.length) :
    Fn prog 37 [.ptr 0 0 0, .d (.int .i64 m)] (BH x M) (fun r H' => r = .d (.bool (swapB x m)) ∧ H' = BH x M) := by
  have hn := hx.n
  refine fn_of e37 hm (by rfl) (vs := [.ptr 0 0 0, .d (.int .i64 m), .undef, .undef]) rfl ?_
  unfold c37 BH bldO
  have hw : IntKind.i64.wrap ((m : Int) + 1) = (m : Int) + 1 := wrap64 (by omega) (by omega)
  have fin : ∀ b : Bool, swapB x m = b → ∀ v3, AtEnd r37 (BH x M) (fun r H' => r = .d (.bool (swapB x m)) ∧ H' = BH x M) ⟨[.ptr 0 0 0, .d (.int .i64 m), .d (.bool b), v3], BH x M⟩ := by
    rintro b rfl v3
    exact atEnd_H 2 (Gh.refl _) ⟨trivial, trivial⟩ (Nat.le_refl _) (Nat.le_refl _) (BH_und rfl rfl) rfl ⟨rfl, rfl⟩
  by_cases h1 : m + 1 < x.cols.length
  · have h1' : (m : Int) + 1 < x.cols.length := by omega
    have h2 : m < x.cols.length := by omega
    repeat' (first | (with_reducible first | refine st_reg ?_ | refine sN (by conv => lhs; simp [dInp, dCol, getD_map_lt, *]) ?_ | refine rN ?_ ?_ | refine rO ?_ ?_ | refine rF ?_ ?_ | refine sG (by conv => lhs; simp [dInp, dCol, getD_map_lt, *]) ?_ | refine gF ?_ | refine gS rfl (by conv => lhs; simp [dInp, dCol, getD_map_lt, *]) ?_ ?_ | (refine st_gef0 ?_ ?_; focus (conv => (lhs; simp [dInp, dCol, getD_map_lt, *])); done) | refine sE (by conv => lhs; simp [dInp, dCol, getD_map_lt, *]) ?_ | refine Nx.go ?_ | refine st_blke' (by decide) ?_ | refine st_seq ?_ | refine st_blk ?_ | refine st_cond (by conv => lhs; simp [dInp, dCol, getD_map_lt, *]) (by conv => lhs; simp [dInp, dCol, getD_map_lt, *]) ?_ ?_ ?_ | refine st_lexit ?_) | (intro h_; try simp only [reduceCtorEq, y1, y2, y3, y4, y5, y6, y7, y8, y9, z1, z2, z3, z4, z5, z6, z7, ne_eq] at h_))
    all_goals try (first | contradiction | exact True.intro | omega | rfl | (simp [AV.fits, AV.cells, AV.one, DV.fits, DV.cells, DV.one, DV.conf, confL, DV.conf1]; done) | (simp [AV.fits, AV.cells, AV.one, DV.fits, DV.cells, DV.one, DV.conf, confL, DV.conf1, *] <;> omega))
    refine fin _ ?_ _
    simp [swapB, List.getElem?_eq_getElem h1, List.getElem?_eq_getElem h2, Bool.and_assoc]
  · have h1' : ¬ ((m : Int) + 1 < x.cols.length) := by omega
    repeat' (first | (with_reducible first | refine st_reg ?_ | refine sN (by conv => lhs; simp [dInp, dCol, *]) ?_ | refine rN ?_ ?_ | refine rO ?_ ?_ | refine rF ?_ ?_ | refine sG (by conv => lhs; simp [dInp, dCol, *]) ?_ | refine gF ?_ | refine gS rfl (by conv => lhs; simp [dInp, dCol, *]) ?_ ?_ | (refine st_gef0 ?_ ?_; focus (conv => (lhs; simp [dInp, dCol, *])); done) | refine sE (by conv => lhs; simp [dInp, dCol, *]) ?_ | refine Nx.go ?_ | refine st_blke' (by decide) ?_ | refine st_seq ?_ | refine st_blk ?_ | refine st_cond (by conv => lhs; simp [dInp, dCol, *]) (by conv => lhs; simp [dInp, dCol, *]) ?_ ?_ ?_ | refine st_lexit ?_) | (intro h_; try simp only [reduceCtorEq, y1, y2, y3, y4, y5, y6, y7, y8, y9, z1, z2, z3, z4, z5, z6, z7, ne_eq] at h_))
    all_goals try (first | contradiction | exact True.intro | omega | rfl | (simp [AV.fits, AV.cells, AV.one, DV.fits, DV.cells, DV.one, DV.conf, confL, DV.conf1]; done) | (simp [AV.fits, AV.cells, AV.one, DV.fits, DV.cells, DV.one, DV.conf, confL, DV.conf1, *] <;> omega))
    refine fin _ ?_ _
    have : x.cols[m + 1]? = none := List.getElem?_eq_none (by omega)
    cases hxm : x.cols[m]? <;> simp [swapB, this, hxm]

theorem deleted31 (x : Inp) (M : List (Key × Arc)) (i m : Nat) (hx : WF x) (him : i ≤ m) (hm' : m ≤ x.cols.length) :
    Fn prog 23 [.ptr 0 0 0, .d (.int .i64 i), .d (.int .i64 m)] (BH x M) (fun r H' => r = .tup [.d (.int .i64 (delS x i m)), .d (.vs ((delOps (m - i)).map dOp))] ∧ H' = BH x M) := by
  have hn := hx.n
  refine fn_of e23 hm (by rfl) (vs := [.ptr 0 0 0, .d (.int .i64 i), .d (.int .i64 m), .undef, .undef, .undef, .undef, .undef, .undef, .undef, .undef, .undef]) rfl ?_
  unfold c23 BH bldO
  have hcl : ∀ k, k < m - i → i + k < x.cols.length := by omega
  obtain ⟨sub, hsub⟩ : ∃ sub, sub = (x.cols.drop i).take (m - i) := ⟨_, rfl⟩
  have hsl : sub.length = m - i := by subst hsub; simp; omega
  have hget : ∀ k (h1 : k < sub.length) (h2 : i + k < x.cols.length), sub[k] = x.cols[i + k] := by subst hsub; simp
  repeat' (first | (with_reducible first | refine st_reg ?_ | refine sN (by conv => lhs; simp [dInp, dCol]) ?_ | refine rN ?_ ?_ | refine rO ?_ ?_ | refine rF ?_ ?_ | refine sG (by conv => lhs; simp [dInp, dCol]) ?_ | refine gF ?_ | refine gS rfl (by conv => lhs; simp [dInp, dCol]) ?_ ?_ | (refine st_gef0 ?_ ?_; focus (conv => (lhs; simp [dInp, dCol])); done) | refine sE (by conv => lhs; simp) ?_ | refine Nx.go ?_ | refine st_blke' (by decide) ?_ | refine st_seq ?_ | refine st_blk ?_ | refine st_cond (by conv => lhs; simp) (by conv => lhs; simp [dInp, dCol]) ?_ ?_ ?_ | refine st_lexit ?_) | (intro h_; try simp only [reduceCtorEq, y1, y2, y3, y4, y5, y6, y7, y8, y9, z1, z2, z3, z4, z5, z6, z7, ne_eq] at h_))
  all_goals try (first | contradiction | exact True.intro | omega | rfl | (simp [AV.fits, AV.cells, AV.one, DV.fits, DV.cells, DV.one, DV.conf, confL, DV.conf1]; done) | (simp [AV.fits, AV.cells, AV.one, DV.fits, DV.cells, DV.one, DV.conf, confL, DV.conf1, *] <;> omega))
  refine wpC_loop (fun s => ∃ (k id : Nat) (H : Heap) (v7 : AV), k ≤ m - i ∧ s = ⟨[.ptr 0 0 0, .d (.int .i64 i), .d (.int .i64 m), .undef, .undef, .d (.int .i64 (delS x i (i + k))), .hs id 0 k 2, v7, .d (.vs (sub.map dCol)), .d (.int .i64 (m - i : Nat)), .d (.int .i64 k), .undef], H⟩ ∧
      H.ob 0 = some (bldO x 1) ∧ H.ob 1 = some (mapO M) ∧ 2 ≤ id ∧ H.ob id = some (.arr 2 (((delOps k).map dOp).map .d)))
    (fun s => (m - i) - (s.int 10).toNat)
    (s' := ⟨[.ptr 0 0 0, .d (.int .i64 i), .d (.int .i64 m), .undef, .undef, .d (.int .i64 0), .hs 2 0 0 2, .undef, .d (.vs (sub.map dCol)), .d (.int .i64 (m - i : Nat)), .d (.int .i64 (0 : Nat)), .undef], BH x M ++ [some (.arr 2 [])]⟩)
    ((Gh.nils (i := 6) 2 (by rfl)).trans (Gh.weak ?_)) ⟨0, 2, BH x M ++ [some (.arr 2 [])], .undef, by omega, ?_, rfl, rfl, by omega, rfl⟩ ?_
  · simp [weak, hsub, List.map_take, List.map_drop]
    omega
  · rw [Nat.add_zero, delS_self]
  rintro _ ⟨k, id, H, v7, hk, rfl, h0, h1, hid, hid'⟩
  rcases Nat.lt_or_ge k (m - i) with hkm | hkm
  · have hk1 := hcl k hkm
    have hkl : k < sub.length := by omega
    have hge : sub[k] = x.cols[i + k] := hget k hkl hk1
    have hdel := hx.cols x.cols[i + k] (List.getElem_mem hk1)
    have hbd := delS_bd hx (i := i) (m := i + k) (by omega) (by omega)
    have hstep : IntKind.i64.wrap (delS x i (i + k) + x.cols[i + k].del) = delS x i (i + k) + x.cols[i + k].del := wrap64 (by omega) (by omega)
    have hnext : delS x i (i + (k + 1)) = min (delS x i (i + k) + x.cols[i + k].del) 1099511627776 := by
      rw [← Nat.add_assoc, delS_succ x (by omega) hk1, addW_min hbd (by omega)]
    repeat' (first | (with_reducible first | refine st_reg ?_ | refine sN (by conv => lhs; simp [getD_map_lt, hkl, hge, dCol]) ?_ | refine rN ?_ ?_ | refine rO ?_ ?_ | refine rF ?_ ?_ | refine sG (by conv => lhs; simp [getD_map_lt, hkl, hge, dCol]) ?_ | refine gF ?_ | refine gS rfl (by conv => lhs; simp [getD_map_lt, hkl, hge, dCol]) ?_ ?_ | (refine st_gef0 ?_ ?_; focus (conv => (lhs; simp [getD_map_lt, hkl, hge, dCol])); done) | refine sE (by conv => lhs; simp) ?_ | refine Nx.go ?_ | refine st_blke' (by decide) ?_ | refine st_seq ?_ | refine st_blk ?_ | refine st_cond (by conv => lhs; simp) (by conv => lhs; simp [getD_map_lt, hkl, hge, dCol]) ?_ ?_ ?_ | refine st_lexit ?_) | (intro h_; try simp only [reduceCtorEq, y1, y2, y3, y4, y5, y6, y7, y8, y9, z1, z2, z3, z4, z5, z6, z7, ne_eq] at h_))
    all_goals try (first | contradiction | exact True.intro | omega | rfl | (simp [AV.fits, AV.cells, AV.one, DV.fits, DV.cells, DV.one, DV.conf, confL, DV.conf1]; done) | (simp [AV.fits, AV.cells, AV.one, DV.fits, DV.cells, DV.one, DV.conf, confL, DV.conf1, *] <;> omega))
    refine st_e (stA_store ⟨by simp, trivial⟩ (by conv => lhs; simp [getD_map_lt, hkl, hge, dCol]) (by conv => lhs; simp [getD_map_lt, hkl, hge, dCol]) (arrOf_ob ob_new) (by simp) (by simp [AV.fits, DV.fits, DV.cells, DV.one]) rfl (by simp [updA, AV.fits, DV.fits, DV.cells, DV.one]) (fun H1 hW => ⟨trivial, ?_⟩))
    have hself := hW.self
    simp only [List.set_cons_zero, updA, if_true, and_self] at hself
    have hid1 : H1.ob id = some (.arr 2 (((delOps k).map dOp).map .d)) := hW.ob' (by have := ob_lt hid'; omega) (ob_old hid')
    have hl1 : H1.length = H.length + 1 := by rw [hW.len]; simp
    repeat' (first | (with_reducible first | refine st_reg ?_ | refine sN (by conv => lhs; simp [litV, litE, litOb, toDL, AV.toD, AV.norm, List.replicate, fillC, fillOb, AV.mkAgg, AV.allD, AV.cells, DV.cells, getD_map_lt, hself, hge, dCol, hstep]) ?_ | refine rN ?_ ?_ | refine rO ?_ ?_ | refine rF ?_ ?_ | refine sG (by conv => lhs; simp [litV, litE, litOb, toDL, AV.toD, AV.norm, List.replicate, fillC, fillOb, AV.mkAgg, AV.allD, AV.cells, DV.cells, getD_map_lt, hself, hge, dCol, hstep]) ?_ | refine gF ?_ | refine gS rfl (by conv => lhs; simp [litV, litE, litOb, toDL, AV.toD, AV.norm, List.replicate, fillC, fillOb, AV.mkAgg, AV.allD, AV.cells, DV.cells, getD_map_lt, hself, hge, dCol, hstep]) ?_ ?_ | (refine st_gef0 ?_ ?_; focus (conv => (lhs; simp [litV, litE, litOb, toDL, AV.toD, AV.norm, List.replicate, fillC, fillOb, AV.mkAgg, AV.allD, AV.cells, DV.cells, getD_map_lt, hself, hge, dCol, hstep])); done) | refine sE (by conv => lhs; simp) ?_ | refine Nx.go ?_ | refine st_blke' (by decide) ?_ | refine st_seq ?_ | refine st_blk ?_ | refine st_cond (by conv => lhs; simp) (by conv => lhs; simp [litV, litE, litOb, toDL, AV.toD, AV.norm, List.replicate, fillC, fillOb, AV.mkAgg, AV.allD, AV.cells, DV.cells, getD_map_lt, hself, hge, dCol, hstep]) ?_ ?_ ?_ | refine st_lexit ?_) | (intro h_; try simp only [reduceCtorEq, y1, y2, y3, y4, y5, y6, y7, y8, y9, z1, z2, z3, z4, z5, z6, z7, ne_eq] at h_))
    all_goals try (first | contradiction | exact True.intro | omega | rfl | (simp [AV.fits, AV.cells, AV.one, DV.fits, DV.cells, DV.one, DV.conf, confL, DV.conf1]; done) | (simp [AV.fits, AV.cells, AV.one, DV.fits, DV.cells, DV.one, DV.conf, confL, DV.conf1, *] <;> omega))
    refine st_e (stA_app (id := id) (off := 0) (len := k) (ds := [.agg [.int .i64 2, .int .i64 0]]) (by simp) (by conv => lhs; simp) (by conv => lhs; simp) (arrOf_ob hid1) (by simp [delOps]) (by simp [DV.fits, DV.cells, DV.one]) (by simp; omega) (fun H2 hM => ?_))
    have hw : IntKind.i64.wrap ((k : Int) + 1) = ((k + 1 : Nat) : Int) := by rw [wrap64 (by omega) (by omega)]; simp
    repeat' (first | (with_reducible first | refine st_reg ?_ | refine sN (by conv => lhs; simp [hw]) ?_ | refine rN ?_ ?_ | refine rO ?_ ?_ | refine rF ?_ ?_ | refine sG (by conv => lhs; simp [hw]) ?_ | refine gF ?_ | refine gS rfl (by conv => lhs; simp [hw]) ?_ ?_ | (refine st_gef0 ?_ ?_; focus (conv => (lhs; simp [hw])); done) | refine sE (by conv => lhs; simp) ?_ | refine Nx.go ?_ | refine st_blke' (by decide) ?_ | refine st_seq ?_ | refine st_blk ?_ | refine st_cond (by conv => lhs; simp) (by conv => lhs; simp [hw]) ?_ ?_ ?_ | refine st_lexit ?_) | (intro h_; try simp only [reduceCtorEq, y1, y2, y3, y4, y5, y6, y7, y8, y9, z1, z2, z3, z4, z5, z6, z7, ne_eq] at h_))
    all_goals try (first | contradiction | exact True.intro | omega | rfl | (simp [AV.fits, AV.cells, AV.one, DV.fits, DV.cells, DV.one, DV.conf, confL, DV.conf1]; done) | (simp [AV.fits, AV.cells, AV.one, DV.fits, DV.cells, DV.one, DV.conf, confL, DV.conf1, *] <;> omega))
    refine st_lnormw (ys := [.ptr 0 0 0, .d (.int .i64 i), .d (.int .i64 m), .undef, .undef, .d (.int .i64 (delS x i (i + (k + 1)))), .hs H1.length 0 (k + 1) 2, .ptr H.length 0 0, .d (.vs (sub.map dCol)), .d (.int .i64 (m - i : Nat)), .d (.int .i64 (k + 1 : Nat)), .undef]) ?_
      ⟨k + 1, H1.length, H2, _, by omega, rfl, hM.ob' (by omega) (hW.ob' (by have := ob_lt h0; omega) (ob_old h0)), hM.ob' (by omega) (hW.ob' (by have := ob_lt h1; omega) (ob_old h1)), by have := ob_lt h1; omega, ?_⟩ ?_
    · simp [weak, hnext]
      try (split <;> omega)
    · rw [hM.self]; simp [delOps, List.replicate_succ', delOp]
    · simp [St.int]; omega
  · have hkm' : k = m - i := by omega
    have him' : i + k = m := by omega
    repeat' (first | (with_reducible first | refine st_reg ?_ | refine sN (by conv => lhs; simp [dCol]) ?_ | refine rN ?_ ?_ | refine rO ?_ ?_ | refine rF ?_ ?_ | refine sG (by conv => lhs; simp [dCol]) ?_ | refine gF ?_ | refine gS rfl (by conv => lhs; simp [dCol]) ?_ ?_ | (refine st_gef0 ?_ ?_; focus (conv => (lhs; simp [dCol])); done) | refine sE (by conv => lhs; simp) ?_ | refine Nx.go ?_ | refine st_blke' (by decide) ?_ | refine st_seq ?_ | refine st_blk ?_ | refine st_cond (by conv => lhs; simp) (by conv => lhs; simp [dCol]) ?_ ?_ ?_ | refine st_lexit ?_) | (intro h_; try simp only [reduceCtorEq, y1, y2, y3, y4, y5, y6, y7, y8, y9, z1, z2, z3, z4, z5, z6, z7, ne_eq] at h_))
    all_goals try (first | contradiction | exact True.intro | omega | rfl | (simp [AV.fits, AV.cells, AV.one, DV.fits, DV.cells, DV.one, DV.conf, confL, DV.conf1]; done) | (simp [AV.fits, AV.cells, AV.one, DV.fits, DV.cells, DV.one, DV.conf, confL, DV.conf1, *] <;> omega))
    refine atEnd_Hr 2 (Gh.freeze (i := 4) (id := id) (off := 0) (len := k) (sz := 2) (ds := (delOps k).map dOp) rfl (arrOf_ob hid') (by simp [delOps]) ?_) ?_ (Nat.le_refl _) (by have := ob_lt h1; simp; omega) ?_ ?_ ⟨?_, ?_⟩
    · rw [List.drop_zero, List.take_of_length_le (by simp [delOps]), toDL_map]
    · exact ⟨trivial, trivial, trivial⟩
    · exact BH_und (x := x) (M := M) (by rw [ob_set_ne (by omega), h0]) (by rw [ob_set_ne (by omega), h1])
    · rfl
    · show AV.tup [.d (.int .i64 (delS x i (i + k))), .d (.vs ((delOps k).map dOp))] = _
      rw [him', hkm']
    · exact take2 (by rw [ob_set_ne (by omega)]; exact h0) (by rw [ob_set_ne (by omega)]; exact h1)
end Go.Vm.L
