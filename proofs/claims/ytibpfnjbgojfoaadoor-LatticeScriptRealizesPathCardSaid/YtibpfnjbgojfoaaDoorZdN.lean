/- Lattice: Distance. -/
import Derived.Test.YtibpfnjbgojfoaaDoorZdM
set_option linter.all false
set_option maxHeartbeats 8000000
namespace Go.Vm.L
open Go Go.Vm

/-- A lattice whose arcs lie within. -/
structure WL (l : Lat) : Prop where
  n1 : 1 ≤ l.final.length
  n2 : l.final.length < 1000
  st : l.states = l.final.length
  fin : ∀ f ∈ l.final, 0 ≤ f ∧ f ≤ 1099511627776
  an : l.arcs.length < 100000
  arc : ∀ a ∈ l.arcs, 0 ≤ a.frm ∧ a.frm < l.final.length ∧ 0 ≤ a.to ∧ a.to < l.final.length ∧ 0 ≤ a.cost ∧ a.cost < 1099511627776

def stepArc (t : Int) (cur nx : List Int) (a : Arc) : List Int := if a.term = t then nx.set a.to.toNat (min (nx.getD a.to.toNat 0) (cur.getD a.frm.toNat 0 + a.cost)) else nx
def stepTok (l : Lat) (cur : List Int) (t : Int) : List Int := l.arcs.foldl (stepArc t cur) (List.replicate l.final.length 1099511627776)
def at0 (l : Lat) : List Int := (List.replicate l.final.length 1099511627776).set 0 0
def atL (l : Lat) (y : List Int) : List Int := y.foldl (stepTok l) (at0 l)
def bestTo (l : Lat) (c : List Int) (k : Nat) : Int := (List.range k).foldl (fun b s => min b (c.getD s 0 + l.final.getD s 0)) 1099511627776
def distL (l : Lat) (y : List Int) : Int := bestTo l (atL l y) l.final.length

def Bd (l : Lat) (c : List Int) : Prop := c.length = l.final.length ∧ ∀ v ∈ c, 0 ≤ v ∧ v ≤ 1099511627776
theorem Bd.get {l : Lat} {c : List Int} (h : Bd l c) {i : Nat} (hi : i < l.final.length) : 0 ≤ c.getD i 0 ∧ c.getD i 0 ≤ 1099511627776 := by
  have hl : i < c.length := by rw [h.1]; exact hi
  have : c.getD i 0 = c[i] := by simp [List.getD_eq_getElem?_getD, hl]
  rw [this]; exact h.2 _ (List.getElem_mem hl)
theorem Bd.step {l : Lat} {cur nx : List Int} (hl : WL l) (hc : Bd l cur) (hn : Bd l nx) (t : Int) {a : Arc} (ha : a ∈ l.arcs) : Bd l (stepArc t cur nx a) := by
  obtain ⟨h1, h2, h3, h4, h5, h6⟩ := hl.arc a ha
  unfold stepArc
  split
  · refine ⟨by simp [hn.1], fun v hv => ?_⟩
    rcases List.mem_or_eq_of_mem_set hv with hv | rfl
    · exact hn.2 v hv
    · have b1 := hn.get (i := a.to.toNat) (by omega)
      have b2 := hc.get (i := a.frm.toNat) (by omega)
      omega
  · exact hn
theorem Bd.arcs {l : Lat} {cur : List Int} (hl : WL l) (hc : Bd l cur) (t : Int) : ∀ (L : List Arc) (nx : List Int), (∀ a ∈ L, a ∈ l.arcs) → Bd l nx → Bd l (L.foldl (stepArc t cur) nx)
  | [], nx, _, h => h
  | a :: r, nx, hs, h => Bd.arcs hl hc t r _ (fun b hb => hs b (by simp [hb])) (Bd.step hl hc h t (hs a (by simp)))
theorem Bd.rep (l : Lat) : Bd l (List.replicate l.final.length 1099511627776) := ⟨by simp, fun v hv => by simp at hv; omega⟩
theorem Bd.at0 (l : Lat) : Bd l (at0 l) := by
  refine ⟨by simp [Go.Vm.L.at0], fun v hv => ?_⟩
  rcases List.mem_or_eq_of_mem_set hv with hv | rfl
  · exact (Bd.rep l).2 v hv
  · omega
theorem Bd.toks {l : Lat} (hl : WL l) : ∀ (y : List Int) (c : List Int), Bd l c → Bd l (y.foldl (stepTok l) c)
  | [], c, h => h
  | t :: r, c, h => Bd.toks hl r _ (Bd.arcs hl h t l.arcs _ (fun _ h => h) (Bd.rep l))

theorem getI {xs : List Int} {i : Nat} (h : i < xs.length) : ((xs.map dI).map AV.d)[i]? = some (.d (.int .i64 (xs.getD i 0))) := by
  simp [List.getD_eq_getElem?_getD, h, dI]
theorem Distance18 (l : Lat) (y : List Int) (hl : WL l) (hy : y.length < 1000) : Pure prog 16 [.d (dLat l), .d (.vs (y.map dI))] (.d (.int .i64 (distL l y))) := by
  have hn1 := hl.n1
  have hn2 := hl.n2
  have han := hl.an
  obtain ⟨N, hN⟩ : ∃ N, N = l.final.length := ⟨_, rfl⟩
  have hst : l.states = (N : Int) := by rw [hN]; exact hl.st
  refine fn_of e16 hm (by rfl) (vs := [.d (dLat l), .d (.vs (y.map dI)), .undef, .undef, .undef, .undef, .undef, .undef, .undef, .undef, .undef, .undef, .undef, .undef, .undef, .undef, .undef, .undef, .undef, .undef, .undef, .undef, .undef, .undef]) rfl ?_
  unfold c16
  repeat' (first | (with_reducible first | refine st_reg ?_ | refine sN (by conv => lhs; simp [litV, litE, litOb, toDL, AV.toD, AV.norm, List.replicate, fillC, fillOb, AV.mkAgg, AV.allD, AV.cells, DV.cells, dLat, hst]) ?_ | refine rN ?_ ?_ | refine rO ?_ ?_ | refine rF ?_ ?_ | refine sG (by conv => lhs; simp [litV, litE, litOb, toDL, AV.toD, AV.norm, List.replicate, fillC, fillOb, AV.mkAgg, AV.allD, AV.cells, DV.cells, dLat, hst]) ?_ | refine gF ?_ | refine gS rfl (by conv => lhs; simp [litV, litE, litOb, toDL, AV.toD, AV.norm, List.replicate, fillC, fillOb, AV.mkAgg, AV.allD, AV.cells, DV.cells, dLat, hst]) ?_ ?_ | (refine st_gef0 ?_ ?_; focus (conv => (lhs; simp [litV, litE, litOb, toDL, AV.toD, AV.norm, List.replicate, fillC, fillOb, AV.mkAgg, AV.allD, AV.cells, DV.cells, dLat, hst])); done) | refine sE (by conv => lhs; simp) ?_ | refine Nx.go ?_ | refine st_blke' (by decide) ?_ | refine st_seq ?_ | refine st_blk ?_ | refine st_cond (by conv => lhs; simp) (by conv => lhs; simp [litV, litE, litOb, toDL, AV.toD, AV.norm, List.replicate, fillC, fillOb, AV.mkAgg, AV.allD, AV.cells, DV.cells, dLat, hst]) ?_ ?_ ?_ | refine st_lexit ?_) | (intro h_; try simp only [reduceCtorEq, y1, y2, y3, y4, y5, y6, y7, y8, y9, z1, z2, z3, z4, z5, z6, z7, ne_eq] at h_))
  all_goals try (first | contradiction | exact True.intro | omega | rfl | (simp [AV.fits, AV.cells, AV.one, DV.fits, DV.cells, DV.one, DV.conf, confL, DV.conf1]; done) | (simp [AV.fits, AV.cells, AV.one, DV.fits, DV.cells, DV.one, DV.conf, confL, DV.conf1, *] <;> omega))
  refine st_e (stA_call [] ⟨by simp, trivial⟩ (by conv => lhs; simp) (Repeat29 1099511627776 N (by omega) (by omega)) (by simp [argsM, AV.ren, dI]) trivial List.nodup_nil (fun r Hc' H1 hr hH => ⟨trivial, ?_⟩))
  obtain ⟨id0, rfl, rfl, rfl⟩ := hr
  have hnew := clone_new (id := 0) (sz := 1) (ds := (List.replicate N 1099511627776).map dI) hH (by simp [Heap.ob])
  simp only [List.length_cons, List.length_nil, Nat.zero_add, Nat.add_zero] at hnew
  have a0 := hH.ob' (j := 0) (by simp) rfl
  have hl1 : H1.length = 2 := by rw [hH.len]; simp
  clear hH
  have h0N : 0 < N := by omega
  repeat' (first | (with_reducible first | refine st_reg ?_ | refine sN (by conv => lhs; simp [litV, litE, litOb, toDL, AV.toD, AV.norm, List.replicate, fillC, fillOb, AV.mkAgg, AV.allD, AV.cells, DV.cells, AV.ren, renOf, hl1, h0N]) ?_ | refine rN ?_ ?_ | refine rO ?_ ?_ | refine rF ?_ ?_ | refine sG (by conv => lhs; simp [litV, litE, litOb, toDL, AV.toD, AV.norm, List.replicate, fillC, fillOb, AV.mkAgg, AV.allD, AV.cells, DV.cells, AV.ren, renOf, hl1, h0N]) ?_ | refine gF ?_ | refine gS rfl (by conv => lhs; simp [litV, litE, litOb, toDL, AV.toD, AV.norm, List.replicate, fillC, fillOb, AV.mkAgg, AV.allD, AV.cells, DV.cells, AV.ren, renOf, hl1, h0N]) ?_ ?_ | (refine st_gef0 ?_ ?_; focus (conv => (lhs; simp [litV, litE, litOb, toDL, AV.toD, AV.norm, List.replicate, fillC, fillOb, AV.mkAgg, AV.allD, AV.cells, DV.cells, AV.ren, renOf, hl1, h0N])); done) | refine sE (by conv => lhs; simp) ?_ | refine Nx.go ?_ | refine st_blke' (by decide) ?_ | refine st_seq ?_ | refine st_blk ?_ | refine st_cond (by conv => lhs; simp) (by conv => lhs; simp [litV, litE, litOb, toDL, AV.toD, AV.norm, List.replicate, fillC, fillOb, AV.mkAgg, AV.allD, AV.cells, DV.cells, AV.ren, renOf, hl1, h0N]) ?_ ?_ ?_ | refine st_lexit ?_) | (intro h_; try simp only [reduceCtorEq, y1, y2, y3, y4, y5, y6, y7, y8, y9, z1, z2, z3, z4, z5, z6, z7, ne_eq] at h_))
  all_goals try (first | contradiction | exact True.intro | omega | rfl | (simp [AV.fits, AV.cells, AV.one, DV.fits, DV.cells, DV.one, DV.conf, confL, DV.conf1]; done) | (simp [AV.fits, AV.cells, AV.one, DV.fits, DV.cells, DV.one, DV.conf, confL, DV.conf1, *] <;> omega))
  refine st_e (stA_store ⟨by simp, trivial⟩ (by conv => lhs; simp) (by conv => lhs; simp) (arrOf_ob hnew) (by simp; omega) (by simp [AV.fits, DV.fits, DV.cells, DV.one]) updA_whole (by simp [AV.fits, DV.fits, DV.cells, DV.one]) (fun H2 hW => ⟨trivial, ?_⟩))
  have b1 := hW.self
  have b0 := hW.ob' (j := 0) (by omega) a0
  rw [← hst] at b0
  repeat' (first | (with_reducible first | refine st_reg ?_ | refine sN (by conv => lhs; simp) ?_ | refine rN ?_ ?_ | refine rO ?_ ?_ | refine rF ?_ ?_ | refine sG (by conv => lhs; simp) ?_ | refine gF ?_ | refine gS rfl (by conv => lhs; simp) ?_ ?_ | (refine st_gef0 ?_ ?_; focus (conv => (lhs; simp)); done) | refine sE (by conv => lhs; simp) ?_ | refine Nx.go ?_ | refine st_blke' (by decide) ?_ | refine st_seq ?_ | refine st_blk ?_ | refine st_cond (by conv => lhs; simp) (by conv => lhs; simp) ?_ ?_ ?_ | refine st_lexit ?_) | (intro h_; try simp only [reduceCtorEq, y1, y2, y3, y4, y5, y6, y7, y8, y9, z1, z2, z3, z4, z5, z6, z7, ne_eq] at h_))
  all_goals try (first | contradiction | exact True.intro | omega | rfl | (simp [AV.fits, AV.cells, AV.one, DV.fits, DV.cells, DV.one, DV.conf, confL, DV.conf1]; done) | (simp [AV.fits, AV.cells, AV.one, DV.fits, DV.cells, DV.one, DV.conf, confL, DV.conf1, *] <;> omega))
  refine wpC_loop (fun s => ∃ (k ida : Nat) (H : Heap) (v5 v6 v7 v15 v16 v17 : AV), k ≤ y.length ∧ s = ⟨[.d (dLat l), .d (.vs (y.map dI)), .ptr 0 0 0, .d (.int .i64 0), .hs ida 0 N 1, v5, v6, v7, .undef, .undef, .undef, .d (.vs (y.map dI)), .d (.int .i64 y.length), .d (.int .i64 k), .undef, v15, v16, v17, .undef, .undef, .undef, .undef, .undef, .undef], H⟩ ∧
      H.ob 0 = some (.arr 3 [.d (dLat l)]) ∧ ida ≠ 0 ∧ H.ob ida = some (.arr 1 (((atL l (y.take k)).map dI).map .d)))
    (fun s => y.length - (s.int 13).toNat)
    (s' := ⟨[.d (dLat l), .d (.vs (y.map dI)), .ptr 0 0 0, .d (.int .i64 0), .hs 1 0 N 1, .undef, .undef, .undef, .undef, .undef, .undef, .d (.vs (y.map dI)), .d (.int .i64 y.length), .d (.int .i64 (0 : Nat)), .undef, .undef, .undef, .undef, .undef, .undef, .undef, .undef, .undef, .undef], H2⟩)
    (Gh.weak (by simp [weak, hst])) ⟨0, 1, H2, _, _, _, _, _, _, by omega, rfl, b0, by omega, ?_⟩ ?_
  · rw [b1, List.take_zero, atL, List.foldl_nil, at0, List.map_set, List.map_set, ← hN]; rfl
  clear b1 b0 hW H2 hl1 a0 hnew H1
  rintro _ ⟨k, ida, H, v5, v6, v7, v15, v16, v17, hk, rfl, h0, hid, ha⟩
  have hw : IntKind.i64.wrap ((k : Int) + 1) = ((k + 1 : Nat) : Int) := by rw [wrap64 (by omega) (by omega)]; simp
  obtain ⟨cur, hcur⟩ : ∃ cur, cur = atL l (y.take k) := ⟨_, rfl⟩
  have hcB : Bd l cur := by rw [hcur]; exact Bd.toks hl _ _ (Bd.at0 l)
  rw [← hcur] at ha
  have h0' := h0
  simp only [dLat] at h0'
  rcases Nat.lt_or_ge k y.length with hlt | hlt
  · have hnext : atL l (y.take (k + 1)) = stepTok l cur y[k] := by
      rw [List.take_add_one, List.getElem?_eq_getElem hlt, atL, List.foldl_append, hcur]; rfl
    obtain ⟨t, ht⟩ : ∃ t, t = y[k] := ⟨_, rfl⟩
    rw [← ht] at hnext
    repeat' (first | (with_reducible first | refine st_reg ?_ | refine sN (by conv => lhs; simp [litV, litE, litOb, toDL, AV.toD, AV.norm, List.replicate, fillC, fillOb, AV.mkAgg, AV.allD, AV.cells, DV.cells, getD_map_lt, hlt, dI, ← ht, h0', hst]) ?_ | refine rN ?_ ?_ | refine rO ?_ ?_ | refine rF ?_ ?_ | refine sG (by conv => lhs; simp [litV, litE, litOb, toDL, AV.toD, AV.norm, List.replicate, fillC, fillOb, AV.mkAgg, AV.allD, AV.cells, DV.cells, getD_map_lt, hlt, dI, ← ht, h0', hst]) ?_ | refine gF ?_ | refine gS rfl (by conv => lhs; simp [litV, litE, litOb, toDL, AV.toD, AV.norm, List.replicate, fillC, fillOb, AV.mkAgg, AV.allD, AV.cells, DV.cells, getD_map_lt, hlt, dI, ← ht, h0', hst]) ?_ ?_ | (refine st_gef0 ?_ ?_; focus (conv => (lhs; simp [litV, litE, litOb, toDL, AV.toD, AV.norm, List.replicate, fillC, fillOb, AV.mkAgg, AV.allD, AV.cells, DV.cells, getD_map_lt, hlt, dI, ← ht, h0', hst])); done) | refine sE (by conv => lhs; simp) ?_ | refine Nx.go ?_ | refine st_blke' (by decide) ?_ | refine st_seq ?_ | refine st_blk ?_ | refine st_cond (by conv => lhs; simp) (by conv => lhs; simp [litV, litE, litOb, toDL, AV.toD, AV.norm, List.replicate, fillC, fillOb, AV.mkAgg, AV.allD, AV.cells, DV.cells, getD_map_lt, hlt, dI, ← ht, h0', hst]) ?_ ?_ ?_ | refine st_lexit ?_) | (intro h_; try simp only [reduceCtorEq, y1, y2, y3, y4, y5, y6, y7, y8, y9, z1, z2, z3, z4, z5, z6, z7, ne_eq] at h_))
    all_goals try (first | contradiction | exact True.intro | omega | rfl | (simp [AV.fits, AV.cells, AV.one, DV.fits, DV.cells, DV.one, DV.conf, confL, DV.conf1]; done) | (simp [AV.fits, AV.cells, AV.one, DV.fits, DV.cells, DV.one, DV.conf, confL, DV.conf1, *] <;> omega))
    refine st_e (stA_call [] ⟨by simp, trivial⟩ (by conv => lhs; simp) (Repeat29 1099511627776 N (by omega) (by omega)) (by simp [argsM, AV.ren, dI]) trivial List.nodup_nil (fun r Hc' H1 hr hH => ⟨trivial, ?_⟩))
    obtain ⟨id0, rfl, rfl, rfl⟩ := hr
    have hnew := clone_new (id := 0) (sz := 1) (ds := (List.replicate N 1099511627776).map dI) hH (by simp [Heap.ob])
    simp only [Nat.add_zero] at hnew
    have c0 := hH.ob' (j := 0) (by simp) h0
    have ca := hH.ob' (j := ida) (by simp) ha
    have lH := ob_lt ha
    have l0 := ob_lt h0
    have hl1 : H1.length = H.length + 1 := by rw [hH.len]; simp
    have hren : (AV.hs 0 0 N 1).ren (renOf [] H.length) = .hs H.length 0 N 1 := by simp [AV.ren, renOf]
    rw [hren]
    clear hH
    have c0' := c0
    simp only [dLat] at c0'
    repeat' (first | (with_reducible first | refine st_reg ?_ | refine sN (by conv => lhs; simp [c0', hst]) ?_ | refine rN ?_ ?_ | refine rO ?_ ?_ | refine rF ?_ ?_ | refine sG (by conv => lhs; simp [c0', hst]) ?_ | refine gF ?_ | refine gS rfl (by conv => lhs; simp [c0', hst]) ?_ ?_ | (refine st_gef0 ?_ ?_; focus (conv => (lhs; simp [c0', hst])); done) | refine sE (by conv => lhs; simp) ?_ | refine Nx.go ?_ | refine st_blke' (by decide) ?_ | refine st_seq ?_ | refine st_blk ?_ | refine st_cond (by conv => lhs; simp) (by conv => lhs; simp [c0', hst]) ?_ ?_ ?_ | refine st_lexit ?_) | (intro h_; try simp only [reduceCtorEq, y1, y2, y3, y4, y5, y6, y7, y8, y9, z1, z2, z3, z4, z5, z6, z7, ne_eq] at h_))
    all_goals try (first | contradiction | exact True.intro | omega | rfl | (simp [AV.fits, AV.cells, AV.one, DV.fits, DV.cells, DV.one, DV.conf, confL, DV.conf1]; done) | (simp [AV.fits, AV.cells, AV.one, DV.fits, DV.cells, DV.one, DV.conf, confL, DV.conf1, *] <;> omega))
    refine wpC_loop (fun s => ∃ (j : Nat) (H' : Heap) (v7 : AV), j ≤ l.arcs.length ∧ s = ⟨[.d (dLat l), .d (.vs (y.map dI)), .ptr 0 0 0, .d (.int .i64 0), .hs ida 0 N 1, .d (.int .i64 t), .hs H.length 0 N 1, v7, .undef, .undef, .undef, .d (.vs (y.map dI)), .d (.int .i64 y.length), .d (.int .i64 k), .undef, .d (.vs (l.arcs.map dArc)), .d (.int .i64 l.arcs.length), .d (.int .i64 j), .undef, .undef, .undef, .undef, .undef, .undef], H'⟩ ∧
        H'.ob 0 = some (.arr 3 [.d (dLat l)]) ∧ H.length < H'.length ∧ H'.ob ida = some (.arr 1 ((cur.map dI).map .d)) ∧ H'.ob H.length = some (.arr 1 ((((l.arcs.take j).foldl (stepArc t cur) (List.replicate l.final.length 1099511627776)).map dI).map .d)))
      (fun s => l.arcs.length - (s.int 17).toNat)
      (s' := ⟨[.d (dLat l), .d (.vs (y.map dI)), .ptr 0 0 0, .d (.int .i64 0), .hs ida 0 N 1, .d (.int .i64 t), .hs H.length 0 N 1, v7, .undef, .undef, .undef, .d (.vs (y.map dI)), .d (.int .i64 y.length), .d (.int .i64 k), .undef, .d (.vs (l.arcs.map dArc)), .d (.int .i64 l.arcs.length), .d (.int .i64 (0 : Nat)), .undef, .undef, .undef, .undef, .undef, .undef], H1⟩)
      (Gh.weak (by simp [weak, hst])) ⟨0, H1, _, by omega, rfl, c0, by omega, ca, by rw [hnew, hN]; rfl⟩ ?_
    clear c0 c0' ca hnew hl1 H1
    rintro _ ⟨j, H1, v7, hj, rfl, c0, cl, ca, cn⟩
    obtain ⟨nx, hnx⟩ : ∃ nx, nx = (l.arcs.take j).foldl (stepArc t cur) (List.replicate l.final.length 1099511627776) := ⟨_, rfl⟩
    have hnB : Bd l nx := by rw [hnx]; exact Bd.arcs hl hcB t _ _ (fun a h => List.mem_of_mem_take h) (Bd.rep l)
    rw [← hnx] at cn
    have c0' := c0
    simp only [dLat] at c0'
    have hwj : IntKind.i64.wrap ((j : Int) + 1) = ((j + 1 : Nat) : Int) := by rw [wrap64 (by omega) (by omega)]; simp
    rcases Nat.lt_or_ge j l.arcs.length with hlj | hlj
    · obtain ⟨a, hae⟩ : ∃ a, a = l.arcs[j] := ⟨_, rfl⟩
      have hmem : a ∈ l.arcs := by rw [hae]; exact List.getElem_mem hlj
      obtain ⟨q1, q2, q3, q4, q5, q6⟩ := hl.arc a hmem
      obtain ⟨fr, hfr⟩ : ∃ fr : Nat, a.frm = fr := ⟨a.frm.toNat, by omega⟩
      obtain ⟨to, hto⟩ : ∃ to : Nat, a.to = to := ⟨a.to.toNat, by omega⟩
      have hfrN : fr < N := by omega
      have htoN : to < N := by omega
      have hnx1 : (l.arcs.take (j + 1)).foldl (stepArc t cur) (List.replicate l.final.length 1099511627776) = stepArc t cur nx a := by
        rw [List.take_add_one, List.getElem?_eq_getElem hlj, List.foldl_append, ← hnx, hae]; rfl
      have bn := hnB.get (i := to) (by omega)
      have bc := hcB.get (i := fr) (by omega)
      repeat' (first | (with_reducible first | refine st_reg ?_ | refine sN (by conv => lhs; simp [litV, litE, litOb, toDL, AV.toD, AV.norm, List.replicate, fillC, fillOb, AV.mkAgg, AV.allD, AV.cells, DV.cells, getD_map_lt, hlj, dArc, ← hae]) ?_ | refine rN ?_ ?_ | refine rO ?_ ?_ | refine rF ?_ ?_ | refine sG (by conv => lhs; simp [litV, litE, litOb, toDL, AV.toD, AV.norm, List.replicate, fillC, fillOb, AV.mkAgg, AV.allD, AV.cells, DV.cells, getD_map_lt, hlj, dArc, ← hae]) ?_ | refine gF ?_ | refine gS rfl (by conv => lhs; simp [litV, litE, litOb, toDL, AV.toD, AV.norm, List.replicate, fillC, fillOb, AV.mkAgg, AV.allD, AV.cells, DV.cells, getD_map_lt, hlj, dArc, ← hae]) ?_ ?_ | (refine st_gef0 ?_ ?_; focus (conv => (lhs; simp [litV, litE, litOb, toDL, AV.toD, AV.norm, List.replicate, fillC, fillOb, AV.mkAgg, AV.allD, AV.cells, DV.cells, getD_map_lt, hlj, dArc, ← hae])); done) | refine sE (by conv => lhs; simp) ?_ | refine Nx.go ?_ | refine st_blke' (by decide) ?_ | refine st_seq ?_ | refine st_blk ?_ | refine st_cond (by conv => lhs; simp) (by conv => lhs; simp [litV, litE, litOb, toDL, AV.toD, AV.norm, List.replicate, fillC, fillOb, AV.mkAgg, AV.allD, AV.cells, DV.cells, getD_map_lt, hlj, dArc, ← hae]) ?_ ?_ ?_ | refine st_lexit ?_) | (intro h_; try simp only [reduceCtorEq, y1, y2, y3, y4, y5, y6, y7, y8, y9, z1, z2, z3, z4, z5, z6, z7, ne_eq] at h_))
      all_goals try (first | contradiction | exact True.intro | omega | rfl | (simp [AV.fits, AV.cells, AV.one, DV.fits, DV.cells, DV.one, DV.conf, confL, DV.conf1]; done) | (simp [AV.fits, AV.cells, AV.one, DV.fits, DV.cells, DV.one, DV.conf, confL, DV.conf1, *] <;> omega))
      refine st_e (stA_store ⟨by simp, trivial⟩ (by conv => lhs; simp) (by conv => lhs; simp) (arrOf_ob ob_new) (by simp) (by simp [AV.fits, DV.fits, DV.cells, DV.one]) updA_whole (by simp [AV.fits, DV.fits, DV.cells, DV.one]) (fun H2 hW => ⟨trivial, ?_⟩))
      have hself := hW.self
      simp only [List.set_cons_zero] at hself
      have po : ∀ j, j < H1.length → H2.ob j = H1.ob j := fun j hj => by rw [hW.ob (by omega), ob_left hj]
      have pl : H2.length = H1.length + 1 := by rw [hW.len]; simp
      have d0 := (po 0 (by omega)).trans c0
      have da := (po ida (by omega)).trans ca
      have dn := (po H.length (by omega)).trans cn
      have gn := getI (xs := nx) (i := to) (by rw [hnB.1]; omega)
      have gc := getI (xs := cur) (i := fr) (by rw [hcB.1]; omega)
      obtain ⟨EN, hEN⟩ : ∃ EN, EN = (nx.map dI).map AV.d := ⟨_, rfl⟩
      obtain ⟨EC, hEC⟩ : ∃ EC, EC = (cur.map dI).map AV.d := ⟨_, rfl⟩
      have lEN : EN.length = N := by rw [hEN]; simp [hnB.1, hN]
      have lEC : EC.length = N := by rw [hEC]; simp [hcB.1, hN]
      rw [← hEN] at gn dn
      rw [← hEC] at gc da
      have gn2 : EN[to]'(by omega) = .d (.int .i64 (nx.getD to 0)) := (List.getElem?_eq_some_iff.1 gn).2
      have gc2 : EC[fr]'(by omega) = .d (.int .i64 (cur.getD fr 0)) := (List.getElem?_eq_some_iff.1 gc).2
      obtain ⟨nv, hnv⟩ : ∃ nv, nv = nx.getD to 0 := ⟨_, rfl⟩
      obtain ⟨cv, hcv⟩ : ∃ cv, cv = cur.getD fr 0 := ⟨_, rfl⟩
      rw [← hnv] at gn gn2 bn
      rw [← hcv] at gc gc2 bc
      have wadd : IntKind.i64.wrap (cv + a.cost) = cv + a.cost := wrap64 (by omega) (by omega)
      by_cases htm : a.term = t
      · skip
        repeat' (first | (with_reducible first | refine st_reg ?_ | refine sN (by conv => lhs; simp [litV, litE, litOb, toDL, AV.toD, AV.norm, List.replicate, fillC, fillOb, AV.mkAgg, AV.allD, AV.cells, DV.cells, hself, htm, dn, da, gn, gc, gn2, gc2, lEN, lEC, hfr, hto, hfrN, htoN, wadd]) ?_ | refine rN ?_ ?_ | refine rO ?_ ?_ | refine rF ?_ ?_ | refine sG (by conv => lhs; simp [litV, litE, litOb, toDL, AV.toD, AV.norm, List.replicate, fillC, fillOb, AV.mkAgg, AV.allD, AV.cells, DV.cells, hself, htm, dn, da, gn, gc, gn2, gc2, lEN, lEC, hfr, hto, hfrN, htoN, wadd]) ?_ | refine gF ?_ | refine gS rfl (by conv => lhs; simp [litV, litE, litOb, toDL, AV.toD, AV.norm, List.replicate, fillC, fillOb, AV.mkAgg, AV.allD, AV.cells, DV.cells, hself, htm, dn, da, gn, gc, gn2, gc2, lEN, lEC, hfr, hto, hfrN, htoN, wadd]) ?_ ?_ | (refine st_gef0 ?_ ?_; focus (conv => (lhs; simp [litV, litE, litOb, toDL, AV.toD, AV.norm, List.replicate, fillC, fillOb, AV.mkAgg, AV.allD, AV.cells, DV.cells, hself, htm, dn, da, gn, gc, gn2, gc2, lEN, lEC, hfr, hto, hfrN, htoN, wadd])); done) | refine sE (by conv => lhs; simp) ?_ | refine Nx.go ?_ | refine st_blke' (by decide) ?_ | refine st_seq ?_ | refine st_blk ?_ | refine st_cond (by conv => lhs; simp) (by conv => lhs; simp [litV, litE, litOb, toDL, AV.toD, AV.norm, List.replicate, fillC, fillOb, AV.mkAgg, AV.allD, AV.cells, DV.cells, hself, htm, dn, da, gn, gc, gn2, gc2, lEN, lEC, hfr, hto, hfrN, htoN, wadd]) ?_ ?_ ?_ | refine st_lexit ?_) | (intro h_; try simp only [reduceCtorEq, y1, y2, y3, y4, y5, y6, y7, y8, y9, z1, z2, z3, z4, z5, z6, z7, ne_eq] at h_))
        all_goals try (first | contradiction | exact True.intro | omega | rfl | (simp [AV.fits, AV.cells, AV.one, DV.fits, DV.cells, DV.one, DV.conf, confL, DV.conf1]; done) | (simp [AV.fits, AV.cells, AV.one, DV.fits, DV.cells, DV.one, DV.conf, confL, DV.conf1, *] <;> omega))
        have hmn : (if cv + a.cost < nv then cv + a.cost else nv) = min nv (cv + a.cost) := by split <;> omega
        refine st_e (stA_store (v := .d (.int .i64 (if cv + a.cost < nv then cv + a.cost else nv))) ⟨by simp, trivial⟩ (by conv => lhs; simp) (by simp) (arrOf_ob dn) ⟨by omega, by omega⟩ (by simp [AV.fits, DV.fits, DV.cells, DV.one]) updA_whole (by simp [AV.fits, DV.fits, DV.cells, DV.one]) (fun H3 hW3 => ⟨trivial, ?_⟩))
        have lW3 := hW3.len
        repeat' (first | (with_reducible first | refine st_reg ?_ | refine sN (by conv => lhs; simp [hwj]) ?_ | refine rN ?_ ?_ | refine rO ?_ ?_ | refine rF ?_ ?_ | refine sG (by conv => lhs; simp [hwj]) ?_ | refine gF ?_ | refine gS rfl (by conv => lhs; simp [hwj]) ?_ ?_ | (refine st_gef0 ?_ ?_; focus (conv => (lhs; simp [hwj])); done) | refine sE (by conv => lhs; simp) ?_ | refine Nx.go ?_ | refine st_blke' (by decide) ?_ | refine st_seq ?_ | refine st_blk ?_ | refine st_cond (by conv => lhs; simp) (by conv => lhs; simp [hwj]) ?_ ?_ ?_ | refine st_lexit ?_) | (intro h_; try simp only [reduceCtorEq, y1, y2, y3, y4, y5, y6, y7, y8, y9, z1, z2, z3, z4, z5, z6, z7, ne_eq] at h_))
        all_goals try (first | contradiction | exact True.intro | omega | rfl | (simp [AV.fits, AV.cells, AV.one, DV.fits, DV.cells, DV.one, DV.conf, confL, DV.conf1]; done) | (simp [AV.fits, AV.cells, AV.one, DV.fits, DV.cells, DV.one, DV.conf, confL, DV.conf1, *] <;> omega))
        refine st_lnormw (ys := [.d (dLat l), .d (.vs (y.map dI)), .ptr 0 0 0, .d (.int .i64 0), .hs ida 0 N 1, .d (.int .i64 t), .hs H.length 0 N 1, .ptr H1.length 0 0, .undef, .undef, .undef, .d (.vs (y.map dI)), .d (.int .i64 y.length), .d (.int .i64 k), .undef, .d (.vs (l.arcs.map dArc)), .d (.int .i64 l.arcs.length), .d (.int .i64 (j + 1 : Nat)), .undef, .undef, .undef, .undef, .undef, .undef]) (by simp [weak, hst])
          ⟨j + 1, H3, _, by omega, rfl, hW3.ob' (by omega) d0, by omega, by rw [hW3.ob (by omega), da, hEC], ?_⟩ (by simp [St.int]; omega)
        rw [hW3.self, hEN, hnx1, stepArc, if_pos htm, hfr, hto, List.map_set, List.map_set, Int.toNat_natCast, Int.toNat_natCast, ← hnv, ← hcv, ← hmn]
        rfl
      · skip
        repeat' (first | (with_reducible first | refine st_reg ?_ | refine sN (by conv => lhs; simp [litV, litE, litOb, toDL, AV.toD, AV.norm, List.replicate, fillC, fillOb, AV.mkAgg, AV.allD, AV.cells, DV.cells, hself, htm, hwj]) ?_ | refine rN ?_ ?_ | refine rO ?_ ?_ | refine rF ?_ ?_ | refine sG (by conv => lhs; simp [litV, litE, litOb, toDL, AV.toD, AV.norm, List.replicate, fillC, fillOb, AV.mkAgg, AV.allD, AV.cells, DV.cells, hself, htm, hwj]) ?_ | refine gF ?_ | refine gS rfl (by conv => lhs; simp [litV, litE, litOb, toDL, AV.toD, AV.norm, List.replicate, fillC, fillOb, AV.mkAgg, AV.allD, AV.cells, DV.cells, hself, htm, hwj]) ?_ ?_ | (refine st_gef0 ?_ ?_; focus (conv => (lhs; simp [litV, litE, litOb, toDL, AV.toD, AV.norm, List.replicate, fillC, fillOb, AV.mkAgg, AV.allD, AV.cells, DV.cells, hself, htm, hwj])); done) | refine sE (by conv => lhs; simp) ?_ | refine Nx.go ?_ | refine st_blke' (by decide) ?_ | refine st_seq ?_ | refine st_blk ?_ | refine st_cond (by conv => lhs; simp) (by conv => lhs; simp [litV, litE, litOb, toDL, AV.toD, AV.norm, List.replicate, fillC, fillOb, AV.mkAgg, AV.allD, AV.cells, DV.cells, hself, htm, hwj]) ?_ ?_ ?_ | refine st_lexit ?_) | (intro h_; try simp only [reduceCtorEq, y1, y2, y3, y4, y5, y6, y7, y8, y9, z1, z2, z3, z4, z5, z6, z7, ne_eq] at h_))
        all_goals try (first | contradiction | exact True.intro | omega | rfl | (simp [AV.fits, AV.cells, AV.one, DV.fits, DV.cells, DV.one, DV.conf, confL, DV.conf1]; done) | (simp [AV.fits, AV.cells, AV.one, DV.fits, DV.cells, DV.one, DV.conf, confL, DV.conf1, *] <;> omega))
        refine st_lnormw (ys := [.d (dLat l), .d (.vs (y.map dI)), .ptr 0 0 0, .d (.int .i64 0), .hs ida 0 N 1, .d (.int .i64 t), .hs H.length 0 N 1, .ptr H1.length 0 0, .undef, .undef, .undef, .d (.vs (y.map dI)), .d (.int .i64 y.length), .d (.int .i64 k), .undef, .d (.vs (l.arcs.map dArc)), .d (.int .i64 l.arcs.length), .d (.int .i64 (j + 1 : Nat)), .undef, .undef, .undef, .undef, .undef, .undef]) (by simp [weak, hst])
          ⟨j + 1, H2, _, by omega, rfl, d0, by omega, by rw [da, hEC], ?_⟩ (by simp [St.int]; omega)
        rw [dn, hEN, hnx1, stepArc, if_neg htm]
    · have hjn : j = l.arcs.length := by omega
      subst hjn
      rw [List.take_length] at hnx
      repeat' (first | (with_reducible first | refine st_reg ?_ | refine sN (by conv => lhs; simp [hlj, hw]) ?_ | refine rN ?_ ?_ | refine rO ?_ ?_ | refine rF ?_ ?_ | refine sG (by conv => lhs; simp [hlj, hw]) ?_ | refine gF ?_ | refine gS rfl (by conv => lhs; simp [hlj, hw]) ?_ ?_ | (refine st_gef0 ?_ ?_; focus (conv => (lhs; simp [hlj, hw])); done) | refine sE (by conv => lhs; simp) ?_ | refine Nx.go ?_ | refine st_blke' (by decide) ?_ | refine st_seq ?_ | refine st_blk ?_ | refine st_cond (by conv => lhs; simp) (by conv => lhs; simp [hlj, hw]) ?_ ?_ ?_ | refine st_lexit ?_) | (intro h_; try simp only [reduceCtorEq, y1, y2, y3, y4, y5, y6, y7, y8, y9, z1, z2, z3, z4, z5, z6, z7, ne_eq] at h_))
      all_goals try (first | contradiction | exact True.intro | omega | rfl | (simp [AV.fits, AV.cells, AV.one, DV.fits, DV.cells, DV.one, DV.conf, confL, DV.conf1]; done) | (simp [AV.fits, AV.cells, AV.one, DV.fits, DV.cells, DV.one, DV.conf, confL, DV.conf1, *] <;> omega))
      refine st_lnormw (ys := [.d (dLat l), .d (.vs (y.map dI)), .ptr 0 0 0, .d (.int .i64 0), .hs H.length 0 N 1, .d (.int .i64 t), .hs H.length 0 N 1, v7, .undef, .undef, .undef, .d (.vs (y.map dI)), .d (.int .i64 y.length), .d (.int .i64 (k + 1 : Nat)), .undef, .d (.vs (l.arcs.map dArc)), .d (.int .i64 l.arcs.length), .d (.int .i64 l.arcs.length), .undef, .undef, .undef, .undef, .undef, .undef]) (by simp [weak, hst])
        ⟨k + 1, H.length, H1, _, _, _, _, _, _, by omega, rfl, c0, by omega, ?_⟩ (by simp [St.int]; omega)
      rw [cn, hnext, hnx]; rfl
  · have hky : k = y.length := by omega
    subst hky
    rw [List.take_length] at hcur
    repeat' (first | (with_reducible first | refine st_reg ?_ | refine sN (by conv => lhs; simp [hlt]) ?_ | refine rN ?_ ?_ | refine rO ?_ ?_ | refine rF ?_ ?_ | refine sG (by conv => lhs; simp [hlt]) ?_ | refine gF ?_ | refine gS rfl (by conv => lhs; simp [hlt]) ?_ ?_ | (refine st_gef0 ?_ ?_; focus (conv => (lhs; simp [hlt])); done) | refine sE (by conv => lhs; simp) ?_ | refine Nx.go ?_ | refine st_blke' (by decide) ?_ | refine st_seq ?_ | refine st_blk ?_ | refine st_cond (by conv => lhs; simp) (by conv => lhs; simp [hlt]) ?_ ?_ ?_ | refine st_lexit ?_) | (intro h_; try simp only [reduceCtorEq, y1, y2, y3, y4, y5, y6, y7, y8, y9, z1, z2, z3, z4, z5, z6, z7, ne_eq] at h_))
    all_goals try (first | contradiction | exact True.intro | omega | rfl | (simp [AV.fits, AV.cells, AV.one, DV.fits, DV.cells, DV.one, DV.conf, confL, DV.conf1]; done) | (simp [AV.fits, AV.cells, AV.one, DV.fits, DV.cells, DV.one, DV.conf, confL, DV.conf1, *] <;> omega))
    refine wpC_loop (fun s => ∃ (j : Nat) (v9 v10 : AV), j ≤ N ∧ s = ⟨[.d (dLat l), .d (.vs (y.map dI)), .ptr 0 0 0, .d (.int .i64 0), .hs ida 0 N 1, .undef, .undef, .undef, .d (.int .i64 (bestTo l cur j)), v9, v10, .undef, .undef, .undef, .undef, .undef, .undef, .undef, .undef, .undef, .hs ida 0 N 1, .d (.int .i64 N), .d (.int .i64 j), .undef], H⟩)
      (fun s => N - (s.int 22).toNat)
      (s' := ⟨[.d (dLat l), .d (.vs (y.map dI)), .ptr 0 0 0, .d (.int .i64 0), .hs ida 0 N 1, .undef, .undef, .undef, .d (.int .i64 1099511627776), .undef, .undef, .undef, .undef, .undef, .undef, .undef, .undef, .undef, .undef, .undef, .hs ida 0 N 1, .d (.int .i64 N), .d (.int .i64 (0 : Nat)), .undef], H⟩)
      (Gh.weak (by simp [weak, hst])) ⟨0, _, _, by omega, rfl⟩ ?_
    rintro _ ⟨j, v9, v10, hj, rfl⟩
    have hwj : IntKind.i64.wrap ((j : Int) + 1) = ((j + 1 : Nat) : Int) := by rw [wrap64 (by omega) (by omega)]; simp
    have hbest : ∀ j, j ≤ N → 0 ≤ bestTo l cur j ∧ bestTo l cur j ≤ 1099511627776 := by
      intro j
      induction j with
      | zero => intro _; simp [bestTo]
      | succ j ih =>
        intro hj
        have h1 := ih (by omega)
        have h2 := hcB.get (i := j) (by omega)
        have hjl : j < l.final.length := by omega
        have h3 := hl.fin l.final[j] (List.getElem_mem hjl)
        have e : bestTo l cur (j + 1) = min (bestTo l cur j) (cur.getD j 0 + l.final.getD j 0) := by simp [bestTo, List.range_succ]
        have e2 : l.final.getD j 0 = l.final[j] := by simp [List.getD_eq_getElem?_getD, hjl]
        rw [e, e2]; omega
    rcases Nat.lt_or_ge j N with hlj | hlj
    · have hjl : j < l.final.length := by omega
      have h3 := hl.fin l.final[j] (List.getElem_mem hjl)
      have gc := getI (xs := cur) (i := j) (by rw [hcB.1]; omega)
      obtain ⟨EC, hEC⟩ : ∃ EC, EC = (cur.map dI).map AV.d := ⟨_, rfl⟩
      have lEC : EC.length = N := by rw [hEC]; simp [hcB.1, hN]
      rw [← hEC] at gc ha
      have gc2 : EC[j]'(by omega) = .d (.int .i64 (cur.getD j 0)) := (List.getElem?_eq_some_iff.1 gc).2
      have bc := hcB.get (i := j) (by omega)
      have hb := hbest j hj
      have e : bestTo l cur (j + 1) = min (bestTo l cur j) (cur.getD j 0 + l.final.getD j 0) := by simp [bestTo, List.range_succ]
      have e2 : l.final.getD j 0 = l.final[j] := by simp [List.getD_eq_getElem?_getD, hjl]
      rw [e2] at e
      obtain ⟨cv, hcv⟩ : ∃ cv, cv = cur.getD j 0 := ⟨_, rfl⟩
      rw [← hcv] at gc gc2 bc e
      have wadd : IntKind.i64.wrap (cv + l.final[j]) = cv + l.final[j] := wrap64 (by omega) (by omega)
      repeat' (first | (with_reducible first | refine st_reg ?_ | refine sN (by conv => lhs; simp [litV, litE, litOb, toDL, AV.toD, AV.norm, List.replicate, fillC, fillOb, AV.mkAgg, AV.allD, AV.cells, DV.cells, hlj, ha, gc, gc2, lEC, h0', getD_map_lt, hjl, dI, wadd, hwj]) ?_ | refine rN ?_ ?_ | refine rO ?_ ?_ | refine rF ?_ ?_ | refine sG (by conv => lhs; simp [litV, litE, litOb, toDL, AV.toD, AV.norm, List.replicate, fillC, fillOb, AV.mkAgg, AV.allD, AV.cells, DV.cells, hlj, ha, gc, gc2, lEC, h0', getD_map_lt, hjl, dI, wadd, hwj]) ?_ | refine gF ?_ | refine gS rfl (by conv => lhs; simp [litV, litE, litOb, toDL, AV.toD, AV.norm, List.replicate, fillC, fillOb, AV.mkAgg, AV.allD, AV.cells, DV.cells, hlj, ha, gc, gc2, lEC, h0', getD_map_lt, hjl, dI, wadd, hwj]) ?_ ?_ | (refine st_gef0 ?_ ?_; focus (conv => (lhs; simp [litV, litE, litOb, toDL, AV.toD, AV.norm, List.replicate, fillC, fillOb, AV.mkAgg, AV.allD, AV.cells, DV.cells, hlj, ha, gc, gc2, lEC, h0', getD_map_lt, hjl, dI, wadd, hwj])); done) | refine sE (by conv => lhs; simp) ?_ | refine Nx.go ?_ | refine st_blke' (by decide) ?_ | refine st_seq ?_ | refine st_blk ?_ | refine st_cond (by conv => lhs; simp) (by conv => lhs; simp [litV, litE, litOb, toDL, AV.toD, AV.norm, List.replicate, fillC, fillOb, AV.mkAgg, AV.allD, AV.cells, DV.cells, hlj, ha, gc, gc2, lEC, h0', getD_map_lt, hjl, dI, wadd, hwj]) ?_ ?_ ?_ | refine st_lexit ?_) | (intro h_; try simp only [reduceCtorEq, y1, y2, y3, y4, y5, y6, y7, y8, y9, z1, z2, z3, z4, z5, z6, z7, ne_eq] at h_))
      all_goals try (first | contradiction | exact True.intro | omega | rfl | (simp [AV.fits, AV.cells, AV.one, DV.fits, DV.cells, DV.one, DV.conf, confL, DV.conf1]; done) | (simp [AV.fits, AV.cells, AV.one, DV.fits, DV.cells, DV.one, DV.conf, confL, DV.conf1, *] <;> omega))
      refine st_lnormw (ys := [.d (dLat l), .d (.vs (y.map dI)), .ptr 0 0 0, .d (.int .i64 0), .hs ida 0 N 1, .undef, .undef, .undef, .d (.int .i64 (bestTo l cur (j + 1))), .d (.int .i64 j), .d (.int .i64 cv), .undef, .undef, .undef, .undef, .undef, .undef, .undef, .undef, .undef, .hs ida 0 N 1, .d (.int .i64 N), .d (.int .i64 (j + 1 : Nat)), .undef]) ?_
        ⟨j + 1, _, _, by omega, rfl⟩ (by simp [St.int]; omega)
      simp [weak, hst, e]
      try (split <;> omega)
    · have hjn : j = N := by omega
      subst hjn
      repeat' (first | (with_reducible first | refine st_reg ?_ | refine sN (by conv => lhs; simp [hlj]) ?_ | refine rN ?_ ?_ | refine rO ?_ ?_ | refine rF ?_ ?_ | refine sG (by conv => lhs; simp [hlj]) ?_ | refine gF ?_ | refine gS rfl (by conv => lhs; simp [hlj]) ?_ ?_ | (refine st_gef0 ?_ ?_; focus (conv => (lhs; simp [hlj])); done) | refine sE (by conv => lhs; simp) ?_ | refine Nx.go ?_ | refine st_blke' (by decide) ?_ | refine st_seq ?_ | refine st_blk ?_ | refine st_cond (by conv => lhs; simp) (by conv => lhs; simp [hlj]) ?_ ?_ ?_ | refine st_lexit ?_) | (intro h_; try simp only [reduceCtorEq, y1, y2, y3, y4, y5, y6, y7, y8, y9, z1, z2, z3, z4, z5, z6, z7, ne_eq] at h_))
      all_goals try (first | contradiction | exact True.intro | omega | rfl | (simp [AV.fits, AV.cells, AV.one, DV.fits, DV.cells, DV.one, DV.conf, confL, DV.conf1]; done) | (simp [AV.fits, AV.cells, AV.one, DV.fits, DV.cells, DV.one, DV.conf, confL, DV.conf1, *] <;> omega))
      refine atEnd_pure ⟨trivial, trivial⟩ ?_ rfl
      show AV.d (DV.int _ _) = _
      rw [distL, hcur, hN]
end Go.Vm.L
