/- Lattice: valid lattices. -/
import Derived.Test.YtibpfnjbgojfoaaDoorZdK
set_option linter.all false
set_option maxHeartbeats 8000000
namespace Go.Vm.L
open Go Go.Vm

structure Lat where
  states : Int
  arcs : List Arc
  final : List Int
  deriving DecidableEq, Repr
@[simp] def dLat (l : Lat) : DV := .agg [.int .i64 l.states, .vs (l.arcs.map dArc), .vs (l.final.map dI)]
def finOk (f : Int) : Bool := decide (0 ≤ f) && decide (f ≤ 1099511627776)
def arcBad (l : Lat) (terms : Int) (a : Arc) : Bool :=
  decide (a.frm < 0) || decide (a.frm > a.to) || decide (a.to ≥ l.states) || decide (a.term < 0) || decide (a.term ≥ terms) || decide (a.cost < 0) || decide (a.cost ≥ 1099511627776) || (decide (a.frm = a.to) && decide (a.cost = 0))
def arcOk (l : Lat) (terms : Int) (i : Nat) : Bool := match l.arcs[i]? with
  | some a => !arcBad l terms a && (i == 0 || match l.arcs[i - 1]? with
    | some b => beforeB b a
    | none => false)
  | none => true
def validB (l : Lat) (terms : Int) : Bool :=
  decide (1 ≤ l.states) && decide ((l.final.length : Int) = l.states) && l.final.all finOk && (List.range l.arcs.length).all (arcOk l terms)

theorem all_take_false {α : Type} {p : α → Bool} {xs : List α} {i : Nat} (h : i < xs.length) (hp : p xs[i] = false) : xs.all p = false := by
  rw [List.all_eq_false]
  exact ⟨xs[i], List.getElem_mem h, by simp [hp]⟩
theorem all_range_false {p : Nat → Bool} {n i : Nat} (h : i < n) (hp : p i = false) : (List.range n).all p = false := by
  rw [List.all_eq_false]
  exact ⟨i, by simpa using h, by simp [hp]⟩
theorem cmp_before (a b : Arc) : (cmpK ⟨a.frm, a.to, a.term⟩ ⟨b.frm, b.to, b.term⟩ < 0) ↔ beforeB a b = true := by
  simp only [cmpK, orI, cmpI, beforeB]
  by_cases h1 : a.frm < b.frm
  · simp [h1]; omega
  · by_cases h2 : a.frm > b.frm
    · simp [h1, h2]; omega
    · have h3 : a.frm = b.frm := by omega
      by_cases h4 : a.to < b.to
      · simp [h3, h4]; omega
      · by_cases h5 : a.to > b.to
        · simp [h3, h4, h5]; omega
        · have h6 : a.to = b.to := by omega
          by_cases h7 : a.term < b.term
          · simp [h3, h6, h7]
          · by_cases h8 : a.term > b.term <;> simp [h3, h6, h7, h8]

theorem Valid15 (l : Lat) (terms : Int) (hb1 : l.final.length < 1000000) (hb2 : l.arcs.length < 1000000) : Pure prog 18 [.d (dLat l), .d (.int .i64 terms)] (.d (.bool (validB l terms))) := by
  refine fn_of e18 hm (by rfl) (vs := [.d (dLat l), .d (.int .i64 terms), .undef, .undef, .undef, .undef, .undef, .undef, .undef, .undef, .undef, .undef, .undef, .undef, .undef, .undef, .undef, .undef, .undef, .undef, .undef]) rfl ?_
  unfold c18
  repeat' (first | (with_reducible first | refine st_reg ?_ | refine sN (by conv => lhs; simp [dLat, dArc]) ?_ | refine rN ?_ ?_ | refine rO ?_ ?_ | refine rF ?_ ?_ | refine sG (by conv => lhs; simp [dLat, dArc]) ?_ | refine gF ?_ | refine gS rfl (by conv => lhs; simp [dLat, dArc]) ?_ ?_ | (refine st_gef0 ?_ ?_; focus (conv => (lhs; simp [dLat, dArc])); done) | refine sE (by conv => lhs; simp) ?_ | refine Nx.go ?_ | refine st_blke' (by decide) ?_ | refine st_seq ?_ | refine st_blk ?_ | refine st_cond (by conv => lhs; simp) (by conv => lhs; simp [dLat, dArc]) ?_ ?_ ?_ | refine st_lexit ?_) | (intro h_; try simp only [reduceCtorEq, y1, y2, y3, y4, y5, y6, y7, y8, y9, z1, z2, z3, z4, z5, z6, z7, ne_eq] at h_))
  all_goals try (first | contradiction | exact True.intro | omega | rfl | (simp [AV.fits, AV.cells, AV.one, DV.fits, DV.cells, DV.one, DV.conf, confL, DV.conf1]; done) | (simp [AV.fits, AV.cells, AV.one, DV.fits, DV.cells, DV.one, DV.conf, confL, DV.conf1, *] <;> omega))
  · refine atEnd_pure ⟨trivial, trivial⟩ ?_ rfl
    show AV.d (DV.bool false) = _
    rw [validB]
    rcases h_ with h | h
    · rw [show decide (1 ≤ l.states) = false by simpa using h]; rfl
    · rw [show decide ((l.final.length : Int) = l.states) = false by simpa using h, Bool.and_false]; rfl
  · refine wpC_loop (fun s => ∃ (k : Nat) (v4 : AV), k ≤ l.final.length ∧ (l.final.take k).all finOk = true ∧ s = ⟨[.d (dLat l), .d (.int .i64 terms), .ptr 0 0 0, .d (.bool false), v4, .undef, .undef, .undef, .undef, .d (.vs (l.final.map dI)), .d (.int .i64 l.final.length), .d (.int .i64 k), .undef, .undef, .undef, .undef, .undef, .undef, .undef, .undef, .undef], [some (.arr 3 [.d (dLat l)])]⟩)
      (fun s => l.final.length - (s.int 11).toNat)
      (s' := ⟨[.d (dLat l), .d (.int .i64 terms), .ptr 0 0 0, .d (.bool false), .undef, .undef, .undef, .undef, .undef, .d (.vs (l.final.map dI)), .d (.int .i64 l.final.length), .d (.int .i64 (0 : Nat)), .undef, .undef, .undef, .undef, .undef, .undef, .undef, .undef, .undef], [some (.arr 3 [.d (dLat l)])]⟩)
      (Gh.weak (by simp [weak])) ⟨0, _, by omega, rfl, rfl⟩ ?_
    rintro _ ⟨k, v4, hk, hall, rfl⟩
    have hw : IntKind.i64.wrap ((k : Int) + 1) = ((k + 1 : Nat) : Int) := by rw [wrap64 (by omega) (by omega)]; simp
    rcases Nat.lt_or_ge k l.final.length with hkl | hkl
    · skip
      repeat' (first | (with_reducible first | refine st_reg ?_ | refine sN (by conv => lhs; simp [dLat, getD_map_lt, hkl, dI, hw]) ?_ | refine rN ?_ ?_ | refine rO ?_ ?_ | refine rF ?_ ?_ | refine sG (by conv => lhs; simp [dLat, getD_map_lt, hkl, dI, hw]) ?_ | refine gF ?_ | refine gS rfl (by conv => lhs; simp [dLat, getD_map_lt, hkl, dI, hw]) ?_ ?_ | (refine st_gef0 ?_ ?_; focus (conv => (lhs; simp [dLat, getD_map_lt, hkl, dI, hw])); done) | refine sE (by conv => lhs; simp) ?_ | refine Nx.go ?_ | refine st_blke' (by decide) ?_ | refine st_seq ?_ | refine st_blk ?_ | refine st_cond (by conv => lhs; simp) (by conv => lhs; simp [dLat, getD_map_lt, hkl, dI, hw]) ?_ ?_ ?_ | refine st_lexit ?_) | (intro h_; try simp only [reduceCtorEq, y1, y2, y3, y4, y5, y6, y7, y8, y9, z1, z2, z3, z4, z5, z6, z7, ne_eq] at h_))
      all_goals try (first | contradiction | exact True.intro | omega | rfl | (simp [AV.fits, AV.cells, AV.one, DV.fits, DV.cells, DV.one, DV.conf, confL, DV.conf1]; done) | (simp [AV.fits, AV.cells, AV.one, DV.fits, DV.cells, DV.one, DV.conf, confL, DV.conf1, *] <;> omega))
      · refine atEnd_pure ⟨trivial, trivial⟩ ?_ rfl
        show AV.d (DV.bool false) = _
        rw [validB, all_take_false (p := finOk) hkl (by simp [finOk]; omega), Bool.and_false, Bool.false_and]
      · refine st_lnormw (ys := [.d (dLat l), .d (.int .i64 terms), .ptr 0 0 0, .d (.bool false), .d (.int .i64 l.final[k]), .undef, .undef, .undef, .undef, .d (.vs (l.final.map dI)), .d (.int .i64 l.final.length), .d (.int .i64 (k + 1 : Nat)), .undef, .undef, .undef, .undef, .undef, .undef, .undef, .undef, .undef]) (by simp [weak]) ⟨k + 1, _, by omega, ?_, rfl⟩ (by simp [St.int]; omega)
        rw [List.take_add_one, List.getElem?_eq_getElem hkl, List.all_append, hall]
        simp [finOk]; omega
    · have hkn : k = l.final.length := by omega
      subst hkn
      rw [List.take_length] at hall
      repeat' (first | (with_reducible first | refine st_reg ?_ | refine sN (by conv => lhs; simp [dLat, hkl]) ?_ | refine rN ?_ ?_ | refine rO ?_ ?_ | refine rF ?_ ?_ | refine sG (by conv => lhs; simp [dLat, hkl]) ?_ | refine gF ?_ | refine gS rfl (by conv => lhs; simp [dLat, hkl]) ?_ ?_ | (refine st_gef0 ?_ ?_; focus (conv => (lhs; simp [dLat, hkl])); done) | refine sE (by conv => lhs; simp) ?_ | refine Nx.go ?_ | refine st_blke' (by decide) ?_ | refine st_seq ?_ | refine st_blk ?_ | refine st_cond (by conv => lhs; simp) (by conv => lhs; simp [dLat, hkl]) ?_ ?_ ?_ | refine st_lexit ?_) | (intro h_; try simp only [reduceCtorEq, y1, y2, y3, y4, y5, y6, y7, y8, y9, z1, z2, z3, z4, z5, z6, z7, ne_eq] at h_))
      all_goals try (first | contradiction | exact True.intro | omega | rfl | (simp [AV.fits, AV.cells, AV.one, DV.fits, DV.cells, DV.one, DV.conf, confL, DV.conf1]; done) | (simp [AV.fits, AV.cells, AV.one, DV.fits, DV.cells, DV.one, DV.conf, confL, DV.conf1, *] <;> omega))
      have hst : decide (1 ≤ l.states) = true ∧ decide ((l.final.length : Int) = l.states) = true := by simp; omega
      refine wpC_loop (fun s => ∃ (k : Nat) (H : Heap) (v4 v5 v6 v7 : AV), k ≤ l.arcs.length ∧ (List.range k).all (arcOk l terms) = true ∧ s = ⟨[.d (dLat l), .d (.int .i64 terms), .ptr 0 0 0, .d (.bool false), v4, v5, v6, v7, .undef, .undef, .undef, .undef, .undef, .undef, .d (.vs (l.arcs.map dArc)), .d (.int .i64 l.arcs.length), .d (.int .i64 k), .undef, .undef, .undef, .undef], H⟩ ∧ H.ob 0 = some (.arr 3 [.d (dLat l)]))
        (fun s => l.arcs.length - (s.int 16).toNat)
        (s' := ⟨[.d (dLat l), .d (.int .i64 terms), .ptr 0 0 0, .d (.bool false), .undef, .undef, .undef, .undef, .undef, .undef, .undef, .undef, .undef, .undef, .d (.vs (l.arcs.map dArc)), .d (.int .i64 l.arcs.length), .d (.int .i64 (0 : Nat)), .undef, .undef, .undef, .undef], [some (.arr 3 [.d (dLat l)])]⟩)
        (Gh.weak (by simp [weak])) ⟨0, _, _, _, _, _, by omega, rfl, rfl, rfl⟩ ?_
      rintro _ ⟨k, H, v4, v5, v6, v7, hk, hall2, rfl, h0⟩
      have l0 := ob_lt h0
      have hw : IntKind.i64.wrap ((k : Int) + 1) = ((k + 1 : Nat) : Int) := by rw [wrap64 (by omega) (by omega)]; simp
      rcases Nat.lt_or_ge k l.arcs.length with hkl2 | hkl2
      · have hak : l.arcs[k]? = some l.arcs[k] := List.getElem?_eq_getElem hkl2
        repeat' (first | (with_reducible first | refine st_reg ?_ | refine sN (by conv => lhs; simp [litV, litE, litOb, toDL, AV.toD, AV.norm, List.replicate, fillC, fillOb, AV.mkAgg, AV.allD, AV.cells, DV.cells, dLat, dArc, getD_map_lt, hkl2, dI]) ?_ | refine rN ?_ ?_ | refine rO ?_ ?_ | refine rF ?_ ?_ | refine sG (by conv => lhs; simp [litV, litE, litOb, toDL, AV.toD, AV.norm, List.replicate, fillC, fillOb, AV.mkAgg, AV.allD, AV.cells, DV.cells, dLat, dArc, getD_map_lt, hkl2, dI]) ?_ | refine gF ?_ | refine gS rfl (by conv => lhs; simp [litV, litE, litOb, toDL, AV.toD, AV.norm, List.replicate, fillC, fillOb, AV.mkAgg, AV.allD, AV.cells, DV.cells, dLat, dArc, getD_map_lt, hkl2, dI]) ?_ ?_ | (refine st_gef0 ?_ ?_; focus (conv => (lhs; simp [litV, litE, litOb, toDL, AV.toD, AV.norm, List.replicate, fillC, fillOb, AV.mkAgg, AV.allD, AV.cells, DV.cells, dLat, dArc, getD_map_lt, hkl2, dI])); done) | refine sE (by conv => lhs; simp) ?_ | refine Nx.go ?_ | refine st_blke' (by decide) ?_ | refine st_seq ?_ | refine st_blk ?_ | refine st_cond (by conv => lhs; simp) (by conv => lhs; simp [litV, litE, litOb, toDL, AV.toD, AV.norm, List.replicate, fillC, fillOb, AV.mkAgg, AV.allD, AV.cells, DV.cells, dLat, dArc, getD_map_lt, hkl2, dI]) ?_ ?_ ?_ | refine st_lexit ?_) | (intro h_; try simp only [reduceCtorEq, y1, y2, y3, y4, y5, y6, y7, y8, y9, z1, z2, z3, z4, z5, z6, z7, ne_eq] at h_))
        all_goals try (first | contradiction | exact True.intro | omega | rfl | (simp [AV.fits, AV.cells, AV.one, DV.fits, DV.cells, DV.one, DV.conf, confL, DV.conf1]; done) | (simp [AV.fits, AV.cells, AV.one, DV.fits, DV.cells, DV.one, DV.conf, confL, DV.conf1, *] <;> omega))
        refine st_e (stA_store ⟨by simp, trivial⟩ (by conv => lhs; simp) (by conv => lhs; simp [getD_map_lt, hkl2, dArc]) (arrOf_ob ob_new) (by simp) (by simp [AV.fits, DV.fits, DV.cells, DV.one]) updA_whole (by simp [AV.fits, DV.fits, DV.cells, DV.one]) (fun H1 hW => ⟨trivial, ?_⟩))
        have hself := hW.self
        simp only [List.set_cons_zero] at hself
        have g0 := hW.ob' (by omega) (ob_old h0)
        simp only [dLat] at g0
        have hl1 : H1.length = H.length + 1 := by rw [hW.len]; simp
        have badF : arcBad l terms l.arcs[k] = true → AV.d (DV.bool false) = AV.d (DV.bool (validB l terms)) := by
          intro hbad
          rw [validB, all_range_false (p := arcOk l terms) hkl2, Bool.and_false]
          simp [arcOk, hak, hbad]
        by_cases hk0 : k = 0
        · subst hk0
          repeat' (first | (with_reducible first | refine st_reg ?_ | refine sN (by conv => lhs; simp [litV, litE, litOb, toDL, AV.toD, AV.norm, List.replicate, fillC, fillOb, AV.mkAgg, AV.allD, AV.cells, DV.cells, hself, g0, dArc, hw]) ?_ | refine rN ?_ ?_ | refine rO ?_ ?_ | refine rF ?_ ?_ | refine sG (by conv => lhs; simp [litV, litE, litOb, toDL, AV.toD, AV.norm, List.replicate, fillC, fillOb, AV.mkAgg, AV.allD, AV.cells, DV.cells, hself, g0, dArc, hw]) ?_ | refine gF ?_ | refine gS rfl (by conv => lhs; simp [litV, litE, litOb, toDL, AV.toD, AV.norm, List.replicate, fillC, fillOb, AV.mkAgg, AV.allD, AV.cells, DV.cells, hself, g0, dArc, hw]) ?_ ?_ | (refine st_gef0 ?_ ?_; focus (conv => (lhs; simp [litV, litE, litOb, toDL, AV.toD, AV.norm, List.replicate, fillC, fillOb, AV.mkAgg, AV.allD, AV.cells, DV.cells, hself, g0, dArc, hw])); done) | refine sE (by conv => lhs; simp) ?_ | refine Nx.go ?_ | refine st_blke' (by decide) ?_ | refine st_seq ?_ | refine st_blk ?_ | refine st_cond (by conv => lhs; simp) (by conv => lhs; simp [litV, litE, litOb, toDL, AV.toD, AV.norm, List.replicate, fillC, fillOb, AV.mkAgg, AV.allD, AV.cells, DV.cells, hself, g0, dArc, hw]) ?_ ?_ ?_ | refine st_lexit ?_) | (intro h_; try simp only [reduceCtorEq, y1, y2, y3, y4, y5, y6, y7, y8, y9, z1, z2, z3, z4, z5, z6, z7, ne_eq] at h_))
          all_goals try (first | contradiction | exact True.intro | omega | rfl | (simp [AV.fits, AV.cells, AV.one, DV.fits, DV.cells, DV.one, DV.conf, confL, DV.conf1]; done) | (simp [AV.fits, AV.cells, AV.one, DV.fits, DV.cells, DV.one, DV.conf, confL, DV.conf1, *] <;> omega))
          · refine atEnd_pure ⟨trivial, trivial⟩ ?_ rfl
            refine badF ?_
            have h3 := h_
            simp [arcBad] at h3 ⊢
            omega
          · rename_i h3
            have hbad : arcBad l terms l.arcs[0] = false := by
              simp [arcBad] at h3 ⊢
              omega
            have hw1 : IntKind.i64.wrap 1 = 1 := wrap64 (by omega) (by omega)
            refine st_lnormw (ys := [.d (dLat l), .d (.int .i64 terms), .ptr 0 0 0, .d (.bool false), v4, .d (.int .i64 (0 : Nat)), .ptr H.length 0 0, v7, .undef, .undef, .undef, .undef, .undef, .undef, .d (.vs (l.arcs.map dArc)), .d (.int .i64 l.arcs.length), .d (.int .i64 (1 : Nat)), .undef, .undef, .undef, .undef]) (by simp [weak, hw1]) ⟨1, H1, _, _, _, _, by omega, ?_, rfl, g0⟩ (by simp [St.int]; omega)
            simp [List.range_succ, arcOk, hak, hbad]
        · have hkp : k > 0 := by omega
          have hk1 : k - 1 < l.arcs.length := by omega
          have hbk : l.arcs[k - 1]? = some l.arcs[k - 1] := List.getElem?_eq_getElem hk1
          have hwm : IntKind.i64.wrap ((k : Int) - 1) = ((k - 1 : Nat) : Int) := by rw [wrap64 (by omega) (by omega)]; omega
          obtain ⟨b, hb⟩ : ∃ b, b = l.arcs[k - 1] := ⟨_, rfl⟩
          repeat' (first | (with_reducible first | refine st_reg ?_ | refine sN (by conv => lhs; simp [litV, litE, litOb, toDL, AV.toD, AV.norm, List.replicate, fillC, fillOb, AV.mkAgg, AV.allD, AV.cells, DV.cells, hself, g0, dArc, hkp, getD_map_lt, hk1, hwm, ← hb]) ?_ | refine rN ?_ ?_ | refine rO ?_ ?_ | refine rF ?_ ?_ | refine sG (by conv => lhs; simp [litV, litE, litOb, toDL, AV.toD, AV.norm, List.replicate, fillC, fillOb, AV.mkAgg, AV.allD, AV.cells, DV.cells, hself, g0, dArc, hkp, getD_map_lt, hk1, hwm, ← hb]) ?_ | refine gF ?_ | refine gS rfl (by conv => lhs; simp [litV, litE, litOb, toDL, AV.toD, AV.norm, List.replicate, fillC, fillOb, AV.mkAgg, AV.allD, AV.cells, DV.cells, hself, g0, dArc, hkp, getD_map_lt, hk1, hwm, ← hb]) ?_ ?_ | (refine st_gef0 ?_ ?_; focus (conv => (lhs; simp [litV, litE, litOb, toDL, AV.toD, AV.norm, List.replicate, fillC, fillOb, AV.mkAgg, AV.allD, AV.cells, DV.cells, hself, g0, dArc, hkp, getD_map_lt, hk1, hwm, ← hb])); done) | refine sE (by conv => lhs; simp) ?_ | refine Nx.go ?_ | refine st_blke' (by decide) ?_ | refine st_seq ?_ | refine st_blk ?_ | refine st_cond (by conv => lhs; simp) (by conv => lhs; simp [litV, litE, litOb, toDL, AV.toD, AV.norm, List.replicate, fillC, fillOb, AV.mkAgg, AV.allD, AV.cells, DV.cells, hself, g0, dArc, hkp, getD_map_lt, hk1, hwm, ← hb]) ?_ ?_ ?_ | refine st_lexit ?_) | (intro h_; try simp only [reduceCtorEq, y1, y2, y3, y4, y5, y6, y7, y8, y9, z1, z2, z3, z4, z5, z6, z7, ne_eq] at h_))
          all_goals try (first | contradiction | exact True.intro | omega | rfl | (simp [AV.fits, AV.cells, AV.one, DV.fits, DV.cells, DV.one, DV.conf, confL, DV.conf1]; done) | (simp [AV.fits, AV.cells, AV.one, DV.fits, DV.cells, DV.one, DV.conf, confL, DV.conf1, *] <;> omega))
          · refine atEnd_pure ⟨trivial, trivial⟩ ?_ rfl
            refine badF ?_
            have h3 := h_
            simp [arcBad] at h3 ⊢
            omega
          · rename_i h3
            have hbad : arcBad l terms l.arcs[k] = false := by
              simp [arcBad] at h3 ⊢
              omega
            refine st_e (stA_store ⟨by simp, trivial⟩ (by conv => lhs; simp) (by conv => lhs; simp) (arrOf_ob ob_new) (by simp) (by simp [AV.fits, DV.fits, DV.cells, DV.one]) updA_whole (by simp [AV.fits, DV.fits, DV.cells, DV.one]) (fun H2 hW2 => ⟨trivial, ?_⟩))
            have hself2 := hW2.self
            simp only [List.set_cons_zero] at hself2
            have hs2 := hW2.ob' (by omega) (ob_old hself)
            have g2 := hW2.ob' (by omega) (ob_old g0)
            repeat' (first | (with_reducible first | refine st_reg ?_ | refine sN (by conv => lhs; simp [litV, litE, litOb, toDL, AV.toD, AV.norm, List.replicate, fillC, fillOb, AV.mkAgg, AV.allD, AV.cells, DV.cells, hself2, hs2, g2]) ?_ | refine rN ?_ ?_ | refine rO ?_ ?_ | refine rF ?_ ?_ | refine sG (by conv => lhs; simp [litV, litE, litOb, toDL, AV.toD, AV.norm, List.replicate, fillC, fillOb, AV.mkAgg, AV.allD, AV.cells, DV.cells, hself2, hs2, g2]) ?_ | refine gF ?_ | refine gS rfl (by conv => lhs; simp [litV, litE, litOb, toDL, AV.toD, AV.norm, List.replicate, fillC, fillOb, AV.mkAgg, AV.allD, AV.cells, DV.cells, hself2, hs2, g2]) ?_ ?_ | (refine st_gef0 ?_ ?_; focus (conv => (lhs; simp [litV, litE, litOb, toDL, AV.toD, AV.norm, List.replicate, fillC, fillOb, AV.mkAgg, AV.allD, AV.cells, DV.cells, hself2, hs2, g2])); done) | refine sE (by conv => lhs; simp) ?_ | refine Nx.go ?_ | refine st_blke' (by decide) ?_ | refine st_seq ?_ | refine st_blk ?_ | refine st_cond (by conv => lhs; simp) (by conv => lhs; simp [litV, litE, litOb, toDL, AV.toD, AV.norm, List.replicate, fillC, fillOb, AV.mkAgg, AV.allD, AV.cells, DV.cells, hself2, hs2, g2]) ?_ ?_ ?_ | refine st_lexit ?_) | (intro h_; try simp only [reduceCtorEq, y1, y2, y3, y4, y5, y6, y7, y8, y9, z1, z2, z3, z4, z5, z6, z7, ne_eq] at h_))
            all_goals try (first | contradiction | exact True.intro | omega | rfl | (simp [AV.fits, AV.cells, AV.one, DV.fits, DV.cells, DV.one, DV.conf, confL, DV.conf1]; done) | (simp [AV.fits, AV.cells, AV.one, DV.fits, DV.cells, DV.one, DV.conf, confL, DV.conf1, *] <;> omega))
            refine st_e (st_call (xs := [.d (dKey ⟨b.frm, b.to, b.term⟩), .d (dKey ⟨l.arcs[k].frm, l.arcs[k].to, l.arcs[k].term⟩)]) (ys := [.d (dKey ⟨b.frm, b.to, b.term⟩), .d (dKey ⟨l.arcs[k].frm, l.arcs[k].to, l.arcs[k].term⟩)]) (by simp [solidOk]) (by simp) (compare33 _ _) (by simp [argsM, AV.ren]) (pendOk_refl _) ?_)
            have hcb := cmp_before b l.arcs[k]
            have hok : arcOk l terms k = beforeB b l.arcs[k] := by simp [arcOk, hak, hbad, hk0, hbk, ← hb]
            repeat' (first | (with_reducible first | refine st_reg ?_ | refine sN (by conv => lhs; simp [hw]) ?_ | refine rN ?_ ?_ | refine rO ?_ ?_ | refine rF ?_ ?_ | refine sG (by conv => lhs; simp [hw]) ?_ | refine gF ?_ | refine gS rfl (by conv => lhs; simp [hw]) ?_ ?_ | (refine st_gef0 ?_ ?_; focus (conv => (lhs; simp [hw])); done) | refine sE (by conv => lhs; simp) ?_ | refine Nx.go ?_ | refine st_blke' (by decide) ?_ | refine st_seq ?_ | refine st_blk ?_ | refine st_cond (by conv => lhs; simp) (by conv => lhs; simp [hw]) ?_ ?_ ?_ | refine st_lexit ?_) | (intro h_; try simp only [reduceCtorEq, y1, y2, y3, y4, y5, y6, y7, y8, y9, z1, z2, z3, z4, z5, z6, z7, ne_eq] at h_))
            all_goals try (first | contradiction | exact True.intro | omega | rfl | (simp [AV.fits, AV.cells, AV.one, DV.fits, DV.cells, DV.one, DV.conf, confL, DV.conf1]; done) | (simp [AV.fits, AV.cells, AV.one, DV.fits, DV.cells, DV.one, DV.conf, confL, DV.conf1, *] <;> omega))
            · refine atEnd_pure ⟨trivial, trivial⟩ ?_ rfl
              show AV.d (DV.bool false) = _
              rw [validB, all_range_false (p := arcOk l terms) hkl2 ?_, Bool.and_false]
              rw [hok]
              cases hbb : beforeB b l.arcs[k] with
              | false => rfl
              | true => have := hcb.2 hbb; omega
            · refine st_lnormw (ys := [.d (dLat l), .d (.int .i64 terms), .ptr 0 0 0, .d (.bool false), v4, .d (.int .i64 k), .ptr H.length 0 0, .ptr H1.length 0 0, .undef, .undef, .undef, .undef, .undef, .undef, .d (.vs (l.arcs.map dArc)), .d (.int .i64 l.arcs.length), .d (.int .i64 (k + 1 : Nat)), .undef, .undef, .undef, .undef]) (by simp [weak]) ⟨k + 1, H2, _, _, _, _, by omega, ?_, rfl, g2⟩ (by simp [St.int]; omega)
              rw [List.range_succ, List.all_append, hall2]
              simp only [List.all_cons, List.all_nil, Bool.and_true, Bool.true_and]
              rw [hok]
              exact hcb.1 (by omega)
      · skip
        repeat' (first | (with_reducible first | refine st_reg ?_ | refine sN (by conv => lhs; simp [hkl2]) ?_ | refine rN ?_ ?_ | refine rO ?_ ?_ | refine rF ?_ ?_ | refine sG (by conv => lhs; simp [hkl2]) ?_ | refine gF ?_ | refine gS rfl (by conv => lhs; simp [hkl2]) ?_ ?_ | (refine st_gef0 ?_ ?_; focus (conv => (lhs; simp [hkl2])); done) | refine sE (by conv => lhs; simp) ?_ | refine Nx.go ?_ | refine st_blke' (by decide) ?_ | refine st_seq ?_ | refine st_blk ?_ | refine st_cond (by conv => lhs; simp) (by conv => lhs; simp [hkl2]) ?_ ?_ ?_ | refine st_lexit ?_) | (intro h_; try simp only [reduceCtorEq, y1, y2, y3, y4, y5, y6, y7, y8, y9, z1, z2, z3, z4, z5, z6, z7, ne_eq] at h_))
        all_goals try (first | contradiction | exact True.intro | omega | rfl | (simp [AV.fits, AV.cells, AV.one, DV.fits, DV.cells, DV.one, DV.conf, confL, DV.conf1]; done) | (simp [AV.fits, AV.cells, AV.one, DV.fits, DV.cells, DV.one, DV.conf, confL, DV.conf1, *] <;> omega))
        refine atEnd_pure ⟨trivial, trivial⟩ ?_ rfl
        show AV.d (DV.bool true) = _
        have hkn : k = l.arcs.length := by omega
        subst hkn
        rw [validB, hst.1, hst.2, hall, hall2]; rfl
end Go.Vm.L
