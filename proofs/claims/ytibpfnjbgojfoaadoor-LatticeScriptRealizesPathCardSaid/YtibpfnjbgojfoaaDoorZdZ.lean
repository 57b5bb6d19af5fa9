/- The law: the script of an accepting path realizes the path. -/
import Derived.Test.YtibpfnjbgojfoaaDoorZdZp
import Derived.Test.YtibpfnjbgojfoaaDoorZdYa
import Derived.Test.YtibpfnjbgojfoaaDoorZdY
import Derived.Test.YtibpfnjbgojfoaaDoorZdV
import Derived.Test.YtibpfnjbgojfoaaDoorZdU
import Derived.Test.YtibpfnjbgojfoaaDoorZdAw
set_option linter.all false
set_option maxHeartbeats 8000000
namespace Go.Vm.L
open Go Go.Vm

theorem own_fin {H : Heap} {o0 o1 : Ob} {v : AV} {ds : List DV} {xs : List AV} (i : Nat) (hi : xs[i]? = some v) (ho : OwnS H v 1 ds) (h0 : H.ob 0 = some o0) (h1 : H.ob 1 = some o1) (hr : ∀ id, v.rid = some id → 2 ≤ id) :
    ∃ H', Gh ⟨xs, H⟩ ⟨xs.set i (.d (.vs ds)), H'⟩ ∧ H'.ob 0 = some o0 ∧ H'.ob 1 = some o1 := by
  obtain ⟨H', hg, hl, hf⟩ := Gh.own hi ho
  exact ⟨H', hg, by rw [hf 0 (fun e => by have := hr 0 e; omega)]; exact h0, by rw [hf 1 (fun e => by have := hr 1 e; omega)]; exact h1⟩

theorem law3 (x : Inp) (turns : List Int) (hu : ∀ t ∈ turns, 0 ≤ t ∧ t < 256) : Pure prog 3 [.d (dInp x), .d (.vs (turns.map dU))] (.d (.bool true)) := by
  refine fn_of e3 hm (by rfl) (vs := [.d (dInp x), .d (.vs (turns.map dU)), .undef, .undef, .undef, .undef, .undef, .undef, .undef, .undef, .undef, .undef, .undef, .undef, .undef, .undef, .undef, .undef, .undef, .undef, .undef]) rfl ?_
  unfold c3
  repeat' (first | (with_reducible first | refine st_reg ?_ | refine sN (by conv => lhs; simp [dInp]) ?_ | refine rN ?_ ?_ | refine rO ?_ ?_ | refine rF ?_ ?_ | refine sG (by conv => lhs; simp [dInp]) ?_ | refine gF ?_ | refine gS rfl (by conv => lhs; simp [dInp]) ?_ ?_ | (refine st_gef0 ?_ ?_; focus (conv => (lhs; simp [dInp])); done) | refine sE (by conv => lhs; simp) ?_ | refine Nx.go ?_ | refine st_blke' (by decide) ?_ | refine st_seq ?_ | refine st_blk ?_ | refine st_cond (by conv => lhs; simp) (by conv => lhs; simp [dInp]) ?_ ?_ ?_ | refine st_lexit ?_) | (intro h_; try simp only [reduceCtorEq, y1, y2, y3, y4, y5, y6, y7, y8, y9, z1, z2, z3, z4, z5, z6, z7, ne_eq] at h_))
  all_goals try (first | contradiction | exact True.intro | omega | rfl | (simp [AV.fits, AV.cells, AV.one, DV.fits, DV.cells, DV.one, DV.conf, confL, DV.conf1]; done) | (simp [AV.fits, AV.cells, AV.one, DV.fits, DV.cells, DV.one, DV.conf, confL, DV.conf1, *] <;> omega))
  refine st_e (st_call (xs := []) (ys := []) (by simp [solidOk]) (by simp) awake10 (by simp [argsM, AV.ren]) (pendOk_refl _) ?_)
  repeat' (first | (with_reducible first | refine st_reg ?_ | refine sN (by conv => lhs; simp [dInp]) ?_ | refine rN ?_ ?_ | refine rO ?_ ?_ | refine rF ?_ ?_ | refine sG (by conv => lhs; simp [dInp]) ?_ | refine gF ?_ | refine gS rfl (by conv => lhs; simp [dInp]) ?_ ?_ | (refine st_gef0 ?_ ?_; focus (conv => (lhs; simp [dInp])); done) | refine sE (by conv => lhs; simp) ?_ | refine Nx.go ?_ | refine st_blke' (by decide) ?_ | refine st_seq ?_ | refine st_blk ?_ | refine st_cond (by conv => lhs; simp) (by conv => lhs; simp [dInp]) ?_ ?_ ?_ | refine st_lexit ?_) | (intro h_; try simp only [reduceCtorEq, y1, y2, y3, y4, y5, y6, y7, y8, y9, z1, z2, z3, z4, z5, z6, z7, ne_eq] at h_))
  all_goals try (first | contradiction | exact True.intro | omega | rfl | (simp [AV.fits, AV.cells, AV.one, DV.fits, DV.cells, DV.one, DV.conf, confL, DV.conf1]; done) | (simp [AV.fits, AV.cells, AV.one, DV.fits, DV.cells, DV.one, DV.conf, confL, DV.conf1, *] <;> omega))
  refine st_e (st_call (by simp [solidOk]) (by conv => lhs; simp) (fair11 x 6) (by exact ⟨.inl rfl, .inl rfl, trivial⟩) (pendOk_refl _) ?_)
  rcases hf : fairB x 6 with _ | _
  · skip
    repeat' (first | (with_reducible first | refine st_reg ?_ | refine sN (by conv => lhs; simp [dInp]) ?_ | refine rN ?_ ?_ | refine rO ?_ ?_ | refine rF ?_ ?_ | refine sG (by conv => lhs; simp [dInp]) ?_ | refine gF ?_ | refine gS rfl (by conv => lhs; simp [dInp]) ?_ ?_ | (refine st_gef0 ?_ ?_; focus (conv => (lhs; simp [dInp])); done) | refine sE (by conv => lhs; simp) ?_ | refine Nx.go ?_ | refine st_blke' (by decide) ?_ | refine st_seq ?_ | refine st_blk ?_ | refine st_cond (by conv => lhs; simp) (by conv => lhs; simp [dInp]) ?_ ?_ ?_ | refine st_lexit ?_) | (intro h_; try simp only [reduceCtorEq, y1, y2, y3, y4, y5, y6, y7, y8, y9, z1, z2, z3, z4, z5, z6, z7, ne_eq] at h_))
    all_goals try (first | contradiction | exact True.intro | omega | rfl | (simp [AV.fits, AV.cells, AV.one, DV.fits, DV.cells, DV.one, DV.conf, confL, DV.conf1]; done) | (simp [AV.fits, AV.cells, AV.one, DV.fits, DV.cells, DV.one, DV.conf, confL, DV.conf1, *] <;> omega))
    exact atEnd_pure ⟨trivial, trivial⟩ rfl rfl
  by_cases hp : (12 : Int) < turns.length
  · skip
    repeat' (first | (with_reducible first | refine st_reg ?_ | refine sN (by conv => lhs; simp [dInp, hp]) ?_ | refine rN ?_ ?_ | refine rO ?_ ?_ | refine rF ?_ ?_ | refine sG (by conv => lhs; simp [dInp, hp]) ?_ | refine gF ?_ | refine gS rfl (by conv => lhs; simp [dInp, hp]) ?_ ?_ | (refine st_gef0 ?_ ?_; focus (conv => (lhs; simp [dInp, hp])); done) | refine sE (by conv => lhs; simp) ?_ | refine Nx.go ?_ | refine st_blke' (by decide) ?_ | refine st_seq ?_ | refine st_blk ?_ | refine st_cond (by conv => lhs; simp) (by conv => lhs; simp [dInp, hp]) ?_ ?_ ?_ | refine st_lexit ?_) | (intro h_; try simp only [reduceCtorEq, y1, y2, y3, y4, y5, y6, y7, y8, y9, z1, z2, z3, z4, z5, z6, z7, ne_eq] at h_))
    all_goals try (first | contradiction | exact True.intro | omega | rfl | (simp [AV.fits, AV.cells, AV.one, DV.fits, DV.cells, DV.one, DV.conf, confL, DV.conf1]; done) | (simp [AV.fits, AV.cells, AV.one, DV.fits, DV.cells, DV.one, DV.conf, confL, DV.conf1, *] <;> omega))
    exact atEnd_pure ⟨trivial, trivial⟩ rfl rfl
  obtain ⟨hx, hn, ht⟩ := wf_of_fair hf
  have hn : x.cols.length ≤ 8 := by omega
  have hws := ws_ref hx ht hn
  have hrl := refA_len ht hn
  have hfl := refL_flen x
  repeat' (first | (with_reducible first | refine st_reg ?_ | refine sN (by conv => lhs; simp [dInp, hp]) ?_ | refine rN ?_ ?_ | refine rO ?_ ?_ | refine rF ?_ ?_ | refine sG (by conv => lhs; simp [dInp, hp]) ?_ | refine gF ?_ | refine gS rfl (by conv => lhs; simp [dInp, hp]) ?_ ?_ | (refine st_gef0 ?_ ?_; focus (conv => (lhs; simp [dInp, hp])); done) | refine sE (by conv => lhs; simp) ?_ | refine Nx.go ?_ | refine st_blke' (by decide) ?_ | refine st_seq ?_ | refine st_blk ?_ | refine st_cond (by conv => lhs; simp) (by conv => lhs; simp [dInp, hp]) ?_ ?_ ?_ | refine st_lexit ?_) | (intro h_; try simp only [reduceCtorEq, y1, y2, y3, y4, y5, y6, y7, y8, y9, z1, z2, z3, z4, z5, z6, z7, ne_eq] at h_))
  all_goals try (first | contradiction | exact True.intro | omega | rfl | (simp [AV.fits, AV.cells, AV.one, DV.fits, DV.cells, DV.one, DV.conf, confL, DV.conf1]; done) | (simp [AV.fits, AV.cells, AV.one, DV.fits, DV.cells, DV.one, DV.conf, confL, DV.conf1, *] <;> omega))
  refine st_e (st_call (by simp [solidOk]) (by conv => lhs; simp) (Build12p x hx ht hn) (by exact ⟨.inl rfl, trivial⟩) (pendOk_refl _) ?_)
  repeat' (first | (with_reducible first | refine st_reg ?_ | refine sN (by conv => lhs; simp [dInp]) ?_ | refine rN ?_ ?_ | refine rO ?_ ?_ | refine rF ?_ ?_ | refine sG (by conv => lhs; simp [dInp]) ?_ | refine gF ?_ | refine gS rfl (by conv => lhs; simp [dInp]) ?_ ?_ | (refine st_gef0 ?_ ?_; focus (conv => (lhs; simp [dInp])); done) | refine sE (by conv => lhs; simp) ?_ | refine Nx.go ?_ | refine st_blke' (by decide) ?_ | refine st_seq ?_ | refine st_blk ?_ | refine st_cond (by conv => lhs; simp) (by conv => lhs; simp [dInp]) ?_ ?_ ?_ | refine st_lexit ?_) | (intro h_; try simp only [reduceCtorEq, y1, y2, y3, y4, y5, y6, y7, y8, y9, z1, z2, z3, z4, z5, z6, z7, ne_eq] at h_))
  all_goals try (first | contradiction | exact True.intro | omega | rfl | (simp [AV.fits, AV.cells, AV.one, DV.fits, DV.cells, DV.one, DV.conf, confL, DV.conf1]; done) | (simp [AV.fits, AV.cells, AV.one, DV.fits, DV.cells, DV.one, DV.conf, confL, DV.conf1, *] <;> omega))
  refine st_e (st_store ⟨by simp, trivial⟩ (by conv => lhs; simp) (by conv => lhs; simp) rfl (by simp) (by first | assumption | simp [AV.fits, DV.fits, DV.cells, DV.one]) updA_whole (by first | assumption | simp [AV.fits, DV.fits, DV.cells, DV.one]) ⟨trivial, ?_⟩); simp only [List.set_cons_zero, List.set_cons_succ]
  repeat' (first | (with_reducible first | refine st_reg ?_ | refine sN (by conv => lhs; simp [dInp]) ?_ | refine rN ?_ ?_ | refine rO ?_ ?_ | refine rF ?_ ?_ | refine sG (by conv => lhs; simp [dInp]) ?_ | refine gF ?_ | refine gS rfl (by conv => lhs; simp [dInp]) ?_ ?_ | (refine st_gef0 ?_ ?_; focus (conv => (lhs; simp [dInp])); done) | refine sE (by conv => lhs; simp) ?_ | refine Nx.go ?_ | refine st_blke' (by decide) ?_ | refine st_seq ?_ | refine st_blk ?_ | refine st_cond (by conv => lhs; simp) (by conv => lhs; simp [dInp]) ?_ ?_ ?_ | refine st_lexit ?_) | (intro h_; try simp only [reduceCtorEq, y1, y2, y3, y4, y5, y6, y7, y8, y9, z1, z2, z3, z4, z5, z6, z7, ne_eq] at h_))
  all_goals try (first | contradiction | exact True.intro | omega | rfl | (simp [AV.fits, AV.cells, AV.one, DV.fits, DV.cells, DV.one, DV.conf, confL, DV.conf1]; done) | (simp [AV.fits, AV.cells, AV.one, DV.fits, DV.cells, DV.one, DV.conf, confL, DV.conf1, *] <;> omega))
  refine st_e (st_call (by simp [solidOk]) (by conv => lhs; simp) (Build14 x hx hn ht) (by exact ⟨.inl rfl, trivial⟩) (pendOk_refl _) ?_)
  refine st_e (st_call (by simp [solidOk]) (by conv => lhs; simp) (Same13 (refL x) (refL x) (by omega) (by show (refA x).length < _; omega) (fun c hc => by have := (refA_ok hx hc).1.o; omega)) (by exact ⟨.inl rfl, .inl rfl, trivial⟩) (pendOk_refl _) ?_)
  repeat' (first | (with_reducible first | refine st_reg ?_ | refine sN (by conv => lhs; simp [dInp]) ?_ | refine rN ?_ ?_ | refine rO ?_ ?_ | refine rF ?_ ?_ | refine sG (by conv => lhs; simp [dInp]) ?_ | refine gF ?_ | refine gS rfl (by conv => lhs; simp [dInp]) ?_ ?_ | (refine st_gef0 ?_ ?_; focus (conv => (lhs; simp [dInp])); done) | refine sE (by conv => lhs; simp) ?_ | refine Nx.go ?_ | refine st_blke' (by decide) ?_ | refine st_seq ?_ | refine st_blk ?_ | refine st_cond (by conv => lhs; simp) (by conv => lhs; simp [dInp]) ?_ ?_ ?_ | refine st_lexit ?_) | (intro h_; try simp only [reduceCtorEq, y1, y2, y3, y4, y5, y6, y7, y8, y9, z1, z2, z3, z4, z5, z6, z7, ne_eq] at h_))
  all_goals try (first | contradiction | exact True.intro | omega | rfl | (simp [AV.fits, AV.cells, AV.one, DV.fits, DV.cells, DV.one, DV.conf, confL, DV.conf1]; done) | (simp [AV.fits, AV.cells, AV.one, DV.fits, DV.cells, DV.one, DV.conf, confL, DV.conf1, *] <;> omega))
  refine st_e (stA_call (Hc := []) [] (by simp [solidOk]) (by conv => lhs; simp) (walk9 (refL x) turns (by show (refA x).length < _; omega) (by omega) hu) (by exact ⟨.inl rfl, .inl rfl, trivial⟩) trivial List.nodup_nil ?_)
  rintro _ _ H1 ⟨⟨p, hpl, rfl⟩, rfl⟩ hc
  refine ⟨trivial, ?_⟩
  have g0 : H1.ob 0 = some (.arr 3 [.d (dInp x)]) := hc.ob' (by simp) rfl
  have g1 : H1.ob 1 = some (.arr 3 [.d (dLat (refL x))]) := hc.ob' (by simp) rfl
  clear hc
  have hpl : p.length ≤ 12 := by omega
  repeat' (first | (with_reducible first | refine st_reg ?_ | refine sN (by conv => lhs; simp [litV, litE, litOb, toDL, AV.toD, AV.norm, List.replicate, fillC, fillOb, AV.mkAgg, AV.allD, AV.cells, DV.cells, AV.ren, g0, g1]) ?_ | refine rN ?_ ?_ | refine rO ?_ ?_ | refine rF ?_ ?_ | refine sG (by conv => lhs; simp [litV, litE, litOb, toDL, AV.toD, AV.norm, List.replicate, fillC, fillOb, AV.mkAgg, AV.allD, AV.cells, DV.cells, AV.ren, g0, g1]) ?_ | refine gF ?_ | refine gS rfl (by conv => lhs; simp [litV, litE, litOb, toDL, AV.toD, AV.norm, List.replicate, fillC, fillOb, AV.mkAgg, AV.allD, AV.cells, DV.cells, AV.ren, g0, g1]) ?_ ?_ | (refine st_gef0 ?_ ?_; focus (conv => (lhs; simp [litV, litE, litOb, toDL, AV.toD, AV.norm, List.replicate, fillC, fillOb, AV.mkAgg, AV.allD, AV.cells, DV.cells, AV.ren, g0, g1])); done) | refine sE (by conv => lhs; simp) ?_ | refine Nx.go ?_ | refine st_blke' (by decide) ?_ | refine st_seq ?_ | refine st_blk ?_ | refine st_cond (by conv => lhs; simp) (by conv => lhs; simp [litV, litE, litOb, toDL, AV.toD, AV.norm, List.replicate, fillC, fillOb, AV.mkAgg, AV.allD, AV.cells, DV.cells, AV.ren, g0, g1]) ?_ ?_ ?_ | refine st_lexit ?_) | (intro h_; try simp only [reduceCtorEq, y1, y2, y3, y4, y5, y6, y7, y8, y9, z1, z2, z3, z4, z5, z6, z7, ne_eq] at h_))
  all_goals try (first | contradiction | exact True.intro | omega | rfl | (simp [AV.fits, AV.cells, AV.one, DV.fits, DV.cells, DV.one, DV.conf, confL, DV.conf1]; done) | (simp [AV.fits, AV.cells, AV.one, DV.fits, DV.cells, DV.one, DV.conf, confL, DV.conf1, *] <;> omega))
  refine st_e (stA_call (Hc := []) [] (by simp [solidOk]) (by conv => lhs; simp) (Path40 (refL x) p hws (by omega)) (by exact ⟨.inl rfl, .inl rfl, trivial⟩) trivial List.nodup_nil ?_)
  rintro _ _ H2 ⟨rfl, rfl⟩ hc
  refine ⟨trivial, ?_⟩
  have i0 : H2.ob 0 = some (.arr 3 [.d (dInp x)]) := hc.ob' (by simp) g0
  have i1 : H2.ob 1 = some (.arr 3 [.d (dLat (refL x))]) := hc.ob' (by simp) g1
  clear hc g0 g1
  repeat' (first | (with_reducible first | refine st_reg ?_ | refine sN (by conv => lhs; simp [litV, litE, litOb, toDL, AV.toD, AV.norm, List.replicate, fillC, fillOb, AV.mkAgg, AV.allD, AV.cells, DV.cells, dPath, AV.ren, renL, i0, i1]) ?_ | refine rN ?_ ?_ | refine rO ?_ ?_ | refine rF ?_ ?_ | refine sG (by conv => lhs; simp [litV, litE, litOb, toDL, AV.toD, AV.norm, List.replicate, fillC, fillOb, AV.mkAgg, AV.allD, AV.cells, DV.cells, dPath, AV.ren, renL, i0, i1]) ?_ | refine gF ?_ | refine gS rfl (by conv => lhs; simp [litV, litE, litOb, toDL, AV.toD, AV.norm, List.replicate, fillC, fillOb, AV.mkAgg, AV.allD, AV.cells, DV.cells, dPath, AV.ren, renL, i0, i1]) ?_ ?_ | (refine st_gef0 ?_ ?_; focus (conv => (lhs; simp [litV, litE, litOb, toDL, AV.toD, AV.norm, List.replicate, fillC, fillOb, AV.mkAgg, AV.allD, AV.cells, DV.cells, dPath, AV.ren, renL, i0, i1])); done) | refine sE (by conv => lhs; simp) ?_ | refine Nx.go ?_ | refine st_blke' (by decide) ?_ | refine st_seq ?_ | refine st_blk ?_ | refine st_cond (by conv => lhs; simp) (by conv => lhs; simp [litV, litE, litOb, toDL, AV.toD, AV.norm, List.replicate, fillC, fillOb, AV.mkAgg, AV.allD, AV.cells, DV.cells, dPath, AV.ren, renL, i0, i1]) ?_ ?_ ?_ | refine st_lexit ?_) | (intro h_; try simp only [reduceCtorEq, y1, y2, y3, y4, y5, y6, y7, y8, y9, z1, z2, z3, z4, z5, z6, z7, ne_eq] at h_))
  all_goals try (first | contradiction | exact True.intro | omega | rfl | (simp [AV.fits, AV.cells, AV.one, DV.fits, DV.cells, DV.one, DV.conf, confL, DV.conf1]; done) | (simp [AV.fits, AV.cells, AV.one, DV.fits, DV.cells, DV.one, DV.conf, confL, DV.conf1, *] <;> omega))
  refine st_e (stA_call (Hc := []) [] (by simp [solidOk]) (by conv => lhs; simp) (Script20 x (refL x) p (by omega) hws (by omega)) (by exact ⟨.inl rfl, .inl rfl, .inl rfl, trivial⟩) trivial List.nodup_nil ?_)
  rintro _ _ H3 ⟨rfl, rfl⟩ hc
  refine ⟨trivial, ?_⟩
  have g0 : H3.ob 0 = some (.arr 3 [.d (dInp x)]) := hc.ob' (by simp) i0
  have g1 : H3.ob 1 = some (.arr 3 [.d (dLat (refL x))]) := hc.ob' (by simp) i1
  clear hc i0 i1
  obtain ⟨ps, pc, pok, hpp⟩ : ∃ ps pc pok, pathL (refL x) p = (ps, pc, pok) := ⟨_, _, _, rfl⟩
  rw [hpp]
  cases pok with
  | false =>
    rw [unreal (by rw [hpp])]
    repeat' (first | (with_reducible first | refine st_reg ?_ | refine sN (by conv => lhs; simp [litV, litE, litOb, toDL, AV.toD, AV.norm, List.replicate, fillC, fillOb, AV.mkAgg, AV.allD, AV.cells, DV.cells, AV.ren, renL]) ?_ | refine rN ?_ ?_ | refine rO ?_ ?_ | refine rF ?_ ?_ | refine sG (by conv => lhs; simp [litV, litE, litOb, toDL, AV.toD, AV.norm, List.replicate, fillC, fillOb, AV.mkAgg, AV.allD, AV.cells, DV.cells, AV.ren, renL]) ?_ | refine gF ?_ | refine gS rfl (by conv => lhs; simp [litV, litE, litOb, toDL, AV.toD, AV.norm, List.replicate, fillC, fillOb, AV.mkAgg, AV.allD, AV.cells, DV.cells, AV.ren, renL]) ?_ ?_ | (refine st_gef0 ?_ ?_; focus (conv => (lhs; simp [litV, litE, litOb, toDL, AV.toD, AV.norm, List.replicate, fillC, fillOb, AV.mkAgg, AV.allD, AV.cells, DV.cells, AV.ren, renL])); done) | refine sE (by conv => lhs; simp) ?_ | refine Nx.go ?_ | refine st_blke' (by decide) ?_ | refine st_seq ?_ | refine st_blk ?_ | refine st_cond (by conv => lhs; simp) (by conv => lhs; simp [litV, litE, litOb, toDL, AV.toD, AV.norm, List.replicate, fillC, fillOb, AV.mkAgg, AV.allD, AV.cells, DV.cells, AV.ren, renL]) ?_ ?_ ?_ | refine st_lexit ?_) | (intro h_; try simp only [reduceCtorEq, y1, y2, y3, y4, y5, y6, y7, y8, y9, z1, z2, z3, z4, z5, z6, z7, ne_eq] at h_))
    all_goals try (first | contradiction | exact True.intro | omega | rfl | (simp [AV.fits, AV.cells, AV.one, DV.fits, DV.cells, DV.one, DV.conf, confL, DV.conf1]; done) | (simp [AV.fits, AV.cells, AV.one, DV.fits, DV.cells, DV.one, DV.conf, confL, DV.conf1, *] <;> omega))
    exact atEnd_pure ⟨trivial, trivial⟩ rfl rfl
  | true =>
  obtain ⟨ops, hs, hr, hpi⟩ := realize hx hpp
  have hol : ops.length < 100000 := by
    have h1 : (scriptL x (refL x) p).1.length < 100000 := by
      unfold scriptL
      split
      · simp
      · rename_i s ops hto
        have := (pathTo_bd hws _ _ _ _ _ (Int.le_refl 0) (by have := hws.n1; omega) hto).2.2
        split
        · simp
        · simp [delOps] at this ⊢; omega
    rw [hs] at h1; exact h1
  rw [hs]
  obtain ⟨A, hA⟩ : ∃ A, A = refA x := ⟨_, rfl⟩
  have e1 : (refL x).arcs = A := by rw [hA]; rfl
  rw [e1] at hpi
  have hto : ∀ i, termOf (refL x) i = (A[i.toNat]?.map (·.term)).getD 0 := fun i => by rw [← e1]; rfl
  obtain ⟨T, hT⟩ : ∃ T, T = termOf (refL x) := ⟨_, rfl⟩
  rw [← hT] at hto hr
  rw [show refL x = ⟨(2 * x.cols.length + 1 : Nat), A, finTo x (x.cols.length + 1)⟩ by rw [hA]; rfl] at g1
  rw [← hA] at hrl
  clear hA hT e1 hws hfl hs hpp
  have l1 := ob_lt g1
  repeat' (first | (with_reducible first | refine st_reg ?_ | refine sN (by conv => lhs; simp [litV, litE, litOb, toDL, AV.toD, AV.norm, List.replicate, fillC, fillOb, AV.mkAgg, AV.allD, AV.cells, DV.cells, AV.ren, renL]) ?_ | refine rN ?_ ?_ | refine rO ?_ ?_ | refine rF ?_ ?_ | refine sG (by conv => lhs; simp [litV, litE, litOb, toDL, AV.toD, AV.norm, List.replicate, fillC, fillOb, AV.mkAgg, AV.allD, AV.cells, DV.cells, AV.ren, renL]) ?_ | refine gF ?_ | refine gS rfl (by conv => lhs; simp [litV, litE, litOb, toDL, AV.toD, AV.norm, List.replicate, fillC, fillOb, AV.mkAgg, AV.allD, AV.cells, DV.cells, AV.ren, renL]) ?_ ?_ | (refine st_gef0 ?_ ?_; focus (conv => (lhs; simp [litV, litE, litOb, toDL, AV.toD, AV.norm, List.replicate, fillC, fillOb, AV.mkAgg, AV.allD, AV.cells, DV.cells, AV.ren, renL])); done) | refine sE (by conv => lhs; simp) ?_ | refine Nx.go ?_ | refine st_blke' (by decide) ?_ | refine st_seq ?_ | refine st_blk ?_ | refine st_cond (by conv => lhs; simp) (by conv => lhs; simp [litV, litE, litOb, toDL, AV.toD, AV.norm, List.replicate, fillC, fillOb, AV.mkAgg, AV.allD, AV.cells, DV.cells, AV.ren, renL]) ?_ ?_ ?_ | refine st_lexit ?_) | (intro h_; try simp only [reduceCtorEq, y1, y2, y3, y4, y5, y6, y7, y8, y9, z1, z2, z3, z4, z5, z6, z7, ne_eq] at h_))
  all_goals try (first | contradiction | exact True.intro | omega | rfl | (simp [AV.fits, AV.cells, AV.one, DV.fits, DV.cells, DV.one, DV.conf, confL, DV.conf1]; done) | (simp [AV.fits, AV.cells, AV.one, DV.fits, DV.cells, DV.one, DV.conf, confL, DV.conf1, *] <;> omega))
  have hst : ∃ v10 H', Gh ⟨[.d (dInp x), .d (.vs (turns.map dU)), .ptr 0 0 0, .undef, .ptr 1 0 0, .d (.vs (p.map dI)), .d (.int .i64 pc), .undef, .d (.vs (ops.map dOp)), .d (.int .i64 0), .nils, .d (.int .i64 (0 : Nat)), .undef, .undef, .undef, .undef, .undef, .undef, .undef, .undef, .undef], H3⟩ ⟨[.d (dInp x), .d (.vs (turns.map dU)), .ptr 0 0 0, .undef, .ptr 1 0 0, .d (.vs (p.map dI)), .d (.int .i64 pc), .undef, .d (.vs (ops.map dOp)), .d (.int .i64 0), v10, .d (.int .i64 (0 : Nat)), .undef, .undef, .undef, .undef, .undef, .undef, .undef, .undef, .undef], H'⟩ ∧
      H'.ob 0 = some (.arr 3 [.d (dInp x)]) ∧ H'.ob 1 = some (.arr 3 [.d (dLat ⟨(2 * x.cols.length + 1 : Nat), A, finTo x (x.cols.length + 1)⟩)]) ∧
      (0 < p.length ∧ OwnS H' v10 1 (((p.take 0).map T).map dI) ∧ (∀ id, v10.rid = some id → 2 ≤ id) ∨ 0 = p.length ∧ v10 = .d (.vs ((p.map T).map dI))) := by
    rcases Nat.eq_zero_or_pos p.length with h | h
    · have hp0 : p = [] := List.length_eq_zero_iff.1 h
      subst hp0
      obtain ⟨H', hg, q0, q1⟩ := own_fin (xs := [.d (dInp x), .d (.vs (turns.map dU)), .ptr 0 0 0, .undef, .ptr 1 0 0, .d (.vs (([] : List Int).map dI)), .d (.int .i64 pc), .undef, .d (.vs (ops.map dOp)), .d (.int .i64 0), .nils, .d (.int .i64 (0 : Nat)), .undef, .undef, .undef, .undef, .undef, .undef, .undef, .undef, .undef]) 10 rfl (OwnS.nils H3 1) g0 g1 (by simp [AV.rid])
      exact ⟨_, H', hg, q0, q1, .inr ⟨rfl, rfl⟩⟩
    · exact ⟨.nils, H3, Gh.refl _, g0, g1, .inl ⟨h, OwnS.nils _ _, by simp [AV.rid]⟩⟩
  obtain ⟨v10, H4, hg4, q0, q1, hq⟩ := hst
  refine wpC_loop (fun s => ∃ (k : Nat) (H : Heap) (v10 v20 : AV), k ≤ p.length ∧ s = ⟨[.d (dInp x), .d (.vs (turns.map dU)), .ptr 0 0 0, .undef, .ptr 1 0 0, .d (.vs (p.map dI)), .d (.int .i64 pc), .undef, .d (.vs (ops.map dOp)), .d (.int .i64 0), v10, .d (.int .i64 k), .undef, .undef, .undef, .undef, .undef, .undef, .undef, .undef, v20], H⟩ ∧
      H.ob 0 = some (.arr 3 [.d (dInp x)]) ∧ H.ob 1 = some (.arr 3 [.d (dLat ⟨(2 * x.cols.length + 1 : Nat), A, finTo x (x.cols.length + 1)⟩)]) ∧
      (k < p.length ∧ OwnS H v10 1 (((p.take k).map T).map dI) ∧ (∀ id, v10.rid = some id → 2 ≤ id) ∨ k = p.length ∧ v10 = .d (.vs ((p.map T).map dI))))
    (fun s => p.length - (s.int 11).toNat)
    (s' := ⟨[.d (dInp x), .d (.vs (turns.map dU)), .ptr 0 0 0, .undef, .ptr 1 0 0, .d (.vs (p.map dI)), .d (.int .i64 pc), .undef, .d (.vs (ops.map dOp)), .d (.int .i64 0), v10, .d (.int .i64 (0 : Nat)), .undef, .undef, .undef, .undef, .undef, .undef, .undef, .undef, .undef], H4⟩)
    (Gh.trans (s' := ⟨[.d (dInp x), .d (.vs (turns.map dU)), .ptr 0 0 0, .undef, .ptr 1 0 0, .d (.vs (p.map dI)), .d (.int .i64 pc), .undef, .d (.vs (ops.map dOp)), .d (.int .i64 0), .nils, .d (.int .i64 (0 : Nat)), .undef, .undef, .undef, .undef, .undef, .undef, .undef, .undef, .undef], H3⟩) (Gh.weak (by simp [weak])) hg4) ⟨0, _, _, _, Nat.zero_le _, rfl, q0, q1, hq⟩ ?_
  clear hq q0 q1 hg4 g0 g1 l1
  rintro _ ⟨k, H, v10, v20, hk, rfl, h0, h1, hq⟩
  have h1' := h1
  simp only [dLat] at h1'
  have l1 := ob_lt h1
  rcases hq with ⟨hlt, ho, hr10⟩ | ⟨hke, rfl⟩
  · obtain ⟨a1, a2, a3, a4⟩ := ho.sob
    obtain ⟨i, hi⟩ : ∃ i, i = p[k] := ⟨_, rfl⟩
    have hib := hpi i (hi ▸ List.getElem_mem hlt)
    obtain ⟨q, hq⟩ : ∃ q : Nat, i = q := ⟨i.toNat, by omega⟩
    have hqa : q < A.length := by omega
    rw [hq] at hi
    have hTq : T p[k] = A[q].term := by rw [← hi, hto]; simp [hqa]
    have hw : IntKind.i64.wrap ((k : Int) + 1) = ((k + 1 : Nat) : Int) := by rw [wrap64 (by omega) (by omega)]; simp
    repeat' (first | (with_reducible first | refine st_reg ?_ | refine sN (by conv => lhs; simp [litV, litE, litOb, toDL, AV.toD, AV.norm, List.replicate, fillC, fillOb, AV.mkAgg, AV.allD, AV.cells, DV.cells, hlt, getD_map_lt, dI, ← hi, h1', hqa, dArc, a1, a2]) ?_ | refine rN ?_ ?_ | refine rO ?_ ?_ | refine rF ?_ ?_ | refine sG (by conv => lhs; simp [litV, litE, litOb, toDL, AV.toD, AV.norm, List.replicate, fillC, fillOb, AV.mkAgg, AV.allD, AV.cells, DV.cells, hlt, getD_map_lt, dI, ← hi, h1', hqa, dArc, a1, a2]) ?_ | refine gF ?_ | refine gS rfl (by conv => lhs; simp [litV, litE, litOb, toDL, AV.toD, AV.norm, List.replicate, fillC, fillOb, AV.mkAgg, AV.allD, AV.cells, DV.cells, hlt, getD_map_lt, dI, ← hi, h1', hqa, dArc, a1, a2]) ?_ ?_ | (refine st_gef0 ?_ ?_; focus (conv => (lhs; simp [litV, litE, litOb, toDL, AV.toD, AV.norm, List.replicate, fillC, fillOb, AV.mkAgg, AV.allD, AV.cells, DV.cells, hlt, getD_map_lt, dI, ← hi, h1', hqa, dArc, a1, a2])); done) | refine sE (by conv => lhs; simp) ?_ | refine Nx.go ?_ | refine st_blke' (by decide) ?_ | refine st_seq ?_ | refine st_blk ?_ | refine st_cond (by conv => lhs; simp) (by conv => lhs; simp [litV, litE, litOb, toDL, AV.toD, AV.norm, List.replicate, fillC, fillOb, AV.mkAgg, AV.allD, AV.cells, DV.cells, hlt, getD_map_lt, dI, ← hi, h1', hqa, dArc, a1, a2]) ?_ ?_ ?_ | refine st_lexit ?_) | (intro h_; try simp only [reduceCtorEq, y1, y2, y3, y4, y5, y6, y7, y8, y9, z1, z2, z3, z4, z5, z6, z7, ne_eq] at h_))
    all_goals try (first | contradiction | exact True.intro | omega | rfl | (simp [AV.fits, AV.cells, AV.one, DV.fits, DV.cells, DV.one, DV.conf, confL, DV.conf1]; done) | (simp [AV.fits, AV.cells, AV.one, DV.fits, DV.cells, DV.one, DV.conf, confL, DV.conf1, *] <;> omega))
    refine st_e (stA_appO2 (v := v10) (olds := ((p.take k).map T).map dI) (ds := [.int .i64 A[q].term]) (by simp [a1, a2]) (by conv => lhs; simp [a1, a2]) (by simp) ho (by simp [DV.fits, DV.cells, DV.one]) (by simp; omega) (fun v' H5 qo qr ql qf => ?_))
    obtain ⟨r1, r2, _, _⟩ := qo.sob
    have f0 : H5.ob 0 = some (.arr 3 [.d (dInp x)]) := by rw [qf 0 (by omega) (fun e => by have := hr10 0 e; omega)]; exact h0
    have f1 : H5.ob 1 = some (.arr 3 [.d (dLat ⟨(2 * x.cols.length + 1 : Nat), A, finTo x (x.cols.length + 1)⟩)]) := by rw [qf 1 (by omega) (fun e => by have := hr10 1 e; omega)]; exact h1
    have hrv : ∀ id, v'.rid = some id → 2 ≤ id := fun id h => by rw [qr] at h; cases h; omega
    have qo' : OwnS H5 v' 1 (((p.take (k + 1)).map T).map dI) := by
      have e : ((p.take (k + 1)).map T).map dI = ((p.take k).map T).map dI ++ [.int .i64 A[q].term] := by
        rw [List.take_add_one, List.getElem?_eq_getElem hlt, List.map_append, List.map_append]
        congr 1
        show [dI (T p[k])] = _
        rw [hTq]; rfl
      rw [e]; exact qo
    repeat' (first | (with_reducible first | refine st_reg ?_ | refine sN (by conv => lhs; simp [r1, r2, hw]) ?_ | refine rN ?_ ?_ | refine rO ?_ ?_ | refine rF ?_ ?_ | refine sG (by conv => lhs; simp [r1, r2, hw]) ?_ | refine gF ?_ | refine gS rfl (by conv => lhs; simp [r1, r2, hw]) ?_ ?_ | (refine st_gef0 ?_ ?_; focus (conv => (lhs; simp [r1, r2, hw])); done) | refine sE (by conv => lhs; simp) ?_ | refine Nx.go ?_ | refine st_blke' (by decide) ?_ | refine st_seq ?_ | refine st_blk ?_ | refine st_cond (by conv => lhs; simp) (by conv => lhs; simp [r1, r2, hw]) ?_ ?_ ?_ | refine st_lexit ?_) | (intro h_; try simp only [reduceCtorEq, y1, y2, y3, y4, y5, y6, y7, y8, y9, z1, z2, z3, z4, z5, z6, z7, ne_eq] at h_))
    all_goals try (first | contradiction | exact True.intro | omega | rfl | (simp [AV.fits, AV.cells, AV.one, DV.fits, DV.cells, DV.one, DV.conf, confL, DV.conf1]; done) | (simp [AV.fits, AV.cells, AV.one, DV.fits, DV.cells, DV.one, DV.conf, confL, DV.conf1, *] <;> omega))
    rcases Nat.lt_or_ge (k + 1) p.length with hl2 | hl2
    · exact st_lnormw (ys := [.d (dInp x), .d (.vs (turns.map dU)), .ptr 0 0 0, .undef, .ptr 1 0 0, .d (.vs (p.map dI)), .d (.int .i64 pc), .undef, .d (.vs (ops.map dOp)), .d (.int .i64 0), v', .d (.int .i64 (k + 1 : Nat)), .undef, .undef, .undef, .undef, .undef, .undef, .undef, .undef, .undef]) (by simp [weak])
        ⟨k + 1, H5, v', _, by omega, rfl, f0, f1, .inl ⟨hl2, qo', hrv⟩⟩ (by simp [St.int] <;> omega)
    · have hke : k + 1 = p.length := by omega
      obtain ⟨H6, hg, f0', f1'⟩ := own_fin (xs := [.d (dInp x), .d (.vs (turns.map dU)), .ptr 0 0 0, .undef, .ptr 1 0 0, .d (.vs (p.map dI)), .d (.int .i64 pc), .undef, .d (.vs (ops.map dOp)), .d (.int .i64 0), v', .d (.int .i64 (k + 1 : Nat)), .undef, .undef, .undef, .undef, .undef, .undef, .undef, .undef, .undef]) 10 rfl qo' f0 f1 hrv
      refine st_lnorm (s' := ⟨[.d (dInp x), .d (.vs (turns.map dU)), .ptr 0 0 0, .undef, .ptr 1 0 0, .d (.vs (p.map dI)), .d (.int .i64 pc), .undef, .d (.vs (ops.map dOp)), .d (.int .i64 0), .d (.vs ((p.map T).map dI)), .d (.int .i64 (k + 1 : Nat)), .undef, .undef, .undef, .undef, .undef, .undef, .undef, .undef, .undef], H6⟩) (Gh.trans (s' := ⟨[.d (dInp x), .d (.vs (turns.map dU)), .ptr 0 0 0, .undef, .ptr 1 0 0, .d (.vs (p.map dI)), .d (.int .i64 pc), .undef, .d (.vs (ops.map dOp)), .d (.int .i64 0), v', .d (.int .i64 (k + 1 : Nat)), .undef, .undef, .undef, .undef, .undef, .undef, .undef, .undef, .undef], H5⟩) (Gh.weak (by simp [weak])) ?_)
        ⟨k + 1, H6, _, _, by omega, rfl, f0', f1', .inr ⟨hke, rfl⟩⟩ (by simp [St.int] <;> omega)
      have e : (p.map T).map dI = ((p.take (k + 1)).map T).map dI := by rw [hke, List.take_length]
      rw [e]; exact hg
  · have hlt : ¬ k < p.length := by omega
    have h0' := h0
    simp only [dInp] at h0'
    obtain ⟨LB, hLB⟩ : ∃ LB, LB = p.map T := ⟨_, rfl⟩
    have hLl : LB.length = p.length := by rw [hLB, List.length_map]
    rw [← hLB] at hr ⊢
    clear hLB
    repeat' (first | (with_reducible first | refine st_reg ?_ | refine sN (by conv => lhs; simp [litV, litE, litOb, toDL, AV.toD, AV.norm, List.replicate, fillC, fillOb, AV.mkAgg, AV.allD, AV.cells, DV.cells, hlt, h0']) ?_ | refine rN ?_ ?_ | refine rO ?_ ?_ | refine rF ?_ ?_ | refine sG (by conv => lhs; simp [litV, litE, litOb, toDL, AV.toD, AV.norm, List.replicate, fillC, fillOb, AV.mkAgg, AV.allD, AV.cells, DV.cells, hlt, h0']) ?_ | refine gF ?_ | refine gS rfl (by conv => lhs; simp [litV, litE, litOb, toDL, AV.toD, AV.norm, List.replicate, fillC, fillOb, AV.mkAgg, AV.allD, AV.cells, DV.cells, hlt, h0']) ?_ ?_ | (refine st_gef0 ?_ ?_; focus (conv => (lhs; simp [litV, litE, litOb, toDL, AV.toD, AV.norm, List.replicate, fillC, fillOb, AV.mkAgg, AV.allD, AV.cells, DV.cells, hlt, h0'])); done) | refine sE (by conv => lhs; simp) ?_ | refine Nx.go ?_ | refine st_blke' (by decide) ?_ | refine st_seq ?_ | refine st_blk ?_ | refine st_cond (by conv => lhs; simp) (by conv => lhs; simp [litV, litE, litOb, toDL, AV.toD, AV.norm, List.replicate, fillC, fillOb, AV.mkAgg, AV.allD, AV.cells, DV.cells, hlt, h0']) ?_ ?_ ?_ | refine st_lexit ?_) | (intro h_; try simp only [reduceCtorEq, y1, y2, y3, y4, y5, y6, y7, y8, y9, z1, z2, z3, z4, z5, z6, z7, ne_eq] at h_))
    all_goals try (first | contradiction | exact True.intro | omega | rfl | (simp [AV.fits, AV.cells, AV.one, DV.fits, DV.cells, DV.one, DV.conf, confL, DV.conf1]; done) | (simp [AV.fits, AV.cells, AV.one, DV.fits, DV.cells, DV.one, DV.conf, confL, DV.conf1, *] <;> omega))
    refine st_e (stA_call (Hc := []) [] (by simp [solidOk]) (by conv => lhs; simp) (Apply12 x ops _ hx hr rfl hol) (by exact ⟨.inl rfl, .inl rfl, trivial⟩) trivial List.nodup_nil ?_)
    rintro _ _ H5 ⟨rfl, rfl⟩ hc
    refine ⟨trivial, ?_⟩
    have j0 : H5.ob 0 = some (.arr 3 [.d (dInp x)]) := hc.ob' (by simp) h0
    clear hc h0 h1 h0' h1' l1
    have j0' := j0
    simp only [dInp] at j0'
    repeat' (first | (with_reducible first | refine st_reg ?_ | refine sN (by conv => lhs; simp [litV, litE, litOb, toDL, AV.toD, AV.norm, List.replicate, fillC, fillOb, AV.mkAgg, AV.allD, AV.cells, DV.cells, AV.ren, renL, j0']) ?_ | refine rN ?_ ?_ | refine rO ?_ ?_ | refine rF ?_ ?_ | refine sG (by conv => lhs; simp [litV, litE, litOb, toDL, AV.toD, AV.norm, List.replicate, fillC, fillOb, AV.mkAgg, AV.allD, AV.cells, DV.cells, AV.ren, renL, j0']) ?_ | refine gF ?_ | refine gS rfl (by conv => lhs; simp [litV, litE, litOb, toDL, AV.toD, AV.norm, List.replicate, fillC, fillOb, AV.mkAgg, AV.allD, AV.cells, DV.cells, AV.ren, renL, j0']) ?_ ?_ | (refine st_gef0 ?_ ?_; focus (conv => (lhs; simp [litV, litE, litOb, toDL, AV.toD, AV.norm, List.replicate, fillC, fillOb, AV.mkAgg, AV.allD, AV.cells, DV.cells, AV.ren, renL, j0'])); done) | refine sE (by conv => lhs; simp) ?_ | refine Nx.go ?_ | refine st_blke' (by decide) ?_ | refine st_seq ?_ | refine st_blk ?_ | refine st_cond (by conv => lhs; simp) (by conv => lhs; simp [litV, litE, litOb, toDL, AV.toD, AV.norm, List.replicate, fillC, fillOb, AV.mkAgg, AV.allD, AV.cells, DV.cells, AV.ren, renL, j0']) ?_ ?_ ?_ | refine st_lexit ?_) | (intro h_; try simp only [reduceCtorEq, y1, y2, y3, y4, y5, y6, y7, y8, y9, z1, z2, z3, z4, z5, z6, z7, ne_eq] at h_))
    all_goals try (first | contradiction | exact True.intro | omega | rfl | (simp [AV.fits, AV.cells, AV.one, DV.fits, DV.cells, DV.one, DV.conf, confL, DV.conf1]; done) | (simp [AV.fits, AV.cells, AV.one, DV.fits, DV.cells, DV.one, DV.conf, confL, DV.conf1, *] <;> omega))
    refine st_e (stA_call (Hc := []) [] (by simp [solidOk]) (by conv => lhs; simp) (Cost13 x ops _ hx hr rfl hol) (by exact ⟨.inl rfl, .inl rfl, trivial⟩) trivial List.nodup_nil ?_)
    rintro _ _ H6 ⟨rfl, rfl⟩ hc
    refine ⟨trivial, ?_⟩
    clear hc j0 j0'
    repeat' (first | (with_reducible first | refine st_reg ?_ | refine sN (by conv => lhs; simp [litV, litE, litOb, toDL, AV.toD, AV.norm, List.replicate, fillC, fillOb, AV.mkAgg, AV.allD, AV.cells, DV.cells, AV.ren, renL]) ?_ | refine rN ?_ ?_ | refine rO ?_ ?_ | refine rF ?_ ?_ | refine sG (by conv => lhs; simp [litV, litE, litOb, toDL, AV.toD, AV.norm, List.replicate, fillC, fillOb, AV.mkAgg, AV.allD, AV.cells, DV.cells, AV.ren, renL]) ?_ | refine gF ?_ | refine gS rfl (by conv => lhs; simp [litV, litE, litOb, toDL, AV.toD, AV.norm, List.replicate, fillC, fillOb, AV.mkAgg, AV.allD, AV.cells, DV.cells, AV.ren, renL]) ?_ ?_ | (refine st_gef0 ?_ ?_; focus (conv => (lhs; simp [litV, litE, litOb, toDL, AV.toD, AV.norm, List.replicate, fillC, fillOb, AV.mkAgg, AV.allD, AV.cells, DV.cells, AV.ren, renL])); done) | refine sE (by conv => lhs; simp) ?_ | refine Nx.go ?_ | refine st_blke' (by decide) ?_ | refine st_seq ?_ | refine st_blk ?_ | refine st_cond (by conv => lhs; simp) (by conv => lhs; simp [litV, litE, litOb, toDL, AV.toD, AV.norm, List.replicate, fillC, fillOb, AV.mkAgg, AV.allD, AV.cells, DV.cells, AV.ren, renL]) ?_ ?_ ?_ | refine st_lexit ?_) | (intro h_; try simp only [reduceCtorEq, y1, y2, y3, y4, y5, y6, y7, y8, y9, z1, z2, z3, z4, z5, z6, z7, ne_eq] at h_))
    all_goals try (first | contradiction | exact True.intro | omega | rfl | (simp [AV.fits, AV.cells, AV.one, DV.fits, DV.cells, DV.one, DV.conf, confL, DV.conf1]; done) | (simp [AV.fits, AV.cells, AV.one, DV.fits, DV.cells, DV.one, DV.conf, confL, DV.conf1, *] <;> omega))
    refine st_get (by conv => lhs; simp) (st_call (by simp [solidOk]) (by conv => lhs; simp) (Ints26 LB LB (by omega)) (by exact ⟨.inl rfl, .inl rfl, trivial⟩) (pendOk_refl _) ?_)
    repeat' (first | (with_reducible first | refine st_reg ?_ | refine sN (by conv => lhs; simp) ?_ | refine rN ?_ ?_ | refine rO ?_ ?_ | refine rF ?_ ?_ | refine sG (by conv => lhs; simp) ?_ | refine gF ?_ | refine gS rfl (by conv => lhs; simp) ?_ ?_ | (refine st_gef0 ?_ ?_; focus (conv => (lhs; simp)); done) | refine sE (by conv => lhs; simp) ?_ | refine Nx.go ?_ | refine st_blke' (by decide) ?_ | refine st_seq ?_ | refine st_blk ?_ | refine st_cond (by conv => lhs; simp) (by conv => lhs; simp) ?_ ?_ ?_ | refine st_lexit ?_) | (intro h_; try simp only [reduceCtorEq, y1, y2, y3, y4, y5, y6, y7, y8, y9, z1, z2, z3, z4, z5, z6, z7, ne_eq] at h_))
    all_goals try (first | contradiction | exact True.intro | omega | rfl | (simp [AV.fits, AV.cells, AV.one, DV.fits, DV.cells, DV.one, DV.conf, confL, DV.conf1]; done) | (simp [AV.fits, AV.cells, AV.one, DV.fits, DV.cells, DV.one, DV.conf, confL, DV.conf1, *] <;> omega))
    exact atEnd_pure ⟨trivial, trivial⟩ rfl rfl
end Go.Vm.L
