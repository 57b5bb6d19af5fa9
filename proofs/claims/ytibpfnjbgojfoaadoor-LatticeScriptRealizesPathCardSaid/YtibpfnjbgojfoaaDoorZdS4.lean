/- Scripts applied: what is emitted, what it costs; a walk through a lattice. -/
import Derived.Test.YtibpfnjbgojfoaaDoorZdS3
import Derived.Test.YtibpfnjbgojfoaaDoorZdO
set_option linter.all false
set_option maxHeartbeats 8000000
namespace Go.Vm.L
open Go Go.Vm

theorem back_run {H Hc' H' : Heap} {x : Inp} {at_ : Nat} {out : List Int} {cost : Int} {si oi : Nat} (hc : CallH [] H Hc' H') (h0 : Hc'.ob si = some (.arr 6 [stV x at_ (.hs oi 0 out.length 1) cost])) (h1 : Hc'.ob oi = some (.arr 1 ((out.map dI).map .d))) :
    H'.ob (H.length + si) = some (.arr 6 [stV x at_ (.hs (H.length + oi) 0 out.length 1) cost]) ∧ H'.ob (H.length + oi) = some (.arr 1 ((out.map dI).map .d)) := by
  have e : ∀ i, renOf [] H.length i = H.length + i := fun i => by simp [renOf]
  constructor
  · have := hc.new si _ (by rw [show ([] : List Nat).length + si = si from Nat.zero_add si]; exact ob_get h0)
    rw [this]; simp [Ob.ren, AV.ren, renL, e]
  · have := hc.new oi (.arr 1 ((out.map dI).map .d)) (by rw [show ([] : List Nat).length + oi = oi from Nat.zero_add oi]; exact ob_get h1)
    rw [this, ren_data]
theorem Apply12 (x : Inp) (ops : List Op) (sf : RS) (hx : WF x) (hr : runR x ops ⟨0, [], 0⟩ = some sf) (hat : sf.at_ = x.cols.length) (hol : ops.length < 100000) :
    Fn prog 12 [.d (dInp x), .d (.vs (ops.map dOp))] [] (fun r H' => r = .tup [.d (.vs (sf.out.map dI)), .d (.int .i64 0)] ∧ H' = []) := by
  refine fn_of e12 hm (by rfl) (vs := [.d (dInp x), .d (.vs (ops.map dOp)), .undef, .undef, .undef, .undef, .undef, .undef]) rfl ?_
  unfold c12
  repeat' (first | (with_reducible first | refine st_reg ?_ | refine sN (by conv => lhs; simp [litV, litE, litOb, toDL, AV.toD, AV.norm, List.replicate, fillC, fillOb, AV.mkAgg, AV.allD, AV.cells, DV.cells, dInp]) ?_ | refine rN ?_ ?_ | refine rO ?_ ?_ | refine rF ?_ ?_ | refine sG (by conv => lhs; simp [litV, litE, litOb, toDL, AV.toD, AV.norm, List.replicate, fillC, fillOb, AV.mkAgg, AV.allD, AV.cells, DV.cells, dInp]) ?_ | refine gF ?_ | refine gS rfl (by conv => lhs; simp [litV, litE, litOb, toDL, AV.toD, AV.norm, List.replicate, fillC, fillOb, AV.mkAgg, AV.allD, AV.cells, DV.cells, dInp]) ?_ ?_ | (refine st_gef0 ?_ ?_; focus (conv => (lhs; simp [litV, litE, litOb, toDL, AV.toD, AV.norm, List.replicate, fillC, fillOb, AV.mkAgg, AV.allD, AV.cells, DV.cells, dInp])); done) | refine sE (by conv => lhs; simp) ?_ | refine Nx.go ?_ | refine st_blke' (by decide) ?_ | refine st_seq ?_ | refine st_blk ?_ | refine st_cond (by conv => lhs; simp) (by conv => lhs; simp [litV, litE, litOb, toDL, AV.toD, AV.norm, List.replicate, fillC, fillOb, AV.mkAgg, AV.allD, AV.cells, DV.cells, dInp]) ?_ ?_ ?_ | refine st_lexit ?_) | (intro h_; try simp only [reduceCtorEq, y1, y2, y3, y4, y5, y6, y7, y8, y9, z1, z2, z3, z4, z5, z6, z7, ne_eq] at h_))
  all_goals try (first | contradiction | exact True.intro | omega | rfl | (simp [AV.fits, AV.cells, AV.one, DV.fits, DV.cells, DV.one, DV.conf, confL, DV.conf1]; done) | (simp [AV.fits, AV.cells, AV.one, DV.fits, DV.cells, DV.one, DV.conf, confL, DV.conf1, *] <;> omega))
  refine st_e (stA_call [] (by simp [solidOk]) (by conv => lhs; simp) (run31 x ops sf hx hr hat hol) (by exact ⟨.inl rfl, .inl rfl, trivial⟩) trivial List.nodup_nil (fun r Hc H1 hr2 hH => ⟨trivial, ?_⟩))
  obtain ⟨si, oi, hne, rfl, h0, h1⟩ := hr2
  obtain ⟨g0, g1⟩ := back_run hH h0 h1
  clear hH
  have g0' := g0
  simp only [stV] at g0'
  obtain ⟨s2, hs2⟩ : ∃ s2, s2 = renOf [] (List.length [some (Ob.arr 3 [AV.d (dInp x)])]) si := ⟨_, rfl⟩
  have e2 : ([some (Ob.arr 3 [AV.d (dInp x)])] : Heap).length + si = s2 := by rw [hs2]; simp [renOf]
  have er : (AV.tup [.ptr si 0 0, .d (.int .i64 0)]).ren (renOf [] (List.length [some (Ob.arr 3 [AV.d (dInp x)])])) = .tup [.ptr s2 0 0, .d (.int .i64 0)] := by rw [hs2]; simp [AV.ren, renL]
  simp only [List.length_cons, List.length_nil] at g0' g1 e2 er
  rw [e2] at g0'
  rw [show (List.length [some (Ob.arr 3 [AV.d (DV.agg [DV.vs (List.map dCol x.cols), DV.vs (List.map dI x.insert), DV.int IntKind.i64 x.swap])])]) = 0 + 1 from rfl, er]
  clear hs2 e2 er
  repeat' (first | (with_reducible first | refine st_reg ?_ | refine sN (by conv => lhs; simp [litV, litE, litOb, toDL, AV.toD, AV.norm, List.replicate, fillC, fillOb, AV.mkAgg, AV.allD, AV.cells, DV.cells, g0']) ?_ | refine rN ?_ ?_ | refine rO ?_ ?_ | refine rF ?_ ?_ | refine sG (by conv => lhs; simp [litV, litE, litOb, toDL, AV.toD, AV.norm, List.replicate, fillC, fillOb, AV.mkAgg, AV.allD, AV.cells, DV.cells, g0']) ?_ | refine gF ?_ | refine gS rfl (by conv => lhs; simp [litV, litE, litOb, toDL, AV.toD, AV.norm, List.replicate, fillC, fillOb, AV.mkAgg, AV.allD, AV.cells, DV.cells, g0']) ?_ ?_ | (refine st_gef0 ?_ ?_; focus (conv => (lhs; simp [litV, litE, litOb, toDL, AV.toD, AV.norm, List.replicate, fillC, fillOb, AV.mkAgg, AV.allD, AV.cells, DV.cells, g0'])); done) | refine sE (by conv => lhs; simp) ?_ | refine Nx.go ?_ | refine st_blke' (by decide) ?_ | refine st_seq ?_ | refine st_blk ?_ | refine st_cond (by conv => lhs; simp) (by conv => lhs; simp [litV, litE, litOb, toDL, AV.toD, AV.norm, List.replicate, fillC, fillOb, AV.mkAgg, AV.allD, AV.cells, DV.cells, g0']) ?_ ?_ ?_ | refine st_lexit ?_) | (intro h_; try simp only [reduceCtorEq, y1, y2, y3, y4, y5, y6, y7, y8, y9, z1, z2, z3, z4, z5, z6, z7, ne_eq] at h_))
  all_goals try (first | contradiction | exact True.intro | omega | rfl | (simp [AV.fits, AV.cells, AV.one, DV.fits, DV.cells, DV.one, DV.conf, confL, DV.conf1]; done) | (simp [AV.fits, AV.cells, AV.one, DV.fits, DV.cells, DV.one, DV.conf, confL, DV.conf1, *] <;> omega))
  exact atEnd_own2 (v := 3) (u := 4) rfl (.inr ⟨_, by simp, g1⟩) rfl (by omega)
theorem Cost13 (x : Inp) (ops : List Op) (sf : RS) (hx : WF x) (hr : runR x ops ⟨0, [], 0⟩ = some sf) (hat : sf.at_ = x.cols.length) (hol : ops.length < 100000) :
    Fn prog 13 [.d (dInp x), .d (.vs (ops.map dOp))] [] (fun r H' => r = .tup [.d (.int .i64 sf.cost), .d (.int .i64 0)] ∧ H' = []) := by
  refine fn_of e13 hm (by rfl) (vs := [.d (dInp x), .d (.vs (ops.map dOp)), .undef, .undef, .undef, .undef, .undef, .undef]) rfl ?_
  unfold c13
  repeat' (first | (with_reducible first | refine st_reg ?_ | refine sN (by conv => lhs; simp [litV, litE, litOb, toDL, AV.toD, AV.norm, List.replicate, fillC, fillOb, AV.mkAgg, AV.allD, AV.cells, DV.cells, dInp]) ?_ | refine rN ?_ ?_ | refine rO ?_ ?_ | refine rF ?_ ?_ | refine sG (by conv => lhs; simp [litV, litE, litOb, toDL, AV.toD, AV.norm, List.replicate, fillC, fillOb, AV.mkAgg, AV.allD, AV.cells, DV.cells, dInp]) ?_ | refine gF ?_ | refine gS rfl (by conv => lhs; simp [litV, litE, litOb, toDL, AV.toD, AV.norm, List.replicate, fillC, fillOb, AV.mkAgg, AV.allD, AV.cells, DV.cells, dInp]) ?_ ?_ | (refine st_gef0 ?_ ?_; focus (conv => (lhs; simp [litV, litE, litOb, toDL, AV.toD, AV.norm, List.replicate, fillC, fillOb, AV.mkAgg, AV.allD, AV.cells, DV.cells, dInp])); done) | refine sE (by conv => lhs; simp) ?_ | refine Nx.go ?_ | refine st_blke' (by decide) ?_ | refine st_seq ?_ | refine st_blk ?_ | refine st_cond (by conv => lhs; simp) (by conv => lhs; simp [litV, litE, litOb, toDL, AV.toD, AV.norm, List.replicate, fillC, fillOb, AV.mkAgg, AV.allD, AV.cells, DV.cells, dInp]) ?_ ?_ ?_ | refine st_lexit ?_) | (intro h_; try simp only [reduceCtorEq, y1, y2, y3, y4, y5, y6, y7, y8, y9, z1, z2, z3, z4, z5, z6, z7, ne_eq] at h_))
  all_goals try (first | contradiction | exact True.intro | omega | rfl | (simp [AV.fits, AV.cells, AV.one, DV.fits, DV.cells, DV.one, DV.conf, confL, DV.conf1]; done) | (simp [AV.fits, AV.cells, AV.one, DV.fits, DV.cells, DV.one, DV.conf, confL, DV.conf1, *] <;> omega))
  refine st_e (stA_call [] (by simp [solidOk]) (by conv => lhs; simp) (run31 x ops sf hx hr hat hol) (by exact ⟨.inl rfl, .inl rfl, trivial⟩) trivial List.nodup_nil (fun r Hc H1 hr2 hH => ⟨trivial, ?_⟩))
  obtain ⟨si, oi, hne, rfl, h0, h1⟩ := hr2
  obtain ⟨g0, g1⟩ := back_run hH h0 h1
  clear hH
  have g0' := g0
  simp only [stV] at g0'
  obtain ⟨s2, hs2⟩ : ∃ s2, s2 = renOf [] (List.length [some (Ob.arr 3 [AV.d (dInp x)])]) si := ⟨_, rfl⟩
  have e2 : ([some (Ob.arr 3 [AV.d (dInp x)])] : Heap).length + si = s2 := by rw [hs2]; simp [renOf]
  have er : (AV.tup [.ptr si 0 0, .d (.int .i64 0)]).ren (renOf [] (List.length [some (Ob.arr 3 [AV.d (dInp x)])])) = .tup [.ptr s2 0 0, .d (.int .i64 0)] := by rw [hs2]; simp [AV.ren, renL]
  simp only [List.length_cons, List.length_nil] at g0' g1 e2 er
  rw [e2] at g0'
  rw [show (List.length [some (Ob.arr 3 [AV.d (DV.agg [DV.vs (List.map dCol x.cols), DV.vs (List.map dI x.insert), DV.int IntKind.i64 x.swap])])]) = 0 + 1 from rfl, er]
  clear hs2 e2 er
  repeat' (first | (with_reducible first | refine st_reg ?_ | refine sN (by conv => lhs; simp [litV, litE, litOb, toDL, AV.toD, AV.norm, List.replicate, fillC, fillOb, AV.mkAgg, AV.allD, AV.cells, DV.cells, g0']) ?_ | refine rN ?_ ?_ | refine rO ?_ ?_ | refine rF ?_ ?_ | refine sG (by conv => lhs; simp [litV, litE, litOb, toDL, AV.toD, AV.norm, List.replicate, fillC, fillOb, AV.mkAgg, AV.allD, AV.cells, DV.cells, g0']) ?_ | refine gF ?_ | refine gS rfl (by conv => lhs; simp [litV, litE, litOb, toDL, AV.toD, AV.norm, List.replicate, fillC, fillOb, AV.mkAgg, AV.allD, AV.cells, DV.cells, g0']) ?_ ?_ | (refine st_gef0 ?_ ?_; focus (conv => (lhs; simp [litV, litE, litOb, toDL, AV.toD, AV.norm, List.replicate, fillC, fillOb, AV.mkAgg, AV.allD, AV.cells, DV.cells, g0'])); done) | refine sE (by conv => lhs; simp) ?_ | refine Nx.go ?_ | refine st_blke' (by decide) ?_ | refine st_seq ?_ | refine st_blk ?_ | refine st_cond (by conv => lhs; simp) (by conv => lhs; simp [litV, litE, litOb, toDL, AV.toD, AV.norm, List.replicate, fillC, fillOb, AV.mkAgg, AV.allD, AV.cells, DV.cells, g0']) ?_ ?_ ?_ | refine st_lexit ?_) | (intro h_; try simp only [reduceCtorEq, y1, y2, y3, y4, y5, y6, y7, y8, y9, z1, z2, z3, z4, z5, z6, z7, ne_eq] at h_))
  all_goals try (first | contradiction | exact True.intro | omega | rfl | (simp [AV.fits, AV.cells, AV.one, DV.fits, DV.cells, DV.one, DV.conf, confL, DV.conf1]; done) | (simp [AV.fits, AV.cells, AV.one, DV.fits, DV.cells, DV.one, DV.conf, confL, DV.conf1, *] <;> omega))
  refine atEnd_Hr 0 (Gh.refl _) ⟨trivial, trivial, trivial⟩ (by simp) (by omega) (fun i o hi _ => absurd hi (Nat.not_lt_zero _)) rfl ⟨rfl, rfl⟩
end Go.Vm.L
