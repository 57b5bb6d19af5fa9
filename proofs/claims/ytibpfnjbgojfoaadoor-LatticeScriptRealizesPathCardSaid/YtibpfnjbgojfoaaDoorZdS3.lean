/- Scripts applied: the run of a script that can be applied. -/
import Derived.Test.YtibpfnjbgojfoaaDoorZdS2
set_option linter.all false
set_option maxHeartbeats 8000000
namespace Go.Vm.L
open Go Go.Vm

structure RS where
  at_ : Nat
  out : List Int
  cost : Int
def delAt' (x : Inp) (m : Nat) : Int := (x.cols[m]?.map (·.del)).getD 0
def stepR (x : Inp) (s : RS) (o : Op) : Option RS :=
  if o.kind = 1 then (if s.at_ < x.cols.length ∧ 0 ≤ o.term ∧ o.term < (readAt x s.at_).length ∧ 0 ≤ (readAt x s.at_).getD o.term.toNat 0 then some ⟨s.at_ + 1, s.out ++ [o.term], min (s.cost + (readAt x s.at_).getD o.term.toNat 0) 1099511627776⟩ else none)
  else if o.kind = 2 then (if s.at_ < x.cols.length ∧ o.term = 0 ∧ delAt' x s.at_ < 1099511627776 then some ⟨s.at_ + 1, s.out, min (s.cost + delAt' x s.at_) 1099511627776⟩ else none)
  else if o.kind = 3 then (if 0 ≤ o.term ∧ o.term < x.insert.length then some ⟨s.at_, s.out ++ [o.term], min (s.cost + x.insert.getD o.term.toNat 0) 1099511627776⟩ else none)
  else if o.kind = 4 then (if o.term = 0 ∧ swapB x s.at_ = true then some ⟨s.at_ + 2, s.out ++ [kindAt x (s.at_ + 1)] ++ [kindAt x s.at_], min (s.cost + x.swap) 1099511627776⟩ else none)
  else none
def runR (x : Inp) : List Op → RS → Option RS
  | [], s => some s
  | o :: r, s => (stepR x s o).bind (runR x r)
theorem runR_append (x : Inp) : ∀ (p q : List Op) (s : RS), runR x (p ++ q) s = (runR x p s).bind (runR x q)
  | [], q, s => rfl
  | o :: r, q, s => by
    simp only [List.cons_append, runR]
    cases stepR x s o with
    | none => rfl
    | some s' => exact runR_append x r q s'
theorem stepR_bd {x : Inp} (hx : WF x) {s s' : RS} {o : Op} (h : stepR x s o = some s') (h1 : 0 ≤ s.cost ∧ s.cost ≤ 1099511627776) : (0 ≤ s'.cost ∧ s'.cost ≤ 1099511627776) ∧ s'.out.length ≤ s.out.length + 2 := by
  unfold stepR at h
  split at h
  · split at h
    · cases h; simp only [List.length_append, List.length_singleton]; omega
    · cases h
  · split at h
    · split at h
      · rename_i h2
        cases h
        have hd := hx.cols x.cols[s.at_] (List.getElem_mem h2.1)
        have e : delAt' x s.at_ = x.cols[s.at_].del := by simp [delAt', h2.1]
        simp only; omega
      · cases h
    · split at h
      · split at h
        · rename_i h2
          cases h
          have := getD_bd (P := fun p => 1 ≤ p ∧ p ≤ 60000) (i := o.term.toNat) (by omega) hx.ins
          simp only [List.length_append, List.length_singleton]; omega
        · cases h
      · split at h
        · split at h
          · cases h
            have := hx.swap
            simp only [List.length_append, List.length_singleton]; omega
          · cases h
        · cases h
theorem runR_bd {x : Inp} (hx : WF x) : ∀ (ops : List Op) (s s' : RS), runR x ops s = some s' → 0 ≤ s.cost ∧ s.cost ≤ 1099511627776 → (0 ≤ s'.cost ∧ s'.cost ≤ 1099511627776) ∧ s'.out.length ≤ s.out.length + 2 * ops.length
  | [], s, s', h, h1 => by cases h; exact ⟨h1, by simp⟩
  | o :: r, s, s', h, h1 => by
    simp only [runR] at h
    cases hs : stepR x s o with
    | none => rw [hs] at h; cases h
    | some s1 =>
      rw [hs] at h
      obtain ⟨a, b⟩ := stepR_bd hx hs h1
      obtain ⟨c, d⟩ := runR_bd hx r s1 s' h a
      exact ⟨c, by simp only [List.length_cons]; omega⟩
/-- What carries out an operation. -/
theorem op_fn {x : Inp} (hx : WF x) {s s' : RS} {o : Op} (h : stepR x s o = some s') (hc : 0 ≤ s.cost ∧ s.cost ≤ 1099511627776) (ho : s.out.length < 900000) :
    ∃ kd : Nat, (kd = 1 ∨ kd = 2 ∨ kd = 3 ∨ kd = 4) ∧ o.kind = kd ∧ Fn prog (79 + kd) [.ptr 0 0 0, .d (.int .i64 o.term)] (SH x s.at_ s.out s.cost) (fun r H' => r = .d (.bool true) ∧ SX x s'.at_ s'.out s'.cost H') := by
  have hn := hx.n
  unfold stepR at h
  split at h
  · rename_i hk
    split at h
    · rename_i h2
      cases h
      obtain ⟨h3, h4, h5, h6⟩ := h2
      obtain ⟨t, ht⟩ : ∃ t : Nat, o.term = t := ⟨o.term.toNat, by omega⟩
      have hra : readAt x s.at_ = x.cols[s.at_].read := by simp [readAt, h3]
      have hcol := hx.cols _ (List.getElem_mem h3)
      rw [ht, Int.toNat_natCast] at h6
      rw [ht] at h5
      have htl : t < (x.cols[s.at_]).read.length := by rw [← hra]; omega
      have hp : (readAt x s.at_).getD t 0 = (x.cols[s.at_]).read[t] := by rw [hra]; simp [List.getD_eq_getElem?_getD, htl]
      have hpb := hcol.2.2.2.2.2 _ (List.getElem_mem htl)
      refine ⟨1, .inl rfl, hk, ?_⟩
      have := read80 x s.at_ s.out s.cost t (x.cols[s.at_]) _ h3 rfl htl rfl (by rw [hp] at h6; omega) hc (by omega) (by omega)
      rw [ht, Int.toNat_natCast, hp]
      exact this
    · cases h
  · split at h
    · rename_i hk
      split at h
      · rename_i h2
        cases h
        obtain ⟨h3, h4, h5⟩ := h2
        have e : delAt' x s.at_ = x.cols[s.at_].del := by simp [delAt', h3]
        have hcol := hx.cols _ (List.getElem_mem h3)
        refine ⟨2, .inr (.inl rfl), hk, ?_⟩
        have := remove81 x s.at_ s.out s.cost (x.cols[s.at_]) h3 rfl (by rw [e] at h5; omega) hc (by omega) (by omega)
        rw [h4, e]
        exact this
      · cases h
    · split at h
      · rename_i hk
        split at h
        · rename_i h2
          cases h
          obtain ⟨t, ht⟩ : ∃ t : Nat, o.term = t := ⟨o.term.toNat, by omega⟩
          have htl : t < x.insert.length := by omega
          have hpb := hx.ins _ (List.getElem_mem htl)
          have hp : x.insert.getD t 0 = x.insert[t] := by simp [List.getD_eq_getElem?_getD, htl]
          refine ⟨3, .inr (.inr (.inl rfl)), hk, ?_⟩
          have := insert82 x s.at_ s.out s.cost t _ htl rfl (by omega) hc (by omega)
          rw [ht, Int.toNat_natCast, hp]
          exact this
        · cases h
      · split at h
        · rename_i hk
          split at h
          · rename_i h2
            cases h
            have hsw := hx.swap
            refine ⟨4, .inr (.inr (.inr rfl)), hk, ?_⟩
            have := swap83 x s.at_ s.out s.cost h2.2 (by omega) hc (by omega) (by omega)
            rw [h2.1]
            exact this
          · cases h
        · cases h

theorem run31 (x : Inp) (ops : List Op) (sf : RS) (hx : WF x) (hr : runR x ops ⟨0, [], 0⟩ = some sf) (hat : sf.at_ = x.cols.length) (hol : ops.length < 100000) :
    Fn prog 31 [.d (dInp x), .d (.vs (ops.map dOp))] [] (fun r H' => ∃ si oi, si ≠ oi ∧ r = .tup [.ptr si 0 0, .d (.int .i64 0)] ∧ H'.ob si = some (.arr 6 [stV x sf.at_ (.hs oi 0 sf.out.length 1) sf.cost]) ∧ H'.ob oi = some (.arr 1 ((sf.out.map dI).map .d))) := by
  have hn := hx.n
  refine fn_of e31 hm (by rfl) (vs := [.d (dInp x), .d (.vs (ops.map dOp)), .undef, .undef, .undef, .undef, .undef, .undef, .undef, .undef, .undef, .undef, .undef]) rfl ?_
  unfold c31
  repeat' (first | (with_reducible first | refine st_reg ?_ | refine sN (by conv => lhs; simp [litV, litE, litOb, toDL, AV.toD, AV.norm, List.replicate, fillC, fillOb, AV.mkAgg, AV.allD, AV.cells, DV.cells, dInp]) ?_ | refine rN ?_ ?_ | refine rO ?_ ?_ | refine rF ?_ ?_ | refine sG (by conv => lhs; simp [litV, litE, litOb, toDL, AV.toD, AV.norm, List.replicate, fillC, fillOb, AV.mkAgg, AV.allD, AV.cells, DV.cells, dInp]) ?_ | refine gF ?_ | refine gS rfl (by conv => lhs; simp [litV, litE, litOb, toDL, AV.toD, AV.norm, List.replicate, fillC, fillOb, AV.mkAgg, AV.allD, AV.cells, DV.cells, dInp]) ?_ ?_ | (refine st_gef0 ?_ ?_; focus (conv => (lhs; simp [litV, litE, litOb, toDL, AV.toD, AV.norm, List.replicate, fillC, fillOb, AV.mkAgg, AV.allD, AV.cells, DV.cells, dInp])); done) | refine sE (by conv => lhs; simp) ?_ | refine Nx.go ?_ | refine st_blke' (by decide) ?_ | refine st_seq ?_ | refine st_blk ?_ | refine st_cond (by conv => lhs; simp) (by conv => lhs; simp [litV, litE, litOb, toDL, AV.toD, AV.norm, List.replicate, fillC, fillOb, AV.mkAgg, AV.allD, AV.cells, DV.cells, dInp]) ?_ ?_ ?_ | refine st_lexit ?_) | (intro h_; try simp only [reduceCtorEq, y1, y2, y3, y4, y5, y6, y7, y8, y9, z1, z2, z3, z4, z5, z6, z7, ne_eq] at h_))
  all_goals try (first | contradiction | exact True.intro | omega | rfl | (simp [AV.fits, AV.cells, AV.one, DV.fits, DV.cells, DV.one, DV.conf, confL, DV.conf1]; done) | (simp [AV.fits, AV.cells, AV.one, DV.fits, DV.cells, DV.one, DV.conf, confL, DV.conf1, *] <;> omega))
  have hg0 := Gh.nilCell (xs := [.d (dInp x), .d (.vs (ops.map dOp)), .ptr 0 0 0, .d .nilp, .d (.int .i64 0), .ptr 1 0 0, .undef, .d (.vs (ops.map dOp)), .d (.int .i64 ops.length), .d (.int .i64 (0 : Nat)), .undef, .undef, .undef]) (H := [some (.arr 3 [.d (dInp x)]), some (.arr 6 [.agg [.d (.vs (x.cols.map dCol)), .d (.vs (x.insert.map dI)), .d (.int .i64 x.swap), .d (.int .i64 0), .nils, .d (.int .i64 0)]])]) (id := 1) (k := 4) (sz := 1) rfl rfl
  refine wpC_loop (fun s => ∃ (k : Nat) (H : Heap) (oi : Nat) (s1 : RS) (v6 v10 v11 : AV), k ≤ ops.length ∧ runR x (ops.take k) ⟨0, [], 0⟩ = some s1 ∧ s = ⟨[.d (dInp x), .d (.vs (ops.map dOp)), .ptr 0 0 0, .d .nilp, .d (.int .i64 0), .ptr 1 0 0, v6, .d (.vs (ops.map dOp)), .d (.int .i64 ops.length), .d (.int .i64 k), v10, v11, .undef], H⟩ ∧
      H.ob 0 = some (.arr 3 [.d (dInp x)]) ∧ H.ob 1 = some (.arr 6 [stV x s1.at_ (.hs oi 0 s1.out.length 1) s1.cost]) ∧ H.ob oi = some (.arr 1 ((s1.out.map dI).map .d)) ∧ 2 ≤ oi)
    (fun s => ops.length - (s.int 9).toNat)
    (Gh.trans (Gh.weak (ys := [.d (dInp x), .d (.vs (ops.map dOp)), .ptr 0 0 0, .d .nilp, .d (.int .i64 0), .ptr 1 0 0, .undef, .d (.vs (ops.map dOp)), .d (.int .i64 ops.length), .d (.int .i64 (0 : Nat)), .undef, .undef, .undef]) (by simp [weak])) hg0) ⟨0, _, 2, ⟨0, [], 0⟩, _, _, _, by omega, rfl, rfl, rfl, rfl, rfl, by omega⟩ ?_
  rintro _ ⟨k, H, oi, s1, v6, v10, v11, hk, hrk, rfl, h0, h1, h2, ho2⟩
  obtain ⟨hcb, hob⟩ := runR_bd hx _ _ _ hrk (by simp)
  have hob2 : s1.out.length < 900000 := by simp at hob; omega
  have hw : IntKind.i64.wrap ((k : Int) + 1) = ((k + 1 : Nat) : Int) := by rw [wrap64 (by omega) (by omega)]; simp
  have l1 := ob_lt h1
  have l2 := ob_lt h2
  rcases Nat.lt_or_ge k ops.length with hlt | hlt
  · obtain ⟨o, hoe⟩ : ∃ o, o = ops[k] := ⟨_, rfl⟩
    have hall : runR x ops ⟨0, [], 0⟩ = (stepR x s1 o).bind (runR x (ops.drop (k + 1))) := by
      conv => lhs; rw [← List.take_append_drop k ops, runR_append, hrk, List.drop_eq_getElem_cons hlt]
      rw [hoe]; rfl
    rw [hr] at hall
    cases hs : stepR x s1 o with
    | none => rw [hs] at hall; cases hall
    | some s2 =>
    have hnx : runR x (ops.take (k + 1)) ⟨0, [], 0⟩ = some s2 := by
      rw [List.take_add_one, List.getElem?_eq_getElem hlt, runR_append, hrk, ← hoe]
      simp [runR, hs]
    obtain ⟨kd, hkd, hok, hfn⟩ := op_fn hx hs hcb hob2
    clear hall hs
    obtain ⟨ok, ot⟩ := o
    simp only at hok hfn
    subst hok
    rcases hkd with rfl | rfl | rfl | rfl
    · skip
      repeat' (first | (with_reducible first | refine st_reg ?_ | refine sN (by conv => lhs; simp [litV, litE, litOb, toDL, AV.toD, AV.norm, List.replicate, fillC, fillOb, AV.mkAgg, AV.allD, AV.cells, DV.cells, getD_map_lt, hlt, dOp, ← hoe]) ?_ | refine rN ?_ ?_ | refine rO ?_ ?_ | refine rF ?_ ?_ | refine sG (by conv => lhs; simp [litV, litE, litOb, toDL, AV.toD, AV.norm, List.replicate, fillC, fillOb, AV.mkAgg, AV.allD, AV.cells, DV.cells, getD_map_lt, hlt, dOp, ← hoe]) ?_ | refine gF ?_ | refine gS rfl (by conv => lhs; simp [litV, litE, litOb, toDL, AV.toD, AV.norm, List.replicate, fillC, fillOb, AV.mkAgg, AV.allD, AV.cells, DV.cells, getD_map_lt, hlt, dOp, ← hoe]) ?_ ?_ | (refine st_gef0 ?_ ?_; focus (conv => (lhs; simp [litV, litE, litOb, toDL, AV.toD, AV.norm, List.replicate, fillC, fillOb, AV.mkAgg, AV.allD, AV.cells, DV.cells, getD_map_lt, hlt, dOp, ← hoe])); done) | refine sE (by conv => lhs; simp) ?_ | refine Nx.go ?_ | refine st_blke' (by decide) ?_ | refine st_seq ?_ | refine st_blk ?_ | refine st_cond (by conv => lhs; simp) (by conv => lhs; simp [litV, litE, litOb, toDL, AV.toD, AV.norm, List.replicate, fillC, fillOb, AV.mkAgg, AV.allD, AV.cells, DV.cells, getD_map_lt, hlt, dOp, ← hoe]) ?_ ?_ ?_ | refine st_lexit ?_) | (intro h_; try simp only [reduceCtorEq, y1, y2, y3, y4, y5, y6, y7, y8, y9, z1, z2, z3, z4, z5, z6, z7, ne_eq] at h_))
      all_goals try (first | contradiction | exact True.intro | omega | rfl | (simp [AV.fits, AV.cells, AV.one, DV.fits, DV.cells, DV.one, DV.conf, confL, DV.conf1]; done) | (simp [AV.fits, AV.cells, AV.one, DV.fits, DV.cells, DV.one, DV.conf, confL, DV.conf1, *] <;> omega))
      refine st_e (stA_store ⟨by simp, trivial⟩ (by conv => lhs; simp) (by conv => lhs; simp) (arrOf_ob ob_new) (by simp) (by simp [AV.fits, DV.fits, DV.cells, DV.one]) updA_whole (by simp [AV.fits, DV.fits, DV.cells, DV.one]) (fun H3 hW => ⟨trivial, ?_⟩))
      have l3 := hW.len
      simp at l3
      have q0 := hW.ob' (by omega) (ob_old h0)
      have q1 := hW.ob' (by omega) (ob_old h1)
      have q2 := hW.ob' (by omega) (ob_old h2)
      have qc := hW.self
      simp only [List.set_cons_zero] at qc
      clear hW
      repeat' (first | (with_reducible first | refine st_reg ?_ | refine sN (by conv => lhs; simp [litV, litE, litOb, toDL, AV.toD, AV.norm, List.replicate, fillC, fillOb, AV.mkAgg, AV.allD, AV.cells, DV.cells, qc]) ?_ | refine rN ?_ ?_ | refine rO ?_ ?_ | refine rF ?_ ?_ | refine sG (by conv => lhs; simp [litV, litE, litOb, toDL, AV.toD, AV.norm, List.replicate, fillC, fillOb, AV.mkAgg, AV.allD, AV.cells, DV.cells, qc]) ?_ | refine gF ?_ | refine gS rfl (by conv => lhs; simp [litV, litE, litOb, toDL, AV.toD, AV.norm, List.replicate, fillC, fillOb, AV.mkAgg, AV.allD, AV.cells, DV.cells, qc]) ?_ ?_ | (refine st_gef0 ?_ ?_; focus (conv => (lhs; simp [litV, litE, litOb, toDL, AV.toD, AV.norm, List.replicate, fillC, fillOb, AV.mkAgg, AV.allD, AV.cells, DV.cells, qc])); done) | refine sE (by conv => lhs; simp) ?_ | refine Nx.go ?_ | refine st_blke' (by decide) ?_ | refine st_seq ?_ | refine st_blk ?_ | refine st_cond (by conv => lhs; simp) (by conv => lhs; simp [litV, litE, litOb, toDL, AV.toD, AV.norm, List.replicate, fillC, fillOb, AV.mkAgg, AV.allD, AV.cells, DV.cells, qc]) ?_ ?_ ?_ | refine st_lexit ?_) | (intro h_; try simp only [reduceCtorEq, y1, y2, y3, y4, y5, y6, y7, y8, y9, z1, z2, z3, z4, z5, z6, z7, ne_eq] at h_))
      all_goals try (first | contradiction | exact True.intro | omega | rfl | (simp [AV.fits, AV.cells, AV.one, DV.fits, DV.cells, DV.one, DV.conf, confL, DV.conf1]; done) | (simp [AV.fits, AV.cells, AV.one, DV.fits, DV.cells, DV.one, DV.conf, confL, DV.conf1, *] <;> omega))
      refine st_get (by conv => lhs; simp) (st_callv (f := 80) (by simp [solidOk]) (by conv => lhs; simp) (by kernel_rfl) (stA_call [1, oi] (by simp [solidOk]) (by conv => lhs; simp) hfn (by exact ⟨.inl (by simp [AV.ren, renOf]), .inl rfl, trivial⟩) (hand_SH q1 q2) (by simp; omega) (fun r Hc H4 hr2 hH2 => ?_)))
      obtain ⟨rfl, hsx⟩ := hr2
      obtain ⟨o', g1, g2, g3⟩ := back_SX hH2 hsx
      have g0 := hH2.ob' (j := 0) (by simp; omega) q0
      refine ⟨trivial, ?_⟩
      repeat' (first | (with_reducible first | refine st_reg ?_ | refine sN (by conv => lhs; simp [AV.ren, hw]) ?_ | refine rN ?_ ?_ | refine rO ?_ ?_ | refine rF ?_ ?_ | refine sG (by conv => lhs; simp [AV.ren, hw]) ?_ | refine gF ?_ | refine gS rfl (by conv => lhs; simp [AV.ren, hw]) ?_ ?_ | (refine st_gef0 ?_ ?_; focus (conv => (lhs; simp [AV.ren, hw])); done) | refine sE (by conv => lhs; simp) ?_ | refine Nx.go ?_ | refine st_blke' (by decide) ?_ | refine st_seq ?_ | refine st_blk ?_ | refine st_cond (by conv => lhs; simp) (by conv => lhs; simp [AV.ren, hw]) ?_ ?_ ?_ | refine st_lexit ?_) | (intro h_; try simp only [reduceCtorEq, y1, y2, y3, y4, y5, y6, y7, y8, y9, z1, z2, z3, z4, z5, z6, z7, ne_eq] at h_))
      all_goals try (first | contradiction | exact True.intro | omega | rfl | (simp [AV.fits, AV.cells, AV.one, DV.fits, DV.cells, DV.one, DV.conf, confL, DV.conf1]; done) | (simp [AV.fits, AV.cells, AV.one, DV.fits, DV.cells, DV.one, DV.conf, confL, DV.conf1, *] <;> omega))
      exact st_lnormw (ys := [.d (dInp x), .d (.vs (ops.map dOp)), .ptr 0 0 0, .d .nilp, .d (.int .i64 0), .ptr 1 0 0, .undef, .d (.vs (ops.map dOp)), .d (.int .i64 ops.length), .d (.int .i64 (k + 1 : Nat)), .undef, .undef, .undef]) (by simp [weak])
        ⟨k + 1, H4, o', s2, _, _, _, by omega, hnx, rfl, g0, g1, g2, by rcases g3 with rfl | g3 <;> omega⟩ (by simp [St.int] <;> omega)
    · skip
      repeat' (first | (with_reducible first | refine st_reg ?_ | refine sN (by conv => lhs; simp [litV, litE, litOb, toDL, AV.toD, AV.norm, List.replicate, fillC, fillOb, AV.mkAgg, AV.allD, AV.cells, DV.cells, getD_map_lt, hlt, dOp, ← hoe]) ?_ | refine rN ?_ ?_ | refine rO ?_ ?_ | refine rF ?_ ?_ | refine sG (by conv => lhs; simp [litV, litE, litOb, toDL, AV.toD, AV.norm, List.replicate, fillC, fillOb, AV.mkAgg, AV.allD, AV.cells, DV.cells, getD_map_lt, hlt, dOp, ← hoe]) ?_ | refine gF ?_ | refine gS rfl (by conv => lhs; simp [litV, litE, litOb, toDL, AV.toD, AV.norm, List.replicate, fillC, fillOb, AV.mkAgg, AV.allD, AV.cells, DV.cells, getD_map_lt, hlt, dOp, ← hoe]) ?_ ?_ | (refine st_gef0 ?_ ?_; focus (conv => (lhs; simp [litV, litE, litOb, toDL, AV.toD, AV.norm, List.replicate, fillC, fillOb, AV.mkAgg, AV.allD, AV.cells, DV.cells, getD_map_lt, hlt, dOp, ← hoe])); done) | refine sE (by conv => lhs; simp) ?_ | refine Nx.go ?_ | refine st_blke' (by decide) ?_ | refine st_seq ?_ | refine st_blk ?_ | refine st_cond (by conv => lhs; simp) (by conv => lhs; simp [litV, litE, litOb, toDL, AV.toD, AV.norm, List.replicate, fillC, fillOb, AV.mkAgg, AV.allD, AV.cells, DV.cells, getD_map_lt, hlt, dOp, ← hoe]) ?_ ?_ ?_ | refine st_lexit ?_) | (intro h_; try simp only [reduceCtorEq, y1, y2, y3, y4, y5, y6, y7, y8, y9, z1, z2, z3, z4, z5, z6, z7, ne_eq] at h_))
      all_goals try (first | contradiction | exact True.intro | omega | rfl | (simp [AV.fits, AV.cells, AV.one, DV.fits, DV.cells, DV.one, DV.conf, confL, DV.conf1]; done) | (simp [AV.fits, AV.cells, AV.one, DV.fits, DV.cells, DV.one, DV.conf, confL, DV.conf1, *] <;> omega))
      refine st_e (stA_store ⟨by simp, trivial⟩ (by conv => lhs; simp) (by conv => lhs; simp) (arrOf_ob ob_new) (by simp) (by simp [AV.fits, DV.fits, DV.cells, DV.one]) updA_whole (by simp [AV.fits, DV.fits, DV.cells, DV.one]) (fun H3 hW => ⟨trivial, ?_⟩))
      have l3 := hW.len
      simp at l3
      have q0 := hW.ob' (by omega) (ob_old h0)
      have q1 := hW.ob' (by omega) (ob_old h1)
      have q2 := hW.ob' (by omega) (ob_old h2)
      have qc := hW.self
      simp only [List.set_cons_zero] at qc
      clear hW
      repeat' (first | (with_reducible first | refine st_reg ?_ | refine sN (by conv => lhs; simp [litV, litE, litOb, toDL, AV.toD, AV.norm, List.replicate, fillC, fillOb, AV.mkAgg, AV.allD, AV.cells, DV.cells, qc]) ?_ | refine rN ?_ ?_ | refine rO ?_ ?_ | refine rF ?_ ?_ | refine sG (by conv => lhs; simp [litV, litE, litOb, toDL, AV.toD, AV.norm, List.replicate, fillC, fillOb, AV.mkAgg, AV.allD, AV.cells, DV.cells, qc]) ?_ | refine gF ?_ | refine gS rfl (by conv => lhs; simp [litV, litE, litOb, toDL, AV.toD, AV.norm, List.replicate, fillC, fillOb, AV.mkAgg, AV.allD, AV.cells, DV.cells, qc]) ?_ ?_ | (refine st_gef0 ?_ ?_; focus (conv => (lhs; simp [litV, litE, litOb, toDL, AV.toD, AV.norm, List.replicate, fillC, fillOb, AV.mkAgg, AV.allD, AV.cells, DV.cells, qc])); done) | refine sE (by conv => lhs; simp) ?_ | refine Nx.go ?_ | refine st_blke' (by decide) ?_ | refine st_seq ?_ | refine st_blk ?_ | refine st_cond (by conv => lhs; simp) (by conv => lhs; simp [litV, litE, litOb, toDL, AV.toD, AV.norm, List.replicate, fillC, fillOb, AV.mkAgg, AV.allD, AV.cells, DV.cells, qc]) ?_ ?_ ?_ | refine st_lexit ?_) | (intro h_; try simp only [reduceCtorEq, y1, y2, y3, y4, y5, y6, y7, y8, y9, z1, z2, z3, z4, z5, z6, z7, ne_eq] at h_))
      all_goals try (first | contradiction | exact True.intro | omega | rfl | (simp [AV.fits, AV.cells, AV.one, DV.fits, DV.cells, DV.one, DV.conf, confL, DV.conf1]; done) | (simp [AV.fits, AV.cells, AV.one, DV.fits, DV.cells, DV.one, DV.conf, confL, DV.conf1, *] <;> omega))
      refine st_get (by conv => lhs; simp) (st_callv (f := 81) (by simp [solidOk]) (by conv => lhs; simp) (by kernel_rfl) (stA_call [1, oi] (by simp [solidOk]) (by conv => lhs; simp) hfn (by exact ⟨.inl (by simp [AV.ren, renOf]), .inl rfl, trivial⟩) (hand_SH q1 q2) (by simp; omega) (fun r Hc H4 hr2 hH2 => ?_)))
      obtain ⟨rfl, hsx⟩ := hr2
      obtain ⟨o', g1, g2, g3⟩ := back_SX hH2 hsx
      have g0 := hH2.ob' (j := 0) (by simp; omega) q0
      refine ⟨trivial, ?_⟩
      repeat' (first | (with_reducible first | refine st_reg ?_ | refine sN (by conv => lhs; simp [AV.ren, hw]) ?_ | refine rN ?_ ?_ | refine rO ?_ ?_ | refine rF ?_ ?_ | refine sG (by conv => lhs; simp [AV.ren, hw]) ?_ | refine gF ?_ | refine gS rfl (by conv => lhs; simp [AV.ren, hw]) ?_ ?_ | (refine st_gef0 ?_ ?_; focus (conv => (lhs; simp [AV.ren, hw])); done) | refine sE (by conv => lhs; simp) ?_ | refine Nx.go ?_ | refine st_blke' (by decide) ?_ | refine st_seq ?_ | refine st_blk ?_ | refine st_cond (by conv => lhs; simp) (by conv => lhs; simp [AV.ren, hw]) ?_ ?_ ?_ | refine st_lexit ?_) | (intro h_; try simp only [reduceCtorEq, y1, y2, y3, y4, y5, y6, y7, y8, y9, z1, z2, z3, z4, z5, z6, z7, ne_eq] at h_))
      all_goals try (first | contradiction | exact True.intro | omega | rfl | (simp [AV.fits, AV.cells, AV.one, DV.fits, DV.cells, DV.one, DV.conf, confL, DV.conf1]; done) | (simp [AV.fits, AV.cells, AV.one, DV.fits, DV.cells, DV.one, DV.conf, confL, DV.conf1, *] <;> omega))
      exact st_lnormw (ys := [.d (dInp x), .d (.vs (ops.map dOp)), .ptr 0 0 0, .d .nilp, .d (.int .i64 0), .ptr 1 0 0, .undef, .d (.vs (ops.map dOp)), .d (.int .i64 ops.length), .d (.int .i64 (k + 1 : Nat)), .undef, .undef, .undef]) (by simp [weak])
        ⟨k + 1, H4, o', s2, _, _, _, by omega, hnx, rfl, g0, g1, g2, by rcases g3 with rfl | g3 <;> omega⟩ (by simp [St.int] <;> omega)
    · skip
      repeat' (first | (with_reducible first | refine st_reg ?_ | refine sN (by conv => lhs; simp [litV, litE, litOb, toDL, AV.toD, AV.norm, List.replicate, fillC, fillOb, AV.mkAgg, AV.allD, AV.cells, DV.cells, getD_map_lt, hlt, dOp, ← hoe]) ?_ | refine rN ?_ ?_ | refine rO ?_ ?_ | refine rF ?_ ?_ | refine sG (by conv => lhs; simp [litV, litE, litOb, toDL, AV.toD, AV.norm, List.replicate, fillC, fillOb, AV.mkAgg, AV.allD, AV.cells, DV.cells, getD_map_lt, hlt, dOp, ← hoe]) ?_ | refine gF ?_ | refine gS rfl (by conv => lhs; simp [litV, litE, litOb, toDL, AV.toD, AV.norm, List.replicate, fillC, fillOb, AV.mkAgg, AV.allD, AV.cells, DV.cells, getD_map_lt, hlt, dOp, ← hoe]) ?_ ?_ | (refine st_gef0 ?_ ?_; focus (conv => (lhs; simp [litV, litE, litOb, toDL, AV.toD, AV.norm, List.replicate, fillC, fillOb, AV.mkAgg, AV.allD, AV.cells, DV.cells, getD_map_lt, hlt, dOp, ← hoe])); done) | refine sE (by conv => lhs; simp) ?_ | refine Nx.go ?_ | refine st_blke' (by decide) ?_ | refine st_seq ?_ | refine st_blk ?_ | refine st_cond (by conv => lhs; simp) (by conv => lhs; simp [litV, litE, litOb, toDL, AV.toD, AV.norm, List.replicate, fillC, fillOb, AV.mkAgg, AV.allD, AV.cells, DV.cells, getD_map_lt, hlt, dOp, ← hoe]) ?_ ?_ ?_ | refine st_lexit ?_) | (intro h_; try simp only [reduceCtorEq, y1, y2, y3, y4, y5, y6, y7, y8, y9, z1, z2, z3, z4, z5, z6, z7, ne_eq] at h_))
      all_goals try (first | contradiction | exact True.intro | omega | rfl | (simp [AV.fits, AV.cells, AV.one, DV.fits, DV.cells, DV.one, DV.conf, confL, DV.conf1]; done) | (simp [AV.fits, AV.cells, AV.one, DV.fits, DV.cells, DV.one, DV.conf, confL, DV.conf1, *] <;> omega))
      refine st_e (stA_store ⟨by simp, trivial⟩ (by conv => lhs; simp) (by conv => lhs; simp) (arrOf_ob ob_new) (by simp) (by simp [AV.fits, DV.fits, DV.cells, DV.one]) updA_whole (by simp [AV.fits, DV.fits, DV.cells, DV.one]) (fun H3 hW => ⟨trivial, ?_⟩))
      have l3 := hW.len
      simp at l3
      have q0 := hW.ob' (by omega) (ob_old h0)
      have q1 := hW.ob' (by omega) (ob_old h1)
      have q2 := hW.ob' (by omega) (ob_old h2)
      have qc := hW.self
      simp only [List.set_cons_zero] at qc
      clear hW
      repeat' (first | (with_reducible first | refine st_reg ?_ | refine sN (by conv => lhs; simp [litV, litE, litOb, toDL, AV.toD, AV.norm, List.replicate, fillC, fillOb, AV.mkAgg, AV.allD, AV.cells, DV.cells, qc]) ?_ | refine rN ?_ ?_ | refine rO ?_ ?_ | refine rF ?_ ?_ | refine sG (by conv => lhs; simp [litV, litE, litOb, toDL, AV.toD, AV.norm, List.replicate, fillC, fillOb, AV.mkAgg, AV.allD, AV.cells, DV.cells, qc]) ?_ | refine gF ?_ | refine gS rfl (by conv => lhs; simp [litV, litE, litOb, toDL, AV.toD, AV.norm, List.replicate, fillC, fillOb, AV.mkAgg, AV.allD, AV.cells, DV.cells, qc]) ?_ ?_ | (refine st_gef0 ?_ ?_; focus (conv => (lhs; simp [litV, litE, litOb, toDL, AV.toD, AV.norm, List.replicate, fillC, fillOb, AV.mkAgg, AV.allD, AV.cells, DV.cells, qc])); done) | refine sE (by conv => lhs; simp) ?_ | refine Nx.go ?_ | refine st_blke' (by decide) ?_ | refine st_seq ?_ | refine st_blk ?_ | refine st_cond (by conv => lhs; simp) (by conv => lhs; simp [litV, litE, litOb, toDL, AV.toD, AV.norm, List.replicate, fillC, fillOb, AV.mkAgg, AV.allD, AV.cells, DV.cells, qc]) ?_ ?_ ?_ | refine st_lexit ?_) | (intro h_; try simp only [reduceCtorEq, y1, y2, y3, y4, y5, y6, y7, y8, y9, z1, z2, z3, z4, z5, z6, z7, ne_eq] at h_))
      all_goals try (first | contradiction | exact True.intro | omega | rfl | (simp [AV.fits, AV.cells, AV.one, DV.fits, DV.cells, DV.one, DV.conf, confL, DV.conf1]; done) | (simp [AV.fits, AV.cells, AV.one, DV.fits, DV.cells, DV.one, DV.conf, confL, DV.conf1, *] <;> omega))
      refine st_get (by conv => lhs; simp) (st_callv (f := 82) (by simp [solidOk]) (by conv => lhs; simp) (by kernel_rfl) (stA_call [1, oi] (by simp [solidOk]) (by conv => lhs; simp) hfn (by exact ⟨.inl (by simp [AV.ren, renOf]), .inl rfl, trivial⟩) (hand_SH q1 q2) (by simp; omega) (fun r Hc H4 hr2 hH2 => ?_)))
      obtain ⟨rfl, hsx⟩ := hr2
      obtain ⟨o', g1, g2, g3⟩ := back_SX hH2 hsx
      have g0 := hH2.ob' (j := 0) (by simp; omega) q0
      refine ⟨trivial, ?_⟩
      repeat' (first | (with_reducible first | refine st_reg ?_ | refine sN (by conv => lhs; simp [AV.ren, hw]) ?_ | refine rN ?_ ?_ | refine rO ?_ ?_ | refine rF ?_ ?_ | refine sG (by conv => lhs; simp [AV.ren, hw]) ?_ | refine gF ?_ | refine gS rfl (by conv => lhs; simp [AV.ren, hw]) ?_ ?_ | (refine st_gef0 ?_ ?_; focus (conv => (lhs; simp [AV.ren, hw])); done) | refine sE (by conv => lhs; simp) ?_ | refine Nx.go ?_ | refine st_blke' (by decide) ?_ | refine st_seq ?_ | refine st_blk ?_ | refine st_cond (by conv => lhs; simp) (by conv => lhs; simp [AV.ren, hw]) ?_ ?_ ?_ | refine st_lexit ?_) | (intro h_; try simp only [reduceCtorEq, y1, y2, y3, y4, y5, y6, y7, y8, y9, z1, z2, z3, z4, z5, z6, z7, ne_eq] at h_))
      all_goals try (first | contradiction | exact True.intro | omega | rfl | (simp [AV.fits, AV.cells, AV.one, DV.fits, DV.cells, DV.one, DV.conf, confL, DV.conf1]; done) | (simp [AV.fits, AV.cells, AV.one, DV.fits, DV.cells, DV.one, DV.conf, confL, DV.conf1, *] <;> omega))
      exact st_lnormw (ys := [.d (dInp x), .d (.vs (ops.map dOp)), .ptr 0 0 0, .d .nilp, .d (.int .i64 0), .ptr 1 0 0, .undef, .d (.vs (ops.map dOp)), .d (.int .i64 ops.length), .d (.int .i64 (k + 1 : Nat)), .undef, .undef, .undef]) (by simp [weak])
        ⟨k + 1, H4, o', s2, _, _, _, by omega, hnx, rfl, g0, g1, g2, by rcases g3 with rfl | g3 <;> omega⟩ (by simp [St.int] <;> omega)
    · skip
      repeat' (first | (with_reducible first | refine st_reg ?_ | refine sN (by conv => lhs; simp [litV, litE, litOb, toDL, AV.toD, AV.norm, List.replicate, fillC, fillOb, AV.mkAgg, AV.allD, AV.cells, DV.cells, getD_map_lt, hlt, dOp, ← hoe]) ?_ | refine rN ?_ ?_ | refine rO ?_ ?_ | refine rF ?_ ?_ | refine sG (by conv => lhs; simp [litV, litE, litOb, toDL, AV.toD, AV.norm, List.replicate, fillC, fillOb, AV.mkAgg, AV.allD, AV.cells, DV.cells, getD_map_lt, hlt, dOp, ← hoe]) ?_ | refine gF ?_ | refine gS rfl (by conv => lhs; simp [litV, litE, litOb, toDL, AV.toD, AV.norm, List.replicate, fillC, fillOb, AV.mkAgg, AV.allD, AV.cells, DV.cells, getD_map_lt, hlt, dOp, ← hoe]) ?_ ?_ | (refine st_gef0 ?_ ?_; focus (conv => (lhs; simp [litV, litE, litOb, toDL, AV.toD, AV.norm, List.replicate, fillC, fillOb, AV.mkAgg, AV.allD, AV.cells, DV.cells, getD_map_lt, hlt, dOp, ← hoe])); done) | refine sE (by conv => lhs; simp) ?_ | refine Nx.go ?_ | refine st_blke' (by decide) ?_ | refine st_seq ?_ | refine st_blk ?_ | refine st_cond (by conv => lhs; simp) (by conv => lhs; simp [litV, litE, litOb, toDL, AV.toD, AV.norm, List.replicate, fillC, fillOb, AV.mkAgg, AV.allD, AV.cells, DV.cells, getD_map_lt, hlt, dOp, ← hoe]) ?_ ?_ ?_ | refine st_lexit ?_) | (intro h_; try simp only [reduceCtorEq, y1, y2, y3, y4, y5, y6, y7, y8, y9, z1, z2, z3, z4, z5, z6, z7, ne_eq] at h_))
      all_goals try (first | contradiction | exact True.intro | omega | rfl | (simp [AV.fits, AV.cells, AV.one, DV.fits, DV.cells, DV.one, DV.conf, confL, DV.conf1]; done) | (simp [AV.fits, AV.cells, AV.one, DV.fits, DV.cells, DV.one, DV.conf, confL, DV.conf1, *] <;> omega))
      refine st_e (stA_store ⟨by simp, trivial⟩ (by conv => lhs; simp) (by conv => lhs; simp) (arrOf_ob ob_new) (by simp) (by simp [AV.fits, DV.fits, DV.cells, DV.one]) updA_whole (by simp [AV.fits, DV.fits, DV.cells, DV.one]) (fun H3 hW => ⟨trivial, ?_⟩))
      have l3 := hW.len
      simp at l3
      have q0 := hW.ob' (by omega) (ob_old h0)
      have q1 := hW.ob' (by omega) (ob_old h1)
      have q2 := hW.ob' (by omega) (ob_old h2)
      have qc := hW.self
      simp only [List.set_cons_zero] at qc
      clear hW
      repeat' (first | (with_reducible first | refine st_reg ?_ | refine sN (by conv => lhs; simp [litV, litE, litOb, toDL, AV.toD, AV.norm, List.replicate, fillC, fillOb, AV.mkAgg, AV.allD, AV.cells, DV.cells, qc]) ?_ | refine rN ?_ ?_ | refine rO ?_ ?_ | refine rF ?_ ?_ | refine sG (by conv => lhs; simp [litV, litE, litOb, toDL, AV.toD, AV.norm, List.replicate, fillC, fillOb, AV.mkAgg, AV.allD, AV.cells, DV.cells, qc]) ?_ | refine gF ?_ | refine gS rfl (by conv => lhs; simp [litV, litE, litOb, toDL, AV.toD, AV.norm, List.replicate, fillC, fillOb, AV.mkAgg, AV.allD, AV.cells, DV.cells, qc]) ?_ ?_ | (refine st_gef0 ?_ ?_; focus (conv => (lhs; simp [litV, litE, litOb, toDL, AV.toD, AV.norm, List.replicate, fillC, fillOb, AV.mkAgg, AV.allD, AV.cells, DV.cells, qc])); done) | refine sE (by conv => lhs; simp) ?_ | refine Nx.go ?_ | refine st_blke' (by decide) ?_ | refine st_seq ?_ | refine st_blk ?_ | refine st_cond (by conv => lhs; simp) (by conv => lhs; simp [litV, litE, litOb, toDL, AV.toD, AV.norm, List.replicate, fillC, fillOb, AV.mkAgg, AV.allD, AV.cells, DV.cells, qc]) ?_ ?_ ?_ | refine st_lexit ?_) | (intro h_; try simp only [reduceCtorEq, y1, y2, y3, y4, y5, y6, y7, y8, y9, z1, z2, z3, z4, z5, z6, z7, ne_eq] at h_))
      all_goals try (first | contradiction | exact True.intro | omega | rfl | (simp [AV.fits, AV.cells, AV.one, DV.fits, DV.cells, DV.one, DV.conf, confL, DV.conf1]; done) | (simp [AV.fits, AV.cells, AV.one, DV.fits, DV.cells, DV.one, DV.conf, confL, DV.conf1, *] <;> omega))
      refine st_get (by conv => lhs; simp) (st_callv (f := 83) (by simp [solidOk]) (by conv => lhs; simp) (by kernel_rfl) (stA_call [1, oi] (by simp [solidOk]) (by conv => lhs; simp) hfn (by exact ⟨.inl (by simp [AV.ren, renOf]), .inl rfl, trivial⟩) (hand_SH q1 q2) (by simp; omega) (fun r Hc H4 hr2 hH2 => ?_)))
      obtain ⟨rfl, hsx⟩ := hr2
      obtain ⟨o', g1, g2, g3⟩ := back_SX hH2 hsx
      have g0 := hH2.ob' (j := 0) (by simp; omega) q0
      refine ⟨trivial, ?_⟩
      repeat' (first | (with_reducible first | refine st_reg ?_ | refine sN (by conv => lhs; simp [AV.ren, hw]) ?_ | refine rN ?_ ?_ | refine rO ?_ ?_ | refine rF ?_ ?_ | refine sG (by conv => lhs; simp [AV.ren, hw]) ?_ | refine gF ?_ | refine gS rfl (by conv => lhs; simp [AV.ren, hw]) ?_ ?_ | (refine st_gef0 ?_ ?_; focus (conv => (lhs; simp [AV.ren, hw])); done) | refine sE (by conv => lhs; simp) ?_ | refine Nx.go ?_ | refine st_blke' (by decide) ?_ | refine st_seq ?_ | refine st_blk ?_ | refine st_cond (by conv => lhs; simp) (by conv => lhs; simp [AV.ren, hw]) ?_ ?_ ?_ | refine st_lexit ?_) | (intro h_; try simp only [reduceCtorEq, y1, y2, y3, y4, y5, y6, y7, y8, y9, z1, z2, z3, z4, z5, z6, z7, ne_eq] at h_))
      all_goals try (first | contradiction | exact True.intro | omega | rfl | (simp [AV.fits, AV.cells, AV.one, DV.fits, DV.cells, DV.one, DV.conf, confL, DV.conf1]; done) | (simp [AV.fits, AV.cells, AV.one, DV.fits, DV.cells, DV.one, DV.conf, confL, DV.conf1, *] <;> omega))
      exact st_lnormw (ys := [.d (dInp x), .d (.vs (ops.map dOp)), .ptr 0 0 0, .d .nilp, .d (.int .i64 0), .ptr 1 0 0, .undef, .d (.vs (ops.map dOp)), .d (.int .i64 ops.length), .d (.int .i64 (k + 1 : Nat)), .undef, .undef, .undef]) (by simp [weak])
        ⟨k + 1, H4, o', s2, _, _, _, by omega, hnx, rfl, g0, g1, g2, by rcases g3 with rfl | g3 <;> omega⟩ (by simp [St.int] <;> omega)
  · have hkn : k = ops.length := by omega
    rw [hkn, List.take_length, hr] at hrk
    cases hrk
    have h0' := h0
    simp only [dInp] at h0'
    have h1' := h1
    simp only [stV] at h1'
    have hb : ((sf.at_ : Int) != (x.cols.length : Int)) = false := by simp; omega
    repeat' (first | (with_reducible first | refine st_reg ?_ | refine sN (by conv => lhs; simp [litV, litE, litOb, toDL, AV.toD, AV.norm, List.replicate, fillC, fillOb, AV.mkAgg, AV.allD, AV.cells, DV.cells, hlt, h1', h0', hb]) ?_ | refine rN ?_ ?_ | refine rO ?_ ?_ | refine rF ?_ ?_ | refine sG (by conv => lhs; simp [litV, litE, litOb, toDL, AV.toD, AV.norm, List.replicate, fillC, fillOb, AV.mkAgg, AV.allD, AV.cells, DV.cells, hlt, h1', h0', hb]) ?_ | refine gF ?_ | refine gS rfl (by conv => lhs; simp [litV, litE, litOb, toDL, AV.toD, AV.norm, List.replicate, fillC, fillOb, AV.mkAgg, AV.allD, AV.cells, DV.cells, hlt, h1', h0', hb]) ?_ ?_ | (refine st_gef0 ?_ ?_; focus (conv => (lhs; simp [litV, litE, litOb, toDL, AV.toD, AV.norm, List.replicate, fillC, fillOb, AV.mkAgg, AV.allD, AV.cells, DV.cells, hlt, h1', h0', hb])); done) | refine sE (by conv => lhs; simp) ?_ | refine Nx.go ?_ | refine st_blke' (by decide) ?_ | refine st_seq ?_ | refine st_blk ?_ | refine st_cond (by conv => lhs; simp) (by conv => lhs; simp [litV, litE, litOb, toDL, AV.toD, AV.norm, List.replicate, fillC, fillOb, AV.mkAgg, AV.allD, AV.cells, DV.cells, hlt, h1', h0', hb]) ?_ ?_ ?_ | refine st_lexit ?_) | (intro h_; try simp only [reduceCtorEq, y1, y2, y3, y4, y5, y6, y7, y8, y9, z1, z2, z3, z4, z5, z6, z7, ne_eq] at h_))
    all_goals try (first | contradiction | exact True.intro | omega | rfl | (simp [AV.fits, AV.cells, AV.one, DV.fits, DV.cells, DV.one, DV.conf, confL, DV.conf1]; done) | (simp [AV.fits, AV.cells, AV.one, DV.fits, DV.cells, DV.one, DV.conf, confL, DV.conf1, *] <;> omega))
    have hln : (keepH [1, oi] H).length = H.length := by simp [keepH]
    refine atEnd_Hr (s' := ⟨_, keepH [1, oi] H⟩) H.length (Gh.keep [1, oi]) ⟨trivial, trivial, trivial⟩ (by simp) (by rw [hln]; exact Nat.le_refl _) ?_ ?_ ⟨1, oi, by omega, rfl, ?_, ?_⟩
    · intro i o hi hoo
      obtain ⟨hm, hg⟩ := keepH_some hoo
      simp only [List.mem_cons, List.not_mem_nil, or_false] at hm
      rcases hm with rfl | rfl
      · rw [ob_get h1] at hg; cases hg
        simp [Ob.und, undL, AV.und, l2]
      · rw [ob_get h2] at hg; cases hg
        exact undL_data _
    · show AV.und H.length (.tup [.ptr 1 0 0, .d (.int .i64 0)]) = true
      simp [AV.und, undL, l1]
    · rw [← hln, List.take_length, keepH_ob (by simp)]; exact h1
    · rw [← hln, List.take_length, keepH_ob (by simp)]; exact h2
end Go.Vm.L
