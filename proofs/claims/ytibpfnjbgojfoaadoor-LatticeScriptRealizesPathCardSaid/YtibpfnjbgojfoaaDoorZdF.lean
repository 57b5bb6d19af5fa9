/- Lattice: put. -/
import Derived.Test.YtibpfnjbgojfoaaDoorZdE
set_option linter.all false
set_option maxHeartbeats 4000000
namespace Go.Vm.L
open Go Go.Vm
def putStep (a : Arc) (s : Bool × List Arc) (x : Arc) : Bool × List Arc :=
  if s.1 = false ∧ x.frm = a.frm ∧ x.to = a.to ∧ x.term = a.term then
    (if a.cost < x.cost then (true, s.2 ++ [a]) else (true, s.2 ++ [x]))
  else if s.1 = false ∧ beforeB a x = true then (true, s.2 ++ [a] ++ [x]) else (s.1, s.2 ++ [x])
def putL (l : List Arc) (a : Arc) : List Arc := if a.cost ≥ 1099511627776 then l else
  if (l.foldl (putStep a) (false, [])).1 then (l.foldl (putStep a) (false, [])).2 else (l.foldl (putStep a) (false, [])).2 ++ [a]

theorem put35 (l : List Arc) (a : Arc) (hb : l.length < 1000000) : Pure prog 27 [.d (.vs (l.map dArc)), .d (dArc a)] (.d (.vs ((putL l a).map dArc))) := by
  refine fn_of e27 hm (by rfl) (vs := [.d (.vs (l.map dArc)), .d (dArc a), .undef, .undef, .undef, .undef, .undef, .undef, .undef, .undef, .undef, .undef, .undef]) rfl ?_
  unfold c27
  repeat' (first | (with_reducible first | refine st_reg ?_ | refine sN (by conv => lhs; simp [dArc]) ?_ | refine rN ?_ ?_ | refine rO ?_ ?_ | refine rF ?_ ?_ | refine sG (by conv => lhs; simp [dArc]) ?_ | refine gF ?_ | refine gS rfl (by conv => lhs; simp [dArc]) ?_ ?_ | (refine st_gef0 ?_ ?_; focus (conv => (lhs; simp [dArc])); done) | refine sE (by conv => lhs; simp) ?_ | refine Nx.go ?_ | refine st_blke' (by decide) ?_ | refine st_seq ?_ | refine st_blk ?_ | refine st_cond (by conv => lhs; simp) (by conv => lhs; simp [dArc]) ?_ ?_ ?_ | refine st_lexit ?_) | (intro h_; try simp only [reduceCtorEq, y1, y2, y3, y4, y5, y6, y7, y8, y9, z1, z2, z3, z4, z5, z6, z7, ne_eq] at h_))
  all_goals try (first | contradiction | exact True.intro | omega | rfl | (simp [AV.fits, AV.cells, AV.one, DV.fits, DV.cells, DV.one, DV.conf, confL, DV.conf1]; done) | (simp [AV.fits, AV.cells, AV.one, DV.fits, DV.cells, DV.one, DV.conf, confL, DV.conf1, *] <;> omega))
  · refine atEnd_pure ⟨trivial, trivial⟩ ?_ rfl
    show AV.d (DV.vs _) = _
    rw [putL, if_pos (by omega)]
  · refine wpC_loop (fun s => ∃ (i id : Nat) (H : Heap) (done : Bool) (out : List Arc), i ≤ l.length ∧ (l.take i).foldl (putStep a) (false, []) = (done, out) ∧ out.length ≤ 2 * i ∧
        s = ⟨[.d (.vs (l.map dArc)), .d (dArc a), .ptr 0 0 0, .nils, .hs id 0 out.length 5, .d (.bool done), .d (.int .i64 i), .undef, .undef, .undef, .undef, .undef, .undef], H⟩ ∧
        H.ob 0 = some (.arr 5 [.d (dArc a)]) ∧ id ≠ 0 ∧ H.ob id = some (.arr 5 ((out.map dArc).map .d)))
      (fun s => l.length - (s.int 6).toNat)
      (s' := ⟨[.d (.vs (l.map dArc)), .d (dArc a), .ptr 0 0 0, .nils, .hs 1 0 0 5, .d (.bool false), .d (.int .i64 (0 : Nat)), .undef, .undef, .undef, .undef, .undef, .undef], [some (.arr 5 [.d (dArc a)]), some (.arr 5 [])]⟩)
      ((Gh.nils (i := 4) 5 (by rfl)).trans (Gh.weak (by simp [weak]))) ⟨0, 1, _, false, [], by omega, rfl, by simp, rfl, rfl, by omega, rfl⟩ ?_
    rintro _ ⟨i, id, H, done, out, hi, hf, ho, rfl, h0, hid, hid'⟩
    rcases Nat.lt_or_ge i l.length with hil | hil
    · have hw : IntKind.i64.wrap ((i : Int) + 1) = ((i + 1 : Nat) : Int) := by rw [wrap64 (by omega) (by omega)]; simp
      have hstep : (l.take (i + 1)).foldl (putStep a) (false, []) = putStep a (done, out) l[i] := by
        rw [List.take_add_one, List.getElem?_eq_getElem hil, List.foldl_append, hf]; rfl
      cases done
      · skip
        repeat' (first | (with_reducible first | refine st_reg ?_ | refine sN (by conv => lhs; simp [dArc, litV, litE, litOb, toDL, AV.toD, AV.norm, List.replicate, getD_map_lt, h0, hid', hil]) ?_ | refine rN ?_ ?_ | refine rO ?_ ?_ | refine rF ?_ ?_ | refine sG (by conv => lhs; simp [dArc, litV, litE, litOb, toDL, AV.toD, AV.norm, List.replicate, getD_map_lt, h0, hid', hil]) ?_ | refine gF ?_ | refine gS rfl (by conv => lhs; simp [dArc, litV, litE, litOb, toDL, AV.toD, AV.norm, List.replicate, getD_map_lt, h0, hid', hil]) ?_ ?_ | (refine st_gef0 ?_ ?_; focus (conv => (lhs; simp [dArc, litV, litE, litOb, toDL, AV.toD, AV.norm, List.replicate, getD_map_lt, h0, hid', hil])); done) | refine sE (by conv => lhs; simp) ?_ | refine Nx.go ?_ | refine st_blke' (by decide) ?_ | refine st_seq ?_ | refine st_blk ?_ | refine st_cond (by conv => lhs; simp) (by conv => lhs; simp [dArc, litV, litE, litOb, toDL, AV.toD, AV.norm, List.replicate, getD_map_lt, h0, hid', hil]) ?_ ?_ ?_ | refine st_lexit ?_) | (intro h_; try simp only [reduceCtorEq, y1, y2, y3, y4, y5, y6, y7, y8, y9, z1, z2, z3, z4, z5, z6, z7, ne_eq] at h_))
        all_goals try (first | contradiction | exact True.intro | omega | rfl | (simp [AV.fits, AV.cells, AV.one, DV.fits, DV.cells, DV.one, DV.conf, confL, DV.conf1]; done) | (simp [AV.fits, AV.cells, AV.one, DV.fits, DV.cells, DV.one, DV.conf, confL, DV.conf1, *] <;> omega))
        · refine st_e (st_app (by simp) (by conv => lhs; simp [dArc]) (by conv => lhs; simp [dArc]) (arrOf_ob (by first | assumption | exact ob_app_new)) (by simp) (by simp [DV.fits, DV.cells, DV.one]) (by simp; omega) ?_)
          repeat' (first | (with_reducible first | refine st_reg ?_ | refine sN (by conv => lhs; simp [dArc]) ?_ | refine rN ?_ ?_ | refine rO ?_ ?_ | refine rF ?_ ?_ | refine sG (by conv => lhs; simp [dArc]) ?_ | refine gF ?_ | refine gS rfl (by conv => lhs; simp [dArc]) ?_ ?_ | (refine st_gef0 ?_ ?_; focus (conv => (lhs; simp [dArc])); done) | refine sE (by conv => lhs; simp) ?_ | refine Nx.go ?_ | refine st_blke' (by decide) ?_ | refine st_seq ?_ | refine st_blk ?_ | refine st_cond (by conv => lhs; simp) (by conv => lhs; simp [dArc]) ?_ ?_ ?_ | refine st_lexit ?_) | (intro h_; try simp only [reduceCtorEq, y1, y2, y3, y4, y5, y6, y7, y8, y9, z1, z2, z3, z4, z5, z6, z7, ne_eq] at h_))
          all_goals try (first | contradiction | exact True.intro | omega | rfl | (simp [AV.fits, AV.cells, AV.one, DV.fits, DV.cells, DV.one, DV.conf, confL, DV.conf1]; done) | (simp [AV.fits, AV.cells, AV.one, DV.fits, DV.cells, DV.one, DV.conf, confL, DV.conf1, *] <;> omega))
          refine st_lnormw (ys := [.d (.vs (l.map dArc)), .d (dArc a), .ptr 0 0 0, .nils, .hs H.length 0 (out ++ [a]).length 5, .d (.bool true), .d (.int .i64 (i + 1 : Nat)), .undef, .undef, .undef, .undef, .undef, .undef]) ?_
            ⟨i + 1, H.length, _, true, out ++ [a], by omega, ?_, by simp; omega, rfl, ob_app_old h0 (Ne.symm hid), ?_, ?_⟩ ?_
          · simp [weak, hw]
          · rw [hstep, putStep, if_pos (by simp_all), if_pos (by assumption)]
          · have := ob_lt h0; omega
          · rw [ob_app_new]; simp
          · simp [St.int]; omega
        · refine st_e (st_app (by simp) (by conv => lhs; simp [dArc, getD_map_lt, hil]) (by conv => lhs; simp [dArc, getD_map_lt, hil]) (arrOf_ob (by first | assumption | exact ob_app_new)) (by simp) (by simp [DV.fits, DV.cells, DV.one]) (by simp; omega) ?_)
          repeat' (first | (with_reducible first | refine st_reg ?_ | refine sN (by conv => lhs; simp [dArc]) ?_ | refine rN ?_ ?_ | refine rO ?_ ?_ | refine rF ?_ ?_ | refine sG (by conv => lhs; simp [dArc]) ?_ | refine gF ?_ | refine gS rfl (by conv => lhs; simp [dArc]) ?_ ?_ | (refine st_gef0 ?_ ?_; focus (conv => (lhs; simp [dArc])); done) | refine sE (by conv => lhs; simp) ?_ | refine Nx.go ?_ | refine st_blke' (by decide) ?_ | refine st_seq ?_ | refine st_blk ?_ | refine st_cond (by conv => lhs; simp) (by conv => lhs; simp [dArc]) ?_ ?_ ?_ | refine st_lexit ?_) | (intro h_; try simp only [reduceCtorEq, y1, y2, y3, y4, y5, y6, y7, y8, y9, z1, z2, z3, z4, z5, z6, z7, ne_eq] at h_))
          all_goals try (first | contradiction | exact True.intro | omega | rfl | (simp [AV.fits, AV.cells, AV.one, DV.fits, DV.cells, DV.one, DV.conf, confL, DV.conf1]; done) | (simp [AV.fits, AV.cells, AV.one, DV.fits, DV.cells, DV.one, DV.conf, confL, DV.conf1, *] <;> omega))
          refine st_lnormw (ys := [.d (.vs (l.map dArc)), .d (dArc a), .ptr 0 0 0, .nils, .hs H.length 0 (out ++ [l[i]]).length 5, .d (.bool true), .d (.int .i64 (i + 1 : Nat)), .undef, .undef, .undef, .undef, .undef, .undef]) ?_
            ⟨i + 1, H.length, _, true, out ++ [l[i]], by omega, ?_, by simp; omega, rfl, ob_app_old h0 (Ne.symm hid), ?_, ?_⟩ ?_
          · simp [weak, hw]
          · rw [hstep, putStep, if_pos (by simp_all), if_neg (by assumption)]
          · have := ob_lt h0; omega
          · rw [ob_app_new]; simp
          · simp [St.int]; omega
        · refine st_get (by conv => lhs; simp) (st_call (xs := [.d (dArc a), .d (dArc l[i])]) (ys := [.d (dArc a), .d (dArc l[i])]) (by simp [solidOk]) (by simp) (Before39 _ _) (by simp [argsM, AV.ren]) (pendOk_refl _) ?_)
          repeat' (first | (with_reducible first | refine st_reg ?_ | refine sN (by conv => lhs; simp [dArc, litV, litE, litOb, toDL, AV.toD, AV.norm, List.replicate, getD_map_lt, h0, hid', hil]) ?_ | refine rN ?_ ?_ | refine rO ?_ ?_ | refine rF ?_ ?_ | refine sG (by conv => lhs; simp [dArc, litV, litE, litOb, toDL, AV.toD, AV.norm, List.replicate, getD_map_lt, h0, hid', hil]) ?_ | refine gF ?_ | refine gS rfl (by conv => lhs; simp [dArc, litV, litE, litOb, toDL, AV.toD, AV.norm, List.replicate, getD_map_lt, h0, hid', hil]) ?_ ?_ | (refine st_gef0 ?_ ?_; focus (conv => (lhs; simp [dArc, litV, litE, litOb, toDL, AV.toD, AV.norm, List.replicate, getD_map_lt, h0, hid', hil])); done) | refine sE (by conv => lhs; simp) ?_ | refine Nx.go ?_ | refine st_blke' (by decide) ?_ | refine st_seq ?_ | refine st_blk ?_ | refine st_cond (by conv => lhs; simp) (by conv => lhs; simp [dArc, litV, litE, litOb, toDL, AV.toD, AV.norm, List.replicate, getD_map_lt, h0, hid', hil]) ?_ ?_ ?_ | refine st_lexit ?_) | (intro h_; try simp only [reduceCtorEq, y1, y2, y3, y4, y5, y6, y7, y8, y9, z1, z2, z3, z4, z5, z6, z7, ne_eq] at h_))
          all_goals try (first | contradiction | exact True.intro | omega | rfl | (simp [AV.fits, AV.cells, AV.one, DV.fits, DV.cells, DV.one, DV.conf, confL, DV.conf1]; done) | (simp [AV.fits, AV.cells, AV.one, DV.fits, DV.cells, DV.one, DV.conf, confL, DV.conf1, *] <;> omega))
          · refine st_e (st_app (by simp) (by conv => lhs; simp [dArc]) (by conv => lhs; simp [dArc]) (arrOf_ob (by first | assumption | exact ob_app_new)) (by simp) (by simp [DV.fits, DV.cells, DV.one]) (by simp; omega) ?_)
            repeat' (first | (with_reducible first | refine st_reg ?_ | refine sN (by conv => lhs; simp [dArc, litV, litE, litOb, toDL, AV.toD, AV.norm, List.replicate, getD_map_lt, h0, hid', hil]) ?_ | refine rN ?_ ?_ | refine rO ?_ ?_ | refine rF ?_ ?_ | refine sG (by conv => lhs; simp [dArc, litV, litE, litOb, toDL, AV.toD, AV.norm, List.replicate, getD_map_lt, h0, hid', hil]) ?_ | refine gF ?_ | refine gS rfl (by conv => lhs; simp [dArc, litV, litE, litOb, toDL, AV.toD, AV.norm, List.replicate, getD_map_lt, h0, hid', hil]) ?_ ?_ | (refine st_gef0 ?_ ?_; focus (conv => (lhs; simp [dArc, litV, litE, litOb, toDL, AV.toD, AV.norm, List.replicate, getD_map_lt, h0, hid', hil])); done) | refine sE (by conv => lhs; simp) ?_ | refine Nx.go ?_ | refine st_blke' (by decide) ?_ | refine st_seq ?_ | refine st_blk ?_ | refine st_cond (by conv => lhs; simp) (by conv => lhs; simp [dArc, litV, litE, litOb, toDL, AV.toD, AV.norm, List.replicate, getD_map_lt, h0, hid', hil]) ?_ ?_ ?_ | refine st_lexit ?_) | (intro h_; try simp only [reduceCtorEq, y1, y2, y3, y4, y5, y6, y7, y8, y9, z1, z2, z3, z4, z5, z6, z7, ne_eq] at h_))
            all_goals try (first | contradiction | exact True.intro | omega | rfl | (simp [AV.fits, AV.cells, AV.one, DV.fits, DV.cells, DV.one, DV.conf, confL, DV.conf1]; done) | (simp [AV.fits, AV.cells, AV.one, DV.fits, DV.cells, DV.one, DV.conf, confL, DV.conf1, *] <;> omega))
            refine st_e (st_app (by simp) (by conv => lhs; simp [dArc, getD_map_lt, hil]) (by conv => lhs; simp [dArc, getD_map_lt, hil]) (arrOf_ob (by first | assumption | exact ob_app_new)) (by simp) (by simp [DV.fits, DV.cells, DV.one]) (by simp; omega) ?_)
            repeat' (first | (with_reducible first | refine st_reg ?_ | refine sN (by conv => lhs; simp [dArc]) ?_ | refine rN ?_ ?_ | refine rO ?_ ?_ | refine rF ?_ ?_ | refine sG (by conv => lhs; simp [dArc]) ?_ | refine gF ?_ | refine gS rfl (by conv => lhs; simp [dArc]) ?_ ?_ | (refine st_gef0 ?_ ?_; focus (conv => (lhs; simp [dArc])); done) | refine sE (by conv => lhs; simp) ?_ | refine Nx.go ?_ | refine st_blke' (by decide) ?_ | refine st_seq ?_ | refine st_blk ?_ | refine st_cond (by conv => lhs; simp) (by conv => lhs; simp [dArc]) ?_ ?_ ?_ | refine st_lexit ?_) | (intro h_; try simp only [reduceCtorEq, y1, y2, y3, y4, y5, y6, y7, y8, y9, z1, z2, z3, z4, z5, z6, z7, ne_eq] at h_))
            all_goals try (first | contradiction | exact True.intro | omega | rfl | (simp [AV.fits, AV.cells, AV.one, DV.fits, DV.cells, DV.one, DV.conf, confL, DV.conf1]; done) | (simp [AV.fits, AV.cells, AV.one, DV.fits, DV.cells, DV.one, DV.conf, confL, DV.conf1, *] <;> omega))
            refine st_lnormw (ys := [.d (.vs (l.map dArc)), .d (dArc a), .ptr 0 0 0, .nils, .hs (H.length + 1) 0 (out ++ [a] ++ [l[i]]).length 5, .d (.bool true), .d (.int .i64 (i + 1 : Nat)), .undef, .undef, .undef, .undef, .undef, .undef]) ?_
              ⟨i + 1, H.length + 1, _, true, out ++ [a] ++ [l[i]], by omega, ?_, by simp; omega, rfl, ob_app_old (ob_app_old h0 (Ne.symm hid)) (by have := ob_lt h0; omega), by omega, ?_⟩ ?_
            · simp [weak, hw]
            · rw [hstep, putStep, if_neg (by simp_all), if_pos (by simp_all)]
            · rw [ob_app_new' (by simp)]; simp
            · simp [St.int]; omega
          · refine st_e (st_app (by simp) (by conv => lhs; simp [dArc, getD_map_lt, hil]) (by conv => lhs; simp [dArc, getD_map_lt, hil]) (arrOf_ob (by first | assumption | exact ob_app_new)) (by simp) (by simp [DV.fits, DV.cells, DV.one]) (by simp; omega) ?_)
            repeat' (first | (with_reducible first | refine st_reg ?_ | refine sN (by conv => lhs; simp [dArc]) ?_ | refine rN ?_ ?_ | refine rO ?_ ?_ | refine rF ?_ ?_ | refine sG (by conv => lhs; simp [dArc]) ?_ | refine gF ?_ | refine gS rfl (by conv => lhs; simp [dArc]) ?_ ?_ | (refine st_gef0 ?_ ?_; focus (conv => (lhs; simp [dArc])); done) | refine sE (by conv => lhs; simp) ?_ | refine Nx.go ?_ | refine st_blke' (by decide) ?_ | refine st_seq ?_ | refine st_blk ?_ | refine st_cond (by conv => lhs; simp) (by conv => lhs; simp [dArc]) ?_ ?_ ?_ | refine st_lexit ?_) | (intro h_; try simp only [reduceCtorEq, y1, y2, y3, y4, y5, y6, y7, y8, y9, z1, z2, z3, z4, z5, z6, z7, ne_eq] at h_))
            all_goals try (first | contradiction | exact True.intro | omega | rfl | (simp [AV.fits, AV.cells, AV.one, DV.fits, DV.cells, DV.one, DV.conf, confL, DV.conf1]; done) | (simp [AV.fits, AV.cells, AV.one, DV.fits, DV.cells, DV.one, DV.conf, confL, DV.conf1, *] <;> omega))
            refine st_lnormw (ys := [.d (.vs (l.map dArc)), .d (dArc a), .ptr 0 0 0, .nils, .hs H.length 0 (out ++ [l[i]]).length 5, .d (.bool false), .d (.int .i64 (i + 1 : Nat)), .undef, .undef, .undef, .undef, .undef, .undef]) ?_
              ⟨i + 1, H.length, _, false, out ++ [l[i]], by omega, ?_, by simp; omega, rfl, ob_app_old h0 (Ne.symm hid), ?_, ?_⟩ ?_
            · simp [weak, hw]
            · rw [hstep, putStep, if_neg (by simp_all), if_neg (by simp_all)]
            · have := ob_lt h0; omega
            · rw [ob_app_new]; simp
            · simp [St.int]; omega
      · skip
        repeat' (first | (with_reducible first | refine st_reg ?_ | refine sN (by conv => lhs; simp [dArc, litV, litE, litOb, toDL, AV.toD, AV.norm, List.replicate, getD_map_lt, h0, hid', hil]) ?_ | refine rN ?_ ?_ | refine rO ?_ ?_ | refine rF ?_ ?_ | refine sG (by conv => lhs; simp [dArc, litV, litE, litOb, toDL, AV.toD, AV.norm, List.replicate, getD_map_lt, h0, hid', hil]) ?_ | refine gF ?_ | refine gS rfl (by conv => lhs; simp [dArc, litV, litE, litOb, toDL, AV.toD, AV.norm, List.replicate, getD_map_lt, h0, hid', hil]) ?_ ?_ | (refine st_gef0 ?_ ?_; focus (conv => (lhs; simp [dArc, litV, litE, litOb, toDL, AV.toD, AV.norm, List.replicate, getD_map_lt, h0, hid', hil])); done) | refine sE (by conv => lhs; simp) ?_ | refine Nx.go ?_ | refine st_blke' (by decide) ?_ | refine st_seq ?_ | refine st_blk ?_ | refine st_cond (by conv => lhs; simp) (by conv => lhs; simp [dArc, litV, litE, litOb, toDL, AV.toD, AV.norm, List.replicate, getD_map_lt, h0, hid', hil]) ?_ ?_ ?_ | refine st_lexit ?_) | (intro h_; try simp only [reduceCtorEq, y1, y2, y3, y4, y5, y6, y7, y8, y9, z1, z2, z3, z4, z5, z6, z7, ne_eq] at h_))
        all_goals try (first | contradiction | exact True.intro | omega | rfl | (simp [AV.fits, AV.cells, AV.one, DV.fits, DV.cells, DV.one, DV.conf, confL, DV.conf1]; done) | (simp [AV.fits, AV.cells, AV.one, DV.fits, DV.cells, DV.one, DV.conf, confL, DV.conf1, *] <;> omega))
        refine st_e (st_app (by simp) (by conv => lhs; simp [dArc, getD_map_lt, hil]) (by conv => lhs; simp [dArc, getD_map_lt, hil]) (arrOf_ob (by first | assumption | exact ob_app_new)) (by simp) (by simp [DV.fits, DV.cells, DV.one]) (by simp; omega) ?_)
        repeat' (first | (with_reducible first | refine st_reg ?_ | refine sN (by conv => lhs; simp [dArc]) ?_ | refine rN ?_ ?_ | refine rO ?_ ?_ | refine rF ?_ ?_ | refine sG (by conv => lhs; simp [dArc]) ?_ | refine gF ?_ | refine gS rfl (by conv => lhs; simp [dArc]) ?_ ?_ | (refine st_gef0 ?_ ?_; focus (conv => (lhs; simp [dArc])); done) | refine sE (by conv => lhs; simp) ?_ | refine Nx.go ?_ | refine st_blke' (by decide) ?_ | refine st_seq ?_ | refine st_blk ?_ | refine st_cond (by conv => lhs; simp) (by conv => lhs; simp [dArc]) ?_ ?_ ?_ | refine st_lexit ?_) | (intro h_; try simp only [reduceCtorEq, y1, y2, y3, y4, y5, y6, y7, y8, y9, z1, z2, z3, z4, z5, z6, z7, ne_eq] at h_))
        all_goals try (first | contradiction | exact True.intro | omega | rfl | (simp [AV.fits, AV.cells, AV.one, DV.fits, DV.cells, DV.one, DV.conf, confL, DV.conf1]; done) | (simp [AV.fits, AV.cells, AV.one, DV.fits, DV.cells, DV.one, DV.conf, confL, DV.conf1, *] <;> omega))
        refine st_lnormw (ys := [.d (.vs (l.map dArc)), .d (dArc a), .ptr 0 0 0, .nils, .hs H.length 0 (out ++ [l[i]]).length 5, .d (.bool true), .d (.int .i64 (i + 1 : Nat)), .undef, .undef, .undef, .undef, .undef, .undef]) ?_
          ⟨i + 1, H.length, _, true, out ++ [l[i]], by omega, ?_, by simp; omega, rfl, ob_app_old h0 (Ne.symm hid), ?_, ?_⟩ ?_
        · simp [weak, hw]
        · rw [hstep, putStep, if_neg (by simp), if_neg (by simp)]
        · have := ob_lt h0; omega
        · rw [ob_app_new]; simp
        · simp [St.int]; omega
    · have hil : i = l.length := by omega
      subst hil
      rw [List.take_length] at hf
      cases done
      · skip
        repeat' (first | (with_reducible first | refine st_reg ?_ | refine sN (by conv => lhs; simp [dArc, litV, litE, litOb, toDL, AV.toD, AV.norm, List.replicate, h0, hid']) ?_ | refine rN ?_ ?_ | refine rO ?_ ?_ | refine rF ?_ ?_ | refine sG (by conv => lhs; simp [dArc, litV, litE, litOb, toDL, AV.toD, AV.norm, List.replicate, h0, hid']) ?_ | refine gF ?_ | refine gS rfl (by conv => lhs; simp [dArc, litV, litE, litOb, toDL, AV.toD, AV.norm, List.replicate, h0, hid']) ?_ ?_ | (refine st_gef0 ?_ ?_; focus (conv => (lhs; simp [dArc, litV, litE, litOb, toDL, AV.toD, AV.norm, List.replicate, h0, hid'])); done) | refine sE (by conv => lhs; simp) ?_ | refine Nx.go ?_ | refine st_blke' (by decide) ?_ | refine st_seq ?_ | refine st_blk ?_ | refine st_cond (by conv => lhs; simp) (by conv => lhs; simp [dArc, litV, litE, litOb, toDL, AV.toD, AV.norm, List.replicate, h0, hid']) ?_ ?_ ?_ | refine st_lexit ?_) | (intro h_; try simp only [reduceCtorEq, y1, y2, y3, y4, y5, y6, y7, y8, y9, z1, z2, z3, z4, z5, z6, z7, ne_eq] at h_))
        all_goals try (first | contradiction | exact True.intro | omega | rfl | (simp [AV.fits, AV.cells, AV.one, DV.fits, DV.cells, DV.one, DV.conf, confL, DV.conf1]; done) | (simp [AV.fits, AV.cells, AV.one, DV.fits, DV.cells, DV.one, DV.conf, confL, DV.conf1, *] <;> omega))
        refine st_e (st_app (by simp) (by conv => lhs; simp [dArc]) (by conv => lhs; simp [dArc]) (arrOf_ob (by first | assumption | exact ob_app_new)) (by simp) (by simp [DV.fits, DV.cells, DV.one]) (by simp; omega) ?_)
        repeat' (first | (with_reducible first | refine st_reg ?_ | refine sN (by conv => lhs; simp [dArc]) ?_ | refine rN ?_ ?_ | refine rO ?_ ?_ | refine rF ?_ ?_ | refine sG (by conv => lhs; simp [dArc]) ?_ | refine gF ?_ | refine gS rfl (by conv => lhs; simp [dArc]) ?_ ?_ | (refine st_gef0 ?_ ?_; focus (conv => (lhs; simp [dArc])); done) | refine sE (by conv => lhs; simp) ?_ | refine Nx.go ?_ | refine st_blke' (by decide) ?_ | refine st_seq ?_ | refine st_blk ?_ | refine st_cond (by conv => lhs; simp) (by conv => lhs; simp [dArc]) ?_ ?_ ?_ | refine st_lexit ?_) | (intro h_; try simp only [reduceCtorEq, y1, y2, y3, y4, y5, y6, y7, y8, y9, z1, z2, z3, z4, z5, z6, z7, ne_eq] at h_))
        all_goals try (first | contradiction | exact True.intro | omega | rfl | (simp [AV.fits, AV.cells, AV.one, DV.fits, DV.cells, DV.one, DV.conf, confL, DV.conf1]; done) | (simp [AV.fits, AV.cells, AV.one, DV.fits, DV.cells, DV.one, DV.conf, confL, DV.conf1, *] <;> omega))
        refine atEnd_frz (id := H.length) (off := 0) (len := out.length + 1) (sz := 5) rfl (arrOf_ob ob_app_new) (by simp) (ds := (out ++ [a]).map dArc) ?_ ?_
        · rw [← toDL_map]
          congr 1
          rw [List.take_of_length_le (by simp)]
          simp
        · rw [putL, if_neg (by omega), hf]; rfl
      · skip
        repeat' (first | (with_reducible first | refine st_reg ?_ | refine sN (by conv => lhs; simp [dArc, litV, litE, litOb, toDL, AV.toD, AV.norm, List.replicate, h0, hid']) ?_ | refine rN ?_ ?_ | refine rO ?_ ?_ | refine rF ?_ ?_ | refine sG (by conv => lhs; simp [dArc, litV, litE, litOb, toDL, AV.toD, AV.norm, List.replicate, h0, hid']) ?_ | refine gF ?_ | refine gS rfl (by conv => lhs; simp [dArc, litV, litE, litOb, toDL, AV.toD, AV.norm, List.replicate, h0, hid']) ?_ ?_ | (refine st_gef0 ?_ ?_; focus (conv => (lhs; simp [dArc, litV, litE, litOb, toDL, AV.toD, AV.norm, List.replicate, h0, hid'])); done) | refine sE (by conv => lhs; simp) ?_ | refine Nx.go ?_ | refine st_blke' (by decide) ?_ | refine st_seq ?_ | refine st_blk ?_ | refine st_cond (by conv => lhs; simp) (by conv => lhs; simp [dArc, litV, litE, litOb, toDL, AV.toD, AV.norm, List.replicate, h0, hid']) ?_ ?_ ?_ | refine st_lexit ?_) | (intro h_; try simp only [reduceCtorEq, y1, y2, y3, y4, y5, y6, y7, y8, y9, z1, z2, z3, z4, z5, z6, z7, ne_eq] at h_))
        all_goals try (first | contradiction | exact True.intro | omega | rfl | (simp [AV.fits, AV.cells, AV.one, DV.fits, DV.cells, DV.one, DV.conf, confL, DV.conf1]; done) | (simp [AV.fits, AV.cells, AV.one, DV.fits, DV.cells, DV.one, DV.conf, confL, DV.conf1, *] <;> omega))
        refine atEnd_frz (id := id) (off := 0) (len := out.length) (sz := 5) rfl (arrOf_ob hid') (by simp) (ds := out.map dArc) ?_ ?_
        · rw [← toDL_map]
          congr 1
          rw [List.take_of_length_le (by simp)]
          simp
        · rw [putL, if_neg (by omega), hf]; rfl
end Go.Vm.L
