/- Lattice: Build's end: the keys are sorted, the arcs laid. -/
import Derived.Test.YtibpfnjbgojfoaaDoorZdM
set_option linter.all false
set_option maxHeartbeats 8000000
namespace Go.Vm.L
open Go Go.Vm

theorem Build12c (hS : SortC) (x : Inp) (n N i : Nat) (M : List (Key × Arc)) (KS VS : List DV) (hKS : KS = M.map fun p => dKey p.1) (hVS : VS = M.map fun p => dArc p.2) (hMb : M.length < 1000000)
    (ks : List Key) (H : Heap) (idk : Nat) (hidk : 7 ≤ idk) (hok : H.ob idk = some (.arr 3 ((ks.map dKey).map .d))) (hperm : ks.Perm (M.map (·.1))) (h1 : H.ob 1 = some resO) (h3 : H.ob 3 = some (bfO x KS VS)) (h4 : H.ob 4 = some (finO x i)) (h5 : H.ob 5 = some (latO N .nils))
    (hNl : (finTo x i).length = N) :
    wpC prog (.seq (.reg c6r15) (.seq (.seq (.reg c6r16) (.block 4 (.loop (.seq (.reg c6r17) (.seq (.cond (.var 18) .skip (.exit 4)) (.seq (.block 5 (.seq (.reg c6r18) (.reg c6r19))) (.reg c6r20))))))) (.seq (.reg c6r21) .ret)))
      (atEnd r6 [] fun r H' => r.norm = .d (dLat ⟨N, (sortK (M.map (·.1))).map (arcOf M), finTo x i⟩) ∧ H' = [])
      ⟨[.d (dInp x), .ptr 0 0 0, .ptr 1 0 0, .ptr 3 0 0, .d (.int .i64 n), .ptr 5 0 0, .undef, .hs idk 0 ks.length 3, .undef, .undef, .undef, .undef, .undef, .undef, .undef, .undef, .undef, .undef, .undef], H⟩ := by
  have hkl : ks.length < 1000000 := by have := hperm.length_eq; simp at this; omega
  have hlt1 := ob_lt hok
  repeat' (first | (with_reducible first | refine st_reg ?_ | refine sN (by conv => lhs; simp) ?_ | refine rN ?_ ?_ | refine rO ?_ ?_ | refine rF ?_ ?_ | refine sG (by conv => lhs; simp) ?_ | refine gF ?_ | refine gS rfl (by conv => lhs; simp) ?_ ?_ | (refine st_gef0 ?_ ?_; focus (conv => (lhs; simp)); done) | refine sE (by conv => lhs; simp) ?_ | refine Nx.go ?_ | refine st_blke' (by decide) ?_ | refine st_seq ?_ | refine st_blk ?_ | refine st_cond (by conv => lhs; simp) (by conv => lhs; simp) ?_ ?_ ?_ | refine st_lexit ?_) | (intro h_; try simp only [reduceCtorEq, y1, y2, y3, y4, y5, y6, y7, y8, y9, z1, z2, z3, z4, z5, z6, z7, ne_eq] at h_))
  all_goals try (first | contradiction | exact True.intro | omega | rfl | (simp [AV.fits, AV.cells, AV.one, DV.fits, DV.cells, DV.one, DV.conf, confL, DV.conf1]; done) | (simp [AV.fits, AV.cells, AV.one, DV.fits, DV.cells, DV.one, DV.conf, confL, DV.conf1, *] <;> omega))
  refine st_e (stA_call [idk] ⟨by simp, trivial⟩ (by conv => lhs; simp) (hS ks ks.length rfl hkl) (by simp [argsM, AV.ren, renOf]) ⟨hlt1, by rw [ob_get hok]; simp only [Option.map_some, ren_data], trivial⟩ (by simp) (fun r Hc' H1 hr hH => ⟨trivial, ?_⟩))
  obtain ⟨rfl, rfl⟩ := hr
  have c1 := hH.ob' (j := 1) (by simp; omega) h1
  have c3 := hH.ob' (j := 3) (by simp; omega) h3
  have c4 := hH.ob' (j := 4) (by simp; omega) h4
  have c5 := hH.ob' (j := 5) (by simp; omega) h5
  have ck := hH.inn 0 idk _ rfl rfl
  rw [ren_data] at ck
  obtain ⟨SK, hSK⟩ : ∃ SK, SK = sortK ks := ⟨_, rfl⟩
  have hSKl : SK.length = ks.length := by rw [hSK]; exact (sortK_perm ks).length_eq
  have hSKM : SK = sortK (M.map (·.1)) := by rw [hSK]; exact sortK_congr hperm
  rw [← hSK] at ck
  clear hH h1 h3 h4 h5 hok
  repeat' (first | (with_reducible first | refine st_reg ?_ | refine sN (by conv => lhs; simp [AV.ren, renL]) ?_ | refine rN ?_ ?_ | refine rO ?_ ?_ | refine rF ?_ ?_ | refine sG (by conv => lhs; simp [AV.ren, renL]) ?_ | refine gF ?_ | refine gS rfl (by conv => lhs; simp [AV.ren, renL]) ?_ ?_ | (refine st_gef0 ?_ ?_; focus (conv => (lhs; simp [AV.ren, renL])); done) | refine sE (by conv => lhs; simp) ?_ | refine Nx.go ?_ | refine st_blke' (by decide) ?_ | refine st_seq ?_ | refine st_blk ?_ | refine st_cond (by conv => lhs; simp) (by conv => lhs; simp [AV.ren, renL]) ?_ ?_ ?_ | refine st_lexit ?_) | (intro h_; try simp only [reduceCtorEq, y1, y2, y3, y4, y5, y6, y7, y8, y9, z1, z2, z3, z4, z5, z6, z7, ne_eq] at h_))
  all_goals try (first | contradiction | exact True.intro | omega | rfl | (simp [AV.fits, AV.cells, AV.one, DV.fits, DV.cells, DV.one, DV.conf, confL, DV.conf1]; done) | (simp [AV.fits, AV.cells, AV.one, DV.fits, DV.cells, DV.one, DV.conf, confL, DV.conf1, *] <;> omega))
  refine wpC_loop (fun s => ∃ (k : Nat) (H : Heap) (v9 va : AV), k ≤ ks.length ∧ s = ⟨[.d (dInp x), .ptr 0 0 0, .ptr 1 0 0, .ptr 3 0 0, .d (.int .i64 n), .ptr 5 0 0, .undef, .hs idk 0 ks.length 3, .undef, v9, .undef, .undef, .undef, .undef, .undef, .hs idk 0 ks.length 3, .d (.int .i64 ks.length), .d (.int .i64 k), .undef], H⟩ ∧
      H.ob idk = some (.arr 3 ((SK.map dKey).map .d)) ∧ H.ob 1 = some resO ∧ H.ob 3 = some (bfO x KS VS) ∧ H.ob 4 = some (finO x i) ∧ H.ob 5 = some (latO N va) ∧ OwnS H va 5 (((SK.take k).map (arcOf M)).map dArc) ∧ ∀ id, va.rid = some id → 7 ≤ id ∧ id ≠ idk)
    (fun s => ks.length - (s.int 17).toNat)
    (s' := ⟨[.d (dInp x), .ptr 0 0 0, .ptr 1 0 0, .ptr 3 0 0, .d (.int .i64 n), .ptr 5 0 0, .undef, .hs idk 0 ks.length 3, .undef, .undef, .undef, .undef, .undef, .undef, .undef, .hs idk 0 ks.length 3, .d (.int .i64 ks.length), .d (.int .i64 (0 : Nat)), .undef], H1⟩)
    (Gh.weak (by simp [weak])) ⟨0, H1, _, .nils, by omega, rfl, ck, c1, c3, c4, c5, OwnS.nils _ _, by simp [AV.rid]⟩ ?_
  clear c1 c3 c4 c5 ck hlt1 H1
  rintro _ ⟨k, H, v9, va, hk, rfl, hok, h1, h3, h4, h5, ho, hva⟩
  obtain ⟨s1, s2, s3, s4⟩ := ho.sob
  have hlk := ob_lt hok
  have hw : IntKind.i64.wrap ((k : Int) + 1) = ((k + 1 : Nat) : Int) := by rw [wrap64 (by omega) (by omega)]; simp
  rcases Nat.lt_or_ge k ks.length with hlt | hlt
  · have hkS : k < SK.length := by omega
    have hget : ((SK.map dKey).map AV.d)[k]? = some (.d (.agg [.int .i64 SK[k].frm, .int .i64 SK[k].to, .int .i64 SK[k].term])) := by simp [hkS]
    obtain ⟨ES, hES⟩ : ∃ ES, ES = (SK.map dKey).map AV.d := ⟨_, rfl⟩
    have hESl : ES.length = ks.length := by rw [hES]; simp; omega
    rw [← hES] at hget hok
    have hp2 : SK.Perm (M.map (·.1)) := by rw [hSK]; exact (sortK_perm ks).trans hperm
    have hmem : SK[k] ∈ M.map (·.1) := hp2.mem_iff.1 (List.getElem_mem hkS)
    obtain ⟨ar, har⟩ := getM_mem hmem
    have hfm : fmGet KS VS (.agg [.int .i64 SK[k].frm, .int .i64 SK[k].to, .int .i64 SK[k].term]) = some (dArc ar) := by
      have := fm_getM M SK[k]
      rw [har] at this
      rw [hKS, hVS]; exact this
    have hconf : ∀ x ∈ KS, x.conf (.many [.int .i64, .int .i64, .int .i64]) = true := by
      rw [hKS]; intro x hx
      obtain ⟨p, _, rfl⟩ := List.mem_map.1 hx
      rfl
    have hget2 : ES[k]'(by omega) = .d (.agg [.int .i64 SK[k].frm, .int .i64 SK[k].to, .int .i64 SK[k].term]) := (List.getElem?_eq_some_iff.1 hget).2
    have har2 : arcOf M SK[k] = ar := by simp [arcOf, har]
    repeat' (first | (with_reducible first | refine st_reg ?_ | refine sN (by conv => lhs; simp [litV, litE, litOb, toDL, AV.toD, AV.norm, List.replicate, fillC, fillOb, AV.mkAgg, AV.allD, AV.cells, DV.cells, hlt, hok, hget, hget2, hESl]) ?_ | refine rN ?_ ?_ | refine rO ?_ ?_ | refine rF ?_ ?_ | refine sG (by conv => lhs; simp [litV, litE, litOb, toDL, AV.toD, AV.norm, List.replicate, fillC, fillOb, AV.mkAgg, AV.allD, AV.cells, DV.cells, hlt, hok, hget, hget2, hESl]) ?_ | refine gF ?_ | refine gS rfl (by conv => lhs; simp [litV, litE, litOb, toDL, AV.toD, AV.norm, List.replicate, fillC, fillOb, AV.mkAgg, AV.allD, AV.cells, DV.cells, hlt, hok, hget, hget2, hESl]) ?_ ?_ | (refine st_gef0 ?_ ?_; focus (conv => (lhs; simp [litV, litE, litOb, toDL, AV.toD, AV.norm, List.replicate, fillC, fillOb, AV.mkAgg, AV.allD, AV.cells, DV.cells, hlt, hok, hget, hget2, hESl])); done) | refine sE (by conv => lhs; simp) ?_ | refine Nx.go ?_ | refine st_blke' (by decide) ?_ | refine st_seq ?_ | refine st_blk ?_ | refine st_cond (by conv => lhs; simp) (by conv => lhs; simp [litV, litE, litOb, toDL, AV.toD, AV.norm, List.replicate, fillC, fillOb, AV.mkAgg, AV.allD, AV.cells, DV.cells, hlt, hok, hget, hget2, hESl]) ?_ ?_ ?_ | refine st_lexit ?_) | (intro h_; try simp only [reduceCtorEq, y1, y2, y3, y4, y5, y6, y7, y8, y9, z1, z2, z3, z4, z5, z6, z7, ne_eq] at h_))
    all_goals try (first | contradiction | exact True.intro | omega | rfl | (simp [AV.fits, AV.cells, AV.one, DV.fits, DV.cells, DV.one, DV.conf, confL, DV.conf1]; done) | (simp [AV.fits, AV.cells, AV.one, DV.fits, DV.cells, DV.one, DV.conf, confL, DV.conf1, *] <;> omega))
    refine st_e (stA_store ⟨by simp, trivial⟩ (by conv => lhs; simp) (by conv => lhs; simp) (arrOf_ob ob_new) (by simp) (by simp [AV.fits, DV.fits, DV.cells, DV.one]) updA_whole (by simp [AV.fits, DV.fits, DV.cells, DV.one]) (fun H1 hW => ⟨trivial, ?_⟩))
    have hself := hW.self
    simp only [List.set_cons_zero] at hself
    have po : ∀ j, j < H.length → H1.ob j = H.ob j := fun j hj => by rw [hW.ob (by omega), ob_left hj]
    have pl : H1.length = H.length + 1 := by rw [hW.len]; simp
    have l7 : 7 < H.length := by have := ob_lt h5; omega
    have q1 := (po 1 (by omega)).trans h1
    have q3 := (po 3 (by omega)).trans h3
    have q4 := (po 4 (by omega)).trans h4
    have q5 := (po 5 (by omega)).trans h5
    have qk := (po idk (by omega)).trans hok
    have qo := ho.frame (H' := H1) (fun id hr => po id (ho.lt hr))
    have q3' := q3
    simp only [bfO] at q3'
    have q5' := q5
    simp only [latO] at q5'
    repeat' (first | (with_reducible first | refine st_reg ?_ | refine sN (by conv => lhs; simp [litV, litE, litOb, toDL, AV.toD, AV.norm, List.replicate, fillC, fillOb, AV.mkAgg, AV.allD, AV.cells, DV.cells, hself, q3', q5', hfm, hconf, s1, s2, dArc]) ?_ | refine rN ?_ ?_ | refine rO ?_ ?_ | refine rF ?_ ?_ | refine sG (by conv => lhs; simp [litV, litE, litOb, toDL, AV.toD, AV.norm, List.replicate, fillC, fillOb, AV.mkAgg, AV.allD, AV.cells, DV.cells, hself, q3', q5', hfm, hconf, s1, s2, dArc]) ?_ | refine gF ?_ | refine gS rfl (by conv => lhs; simp [litV, litE, litOb, toDL, AV.toD, AV.norm, List.replicate, fillC, fillOb, AV.mkAgg, AV.allD, AV.cells, DV.cells, hself, q3', q5', hfm, hconf, s1, s2, dArc]) ?_ ?_ | (refine st_gef0 ?_ ?_; focus (conv => (lhs; simp [litV, litE, litOb, toDL, AV.toD, AV.norm, List.replicate, fillC, fillOb, AV.mkAgg, AV.allD, AV.cells, DV.cells, hself, q3', q5', hfm, hconf, s1, s2, dArc])); done) | refine sE (by conv => lhs; simp) ?_ | refine Nx.go ?_ | refine st_blke' (by decide) ?_ | refine st_seq ?_ | refine st_blk ?_ | refine st_cond (by conv => lhs; simp) (by conv => lhs; simp [litV, litE, litOb, toDL, AV.toD, AV.norm, List.replicate, fillC, fillOb, AV.mkAgg, AV.allD, AV.cells, DV.cells, hself, q3', q5', hfm, hconf, s1, s2, dArc]) ?_ ?_ ?_ | refine st_lexit ?_) | (intro h_; try simp only [reduceCtorEq, y1, y2, y3, y4, y5, y6, y7, y8, y9, z1, z2, z3, z4, z5, z6, z7, ne_eq] at h_))
    all_goals try (first | contradiction | exact True.intro | omega | rfl | (simp [AV.fits, AV.cells, AV.one, DV.fits, DV.cells, DV.one, DV.conf, confL, DV.conf1]; done) | (simp [AV.fits, AV.cells, AV.one, DV.fits, DV.cells, DV.one, DV.conf, confL, DV.conf1, *] <;> omega))
    all_goals first | exact ⟨hconf, rfl⟩ | skip
    refine st_e (stA_appO2 (v := va) (olds := ((SK.take k).map (arcOf M)).map dArc) (ds := [dArc ar]) (by simp [s1, s2]) (by conv => lhs; simp [s1, s2]) (by simp [dArc]) qo (by simp [DV.fits, DV.cells, DV.one]) (by simp; omega) (fun v' H2 r1 r2 r3 r4 => ?_))
    rcases r1 with ⟨rfl, _⟩ | ⟨idv, rfl, hidv⟩
    · cases r2
    have ridv : idv = H1.length := by simpa [AV.rid] using r2
    have f2 : ∀ j, j < H1.length → (j < 7 ∨ j = idk) → H2.ob j = H1.ob j := fun j hj hj7 => r4 j hj fun e => by have := hva j e; omega
    have t5 := (f2 5 (by omega) (by omega)).trans q5
    simp only [latO] at t5
    repeat' (first | (with_reducible first | refine st_reg ?_ | refine sN (by conv => lhs; simp [litV, litE, litOb, toDL, AV.toD, AV.norm, List.replicate, fillC, fillOb, AV.mkAgg, AV.allD, AV.cells, DV.cells, hself, q3', t5, hfm, hconf, s1, s2, dArc]) ?_ | refine rN ?_ ?_ | refine rO ?_ ?_ | refine rF ?_ ?_ | refine sG (by conv => lhs; simp [litV, litE, litOb, toDL, AV.toD, AV.norm, List.replicate, fillC, fillOb, AV.mkAgg, AV.allD, AV.cells, DV.cells, hself, q3', t5, hfm, hconf, s1, s2, dArc]) ?_ | refine gF ?_ | refine gS rfl (by conv => lhs; simp [litV, litE, litOb, toDL, AV.toD, AV.norm, List.replicate, fillC, fillOb, AV.mkAgg, AV.allD, AV.cells, DV.cells, hself, q3', t5, hfm, hconf, s1, s2, dArc]) ?_ ?_ | (refine st_gef0 ?_ ?_; focus (conv => (lhs; simp [litV, litE, litOb, toDL, AV.toD, AV.norm, List.replicate, fillC, fillOb, AV.mkAgg, AV.allD, AV.cells, DV.cells, hself, q3', t5, hfm, hconf, s1, s2, dArc])); done) | refine sE (by conv => lhs; simp) ?_ | refine Nx.go ?_ | refine st_blke' (by decide) ?_ | refine st_seq ?_ | refine st_blk ?_ | refine st_cond (by conv => lhs; simp) (by conv => lhs; simp [litV, litE, litOb, toDL, AV.toD, AV.norm, List.replicate, fillC, fillOb, AV.mkAgg, AV.allD, AV.cells, DV.cells, hself, q3', t5, hfm, hconf, s1, s2, dArc]) ?_ ?_ ?_ | refine st_lexit ?_) | (intro h_; try simp only [reduceCtorEq, y1, y2, y3, y4, y5, y6, y7, y8, y9, z1, z2, z3, z4, z5, z6, z7, ne_eq] at h_))
    all_goals try (first | contradiction | exact True.intro | omega | rfl | (simp [AV.fits, AV.cells, AV.one, DV.fits, DV.cells, DV.one, DV.conf, confL, DV.conf1]; done) | (simp [AV.fits, AV.cells, AV.one, DV.fits, DV.cells, DV.one, DV.conf, confL, DV.conf1, *] <;> omega))
    refine st_e (stA_store (v := .hs idv 0 (((SK.take k).map (arcOf M)).map dArc ++ [dArc ar]).length 5) (e' := .agg [.d (.int .i64 N), .hs idv 0 (((SK.take k).map (arcOf M)).map dArc ++ [dArc ar]).length 5, .hs 4 0 N 1]) ⟨by simp, trivial⟩ (by conv => lhs; simp) (by simp) (arrOf_ob t5) (by simp) (by simp [AV.fits, AV.cells, AV.one]) (by simp [updA, AV.cells, AV.mkAgg, AV.allD]) (by simp [AV.fits, AV.cells, AV.one, DV.one]) (fun H3 hW3 => ⟨trivial, ?_⟩))
    have l3 := hW3.len
    have f3 : ∀ j, j < H1.length → (j < 7 ∨ j = idk) → j ≠ 5 → H3.ob j = H1.ob j := fun j hj hj7 hj5 => by rw [hW3.ob hj5, f2 j hj hj7]
    repeat' (first | (with_reducible first | refine st_reg ?_ | refine sN (by conv => lhs; simp [hw]) ?_ | refine rN ?_ ?_ | refine rO ?_ ?_ | refine rF ?_ ?_ | refine sG (by conv => lhs; simp [hw]) ?_ | refine gF ?_ | refine gS rfl (by conv => lhs; simp [hw]) ?_ ?_ | (refine st_gef0 ?_ ?_; focus (conv => (lhs; simp [hw])); done) | refine sE (by conv => lhs; simp) ?_ | refine Nx.go ?_ | refine st_blke' (by decide) ?_ | refine st_seq ?_ | refine st_blk ?_ | refine st_cond (by conv => lhs; simp) (by conv => lhs; simp [hw]) ?_ ?_ ?_ | refine st_lexit ?_) | (intro h_; try simp only [reduceCtorEq, y1, y2, y3, y4, y5, y6, y7, y8, y9, z1, z2, z3, z4, z5, z6, z7, ne_eq] at h_))
    all_goals try (first | contradiction | exact True.intro | omega | rfl | (simp [AV.fits, AV.cells, AV.one, DV.fits, DV.cells, DV.one, DV.conf, confL, DV.conf1]; done) | (simp [AV.fits, AV.cells, AV.one, DV.fits, DV.cells, DV.one, DV.conf, confL, DV.conf1, *] <;> omega))
    refine st_lnormw (ys := [.d (dInp x), .ptr 0 0 0, .ptr 1 0 0, .ptr 3 0 0, .d (.int .i64 n), .ptr 5 0 0, .undef, .hs idk 0 ks.length 3, .undef, .ptr H.length 0 0, .undef, .undef, .undef, .undef, .undef, .hs idk 0 ks.length 3, .d (.int .i64 ks.length), .d (.int .i64 (k + 1 : Nat)), .undef]) (by simp [weak])
      ⟨k + 1, H3, _, .hs idv 0 (((SK.take k).map (arcOf M)).map dArc ++ [dArc ar]).length 5, by omega, rfl, ?_, (f3 1 (by omega) (by omega) (by omega)).trans q1, (f3 3 (by omega) (by omega) (by omega)).trans q3, (f3 4 (by omega) (by omega) (by omega)).trans q4, hW3.self, ?_, fun id hr => by simp [AV.rid] at hr; omega⟩ (by simp [St.int]; omega)
    · rw [f3 idk (by omega) (.inr rfl) (by omega), qk, hES]
    · have e1 : ((SK.take (k + 1)).map (arcOf M)).map dArc = ((SK.take k).map (arcOf M)).map dArc ++ [dArc ar] := by
        rw [List.take_add_one, List.getElem?_eq_getElem hkS, Option.toList_some, List.map_append, List.map_append, List.map_cons, List.map_nil, List.map_cons, List.map_nil, har2]
      rw [e1]
      exact .inr ⟨idv, rfl, by rw [hW3.ob (by omega)]; exact hidv⟩
  · have hkk : k = ks.length := by omega
    have hl7 : 7 < H.length := by omega
    have h5' := h5
    simp only [latO] at h5'
    have h1' := h1
    simp only [resO] at h1'
    rw [List.take_of_length_le (by omega)] at ho
    have hfit : AV.fits 3 (.agg [.d (.int .i64 N), va, .hs 4 0 N 1]) = true := by
      rw [fits_cells]
      show (true && (AV.one _ && (va.one && (AV.one _ && true)))) = true
      rw [s4]; rfl
    repeat' (first | (with_reducible first | refine st_reg ?_ | refine sN (by conv => lhs; simp [hlt, h5']) ?_ | refine rN ?_ ?_ | refine rO ?_ ?_ | refine rF ?_ ?_ | refine sG (by conv => lhs; simp [hlt, h5']) ?_ | refine gF ?_ | refine gS rfl (by conv => lhs; simp [hlt, h5']) ?_ ?_ | (refine st_gef0 ?_ ?_; focus (conv => (lhs; simp [hlt, h5'])); done) | refine sE (by conv => lhs; simp) ?_ | refine Nx.go ?_ | refine st_blke' (by decide) ?_ | refine st_seq ?_ | refine st_blk ?_ | refine st_cond (by conv => lhs; simp) (by conv => lhs; simp [hlt, h5']) ?_ ?_ ?_ | refine st_lexit ?_) | (intro h_; try simp only [reduceCtorEq, y1, y2, y3, y4, y5, y6, y7, y8, y9, z1, z2, z3, z4, z5, z6, z7, ne_eq] at h_))
    all_goals try (first | contradiction | exact True.intro | omega | rfl | (simp [AV.fits, AV.cells, AV.one, DV.fits, DV.cells, DV.one, DV.conf, confL, DV.conf1]; done) | (simp [AV.fits, AV.cells, AV.one, DV.fits, DV.cells, DV.one, DV.conf, confL, DV.conf1, *] <;> omega))
    all_goals first | exact ⟨by simp [AV.cells], fun _ => rfl⟩ | skip
    refine st_e (stA_store (v := .agg [.d (.int .i64 N), va, .hs 4 0 N 1]) ⟨by simp [partA, AV.cells], trivial⟩ (by conv => lhs; simp) (by simp [partA, AV.cells]) (arrOf_ob h1') (by simp) hfit updA_whole hfit (fun H1 hW => ⟨trivial, ?_⟩))
    have t1 := hW.self
    simp only [List.set_cons_zero] at t1
    have t4 := hW.ob' (by omega) h4
    have t5 := hW.ob' (by omega) h5
    have to' := ho.frame (H' := H1) (fun id hr => hW.ob (by have := hva id hr; omega))
    obtain ⟨A, hA⟩ : ∃ A, A = SK.map (arcOf M) := ⟨_, rfl⟩
    rw [← hSKM, ← hA]
    rw [← hA] at to'
    -- the final numbers let go
    have tail : ∀ (va' : AV) (H2 : Heap) (v3 v4 v5 v7 v9 v15 v16 v17 v18 : AV), va'.dat = some (.vs (A.map dArc)) → (∀ g, va'.subm g = va') → va'.und 0 = true → H2.ob 1 = some (.arr 3 [.agg [.d (.int .i64 N), va', .hs 4 0 N 1]]) → H2.ob 4 = some (finO x i) →
        AtEnd r6 [] (fun r H' => r.norm = .d (dLat ⟨N, A, finTo x i⟩) ∧ H' = []) ⟨[.d (dInp x), .ptr 0 0 0, .ptr 1 0 0, v3, v4, v5, .undef, v7, .undef, v9, .undef, .undef, .undef, .undef, .undef, v15, v16, v17, v18], H2⟩ := by
      intro va' H2 v3 v4 v5 v7 v9 v15 v16 v17 v18 hd hsub hund o1 o4
      have hgo := Gh.letarr (xs := [.d (dInp x), .ptr 0 0 0, .ptr 1 0 0, v3, v4, v5, .undef, v7, .undef, v9, .undef, .undef, .undef, .undef, .undef, v15, v16, v17, v18]) (arrOf_ob o4) (ds := (finTo x i).map dI) (toDL_map _)
      obtain ⟨g, hg⟩ : ∃ g, g = gArr 4 ((finTo x i).map dI) := ⟨_, rfl⟩
      rw [← hg] at hgo
      have e4 : (AV.hs 4 0 N 1).subm g = .d (.vs ((finTo x i).map dI)) := by
        simp only [AV.subm, hg, gArr, List.length_map, hNl]
        rw [if_pos ⟨trivial, by omega⟩, List.drop_zero, List.take_of_length_le (by simp; omega)]
      have u1 : Heap.ob (Heap.subm g (H2.set 4 none)) 1 = some (.arr 3 [.agg [.d (.int .i64 N), va', .d (.vs ((finTo x i).map dI))]]) := by
        rw [subm_ob, ob_set_ne (by omega), o1]
        simp only [Option.map_some, Ob.subm, submL, AV.subm, hsub]
        rw [← e4]; simp [AV.subm]
      have hpa : partA (.agg [.d (.int .i64 N), va', .d (.vs ((finTo x i).map dI))]) 0 3 true = .agg [.d (.int .i64 N), va', .d (.vs ((finTo x i).map dI))] := by simp [partA, AV.cells]
      have hload : (RV.cell 2 3 true).ev ⟨[.d (dInp x), .ptr 0 0 0, .ptr 1 0 0, v3, v4, v5, .undef, v7, .undef, v9, .undef, .undef, .undef, .undef, .undef, v15, v16, v17, v18].map (AV.subm g), Heap.subm g (H2.set 4 none)⟩ = ⟨True ∧ (0 < 1 ∧ partAOb (.agg [.d (.int .i64 N), va', .d (.vs ((finTo x i).map dI))]) 0 3 true), .agg [.d (.int .i64 N), va', .d (.vs ((finTo x i).map dI))], .none⟩ := by
        rw [← hpa]
        simp only [RV.ev, List.map_cons, List.getD_cons_succ, List.getD_cons_zero, AV.subm, AV.strip, AV.sob, loadV, u1]
        simp only [List.length_cons, List.length_nil, hpa]
      refine ⟨_, hgo, ?_, 0, Nat.le_refl _, Nat.zero_le _, fun i o h => absurd h (Nat.not_lt_zero _), ?_, ?_, ?_⟩
      · show ((RV.cell 2 3 true).ev _).ob ∧ True
        rw [hload]
        exact ⟨⟨trivial, by omega, by simp [AV.cells], fun _ => rfl⟩, trivial⟩
      · show (((RV.cell 2 3 true).ev _).v).und 0 = true
        rw [hload]
        simp only [AV.und, undL, hund, Bool.and_true]
      · show (((RV.cell 2 3 true).ev _).v).norm = _
        rw [hload]
        have hd2 : datL [.d (.int .i64 N), va', .d (.vs ((finTo x i).map dI))] = some [.int .i64 N, .vs (A.map dArc), .vs ((finTo x i).map dI)] := by simp only [datL, hd]; rfl
        simp only [AV.norm, hd2, dLat]
      · simp
    repeat' (first | (with_reducible first | refine st_reg ?_ | refine sN (by conv => lhs; simp) ?_ | refine rN ?_ ?_ | refine rO ?_ ?_ | refine rF ?_ ?_ | refine sG (by conv => lhs; simp) ?_ | refine gF ?_ | refine gS rfl (by conv => lhs; simp) ?_ ?_ | (refine st_gef0 ?_ ?_; focus (conv => (lhs; simp)); done) | refine sE (by conv => lhs; simp) ?_ | refine Nx.go ?_ | refine st_blke' (by decide) ?_ | refine st_seq ?_ | refine st_blk ?_ | refine st_cond (by conv => lhs; simp) (by conv => lhs; simp) ?_ ?_ ?_ | refine st_lexit ?_) | (intro h_; try simp only [reduceCtorEq, y1, y2, y3, y4, y5, y6, y7, y8, y9, z1, z2, z3, z4, z5, z6, z7, ne_eq] at h_))
    all_goals try (first | contradiction | exact True.intro | omega | rfl | (simp [AV.fits, AV.cells, AV.one, DV.fits, DV.cells, DV.one, DV.conf, confL, DV.conf1]; done) | (simp [AV.fits, AV.cells, AV.one, DV.fits, DV.cells, DV.one, DV.conf, confL, DV.conf1, *] <;> omega))
    rcases to' with ⟨hva0, hA0⟩ | ⟨ida, hva1, hida⟩
    · subst hva0
      exact tail .nils H1 _ _ _ _ _ _ _ _ _ (by rw [hA0]; rfl) (fun g => by simp [AV.subm]) rfl t1 t4
    · subst hva1
      have hida7 := hva ida rfl
      have hgo := Gh.letarr (xs := [.d (dInp x), .ptr 0 0 0, .ptr 1 0 0, .ptr 3 0 0, .d (.int .i64 n), .ptr 5 0 0, .undef, .hs idk 0 ks.length 3, .undef, v9, .undef, .undef, .undef, .undef, .undef, .hs idk 0 ks.length 3, .d (.int .i64 ks.length), .d (.int .i64 k), .d (.bool (decide (k < ks.length)))]) (arrOf_ob hida) (ds := A.map dArc) (toDL_map _)
      obtain ⟨g, hg⟩ : ∃ g, g = gArr ida (A.map dArc) := ⟨_, rfl⟩
      rw [← hg] at hgo
      have ea : (AV.hs ida 0 (A.map dArc).length 5).subm g = .d (.vs (A.map dArc)) := by
        simp only [AV.subm, hg, gArr]
        rw [if_pos ⟨trivial, by omega⟩, List.drop_zero, List.take_length]
      have e4 : (AV.hs 4 0 N 1).subm g = .hs 4 0 N 1 := by
        simp only [AV.subm, hg, gArr]
        rw [if_neg (by omega)]
      have tl := tail (.d (.vs (A.map dArc))) (Heap.subm g (H1.set ida none)) (.ptr 3 0 0) (.d (.int .i64 n)) (.ptr 5 0 0) ((AV.hs idk 0 ks.length 3).subm g) (v9.subm g) ((AV.hs idk 0 ks.length 3).subm g) (.d (.int .i64 ks.length)) (.d (.int .i64 k)) (.d (.bool (decide (k < ks.length)))) rfl (fun g => by simp [AV.subm]) rfl
        (by
          rw [subm_ob, ob_set_ne (by omega), t1]
          simp only [Option.map_some, Ob.subm, submL]
          rw [show (AV.agg [.d (.int .i64 N), .hs ida 0 (A.map dArc).length 5, .hs 4 0 N 1]).subm g = .agg [(AV.d (.int .i64 N)).subm g, (AV.hs ida 0 (A.map dArc).length 5).subm g, (AV.hs 4 0 N 1).subm g] from by simp only [AV.subm, submL], ea, e4]
          simp [AV.subm])
        (by rw [subm_ob, ob_set_ne (by omega), t4, Option.map_some, finO, subm_data])
      obtain ⟨s', hg', rest⟩ := tl
      refine ⟨s', Gh.trans ?_ hg', rest⟩
      have : ([.d (dInp x), .ptr 0 0 0, .ptr 1 0 0, .ptr 3 0 0, .d (.int .i64 n), .ptr 5 0 0, .undef, .hs idk 0 ks.length 3, .undef, v9, .undef, .undef, .undef, .undef, .undef, .hs idk 0 ks.length 3, .d (.int .i64 ks.length), .d (.int .i64 k), .d (.bool (decide (k < ks.length)))] : List AV).map (AV.subm g) = [.d (dInp x), .ptr 0 0 0, .ptr 1 0 0, .ptr 3 0 0, .d (.int .i64 n), .ptr 5 0 0, .undef, (AV.hs idk 0 ks.length 3).subm g, .undef, v9.subm g, .undef, .undef, .undef, .undef, .undef, (AV.hs idk 0 ks.length 3).subm g, .d (.int .i64 ks.length), .d (.int .i64 k), .d (.bool (decide (k < ks.length)))] := by
        simp only [List.map_cons, List.map_nil, AV.subm]
      rw [this] at hgo
      exact hgo
end Go.Vm.L
