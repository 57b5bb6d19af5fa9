/- Lattice: all arcs from a state. -/
import Derived.Test.YtibpfnjbgojfoaaDoorZdI
set_option linter.all false
set_option maxHeartbeats 8000000
namespace Go.Vm.L
open Go Go.Vm

def insArc (x : Inp) (i m : Nat) (t : Nat) : Arc := ⟨2 * i, 2 * m, t, delS x i m + x.insert.getD t 0, delOps (m - i) ++ [⟨3, t⟩]⟩
def insL (x : Inp) (i m : Nat) (M : List (Key × Arc)) (n : Nat) : List (Key × Arc) := (List.range n).foldl (fun M t => addM M (insArc x i m t)) M
def kindAt (x : Inp) (m : Nat) : Int := (x.cols[m]?.map (·.kind)).getD 0
def readAt (x : Inp) (m : Nat) : List Int := (x.cols[m]?.map (·.read)).getD []
def swapArc (x : Inp) (i m : Nat) : Arc := ⟨2 * i, 2 * m + 1, kindAt x (m + 1), delS x i m + x.swap, delOps (m - i) ++ [⟨4, 0⟩]⟩
def stepRead (x : Inp) (i m : Nat) (M : List (Key × Arc)) : List (Key × Arc) :=
  if m > i then readsL i (m - 1) (delS x i (m - 1)) (delOps (m - 1 - i)) (readAt x (m - 1)) M x.insert.length else M
def stepIns (x : Inp) (i m : Nat) (M : List (Key × Arc)) : List (Key × Arc) := insL x i m (stepRead x i m M) x.insert.length
def stepFrom (x : Inp) (i : Nat) (M : List (Key × Arc)) (m : Nat) : List (Key × Arc) :=
  if swapB x m then addM (stepIns x i m M) (swapArc x i m) else stepIns x i m M
def fromTo (x : Inp) (i : Nat) (M : List (Key × Arc)) (k : Nat) : List (Key × Arc) := (List.range k).foldl (fun M j => stepFrom x i M (i + j)) M
def lastArc (x : Inp) (i : Nat) : Arc := ⟨2 * i + 1, 2 * i + 4, kindAt x i, 0, []⟩
def fromL (x : Inp) (i : Nat) (M : List (Key × Arc)) : List (Key × Arc) :=
  if swapB x i then addM (fromTo x i M (x.cols.length + 1 - i)) (lastArc x i) else fromTo x i M (x.cols.length + 1 - i)

/-- Calls with the builder. -/
theorem st_bld {P : Program} {vs env : List AV} {H : Heap} {K : AV → Heap → Prop} {x : Inp} {M M' : List (Key × Arc)} {f : FuncId} {args : List Arg} {ds xs : List AV} {pend solid : List Arg} {r0 : AV}
    (h0 : H.ob 0 = some (bldO x 1)) (h1 : H.ob 1 = some (mapO M)) (hf : Fn P f (.ptr 0 0 0 :: ds) (BH x M) (fun r H' => r = r0 ∧ H' = BH x M'))
    (ho : argsOb (evalA vs env) args ∧ solidOk (evalA vs env) solid) (hx : (args.map fun a => (evalA vs env a).strip) = .ptr 0 0 0 :: xs) (hd : argsM (renOf [0, 1] H.length) xs ds)
    (hr : ∀ f, r0.ren f = r0) (hp : ∀ H' : Heap, (∀ j, 2 ≤ j → j < H.length → H'[j]? = H[j]?) → pendOk (evalA vs env) H H' pend)
    (hk : ∀ H', H'.ob 0 = some (bldO x 1) → H'.ob 1 = some (mapO M') → H'.length = H.length → (∀ j, 2 ≤ j → j < H.length → H'[j]? = H[j]?) → K r0 H') : wpEff P (evalA vs env) H (.call f args) pend solid false K := by
  refine stA_call [0, 1] ho hx hf ⟨.inl (by simp [AV.ren, renOf]), hd⟩ (hand01 h0 h1) (by simp) (fun r Hc H3 hr2 hH2 => ?_)
  obtain ⟨rfl, rfl⟩ := hr2
  obtain ⟨c0, c1, c2⟩ := back01 hH2
  have hg : ∀ j, 2 ≤ j → j < H.length → H3[j]? = H[j]? := fun j hj hjl => hH2.get j (by simp; omega) hjl
  rw [hr]
  exact ⟨hp H3 hg, hk H3 c0 c1 c2 hg⟩

theorem swapB_lt {x : Inp} {m : Nat} (h : swapB x m = true) : m + 1 < x.cols.length := by
  unfold swapB at h
  rcases Nat.lt_or_ge (m + 1) x.cols.length with h1 | h1
  · exact h1
  · rw [List.getElem?_eq_none h1] at h
    cases hc : x.cols[m]? <;> simp [hc] at h
theorem fromTo_succ (x : Inp) (i : Nat) (M : List (Key × Arc)) {m : Nat} (him : i ≤ m) : fromTo x i M (m + 1 - i) = stepFrom x i (fromTo x i M (m - i)) m := by
  rw [show m + 1 - i = (m - i) + 1 from by omega]
  simp [fromTo, List.range_succ, show i + (m - i) = m from by omega]

theorem from30 (x : Inp) (M : List (Key × Arc)) (i : Nat) (hx : WF x) (hi : i ≤ x.cols.length) :
    Fn prog 22 [.ptr 0 0 0, .d (.int .i64 i)] (BH x M) (fun r H' => r = .tup [] ∧ H' = BH x (fromL x i M)) := by
  have hn := hx.n
  have ht := hx.t
  refine fn_of e22 hm (by rfl) (vs := [.ptr 0 0 0, .d (.int .i64 i), .undef, .undef, .undef, .undef, .undef, .undef, .undef, .undef, .undef, .undef, .undef, .undef, .undef, .undef, .undef, .undef]) rfl ?_
  unfold c22 BH bldO
  have w1 : IntKind.i64.wrap (2 * (i : Int)) = 2 * i := wrap64 (by omega) (by omega)
  repeat' (first | (with_reducible first | refine st_reg ?_ | refine sN (by conv => lhs; simp [dCol]) ?_ | refine rN ?_ ?_ | refine rO ?_ ?_ | refine rF ?_ ?_ | refine sG (by conv => lhs; simp [dCol]) ?_ | refine gF ?_ | refine gS rfl (by conv => lhs; simp [dCol]) ?_ ?_ | (refine st_gef0 ?_ ?_; focus (conv => (lhs; simp [dCol])); done) | refine sE (by conv => lhs; simp) ?_ | refine Nx.go ?_ | refine st_blke' (by decide) ?_ | refine st_seq ?_ | refine st_blk ?_ | refine st_cond (by conv => lhs; simp) (by conv => lhs; simp [dCol]) ?_ ?_ ?_ | refine st_lexit ?_) | (intro h_; try simp only [reduceCtorEq, y1, y2, y3, y4, y5, y6, y7, y8, y9, z1, z2, z3, z4, z5, z6, z7, ne_eq] at h_))
  all_goals try (first | contradiction | exact True.intro | omega | rfl | (simp [AV.fits, AV.cells, AV.one, DV.fits, DV.cells, DV.one, DV.conf, confL, DV.conf1]; done) | (simp [AV.fits, AV.cells, AV.one, DV.fits, DV.cells, DV.one, DV.conf, confL, DV.conf1, *] <;> omega))
  refine wpC_loop (fun s => ∃ (m : Nat) (H : Heap) (v4 v5 v6 v7 v8 v9 v12 v13 v14 : AV), i ≤ m ∧ m ≤ x.cols.length + 1 ∧ s = ⟨[.ptr 0 0 0, .d (.int .i64 i), .d (.int .i64 x.cols.length), .d (.int .i64 m), v4, v5, v6, v7, v8, v9, .undef, .undef, v12, v13, v14, .undef, .undef, .undef], H⟩ ∧
      H.ob 0 = some (bldO x 1) ∧ H.ob 1 = some (mapO (fromTo x i M (m - i))))
    (fun s => x.cols.length + 1 - (s.int 3).toNat)
    (s' := ⟨[.ptr 0 0 0, .d (.int .i64 i), .d (.int .i64 x.cols.length), .d (.int .i64 i), .undef, .undef, .undef, .undef, .undef, .undef, .undef, .undef, .undef, .undef, .undef, .undef, .undef, .undef], BH x M⟩)
    (Gh.weak (by simp [weak])) ⟨i, BH x M, _, _, _, _, _, _, _, _, _, by omega, by omega, rfl, rfl, by rw [Nat.sub_self]; rfl⟩ ?_
  rintro _ ⟨m, H, v4, v5, v6, v7, v8, v9, v12, v13, v14, him, hm1, rfl, h0, h1⟩
  obtain ⟨M0, hM0⟩ : ∃ M0, M0 = fromTo x i M (m - i) := ⟨_, rfl⟩
  rw [← hM0] at h1
  have w2 : IntKind.i64.wrap (2 * (m : Int)) = 2 * m := wrap64 (by omega) (by omega)
  have w3 : IntKind.i64.wrap (2 * (m : Int) + 1) = 2 * m + 1 := wrap64 (by omega) (by omega)
  have w5 : IntKind.i64.wrap ((m : Int) + 1) = ((m + 1 : Nat) : Int) := by rw [wrap64 (by omega) (by omega)]; simp
  have h0' := h0
  simp only [bldO] at h0'
  have cons : ∀ (vs : List AV) (H : Heap) (M' : List (Key × Arc)), M' = fromL x i M → H.ob 0 = some (bldO x 1) → H.ob 1 = some (mapO M') → atEnd r22 (BH x M) (fun r H' => r = .tup [] ∧ H' = BH x (fromL x i M)) .normal ⟨vs, H⟩ := by
    rintro vs H M' rfl h0 h1
    exact atEnd_Hn 2 (Gh.refl _) trivial (Nat.le_refl _) (by have := ob_lt h1; show 2 ≤ H.length; omega) (BH_und h0 h1) rfl ⟨rfl, take2 h0 h1⟩
  rcases Nat.lt_or_ge x.cols.length m with hml | hml
  · have hmn : m - i = x.cols.length + 1 - i := by omega
    have w7 : IntKind.i64.wrap (2 * (i : Int) + 1) = 2 * i + 1 := wrap64 (by omega) (by omega)
    have w8 : IntKind.i64.wrap (2 * (i : Int) + 4) = 2 * i + 4 := wrap64 (by omega) (by omega)
    repeat' (first | (with_reducible first | refine st_reg ?_ | refine sN (by conv => lhs; simp [hml]) ?_ | refine rN ?_ ?_ | refine rO ?_ ?_ | refine rF ?_ ?_ | refine sG (by conv => lhs; simp [hml]) ?_ | refine gF ?_ | refine gS rfl (by conv => lhs; simp [hml]) ?_ ?_ | (refine st_gef0 ?_ ?_; focus (conv => (lhs; simp [hml])); done) | refine sE (by conv => lhs; simp) ?_ | refine Nx.go ?_ | refine st_blke' (by decide) ?_ | refine st_seq ?_ | refine st_blk ?_ | refine st_cond (by conv => lhs; simp) (by conv => lhs; simp [hml]) ?_ ?_ ?_ | refine st_lexit ?_) | (intro h_; try simp only [reduceCtorEq, y1, y2, y3, y4, y5, y6, y7, y8, y9, z1, z2, z3, z4, z5, z6, z7, ne_eq] at h_))
    all_goals try (first | contradiction | exact True.intro | omega | rfl | (simp [AV.fits, AV.cells, AV.one, DV.fits, DV.cells, DV.one, DV.conf, confL, DV.conf1]; done) | (simp [AV.fits, AV.cells, AV.one, DV.fits, DV.cells, DV.one, DV.conf, confL, DV.conf1, *] <;> omega))
    refine st_e (st_bld h0 h1 (swap50 x M0 i hx hi) ⟨by simp, trivial⟩ (by conv => lhs; simp) (by simp [argsM, AV.ren]) (fun f => by simp [AV.ren]) (fun _ _ => trivial) (fun H1 b0 b1 hl hg => ?_))
    cases hs : swapB x i with
    | true =>
      have hi1 := swapB_lt hs
      have hi2 : i < x.cols.length := by omega
      have b0' := b0
      simp only [bldO, bldV] at b0'
      repeat' (first | (with_reducible first | refine st_reg ?_ | refine sN (by conv => lhs; simp [litV, litE, litOb, toDL, AV.toD, AV.norm, List.replicate, fillC, fillOb, AV.mkAgg, AV.allD, AV.cells, DV.cells, dCol, getD_map_lt, hi2, b0', w1, w7, w8]) ?_ | refine rN ?_ ?_ | refine rO ?_ ?_ | refine rF ?_ ?_ | refine sG (by conv => lhs; simp [litV, litE, litOb, toDL, AV.toD, AV.norm, List.replicate, fillC, fillOb, AV.mkAgg, AV.allD, AV.cells, DV.cells, dCol, getD_map_lt, hi2, b0', w1, w7, w8]) ?_ | refine gF ?_ | refine gS rfl (by conv => lhs; simp [litV, litE, litOb, toDL, AV.toD, AV.norm, List.replicate, fillC, fillOb, AV.mkAgg, AV.allD, AV.cells, DV.cells, dCol, getD_map_lt, hi2, b0', w1, w7, w8]) ?_ ?_ | (refine st_gef0 ?_ ?_; focus (conv => (lhs; simp [litV, litE, litOb, toDL, AV.toD, AV.norm, List.replicate, fillC, fillOb, AV.mkAgg, AV.allD, AV.cells, DV.cells, dCol, getD_map_lt, hi2, b0', w1, w7, w8])); done) | refine sE (by conv => lhs; simp) ?_ | refine Nx.go ?_ | refine st_blke' (by decide) ?_ | refine st_seq ?_ | refine st_blk ?_ | refine st_cond (by conv => lhs; simp) (by conv => lhs; simp [litV, litE, litOb, toDL, AV.toD, AV.norm, List.replicate, fillC, fillOb, AV.mkAgg, AV.allD, AV.cells, DV.cells, dCol, getD_map_lt, hi2, b0', w1, w7, w8]) ?_ ?_ ?_ | refine st_lexit ?_) | (intro h_; try simp only [reduceCtorEq, y1, y2, y3, y4, y5, y6, y7, y8, y9, z1, z2, z3, z4, z5, z6, z7, ne_eq] at h_))
      all_goals try (first | contradiction | exact True.intro | omega | rfl | (simp [AV.fits, AV.cells, AV.one, DV.fits, DV.cells, DV.one, DV.conf, confL, DV.conf1]; done) | (simp [AV.fits, AV.cells, AV.one, DV.fits, DV.cells, DV.one, DV.conf, confL, DV.conf1, *] <;> omega))
      refine st_e (st_bld b0 b1 (add48 x _ (lastArc x i)) ⟨by simp, trivial⟩ (by conv => lhs; simp) (by simp [argsM, AV.ren, AV.norm, datL, AV.dat, lastArc, dArc, kindAt, hi2]) (fun f => by simp [AV.ren, renL]) (fun _ _ => trivial) (fun H2 c0 c1 hl2 hg2 => ?_))
      repeat' (first | (with_reducible first | refine st_reg ?_ | refine sN (by conv => lhs; simp) ?_ | refine rN ?_ ?_ | refine rO ?_ ?_ | refine rF ?_ ?_ | refine sG (by conv => lhs; simp) ?_ | refine gF ?_ | refine gS rfl (by conv => lhs; simp) ?_ ?_ | (refine st_gef0 ?_ ?_; focus (conv => (lhs; simp)); done) | refine sE (by conv => lhs; simp) ?_ | refine Nx.go ?_ | refine st_blke' (by decide) ?_ | refine st_seq ?_ | refine st_blk ?_ | refine st_cond (by conv => lhs; simp) (by conv => lhs; simp) ?_ ?_ ?_ | refine st_lexit ?_) | (intro h_; try simp only [reduceCtorEq, y1, y2, y3, y4, y5, y6, y7, y8, y9, z1, z2, z3, z4, z5, z6, z7, ne_eq] at h_))
      all_goals try (first | contradiction | exact True.intro | omega | rfl | (simp [AV.fits, AV.cells, AV.one, DV.fits, DV.cells, DV.one, DV.conf, confL, DV.conf1]; done) | (simp [AV.fits, AV.cells, AV.one, DV.fits, DV.cells, DV.one, DV.conf, confL, DV.conf1, *] <;> omega))
      exact cons _ _ _ (by rw [fromL, hs, if_pos rfl, hM0, hmn]) c0 c1
    | false =>
      repeat' (first | (with_reducible first | refine st_reg ?_ | refine sN (by conv => lhs; simp) ?_ | refine rN ?_ ?_ | refine rO ?_ ?_ | refine rF ?_ ?_ | refine sG (by conv => lhs; simp) ?_ | refine gF ?_ | refine gS rfl (by conv => lhs; simp) ?_ ?_ | (refine st_gef0 ?_ ?_; focus (conv => (lhs; simp)); done) | refine sE (by conv => lhs; simp) ?_ | refine Nx.go ?_ | refine st_blke' (by decide) ?_ | refine st_seq ?_ | refine st_blk ?_ | refine st_cond (by conv => lhs; simp) (by conv => lhs; simp) ?_ ?_ ?_ | refine st_lexit ?_) | (intro h_; try simp only [reduceCtorEq, y1, y2, y3, y4, y5, y6, y7, y8, y9, z1, z2, z3, z4, z5, z6, z7, ne_eq] at h_))
      all_goals try (first | contradiction | exact True.intro | omega | rfl | (simp [AV.fits, AV.cells, AV.one, DV.fits, DV.cells, DV.one, DV.conf, confL, DV.conf1]; done) | (simp [AV.fits, AV.cells, AV.one, DV.fits, DV.cells, DV.one, DV.conf, confL, DV.conf1, *] <;> omega))
      exact cons _ _ _ (by rw [fromL, hs, if_neg (by simp), hM0, hmn]) b0 b1
  · have hbd := delS_bd hx him hml
    repeat' (first | (with_reducible first | refine st_reg ?_ | refine sN (by conv => lhs; simp [hml]) ?_ | refine rN ?_ ?_ | refine rO ?_ ?_ | refine rF ?_ ?_ | refine sG (by conv => lhs; simp [hml]) ?_ | refine gF ?_ | refine gS rfl (by conv => lhs; simp [hml]) ?_ ?_ | (refine st_gef0 ?_ ?_; focus (conv => (lhs; simp [hml])); done) | refine sE (by conv => lhs; simp) ?_ | refine Nx.go ?_ | refine st_blke' (by decide) ?_ | refine st_seq ?_ | refine st_blk ?_ | refine st_cond (by conv => lhs; simp) (by conv => lhs; simp [hml]) ?_ ?_ ?_ | refine st_lexit ?_) | (intro h_; try simp only [reduceCtorEq, y1, y2, y3, y4, y5, y6, y7, y8, y9, z1, z2, z3, z4, z5, z6, z7, ne_eq] at h_))
    all_goals try (first | contradiction | exact True.intro | omega | rfl | (simp [AV.fits, AV.cells, AV.one, DV.fits, DV.cells, DV.one, DV.conf, confL, DV.conf1]; done) | (simp [AV.fits, AV.cells, AV.one, DV.fits, DV.cells, DV.one, DV.conf, confL, DV.conf1, *] <;> omega))
    refine st_e (st_bld h0 h1 (deleted31 x M0 i m hx him hml) ⟨by simp, trivial⟩ (by conv => lhs; simp) (by simp [argsM, AV.ren]) (fun f => by simp [AV.ren, renL]) (fun _ _ => trivial) (fun H1 b0 b1 hl hg => ?_))
    obtain ⟨ops, hops⟩ : ∃ ops, ops = delOps (m - i) := ⟨_, rfl⟩
    have hopl : ops.length = m - i := by rw [hops]; simp [delOps]
    rw [← hops]
    repeat' (first | (with_reducible first | refine st_reg ?_ | refine sN (by conv => lhs; simp) ?_ | refine rN ?_ ?_ | refine rO ?_ ?_ | refine rF ?_ ?_ | (refine st_gf ?_ ?_; focus (conv => (lhs; simp)); done) | refine st_g (by conv => lhs; simp) rfl (by conv => lhs; simp) ?_ ?_ | (refine st_gef0 ?_ ?_; focus (conv => (lhs; simp)); done) | refine sE (by conv => lhs; simp) ?_ | refine Nx.go ?_ | refine st_blke' (by decide) ?_ | refine st_lexit ?_) | (intro h_; try simp only [reduceCtorEq, y1, y2, y3, y4, y5, y6, y7, y8, y9, z1, z2, z3, z4, z5, z6, z7, ne_eq] at h_))
    all_goals try (first | contradiction | exact True.intro | omega | rfl | (simp [AV.fits, AV.cells, AV.one, DV.fits, DV.cells, DV.one, DV.conf, confL, DV.conf1]; done) | (simp [AV.fits, AV.cells, AV.one, DV.fits, DV.cells, DV.one, DV.conf, confL, DV.conf1, *] <;> omega))
    refine st_mid (fun s => ∃ (H : Heap) (v6 v7 v10 v11 : AV), s = ⟨[.ptr 0 0 0, .d (.int .i64 i), .d (.int .i64 x.cols.length), .d (.int .i64 m), .d (.int .i64 (delS x i m)), .d (.vs (ops.map dOp)), v6, v7, v8, v9, v10, v11, v12, v13, v14, .undef, .undef, .undef], H⟩ ∧
      H.ob 0 = some (bldO x 1) ∧ H.ob 1 = some (mapO (stepRead x i m M0))) ?_ ?_
    · rcases Nat.lt_or_ge i m with hlt | hlt
      · have w6 : IntKind.i64.wrap ((m : Int) - 1) = ((m - 1 : Nat) : Int) := by rw [wrap64 (by omega) (by omega)]; omega
        have hbd2 := delS_bd hx (show i ≤ m - 1 by omega) (show m - 1 ≤ x.cols.length by omega)
        have hm1l : m - 1 < x.cols.length := by omega
        have hlt' : (i : Int) < m := by omega
        repeat' (first | (with_reducible first | refine st_reg ?_ | refine sN (by conv => lhs; simp [hlt, w6]) ?_ | refine rN ?_ ?_ | refine rO ?_ ?_ | refine rF ?_ ?_ | refine sG (by conv => lhs; simp [hlt, w6]) ?_ | refine gF ?_ | refine gS rfl (by conv => lhs; simp [hlt, w6]) ?_ ?_ | (refine st_gef0 ?_ ?_; focus (conv => (lhs; simp [hlt, w6])); done) | refine sE (by conv => lhs; simp) ?_ | refine Nx.go ?_ | refine st_blke' (by decide) ?_ | refine st_seq ?_ | refine st_blk ?_ | refine st_cond (by conv => lhs; simp) (by conv => lhs; simp [hlt, w6]) ?_ ?_ ?_ | refine st_lexit ?_) | (intro h_; try simp only [reduceCtorEq, y1, y2, y3, y4, y5, y6, y7, y8, y9, z1, z2, z3, z4, z5, z6, z7, ne_eq] at h_))
        all_goals try (first | contradiction | exact True.intro | omega | rfl | (simp [AV.fits, AV.cells, AV.one, DV.fits, DV.cells, DV.one, DV.conf, confL, DV.conf1]; done) | (simp [AV.fits, AV.cells, AV.one, DV.fits, DV.cells, DV.one, DV.conf, confL, DV.conf1, *] <;> omega))
        refine st_e (st_bld b0 b1 (deleted31 x M0 i (m - 1) hx (by omega) (by omega)) ⟨by simp, trivial⟩ (by conv => lhs; simp) (by simp [argsM, AV.ren]) (fun f => by simp [AV.ren, renL]) (fun _ _ => trivial) (fun H2 c0 c1 hl2 hg2 => ?_))
        repeat' (first | (with_reducible first | refine st_reg ?_ | refine sN (by conv => lhs; simp [w6]) ?_ | refine rN ?_ ?_ | refine rO ?_ ?_ | refine rF ?_ ?_ | refine sG (by conv => lhs; simp [w6]) ?_ | refine gF ?_ | refine gS rfl (by conv => lhs; simp [w6]) ?_ ?_ | (refine st_gef0 ?_ ?_; focus (conv => (lhs; simp [w6])); done) | refine sE (by conv => lhs; simp) ?_ | refine Nx.go ?_ | refine st_blke' (by decide) ?_ | refine st_seq ?_ | refine st_blk ?_ | refine st_cond (by conv => lhs; simp) (by conv => lhs; simp [w6]) ?_ ?_ ?_ | refine st_lexit ?_) | (intro h_; try simp only [reduceCtorEq, y1, y2, y3, y4, y5, y6, y7, y8, y9, z1, z2, z3, z4, z5, z6, z7, ne_eq] at h_))
        all_goals try (first | contradiction | exact True.intro | omega | rfl | (simp [AV.fits, AV.cells, AV.one, DV.fits, DV.cells, DV.one, DV.conf, confL, DV.conf1]; done) | (simp [AV.fits, AV.cells, AV.one, DV.fits, DV.cells, DV.one, DV.conf, confL, DV.conf1, *] <;> omega))
        refine st_e (st_bld c0 c1 (reads47 x M0 i (m - 1) (delS x i (m - 1)) (delOps (m - 1 - i)) hx hi hm1l hbd2 (by simp [delOps]; omega)) ⟨by simp, trivial⟩ (by conv => lhs; simp) (by simp [argsM, AV.ren]) (fun f => by simp [AV.ren, renL]) (fun _ _ => trivial) (fun H3 d0 d1 hl3 hg3 => ?_))
        repeat' (first | (with_reducible first | refine st_reg ?_ | refine sN (by conv => lhs; simp) ?_ | refine rN ?_ ?_ | refine rO ?_ ?_ | refine rF ?_ ?_ | refine sG (by conv => lhs; simp) ?_ | refine gF ?_ | refine gS rfl (by conv => lhs; simp) ?_ ?_ | (refine st_gef0 ?_ ?_; focus (conv => (lhs; simp)); done) | refine sE (by conv => lhs; simp) ?_ | refine Nx.go ?_ | refine st_blke' (by decide) ?_ | refine st_seq ?_ | refine st_blk ?_ | refine st_cond (by conv => lhs; simp) (by conv => lhs; simp) ?_ ?_ ?_ | refine st_lexit ?_) | (intro h_; try simp only [reduceCtorEq, y1, y2, y3, y4, y5, y6, y7, y8, y9, z1, z2, z3, z4, z5, z6, z7, ne_eq] at h_))
        all_goals try (first | contradiction | exact True.intro | omega | rfl | (simp [AV.fits, AV.cells, AV.one, DV.fits, DV.cells, DV.one, DV.conf, confL, DV.conf1]; done) | (simp [AV.fits, AV.cells, AV.one, DV.fits, DV.cells, DV.one, DV.conf, confL, DV.conf1, *] <;> omega))
        refine ⟨_, _, _, _, _, rfl, d0, ?_⟩
        rw [d1, stepRead, if_pos hlt, readAt, List.getElem?_eq_getElem hm1l]; rfl
      · have hlt' : ¬ i < m := by omega
        repeat' (first | (with_reducible first | refine st_reg ?_ | refine sN (by conv => lhs; simp [hlt']) ?_ | refine rN ?_ ?_ | refine rO ?_ ?_ | refine rF ?_ ?_ | refine sG (by conv => lhs; simp [hlt']) ?_ | refine gF ?_ | refine gS rfl (by conv => lhs; simp [hlt']) ?_ ?_ | (refine st_gef0 ?_ ?_; focus (conv => (lhs; simp [hlt'])); done) | refine sE (by conv => lhs; simp) ?_ | refine Nx.go ?_ | refine st_blke' (by decide) ?_ | refine st_seq ?_ | refine st_blk ?_ | refine st_cond (by conv => lhs; simp) (by conv => lhs; simp [hlt']) ?_ ?_ ?_ | refine st_lexit ?_) | (intro h_; try simp only [reduceCtorEq, y1, y2, y3, y4, y5, y6, y7, y8, y9, z1, z2, z3, z4, z5, z6, z7, ne_eq] at h_))
        all_goals try (first | contradiction | exact True.intro | omega | rfl | (simp [AV.fits, AV.cells, AV.one, DV.fits, DV.cells, DV.one, DV.conf, confL, DV.conf1]; done) | (simp [AV.fits, AV.cells, AV.one, DV.fits, DV.cells, DV.one, DV.conf, confL, DV.conf1, *] <;> omega))
        refine ⟨_, _, _, _, _, rfl, b0, ?_⟩
        rw [b1, stepRead, if_neg (by omega)]
    · rintro _ ⟨H2, v6', v7', v10', v11', rfl, c0, c1⟩
      have c0' := c0
      simp only [bldO, bldV] at c0'
      repeat' (first | (with_reducible first | refine st_reg ?_ | refine sN (by conv => lhs; simp [c0']) ?_ | refine rN ?_ ?_ | refine rO ?_ ?_ | refine rF ?_ ?_ | refine sG (by conv => lhs; simp [c0']) ?_ | refine gF ?_ | refine gS rfl (by conv => lhs; simp [c0']) ?_ ?_ | (refine st_gef0 ?_ ?_; focus (conv => (lhs; simp [c0'])); done) | refine sE (by conv => lhs; simp) ?_ | refine Nx.go ?_ | refine st_blke' (by decide) ?_ | refine st_seq ?_ | refine st_blk ?_ | refine st_cond (by conv => lhs; simp) (by conv => lhs; simp [c0']) ?_ ?_ ?_ | refine st_lexit ?_) | (intro h_; try simp only [reduceCtorEq, y1, y2, y3, y4, y5, y6, y7, y8, y9, z1, z2, z3, z4, z5, z6, z7, ne_eq] at h_))
      all_goals try (first | contradiction | exact True.intro | omega | rfl | (simp [AV.fits, AV.cells, AV.one, DV.fits, DV.cells, DV.one, DV.conf, confL, DV.conf1]; done) | (simp [AV.fits, AV.cells, AV.one, DV.fits, DV.cells, DV.one, DV.conf, confL, DV.conf1, *] <;> omega))
      refine wpC_loop (fun s => ∃ (k : Nat) (H : Heap) (v8 v9 : AV), k ≤ x.insert.length ∧ s = ⟨[.ptr 0 0 0, .d (.int .i64 i), .d (.int .i64 x.cols.length), .d (.int .i64 m), .d (.int .i64 (delS x i m)), .d (.vs (ops.map dOp)), v6', v7', v8, v9, v10', v11', .d (.vs (x.insert.map dI)), .d (.int .i64 x.insert.length), .d (.int .i64 k), .undef, .undef, .undef], H⟩ ∧
          H.ob 0 = some (bldO x 1) ∧ H.ob 1 = some (mapO (insL x i m (stepRead x i m M0) k)))
        (fun s => x.insert.length - (s.int 14).toNat)
        (s' := ⟨[.ptr 0 0 0, .d (.int .i64 i), .d (.int .i64 x.cols.length), .d (.int .i64 m), .d (.int .i64 (delS x i m)), .d (.vs (ops.map dOp)), v6', v7', v8, v9, v10', v11', .d (.vs (x.insert.map dI)), .d (.int .i64 x.insert.length), .d (.int .i64 (0 : Nat)), .undef, .undef, .undef], H2⟩)
        (Gh.weak (by simp [weak])) ⟨0, H2, _, _, by omega, rfl, c0, c1⟩ ?_
      rintro _ ⟨k, H3, v8', v9', hk, rfl, d0, d1⟩
      have hw : IntKind.i64.wrap ((k : Int) + 1) = ((k + 1 : Nat) : Int) := by rw [wrap64 (by omega) (by omega)]; simp
      rcases Nat.lt_or_ge k x.insert.length with hkl | hkl
      · have hp := hx.ins x.insert[k] (List.getElem_mem hkl)
        have w4 : IntKind.i64.wrap (delS x i m + x.insert[k]) = delS x i m + x.insert[k] := wrap64 (by omega) (by omega)
        repeat' (first | (with_reducible first | refine st_reg ?_ | refine sN (by conv => lhs; simp [litV, litE, litOb, toDL, AV.toD, AV.norm, List.replicate, fillC, fillOb, AV.mkAgg, AV.allD, AV.cells, DV.cells, getD_map_lt, hkl, dI, w1, w2, w3, w4]) ?_ | refine rN ?_ ?_ | refine rO ?_ ?_ | refine rF ?_ ?_ | refine sG (by conv => lhs; simp [litV, litE, litOb, toDL, AV.toD, AV.norm, List.replicate, fillC, fillOb, AV.mkAgg, AV.allD, AV.cells, DV.cells, getD_map_lt, hkl, dI, w1, w2, w3, w4]) ?_ | refine gF ?_ | refine gS rfl (by conv => lhs; simp [litV, litE, litOb, toDL, AV.toD, AV.norm, List.replicate, fillC, fillOb, AV.mkAgg, AV.allD, AV.cells, DV.cells, getD_map_lt, hkl, dI, w1, w2, w3, w4]) ?_ ?_ | (refine st_gef0 ?_ ?_; focus (conv => (lhs; simp [litV, litE, litOb, toDL, AV.toD, AV.norm, List.replicate, fillC, fillOb, AV.mkAgg, AV.allD, AV.cells, DV.cells, getD_map_lt, hkl, dI, w1, w2, w3, w4])); done) | refine sE (by conv => lhs; simp) ?_ | refine Nx.go ?_ | refine st_blke' (by decide) ?_ | refine st_seq ?_ | refine st_blk ?_ | refine st_cond (by conv => lhs; simp) (by conv => lhs; simp [litV, litE, litOb, toDL, AV.toD, AV.norm, List.replicate, fillC, fillOb, AV.mkAgg, AV.allD, AV.cells, DV.cells, getD_map_lt, hkl, dI, w1, w2, w3, w4]) ?_ ?_ ?_ | refine st_lexit ?_) | (intro h_; try simp only [reduceCtorEq, y1, y2, y3, y4, y5, y6, y7, y8, y9, z1, z2, z3, z4, z5, z6, z7, ne_eq] at h_))
        all_goals try (first | contradiction | exact True.intro | omega | rfl | (simp [AV.fits, AV.cells, AV.one, DV.fits, DV.cells, DV.one, DV.conf, confL, DV.conf1]; done) | (simp [AV.fits, AV.cells, AV.one, DV.fits, DV.cells, DV.one, DV.conf, confL, DV.conf1, *] <;> omega))
        refine st_e (stA_call [] ⟨by simp, trivial⟩ (by conv => lhs; simp) (Clone49 ops (by omega)) (by simp [argsM, AV.ren]) trivial List.nodup_nil (fun r Hc' H4 hr hH => ⟨trivial, ?_⟩))
        obtain ⟨id, rfl, hid⟩ := hr
        have hnew := clone_new hH hid
        have hren : (AV.hs id 0 ops.length 2).ren (renOf [] H3.length) = .hs (H3.length + id) 0 ops.length 2 := by simp [AV.ren, renOf]
        rw [hren]
        have l0 := ob_lt d0
        have l1 := ob_lt d1
        repeat' (first | (with_reducible first | refine st_reg ?_ | refine sN (by conv => lhs; simp [litV, litE, litOb, toDL, AV.toD, AV.norm, List.replicate, fillC, fillOb, AV.mkAgg, AV.allD, AV.cells, DV.cells, dI]) ?_ | refine rN ?_ ?_ | refine rO ?_ ?_ | refine rF ?_ ?_ | refine sG (by conv => lhs; simp [litV, litE, litOb, toDL, AV.toD, AV.norm, List.replicate, fillC, fillOb, AV.mkAgg, AV.allD, AV.cells, DV.cells, dI]) ?_ | refine gF ?_ | refine gS rfl (by conv => lhs; simp [litV, litE, litOb, toDL, AV.toD, AV.norm, List.replicate, fillC, fillOb, AV.mkAgg, AV.allD, AV.cells, DV.cells, dI]) ?_ ?_ | (refine st_gef0 ?_ ?_; focus (conv => (lhs; simp [litV, litE, litOb, toDL, AV.toD, AV.norm, List.replicate, fillC, fillOb, AV.mkAgg, AV.allD, AV.cells, DV.cells, dI])); done) | refine sE (by conv => lhs; simp) ?_ | refine Nx.go ?_ | refine st_blke' (by decide) ?_ | refine st_seq ?_ | refine st_blk ?_ | refine st_cond (by conv => lhs; simp) (by conv => lhs; simp [litV, litE, litOb, toDL, AV.toD, AV.norm, List.replicate, fillC, fillOb, AV.mkAgg, AV.allD, AV.cells, DV.cells, dI]) ?_ ?_ ?_ | refine st_lexit ?_) | (intro h_; try simp only [reduceCtorEq, y1, y2, y3, y4, y5, y6, y7, y8, y9, z1, z2, z3, z4, z5, z6, z7, ne_eq] at h_))
        all_goals try (first | contradiction | exact True.intro | omega | rfl | (simp [AV.fits, AV.cells, AV.one, DV.fits, DV.cells, DV.one, DV.conf, confL, DV.conf1]; done) | (simp [AV.fits, AV.cells, AV.one, DV.fits, DV.cells, DV.one, DV.conf, confL, DV.conf1, *] <;> omega))
        refine st_e (stA_appF (id := H3.length + id) (off := 0) (len := ops.length) (olds := ops.map dOp) (ds := [.agg [.int .i64 3, .int .i64 k]]) ⟨by simp, trivial⟩ (by conv => lhs; simp) (by conv => lhs; simp) (arrOf_ob hnew) (by simp) (by simp) (by simp [DV.fits, DV.cells, DV.one]) (by simp; omega) (fun H5 hG => ⟨trivial, ?_⟩))
        have f0 := hG.ob' (by omega) (hH.ob' (by simp) d0)
        have f1 := hG.ob' (by omega) (hH.ob' (by simp) d1)
        repeat' (first | (with_reducible first | refine st_reg ?_ | refine sN (by conv => lhs; simp [litV, litE, litOb, toDL, AV.toD, AV.norm, List.replicate, fillC, fillOb, AV.mkAgg, AV.allD, AV.cells, DV.cells]) ?_ | refine rN ?_ ?_ | refine rO ?_ ?_ | refine rF ?_ ?_ | refine sG (by conv => lhs; simp [litV, litE, litOb, toDL, AV.toD, AV.norm, List.replicate, fillC, fillOb, AV.mkAgg, AV.allD, AV.cells, DV.cells]) ?_ | refine gF ?_ | refine gS rfl (by conv => lhs; simp [litV, litE, litOb, toDL, AV.toD, AV.norm, List.replicate, fillC, fillOb, AV.mkAgg, AV.allD, AV.cells, DV.cells]) ?_ ?_ | (refine st_gef0 ?_ ?_; focus (conv => (lhs; simp [litV, litE, litOb, toDL, AV.toD, AV.norm, List.replicate, fillC, fillOb, AV.mkAgg, AV.allD, AV.cells, DV.cells])); done) | refine sE (by conv => lhs; simp) ?_ | refine Nx.go ?_ | refine st_blke' (by decide) ?_ | refine st_seq ?_ | refine st_blk ?_ | refine st_cond (by conv => lhs; simp) (by conv => lhs; simp [litV, litE, litOb, toDL, AV.toD, AV.norm, List.replicate, fillC, fillOb, AV.mkAgg, AV.allD, AV.cells, DV.cells]) ?_ ?_ ?_ | refine st_lexit ?_) | (intro h_; try simp only [reduceCtorEq, y1, y2, y3, y4, y5, y6, y7, y8, y9, z1, z2, z3, z4, z5, z6, z7, ne_eq] at h_))
        all_goals try (first | contradiction | exact True.intro | omega | rfl | (simp [AV.fits, AV.cells, AV.one, DV.fits, DV.cells, DV.one, DV.conf, confL, DV.conf1]; done) | (simp [AV.fits, AV.cells, AV.one, DV.fits, DV.cells, DV.one, DV.conf, confL, DV.conf1, *] <;> omega))
        refine st_e (st_bld f0 f1 (add48 x _ (insArc x i m k)) ⟨by simp, trivial⟩ (by conv => lhs; simp) (by simp [argsM, AV.ren, insArc, dArc, dOp, hkl, ← hops]) (fun f => by simp [AV.ren, renL]) (fun _ _ => trivial) (fun H6 g0 g1 hl6 hg6 => ?_))
        repeat' (first | (with_reducible first | refine st_reg ?_ | refine sN (by conv => lhs; simp [hw]) ?_ | refine rN ?_ ?_ | refine rO ?_ ?_ | refine rF ?_ ?_ | refine sG (by conv => lhs; simp [hw]) ?_ | refine gF ?_ | refine gS rfl (by conv => lhs; simp [hw]) ?_ ?_ | (refine st_gef0 ?_ ?_; focus (conv => (lhs; simp [hw])); done) | refine sE (by conv => lhs; simp) ?_ | refine Nx.go ?_ | refine st_blke' (by decide) ?_ | refine st_seq ?_ | refine st_blk ?_ | refine st_cond (by conv => lhs; simp) (by conv => lhs; simp [hw]) ?_ ?_ ?_ | refine st_lexit ?_) | (intro h_; try simp only [reduceCtorEq, y1, y2, y3, y4, y5, y6, y7, y8, y9, z1, z2, z3, z4, z5, z6, z7, ne_eq] at h_))
        all_goals try (first | contradiction | exact True.intro | omega | rfl | (simp [AV.fits, AV.cells, AV.one, DV.fits, DV.cells, DV.one, DV.conf, confL, DV.conf1]; done) | (simp [AV.fits, AV.cells, AV.one, DV.fits, DV.cells, DV.one, DV.conf, confL, DV.conf1, *] <;> omega))
        refine st_lnormw (ys := [.ptr 0 0 0, .d (.int .i64 i), .d (.int .i64 x.cols.length), .d (.int .i64 m), .d (.int .i64 (delS x i m)), .d (.vs (ops.map dOp)), v6', v7', .d (.int .i64 k), .d (.int .i64 x.insert[k]), v10', v11', .d (.vs (x.insert.map dI)), .d (.int .i64 x.insert.length), .d (.int .i64 (k + 1 : Nat)), .undef, .undef, .undef]) (by simp [weak]) ⟨k + 1, H6, _, _, by omega, rfl, g0, ?_⟩ (by simp [St.int]; omega)
        rw [g1]; simp [insL, List.range_succ]
      · have hkT : k = x.insert.length := by omega
        subst hkT
        have hM1 : insL x i m (stepRead x i m M0) x.insert.length = stepIns x i m M0 := rfl
        rw [hM1] at d1
        repeat' (first | (with_reducible first | refine st_reg ?_ | refine sN (by conv => lhs; simp [hkl]) ?_ | refine rN ?_ ?_ | refine rO ?_ ?_ | refine rF ?_ ?_ | refine sG (by conv => lhs; simp [hkl]) ?_ | refine gF ?_ | refine gS rfl (by conv => lhs; simp [hkl]) ?_ ?_ | (refine st_gef0 ?_ ?_; focus (conv => (lhs; simp [hkl])); done) | refine sE (by conv => lhs; simp) ?_ | refine Nx.go ?_ | refine st_blke' (by decide) ?_ | refine st_seq ?_ | refine st_blk ?_ | refine st_cond (by conv => lhs; simp) (by conv => lhs; simp [hkl]) ?_ ?_ ?_ | refine st_lexit ?_) | (intro h_; try simp only [reduceCtorEq, y1, y2, y3, y4, y5, y6, y7, y8, y9, z1, z2, z3, z4, z5, z6, z7, ne_eq] at h_))
        all_goals try (first | contradiction | exact True.intro | omega | rfl | (simp [AV.fits, AV.cells, AV.one, DV.fits, DV.cells, DV.one, DV.conf, confL, DV.conf1]; done) | (simp [AV.fits, AV.cells, AV.one, DV.fits, DV.cells, DV.one, DV.conf, confL, DV.conf1, *] <;> omega))
        refine st_e (st_bld d0 d1 (swap50 x _ m hx hml) ⟨by simp, trivial⟩ (by conv => lhs; simp) (by simp [argsM, AV.ren]) (fun f => by simp [AV.ren]) (fun _ _ => trivial) (fun H4 f0 f1 hl4 hg4 => ?_))
        have l0 := ob_lt f0
        have l1 := ob_lt f1
        have fin : ∀ (H' : Heap) (v10 v11 v15 v16 : AV), H'.ob 0 = some (bldO x 1) → H'.ob 1 = some (mapO (stepFrom x i M0 m)) → ∃ s'', Gh ⟨[.ptr 0 0 0, .d (.int .i64 i), .d (.int .i64 x.cols.length), .d (.int .i64 (m + 1 : Nat)), .d (.int .i64 (delS x i m)), .d (.vs (ops.map dOp)), v6', v7', v8', v9', v10, v11, .d (.vs (x.insert.map dI)), .d (.int .i64 x.insert.length), .d (.int .i64 x.insert.length), v15, v16, .undef], H'⟩ s'' ∧
            (∃ (m : Nat) (H : Heap) (v4 v5 v6 v7 v8 v9 v12 v13 v14 : AV), i ≤ m ∧ m ≤ x.cols.length + 1 ∧ s'' = ⟨[.ptr 0 0 0, .d (.int .i64 i), .d (.int .i64 x.cols.length), .d (.int .i64 m), v4, v5, v6, v7, v8, v9, .undef, .undef, v12, v13, v14, .undef, .undef, .undef], H⟩ ∧
              H.ob 0 = some (bldO x 1) ∧ H.ob 1 = some (mapO (fromTo x i M (m - i)))) ∧ x.cols.length + 1 - (s''.int 3).toNat < x.cols.length + 1 - (St.int ⟨[.ptr 0 0 0, .d (.int .i64 i), .d (.int .i64 x.cols.length), .d (.int .i64 m)], H⟩ 3).toNat := by
          intro H' v10 v11 v15 v16 p0 p1
          refine ⟨⟨[.ptr 0 0 0, .d (.int .i64 i), .d (.int .i64 x.cols.length), .d (.int .i64 (m + 1 : Nat)), .d (.int .i64 (delS x i m)), .d (.vs (ops.map dOp)), v6', v7', v8', v9', .undef, .undef, .d (.vs (x.insert.map dI)), .d (.int .i64 x.insert.length), .d (.int .i64 x.insert.length), .undef, .undef, .undef], H'⟩, Gh.weak (by simp [weak]), ⟨m + 1, H', _, _, _, _, _, _, _, _, _, by omega, by omega, rfl, p0, ?_⟩, by simp [St.int]; omega⟩
          rw [p1, fromTo_succ x i M him, hM0]
        cases hs : swapB x m with
        | true =>
          have hi1 := swapB_lt hs
          have hsw := hx.swap
          have f0' := f0
          simp only [bldO, bldV] at f0'
          have w4 : IntKind.i64.wrap (delS x i m + x.swap) = delS x i m + x.swap := wrap64 (by omega) (by omega)
          repeat' (first | (with_reducible first | refine st_reg ?_ | refine sN (by conv => lhs; simp [litV, litE, litOb, toDL, AV.toD, AV.norm, List.replicate, fillC, fillOb, AV.mkAgg, AV.allD, AV.cells, DV.cells, dCol, getD_map_lt, hi1, f0', w1, w2, w3, w4, w5]) ?_ | refine rN ?_ ?_ | refine rO ?_ ?_ | refine rF ?_ ?_ | refine sG (by conv => lhs; simp [litV, litE, litOb, toDL, AV.toD, AV.norm, List.replicate, fillC, fillOb, AV.mkAgg, AV.allD, AV.cells, DV.cells, dCol, getD_map_lt, hi1, f0', w1, w2, w3, w4, w5]) ?_ | refine gF ?_ | refine gS rfl (by conv => lhs; simp [litV, litE, litOb, toDL, AV.toD, AV.norm, List.replicate, fillC, fillOb, AV.mkAgg, AV.allD, AV.cells, DV.cells, dCol, getD_map_lt, hi1, f0', w1, w2, w3, w4, w5]) ?_ ?_ | (refine st_gef0 ?_ ?_; focus (conv => (lhs; simp [litV, litE, litOb, toDL, AV.toD, AV.norm, List.replicate, fillC, fillOb, AV.mkAgg, AV.allD, AV.cells, DV.cells, dCol, getD_map_lt, hi1, f0', w1, w2, w3, w4, w5])); done) | refine sE (by conv => lhs; simp) ?_ | refine Nx.go ?_ | refine st_blke' (by decide) ?_ | refine st_seq ?_ | refine st_blk ?_ | refine st_cond (by conv => lhs; simp) (by conv => lhs; simp [litV, litE, litOb, toDL, AV.toD, AV.norm, List.replicate, fillC, fillOb, AV.mkAgg, AV.allD, AV.cells, DV.cells, dCol, getD_map_lt, hi1, f0', w1, w2, w3, w4, w5]) ?_ ?_ ?_ | refine st_lexit ?_) | (intro h_; try simp only [reduceCtorEq, y1, y2, y3, y4, y5, y6, y7, y8, y9, z1, z2, z3, z4, z5, z6, z7, ne_eq] at h_))
          all_goals try (first | contradiction | exact True.intro | omega | rfl | (simp [AV.fits, AV.cells, AV.one, DV.fits, DV.cells, DV.one, DV.conf, confL, DV.conf1]; done) | (simp [AV.fits, AV.cells, AV.one, DV.fits, DV.cells, DV.one, DV.conf, confL, DV.conf1, *] <;> omega))
          refine st_e (stA_call [] ⟨by simp, by simp [solidOk, AV.isD]⟩ (by conv => lhs; simp) (Clone49 ops (by omega)) (by simp [argsM, AV.ren]) trivial List.nodup_nil (fun r Hc' H5 hr hH => ⟨by simp [pendOk, AV.rid, hH.get 0 (by simp) l0], ?_⟩))
          obtain ⟨id, rfl, hid⟩ := hr
          have hnew := clone_new hH hid
          have hren : (AV.hs id 0 ops.length 2).ren (renOf [] H4.length) = .hs (H4.length + id) 0 ops.length 2 := by simp [AV.ren, renOf]
          rw [hren]
          repeat' (first | (with_reducible first | refine st_reg ?_ | refine sN (by conv => lhs; simp [litV, litE, litOb, toDL, AV.toD, AV.norm, List.replicate, fillC, fillOb, AV.mkAgg, AV.allD, AV.cells, DV.cells, dI]) ?_ | refine rN ?_ ?_ | refine rO ?_ ?_ | refine rF ?_ ?_ | refine sG (by conv => lhs; simp [litV, litE, litOb, toDL, AV.toD, AV.norm, List.replicate, fillC, fillOb, AV.mkAgg, AV.allD, AV.cells, DV.cells, dI]) ?_ | refine gF ?_ | refine gS rfl (by conv => lhs; simp [litV, litE, litOb, toDL, AV.toD, AV.norm, List.replicate, fillC, fillOb, AV.mkAgg, AV.allD, AV.cells, DV.cells, dI]) ?_ ?_ | (refine st_gef0 ?_ ?_; focus (conv => (lhs; simp [litV, litE, litOb, toDL, AV.toD, AV.norm, List.replicate, fillC, fillOb, AV.mkAgg, AV.allD, AV.cells, DV.cells, dI])); done) | refine sE (by conv => lhs; simp) ?_ | refine Nx.go ?_ | refine st_blke' (by decide) ?_ | refine st_seq ?_ | refine st_blk ?_ | refine st_cond (by conv => lhs; simp) (by conv => lhs; simp [litV, litE, litOb, toDL, AV.toD, AV.norm, List.replicate, fillC, fillOb, AV.mkAgg, AV.allD, AV.cells, DV.cells, dI]) ?_ ?_ ?_ | refine st_lexit ?_) | (intro h_; try simp only [reduceCtorEq, y1, y2, y3, y4, y5, y6, y7, y8, y9, z1, z2, z3, z4, z5, z6, z7, ne_eq] at h_))
          all_goals try (first | contradiction | exact True.intro | omega | rfl | (simp [AV.fits, AV.cells, AV.one, DV.fits, DV.cells, DV.one, DV.conf, confL, DV.conf1]; done) | (simp [AV.fits, AV.cells, AV.one, DV.fits, DV.cells, DV.one, DV.conf, confL, DV.conf1, *] <;> omega))
          refine st_e (stA_appF (id := H4.length + id) (off := 0) (len := ops.length) (olds := ops.map dOp) (ds := [.agg [.int .i64 4, .int .i64 0]]) ⟨by simp, trivial⟩ (by conv => lhs; simp) (by conv => lhs; simp) (arrOf_ob hnew) (by simp) (by simp) (by simp [DV.fits, DV.cells, DV.one]) (by simp; omega) (fun H6 hG => ⟨by simp [pendOk, AV.rid, hG.get 0 (by omega) (by rw [hH.len]; omega)], ?_⟩))
          have g0 := hG.ob' (by omega) (hH.ob' (by simp) f0)
          have g1 := hG.ob' (by omega) (hH.ob' (by simp) f1)
          repeat' (first | (with_reducible first | refine st_reg ?_ | refine sN (by conv => lhs; simp [litV, litE, litOb, toDL, AV.toD, AV.norm, List.replicate, fillC, fillOb, AV.mkAgg, AV.allD, AV.cells, DV.cells]) ?_ | refine rN ?_ ?_ | refine rO ?_ ?_ | refine rF ?_ ?_ | refine sG (by conv => lhs; simp [litV, litE, litOb, toDL, AV.toD, AV.norm, List.replicate, fillC, fillOb, AV.mkAgg, AV.allD, AV.cells, DV.cells]) ?_ | refine gF ?_ | refine gS rfl (by conv => lhs; simp [litV, litE, litOb, toDL, AV.toD, AV.norm, List.replicate, fillC, fillOb, AV.mkAgg, AV.allD, AV.cells, DV.cells]) ?_ ?_ | (refine st_gef0 ?_ ?_; focus (conv => (lhs; simp [litV, litE, litOb, toDL, AV.toD, AV.norm, List.replicate, fillC, fillOb, AV.mkAgg, AV.allD, AV.cells, DV.cells])); done) | refine sE (by conv => lhs; simp) ?_ | refine Nx.go ?_ | refine st_blke' (by decide) ?_ | refine st_seq ?_ | refine st_blk ?_ | refine st_cond (by conv => lhs; simp) (by conv => lhs; simp [litV, litE, litOb, toDL, AV.toD, AV.norm, List.replicate, fillC, fillOb, AV.mkAgg, AV.allD, AV.cells, DV.cells]) ?_ ?_ ?_ | refine st_lexit ?_) | (intro h_; try simp only [reduceCtorEq, y1, y2, y3, y4, y5, y6, y7, y8, y9, z1, z2, z3, z4, z5, z6, z7, ne_eq] at h_))
          all_goals try (first | contradiction | exact True.intro | omega | rfl | (simp [AV.fits, AV.cells, AV.one, DV.fits, DV.cells, DV.one, DV.conf, confL, DV.conf1]; done) | (simp [AV.fits, AV.cells, AV.one, DV.fits, DV.cells, DV.one, DV.conf, confL, DV.conf1, *] <;> omega))
          refine st_e (st_bld g0 g1 (add48 x _ (swapArc x i m)) ⟨by simp, trivial⟩ (by conv => lhs; simp) (by simp [argsM, AV.ren, swapArc, dArc, dOp, kindAt, hi1, ← hops]) (fun f => by simp [AV.ren, renL]) (fun _ _ => trivial) (fun H7 p0 p1 hl7 hg7 => ?_))
          repeat' (first | (with_reducible first | refine st_reg ?_ | refine sN (by conv => lhs; simp [w5]) ?_ | refine rN ?_ ?_ | refine rO ?_ ?_ | refine rF ?_ ?_ | refine sG (by conv => lhs; simp [w5]) ?_ | refine gF ?_ | refine gS rfl (by conv => lhs; simp [w5]) ?_ ?_ | (refine st_gef0 ?_ ?_; focus (conv => (lhs; simp [w5])); done) | refine sE (by conv => lhs; simp) ?_ | refine Nx.go ?_ | refine st_blke' (by decide) ?_ | refine st_seq ?_ | refine st_blk ?_ | refine st_cond (by conv => lhs; simp) (by conv => lhs; simp [w5]) ?_ ?_ ?_ | refine st_lexit ?_) | (intro h_; try simp only [reduceCtorEq, y1, y2, y3, y4, y5, y6, y7, y8, y9, z1, z2, z3, z4, z5, z6, z7, ne_eq] at h_))
          all_goals try (first | contradiction | exact True.intro | omega | rfl | (simp [AV.fits, AV.cells, AV.one, DV.fits, DV.cells, DV.one, DV.conf, confL, DV.conf1]; done) | (simp [AV.fits, AV.cells, AV.one, DV.fits, DV.cells, DV.one, DV.conf, confL, DV.conf1, *] <;> omega))
          exact fin H7 _ _ _ _ p0 (by rw [p1, stepFrom, hs, if_pos rfl])
        | false =>
          repeat' (first | (with_reducible first | refine st_reg ?_ | refine sN (by conv => lhs; simp [w5]) ?_ | refine rN ?_ ?_ | refine rO ?_ ?_ | refine rF ?_ ?_ | refine sG (by conv => lhs; simp [w5]) ?_ | refine gF ?_ | refine gS rfl (by conv => lhs; simp [w5]) ?_ ?_ | (refine st_gef0 ?_ ?_; focus (conv => (lhs; simp [w5])); done) | refine sE (by conv => lhs; simp) ?_ | refine Nx.go ?_ | refine st_blke' (by decide) ?_ | refine st_seq ?_ | refine st_blk ?_ | refine st_cond (by conv => lhs; simp) (by conv => lhs; simp [w5]) ?_ ?_ ?_ | refine st_lexit ?_) | (intro h_; try simp only [reduceCtorEq, y1, y2, y3, y4, y5, y6, y7, y8, y9, z1, z2, z3, z4, z5, z6, z7, ne_eq] at h_))
          all_goals try (first | contradiction | exact True.intro | omega | rfl | (simp [AV.fits, AV.cells, AV.one, DV.fits, DV.cells, DV.one, DV.conf, confL, DV.conf1]; done) | (simp [AV.fits, AV.cells, AV.one, DV.fits, DV.cells, DV.one, DV.conf, confL, DV.conf1, *] <;> omega))
          exact fin H4 _ _ _ _ f0 (by rw [f1, stepFrom, hs, if_neg (by simp)])
end Go.Vm.L
