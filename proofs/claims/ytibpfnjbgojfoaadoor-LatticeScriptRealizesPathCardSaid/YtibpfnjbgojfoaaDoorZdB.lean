/- Lattice: prices of deletions, swaps, lists of deletions. -/
import Derived.Test.YtibpfnjbgojfoaaDoorZdA
set_option linter.all false
namespace Go.Vm.L
open Go Go.Vm
structure Col where
  kind : Int
  read : List Int
  del : Int
structure Inp where
  cols : List Col
  insert : List Int
  swap : Int
@[simp] def dCol (c : Col) : DV := .agg [.int .i64 c.kind, .vs (c.read.map dI), .int .i64 c.del]
@[simp] def dInp (x : Inp) : DV := .agg [.vs (x.cols.map dCol), .vs (x.insert.map dI), .int .i64 x.swap]

def delS (x : Inp) (i m : Nat) : Int := ((x.cols.drop i).take (m - i)).foldl (fun s c => addW s c.del) 0

theorem delS_succ (x : Inp) {i k : Nat} (hi : i ≤ k) (hk : k < x.cols.length) : delS x i (k + 1) = addW (delS x i k) x.cols[k].del := by
  unfold delS
  rw [show k + 1 - i = (k - i) + 1 from by omega, List.take_add_one, List.foldl_append]
  have : (x.cols.drop i)[k - i]? = some x.cols[k] := by rw [List.getElem?_drop, show i + (k - i) = k from by omega, List.getElem?_eq_getElem hk]
  rw [this]; rfl

theorem Deletion34 (x : Inp) (i m : Nat) (hb : x.cols.length < 4611686018427387904) (him : i ≤ m) (hm' : m ≤ x.cols.length) :
    Pure prog 26 [.d (dInp x), .d (.int .i64 i), .d (.int .i64 m)] (.d (.int .i64 (delS x i m))) := by
  refine fn_of e26 hm (by rfl) (vs := [.d (dInp x), .d (.int .i64 i), .d (.int .i64 m), .undef, .undef, .undef, .undef, .undef]) rfl ?_
  unfold c26
  repeat' (first | (with_reducible first | refine st_reg ?_ | refine sN (by conv => lhs; simp [dInp]) ?_ | refine rN ?_ ?_ | refine rO ?_ ?_ | refine rF ?_ ?_ | refine sG (by conv => lhs; simp [dInp]) ?_ | refine gF ?_ | refine gS rfl (by conv => lhs; simp [dInp]) ?_ ?_ | (refine st_gef0 ?_ ?_; focus (conv => (lhs; simp [dInp])); done) | refine sE (by conv => lhs; simp) ?_ | refine Nx.go ?_ | refine st_blke' (by decide) ?_ | refine st_seq ?_ | refine st_blk ?_ | refine st_cond (by conv => lhs; simp) (by conv => lhs; simp [dInp]) ?_ ?_ ?_ | refine st_lexit ?_) | (intro h_; try simp only [reduceCtorEq, y1, y2, y3, y4, y5, y6, y7, y8, y9, z1, z2, z3, z4, z5, z6, z7, ne_eq] at h_))
  all_goals try (first | contradiction | exact True.intro | omega | rfl | (simp [AV.fits, AV.cells, AV.one, DV.fits, DV.cells, DV.one, DV.conf, confL, DV.conf1]; done) | (simp [AV.fits, AV.cells, AV.one, DV.fits, DV.cells, DV.one, DV.conf, confL, DV.conf1, *] <;> omega))
  refine st_loop (fun s => ∃ k : Nat, i ≤ k ∧ k ≤ m ∧ s = ⟨[.d (dInp x), .d (.int .i64 i), .d (.int .i64 m), .ptr 0 0 0, .d (.int .i64 0), .d (.int .i64 (delS x i k)), .d (.int .i64 k), .undef], [some (.arr 3 [.d (dInp x)])]⟩) (fun s => m - (s.int 6).toNat)
      (ys := [.d (dInp x), .d (.int .i64 i), .d (.int .i64 m), .ptr 0 0 0, .d (.int .i64 0), .d (.int .i64 (delS x i i)), .d (.int .i64 i), .undef]) (by simp [weak, delS]) ⟨i, by omega, by omega, rfl⟩ ?_
  rintro _ ⟨k, hi, hk, rfl⟩
  rcases Nat.lt_or_ge k m with hkm | hkm
  · have hkl : k < x.cols.length := by omega
    repeat' (first | (with_reducible first | refine st_reg ?_ | refine sN (by conv => lhs; simp [getD_map_lt, dInp, dCol, *]) ?_ | refine rN ?_ ?_ | refine rO ?_ ?_ | refine rF ?_ ?_ | refine sG (by conv => lhs; simp [getD_map_lt, dInp, dCol, *]) ?_ | refine gF ?_ | refine gS rfl (by conv => lhs; simp [getD_map_lt, dInp, dCol, *]) ?_ ?_ | (refine st_gef0 ?_ ?_; focus (conv => (lhs; simp [getD_map_lt, dInp, dCol, *])); done) | refine sE (by conv => lhs; simp [getD_map_lt, dInp, dCol, *]) ?_ | refine Nx.go ?_ | refine st_blke' (by decide) ?_ | refine st_seq ?_ | refine st_blk ?_ | refine st_cond (by conv => lhs; simp [getD_map_lt, dInp, dCol, *]) (by conv => lhs; simp [getD_map_lt, dInp, dCol, *]) ?_ ?_ ?_ | refine st_lexit ?_) | (intro h_; try simp only [reduceCtorEq, y1, y2, y3, y4, y5, y6, y7, y8, y9, z1, z2, z3, z4, z5, z6, z7, ne_eq] at h_))
    all_goals try (first | contradiction | exact True.intro | omega | rfl | (simp [AV.fits, AV.cells, AV.one, DV.fits, DV.cells, DV.one, DV.conf, confL, DV.conf1]; done) | (simp [AV.fits, AV.cells, AV.one, DV.fits, DV.cells, DV.one, DV.conf, confL, DV.conf1, *] <;> omega))
    refine st_e (st_call (xs := [.d (.int .i64 (delS x i k)), .d (.int .i64 x.cols[k].del)]) (ys := [.d (.int .i64 (delS x i k)), .d (.int .i64 x.cols[k].del)]) ?_ (by simp) (add36 _ _) (by simp [argsM, AV.ren]) trivial ?_)
    · simp [solidOk]
    · skip
      repeat' (first | (with_reducible first | refine st_reg ?_ | refine sN (by conv => lhs; simp [dInp, dCol]) ?_ | refine rN ?_ ?_ | refine rO ?_ ?_ | refine rF ?_ ?_ | refine sG (by conv => lhs; simp [dInp, dCol]) ?_ | refine gF ?_ | refine gS rfl (by conv => lhs; simp [dInp, dCol]) ?_ ?_ | (refine st_gef0 ?_ ?_; focus (conv => (lhs; simp [dInp, dCol])); done) | refine sE (by conv => lhs; simp) ?_ | refine Nx.go ?_ | refine st_blke' (by decide) ?_ | refine st_seq ?_ | refine st_blk ?_ | refine st_cond (by conv => lhs; simp) (by conv => lhs; simp [dInp, dCol]) ?_ ?_ ?_ | refine st_lexit ?_) | (intro h_; try simp only [reduceCtorEq, y1, y2, y3, y4, y5, y6, y7, y8, y9, z1, z2, z3, z4, z5, z6, z7, ne_eq] at h_))
      all_goals try (first | contradiction | exact True.intro | omega | rfl | (simp [AV.fits, AV.cells, AV.one, DV.fits, DV.cells, DV.one, DV.conf, confL, DV.conf1]; done) | (simp [AV.fits, AV.cells, AV.one, DV.fits, DV.cells, DV.one, DV.conf, confL, DV.conf1, *] <;> omega))
      refine st_lnormw (ys := [.d (dInp x), .d (.int .i64 i), .d (.int .i64 m), .ptr 0 0 0, .d (.int .i64 0), .d (.int .i64 (delS x i (k + 1))), .d (.int .i64 (k + 1 : Nat)), .undef]) ?_ ⟨k + 1, by omega, by omega, rfl⟩ ?_
      · simp only [weak, and_true, true_or, or_true, true_and]
        exact ⟨.inr (by simp), .inr (by rw [delS_succ x hi hkl]), .inr (by rw [show ((k + 1 : Nat) : Int) = (k : Int) + 1 from by simp, wrap64 (by omega) (by omega)])⟩
      · simp [St.int]; omega
  · have hkm : k = m := by omega
    subst hkm
    repeat' (first | (with_reducible first | refine st_reg ?_ | refine sN (by conv => lhs; simp [dInp, dCol]) ?_ | refine rN ?_ ?_ | refine rO ?_ ?_ | refine rF ?_ ?_ | refine sG (by conv => lhs; simp [dInp, dCol]) ?_ | refine gF ?_ | refine gS rfl (by conv => lhs; simp [dInp, dCol]) ?_ ?_ | (refine st_gef0 ?_ ?_; focus (conv => (lhs; simp [dInp, dCol])); done) | refine sE (by conv => lhs; simp) ?_ | refine Nx.go ?_ | refine st_blke' (by decide) ?_ | refine st_seq ?_ | refine st_blk ?_ | refine st_cond (by conv => lhs; simp) (by conv => lhs; simp [dInp, dCol]) ?_ ?_ ?_ | refine st_lexit ?_) | (intro h_; try simp only [reduceCtorEq, y1, y2, y3, y4, y5, y6, y7, y8, y9, z1, z2, z3, z4, z5, z6, z7, ne_eq] at h_))
    all_goals try (first | contradiction | exact True.intro | omega | rfl | (simp [AV.fits, AV.cells, AV.one, DV.fits, DV.cells, DV.one, DV.conf, confL, DV.conf1]; done) | (simp [AV.fits, AV.cells, AV.one, DV.fits, DV.cells, DV.one, DV.conf, confL, DV.conf1, *] <;> omega))
    refine atEnd_pure ⟨trivial, trivial⟩ ?_ rfl
    rfl
end Go.Vm.L
