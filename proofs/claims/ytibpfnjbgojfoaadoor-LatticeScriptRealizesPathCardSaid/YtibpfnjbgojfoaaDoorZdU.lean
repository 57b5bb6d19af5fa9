/- Lattice: valid and small inputs. -/
import Derived.Test.YtibpfnjbgojfoaaDoorZdL
import Derived.Test.YtibpfnjbgojfoaaDoorZdG
set_option linter.all false
set_option maxHeartbeats 8000000
namespace Go.Vm.L
open Go Go.Vm

def okX (x : Int) : Bool := decide (1 ≤ x) && decide (x ≤ 60000)
def readOk (c : Col) (t : Nat) : Bool := match c.read[t]? with
  | some x => if (t : Int) = c.kind then decide (x = 0) else (decide (x = -1) || okX x)
  | none => false
def headOk (c : Col) (n : Nat) : Bool := decide (-1 ≤ c.kind) && decide (c.kind < n) && decide (c.read.length = n) && decide (1 ≤ c.del) && (decide (c.del ≤ 60000) || decide (c.del = 1099511627776))
def colOk (c : Col) (n : Nat) : Bool := headOk c n && (List.range n).all (readOk c)
def validI (x : Inp) (n : Nat) : Bool := decide (x.cols.length ≤ 60) && decide (x.insert.length = n) && decide (0 ≤ x.swap) && decide (x.swap ≤ 60000) && x.cols.all (fun c => colOk c n) && x.insert.all okX
def fairB (x : Inp) (k : Int) : Bool := decide ((x.cols.length : Int) ≤ k) && decide ((x.insert.length : Int) ≤ 5) && validI x x.insert.length

theorem Small27 (x : Inp) (k n : Int) : Pure prog 19 [.d (dInp x), .d (.int .i64 k), .d (.int .i64 n)] (.d (.bool (decide ((x.cols.length : Int) ≤ k) && decide ((x.insert.length : Int) ≤ n)))) := by
  refine fn_of e19 hm (by rfl) (vs := [.d (dInp x), .d (.int .i64 k), .d (.int .i64 n), .undef, .undef]) rfl ?_
  unfold c19
  repeat' (first | (with_reducible first | refine st_reg ?_ | refine sN (by conv => lhs; simp [dInp]) ?_ | refine rN ?_ ?_ | refine rO ?_ ?_ | refine rF ?_ ?_ | refine sG (by conv => lhs; simp [dInp]) ?_ | refine gF ?_ | refine gS rfl (by conv => lhs; simp [dInp]) ?_ ?_ | (refine st_gef0 ?_ ?_; focus (conv => (lhs; simp [dInp])); done) | refine sE (by conv => lhs; simp) ?_ | refine Nx.go ?_ | refine st_blke' (by decide) ?_ | refine st_seq ?_ | refine st_blk ?_ | refine st_cond (by conv => lhs; simp) (by conv => lhs; simp [dInp]) ?_ ?_ ?_ | refine st_lexit ?_) | (intro h_; try simp only [reduceCtorEq, y1, y2, y3, y4, y5, y6, y7, y8, y9, z1, z2, z3, z4, z5, z6, z7, ne_eq] at h_))
  all_goals try (first | contradiction | exact True.intro | omega | rfl | (simp [AV.fits, AV.cells, AV.one, DV.fits, DV.cells, DV.one, DV.conf, confL, DV.conf1]; done) | (simp [AV.fits, AV.cells, AV.one, DV.fits, DV.cells, DV.one, DV.conf, confL, DV.conf1, *] <;> omega))
  refine atEnd_pure ⟨trivial, trivial⟩ ?_ rfl
  show AV.d (DV.bool _) = _
  simp

theorem Column58 (c : Col) (n : Nat) (hn : n < 1000000) : Pure prog 43 [.d (dCol c), .d (.int .i64 n)] (.d (.bool (colOk c n))) := by
  refine fn_of e43 hm (by rfl) (vs := [.d (dCol c), .d (.int .i64 n), .undef, .undef, .undef, .undef, .undef, .undef, .undef]) rfl ?_
  unfold c43
  repeat' (first | (with_reducible first | refine st_reg ?_ | refine sN (by conv => lhs; simp [dCol]) ?_ | refine rN ?_ ?_ | refine rO ?_ ?_ | refine rF ?_ ?_ | refine sG (by conv => lhs; simp [dCol]) ?_ | refine gF ?_ | refine gS rfl (by conv => lhs; simp [dCol]) ?_ ?_ | (refine st_gef0 ?_ ?_; focus (conv => (lhs; simp [dCol])); done) | refine sE (by conv => lhs; simp) ?_ | refine Nx.go ?_ | refine st_blke' (by decide) ?_ | refine st_seq ?_ | refine st_blk ?_ | refine st_cond (by conv => lhs; simp) (by conv => lhs; simp [dCol]) ?_ ?_ ?_ | refine st_lexit ?_) | (intro h_; try simp only [reduceCtorEq, y1, y2, y3, y4, y5, y6, y7, y8, y9, z1, z2, z3, z4, z5, z6, z7, ne_eq] at h_))
  all_goals try (first | contradiction | exact True.intro | omega | rfl | (simp [AV.fits, AV.cells, AV.one, DV.fits, DV.cells, DV.one, DV.conf, confL, DV.conf1]; done) | (simp [AV.fits, AV.cells, AV.one, DV.fits, DV.cells, DV.one, DV.conf, confL, DV.conf1, *] <;> omega))
  · refine atEnd_pure ⟨trivial, trivial⟩ ?_ rfl
    show AV.d (DV.bool false) = _
    have hh : headOk c n = false := by
      simp only [headOk, Bool.and_eq_false_iff, decide_eq_false_iff_not, Bool.or_eq_false_iff]
      omega
    rw [colOk, hh]; rfl
  · have hh : headOk c n = true := by
      simp only [headOk, Bool.and_eq_true, decide_eq_true_eq, Bool.or_eq_true]
      have h2 := h_
      simp only [Bool.and_eq_false_iff, decide_eq_false_iff_not, bne_eq_false_iff_eq] at h2
      omega
    have hrl : c.read.length = n := by
      simp only [headOk, Bool.and_eq_true, decide_eq_true_eq, Bool.or_eq_true] at hh
      omega
    refine wpC_loop (fun s => ∃ (t : Nat) (v5 v7 v8 : AV), t ≤ n ∧ (List.range t).all (readOk c) = true ∧ s = ⟨[.d (dCol c), .d (.int .i64 n), .ptr 0 0 0, .d (.bool false), .d (.int .i64 t), v5, .undef, v7, v8], [some (.arr 3 [.d (dCol c)])]⟩)
      (fun s => n - (s.int 4).toNat)
      (s' := ⟨[.d (dCol c), .d (.int .i64 n), .ptr 0 0 0, .d (.bool false), .d (.int .i64 (0 : Nat)), .undef, .undef, .undef, .undef], [some (.arr 3 [.d (dCol c)])]⟩)
      (Gh.weak (by simp [weak])) ⟨0, _, _, _, by omega, rfl, rfl⟩ ?_
    rintro _ ⟨t, v5, v7, v8, ht, hall, rfl⟩
    have hw : IntKind.i64.wrap ((t : Int) + 1) = ((t + 1 : Nat) : Int) := by rw [wrap64 (by omega) (by omega)]; simp
    rcases Nat.lt_or_ge t n with htn | htn
    · have htl : t < c.read.length := by omega
      have hx : c.read[t]? = some c.read[t] := List.getElem?_eq_getElem htl
      obtain ⟨x, hxe⟩ : ∃ x, x = c.read[t] := ⟨_, rfl⟩
      rw [← hxe] at hx
      by_cases htk : (t : Int) = c.kind
      · have htb : ((t : Int) == c.kind) = true := by simpa using htk
        repeat' (first | (with_reducible first | refine st_reg ?_ | refine sN (by conv => lhs; simp [dCol, getD_map_lt, htl, htn, ← hxe, dI, hw, htb]) ?_ | refine rN ?_ ?_ | refine rO ?_ ?_ | refine rF ?_ ?_ | refine sG (by conv => lhs; simp [dCol, getD_map_lt, htl, htn, ← hxe, dI, hw, htb]) ?_ | refine gF ?_ | refine gS rfl (by conv => lhs; simp [dCol, getD_map_lt, htl, htn, ← hxe, dI, hw, htb]) ?_ ?_ | (refine st_gef0 ?_ ?_; focus (conv => (lhs; simp [dCol, getD_map_lt, htl, htn, ← hxe, dI, hw, htb])); done) | refine sE (by conv => lhs; simp) ?_ | refine Nx.go ?_ | refine st_blke' (by decide) ?_ | refine st_seq ?_ | refine st_blk ?_ | refine st_cond (by conv => lhs; simp) (by conv => lhs; simp [dCol, getD_map_lt, htl, htn, ← hxe, dI, hw, htb]) ?_ ?_ ?_ | refine st_lexit ?_) | (intro h_; try simp only [reduceCtorEq, y1, y2, y3, y4, y5, y6, y7, y8, y9, z1, z2, z3, z4, z5, z6, z7, ne_eq] at h_))
        all_goals try (first | contradiction | exact True.intro | omega | rfl | (simp [AV.fits, AV.cells, AV.one, DV.fits, DV.cells, DV.one, DV.conf, confL, DV.conf1]; done) | (simp [AV.fits, AV.cells, AV.one, DV.fits, DV.cells, DV.one, DV.conf, confL, DV.conf1, *] <;> omega))
        · refine atEnd_pure ⟨trivial, trivial⟩ ?_ rfl
          show AV.d (DV.bool false) = _
          rw [colOk, all_range_false (p := readOk c) htn (by simp [readOk, hx, htk]; omega), Bool.and_false]
        · refine st_lnormw (ys := [.d (dCol c), .d (.int .i64 n), .ptr 0 0 0, .d (.bool false), .d (.int .i64 (t + 1 : Nat)), .undef, .undef, .undef, .undef]) (by simp [weak]) ⟨t + 1, _, _, _, by omega, ?_, rfl⟩ (by simp [St.int]; omega)
          rw [List.range_succ, List.all_append, hall]
          simp [readOk, hx, htk]; omega
      · have htb : ((t : Int) == c.kind) = false := by simpa using htk
        repeat' (first | (with_reducible first | refine st_reg ?_ | refine sN (by conv => lhs; simp [dCol, getD_map_lt, htl, htn, ← hxe, dI, hw, htb]) ?_ | refine rN ?_ ?_ | refine rO ?_ ?_ | refine rF ?_ ?_ | refine sG (by conv => lhs; simp [dCol, getD_map_lt, htl, htn, ← hxe, dI, hw, htb]) ?_ | refine gF ?_ | refine gS rfl (by conv => lhs; simp [dCol, getD_map_lt, htl, htn, ← hxe, dI, hw, htb]) ?_ ?_ | (refine st_gef0 ?_ ?_; focus (conv => (lhs; simp [dCol, getD_map_lt, htl, htn, ← hxe, dI, hw, htb])); done) | refine sE (by conv => lhs; simp) ?_ | refine Nx.go ?_ | refine st_blke' (by decide) ?_ | refine st_seq ?_ | refine st_blk ?_ | refine st_cond (by conv => lhs; simp) (by conv => lhs; simp [dCol, getD_map_lt, htl, htn, ← hxe, dI, hw, htb]) ?_ ?_ ?_ | refine st_lexit ?_) | (intro h_; try simp only [reduceCtorEq, y1, y2, y3, y4, y5, y6, y7, y8, y9, z1, z2, z3, z4, z5, z6, z7, ne_eq] at h_))
        all_goals try (first | contradiction | exact True.intro | omega | rfl | (simp [AV.fits, AV.cells, AV.one, DV.fits, DV.cells, DV.one, DV.conf, confL, DV.conf1]; done) | (simp [AV.fits, AV.cells, AV.one, DV.fits, DV.cells, DV.one, DV.conf, confL, DV.conf1, *] <;> omega))
        · refine atEnd_pure ⟨trivial, trivial⟩ ?_ rfl
          show AV.d (DV.bool false) = _
          rw [colOk, all_range_false (p := readOk c) htn (by simp [readOk, hx, htk, okX]; omega), Bool.and_false]
        · refine st_lnormw (ys := [.d (dCol c), .d (.int .i64 n), .ptr 0 0 0, .d (.bool false), .d (.int .i64 (t + 1 : Nat)), .undef, .undef, .undef, .undef]) (by simp [weak]) ⟨t + 1, _, _, _, by omega, ?_, rfl⟩ (by simp [St.int]; omega)
          rw [List.range_succ, List.all_append, hall]
          have h2 := h_
          simp [htk] at h2
          simp [readOk, hx, htk, okX]; omega
    · have hkn : t = n := by omega
      subst hkn
      repeat' (first | (with_reducible first | refine st_reg ?_ | refine sN (by conv => lhs; simp [dCol, htn]) ?_ | refine rN ?_ ?_ | refine rO ?_ ?_ | refine rF ?_ ?_ | refine sG (by conv => lhs; simp [dCol, htn]) ?_ | refine gF ?_ | refine gS rfl (by conv => lhs; simp [dCol, htn]) ?_ ?_ | (refine st_gef0 ?_ ?_; focus (conv => (lhs; simp [dCol, htn])); done) | refine sE (by conv => lhs; simp) ?_ | refine Nx.go ?_ | refine st_blke' (by decide) ?_ | refine st_seq ?_ | refine st_blk ?_ | refine st_cond (by conv => lhs; simp) (by conv => lhs; simp [dCol, htn]) ?_ ?_ ?_ | refine st_lexit ?_) | (intro h_; try simp only [reduceCtorEq, y1, y2, y3, y4, y5, y6, y7, y8, y9, z1, z2, z3, z4, z5, z6, z7, ne_eq] at h_))
      all_goals try (first | contradiction | exact True.intro | omega | rfl | (simp [AV.fits, AV.cells, AV.one, DV.fits, DV.cells, DV.one, DV.conf, confL, DV.conf1]; done) | (simp [AV.fits, AV.cells, AV.one, DV.fits, DV.cells, DV.one, DV.conf, confL, DV.conf1, *] <;> omega))
      refine atEnd_pure ⟨trivial, trivial⟩ ?_ rfl
      show AV.d (DV.bool true) = _
      rw [colOk, hh, hall]; rfl

theorem columns45 (l : List Col) (n : Nat) (hn : n < 1000000) (hl : l.length < 1000000) : Pure prog 32 [.d (.vs (l.map dCol)), .d (.int .i64 n)] (.d (.bool (l.all fun c => colOk c n))) := by
  refine fn_of e32 hm (by rfl) (vs := [.d (.vs (l.map dCol)), .d (.int .i64 n), .undef, .undef, .undef, .undef]) rfl ?_
  unfold c32
  repeat' (first | (with_reducible first | refine st_reg ?_ | refine sN (by conv => lhs; simp) ?_ | refine rN ?_ ?_ | refine rO ?_ ?_ | refine rF ?_ ?_ | refine sG (by conv => lhs; simp) ?_ | refine gF ?_ | refine gS rfl (by conv => lhs; simp) ?_ ?_ | (refine st_gef0 ?_ ?_; focus (conv => (lhs; simp)); done) | refine sE (by conv => lhs; simp) ?_ | refine Nx.go ?_ | refine st_blke' (by decide) ?_ | refine st_seq ?_ | refine st_blk ?_ | refine st_cond (by conv => lhs; simp) (by conv => lhs; simp) ?_ ?_ ?_ | refine st_lexit ?_) | (intro h_; try simp only [reduceCtorEq, y1, y2, y3, y4, y5, y6, y7, y8, y9, z1, z2, z3, z4, z5, z6, z7, ne_eq] at h_))
  all_goals try (first | contradiction | exact True.intro | omega | rfl | (simp [AV.fits, AV.cells, AV.one, DV.fits, DV.cells, DV.one, DV.conf, confL, DV.conf1]; done) | (simp [AV.fits, AV.cells, AV.one, DV.fits, DV.cells, DV.one, DV.conf, confL, DV.conf1, *] <;> omega))
  refine wpC_loop (fun s => ∃ (k : Nat) (v4 v5 : AV), k ≤ l.length ∧ (l.take k).all (fun c => colOk c n) = true ∧ s = ⟨[.d (.vs (l.map dCol)), .d (.int .i64 n), .d (.bool false), .d (.int .i64 k), v4, v5], []⟩)
    (fun s => l.length - (s.int 3).toNat)
    (s' := ⟨[.d (.vs (l.map dCol)), .d (.int .i64 n), .d (.bool false), .d (.int .i64 (0 : Nat)), .undef, .undef], []⟩)
    (Gh.weak (by simp [weak])) ⟨0, _, _, by omega, rfl, rfl⟩ ?_
  rintro _ ⟨k, v4, v5, hk, hall, rfl⟩
  have hw : IntKind.i64.wrap ((k : Int) + 1) = ((k + 1 : Nat) : Int) := by rw [wrap64 (by omega) (by omega)]; simp
  rcases Nat.lt_or_ge k l.length with hkl | hkl
  · skip
    repeat' (first | (with_reducible first | refine st_reg ?_ | refine sN (by conv => lhs; simp [getD_map_lt, hkl]) ?_ | refine rN ?_ ?_ | refine rO ?_ ?_ | refine rF ?_ ?_ | refine sG (by conv => lhs; simp [getD_map_lt, hkl]) ?_ | refine gF ?_ | refine gS rfl (by conv => lhs; simp [getD_map_lt, hkl]) ?_ ?_ | (refine st_gef0 ?_ ?_; focus (conv => (lhs; simp [getD_map_lt, hkl])); done) | refine sE (by conv => lhs; simp) ?_ | refine Nx.go ?_ | refine st_blke' (by decide) ?_ | refine st_seq ?_ | refine st_blk ?_ | refine st_cond (by conv => lhs; simp) (by conv => lhs; simp [getD_map_lt, hkl]) ?_ ?_ ?_ | refine st_lexit ?_) | (intro h_; try simp only [reduceCtorEq, y1, y2, y3, y4, y5, y6, y7, y8, y9, z1, z2, z3, z4, z5, z6, z7, ne_eq] at h_))
    all_goals try (first | contradiction | exact True.intro | omega | rfl | (simp [AV.fits, AV.cells, AV.one, DV.fits, DV.cells, DV.one, DV.conf, confL, DV.conf1]; done) | (simp [AV.fits, AV.cells, AV.one, DV.fits, DV.cells, DV.one, DV.conf, confL, DV.conf1, *] <;> omega))
    refine st_e (st_call (by simp [solidOk]) (by conv => lhs; simp) (Column58 l[k] n hn) (by exact ⟨.inl rfl, .inl rfl, trivial⟩) (pendOk_refl _) ?_)
    rcases hc : colOk l[k] n with _ | _
    · skip
      repeat' (first | (with_reducible first | refine st_reg ?_ | refine sN (by conv => lhs; simp) ?_ | refine rN ?_ ?_ | refine rO ?_ ?_ | refine rF ?_ ?_ | refine sG (by conv => lhs; simp) ?_ | refine gF ?_ | refine gS rfl (by conv => lhs; simp) ?_ ?_ | (refine st_gef0 ?_ ?_; focus (conv => (lhs; simp)); done) | refine sE (by conv => lhs; simp) ?_ | refine Nx.go ?_ | refine st_blke' (by decide) ?_ | refine st_seq ?_ | refine st_blk ?_ | refine st_cond (by conv => lhs; simp) (by conv => lhs; simp) ?_ ?_ ?_ | refine st_lexit ?_) | (intro h_; try simp only [reduceCtorEq, y1, y2, y3, y4, y5, y6, y7, y8, y9, z1, z2, z3, z4, z5, z6, z7, ne_eq] at h_))
      all_goals try (first | contradiction | exact True.intro | omega | rfl | (simp [AV.fits, AV.cells, AV.one, DV.fits, DV.cells, DV.one, DV.conf, confL, DV.conf1]; done) | (simp [AV.fits, AV.cells, AV.one, DV.fits, DV.cells, DV.one, DV.conf, confL, DV.conf1, *] <;> omega))
      refine atEnd_pure ⟨trivial, trivial⟩ ?_ rfl
      show AV.d (DV.bool false) = _
      rw [all_take_false (p := fun c => colOk c n) hkl hc]
    · skip
      repeat' (first | (with_reducible first | refine st_reg ?_ | refine sN (by conv => lhs; simp [hw]) ?_ | refine rN ?_ ?_ | refine rO ?_ ?_ | refine rF ?_ ?_ | refine sG (by conv => lhs; simp [hw]) ?_ | refine gF ?_ | refine gS rfl (by conv => lhs; simp [hw]) ?_ ?_ | (refine st_gef0 ?_ ?_; focus (conv => (lhs; simp [hw])); done) | refine sE (by conv => lhs; simp) ?_ | refine Nx.go ?_ | refine st_blke' (by decide) ?_ | refine st_seq ?_ | refine st_blk ?_ | refine st_cond (by conv => lhs; simp) (by conv => lhs; simp [hw]) ?_ ?_ ?_ | refine st_lexit ?_) | (intro h_; try simp only [reduceCtorEq, y1, y2, y3, y4, y5, y6, y7, y8, y9, z1, z2, z3, z4, z5, z6, z7, ne_eq] at h_))
      all_goals try (first | contradiction | exact True.intro | omega | rfl | (simp [AV.fits, AV.cells, AV.one, DV.fits, DV.cells, DV.one, DV.conf, confL, DV.conf1]; done) | (simp [AV.fits, AV.cells, AV.one, DV.fits, DV.cells, DV.one, DV.conf, confL, DV.conf1, *] <;> omega))
      refine st_lnormw (ys := [.d (.vs (l.map dCol)), .d (.int .i64 n), .d (.bool false), .d (.int .i64 (k + 1 : Nat)), .undef, .undef]) (by simp [weak]) ⟨k + 1, _, _, by omega, ?_, rfl⟩ (by simp [St.int]; omega)
      rw [List.take_add_one, List.getElem?_eq_getElem hkl, List.all_append, hall]
      simp [hc]
  · have hkn : k = l.length := by omega
    subst hkn
    rw [List.take_length] at hall
    repeat' (first | (with_reducible first | refine st_reg ?_ | refine sN (by conv => lhs; simp [hkl]) ?_ | refine rN ?_ ?_ | refine rO ?_ ?_ | refine rF ?_ ?_ | refine sG (by conv => lhs; simp [hkl]) ?_ | refine gF ?_ | refine gS rfl (by conv => lhs; simp [hkl]) ?_ ?_ | (refine st_gef0 ?_ ?_; focus (conv => (lhs; simp [hkl])); done) | refine sE (by conv => lhs; simp) ?_ | refine Nx.go ?_ | refine st_blke' (by decide) ?_ | refine st_seq ?_ | refine st_blk ?_ | refine st_cond (by conv => lhs; simp) (by conv => lhs; simp [hkl]) ?_ ?_ ?_ | refine st_lexit ?_) | (intro h_; try simp only [reduceCtorEq, y1, y2, y3, y4, y5, y6, y7, y8, y9, z1, z2, z3, z4, z5, z6, z7, ne_eq] at h_))
    all_goals try (first | contradiction | exact True.intro | omega | rfl | (simp [AV.fits, AV.cells, AV.one, DV.fits, DV.cells, DV.one, DV.conf, confL, DV.conf1]; done) | (simp [AV.fits, AV.cells, AV.one, DV.fits, DV.cells, DV.one, DV.conf, confL, DV.conf1, *] <;> omega))
    refine atEnd_pure ⟨trivial, trivial⟩ ?_ rfl
    show AV.d (DV.bool true) = _
    rw [hall]

theorem Valid28 (x : Inp) (n : Nat) (hn : n < 1000000) : Pure prog 20 [.d (dInp x), .d (.int .i64 n)] (.d (.bool (validI x n))) := by
  refine fn_of e20 hm (by rfl) (vs := [.d (dInp x), .d (.int .i64 n), .undef, .undef, .undef, .undef, .undef, .undef]) rfl ?_
  unfold c20
  have hn0 : ¬ (n : Int) < 0 := by omega
  by_cases g1 : (60 : Int) < x.cols.length
  · skip
    repeat' (first | (with_reducible first | refine st_reg ?_ | refine sN (by conv => lhs; simp [dInp, hn0, g1]) ?_ | refine rN ?_ ?_ | refine rO ?_ ?_ | refine rF ?_ ?_ | refine sG (by conv => lhs; simp [dInp, hn0, g1]) ?_ | refine gF ?_ | refine gS rfl (by conv => lhs; simp [dInp, hn0, g1]) ?_ ?_ | (refine st_gef0 ?_ ?_; focus (conv => (lhs; simp [dInp, hn0, g1])); done) | refine sE (by conv => lhs; simp) ?_ | refine Nx.go ?_ | refine st_blke' (by decide) ?_ | refine st_seq ?_ | refine st_blk ?_ | refine st_cond (by conv => lhs; simp) (by conv => lhs; simp [dInp, hn0, g1]) ?_ ?_ ?_ | refine st_lexit ?_) | (intro h_; try simp only [reduceCtorEq, y1, y2, y3, y4, y5, y6, y7, y8, y9, z1, z2, z3, z4, z5, z6, z7, ne_eq] at h_))
    all_goals try (first | contradiction | exact True.intro | omega | rfl | (simp [AV.fits, AV.cells, AV.one, DV.fits, DV.cells, DV.one, DV.conf, confL, DV.conf1]; done) | (simp [AV.fits, AV.cells, AV.one, DV.fits, DV.cells, DV.one, DV.conf, confL, DV.conf1, *] <;> omega))
    refine atEnd_pure ⟨trivial, trivial⟩ ?_ rfl
    show AV.d (DV.bool false) = _
    rw [validI, show decide (x.cols.length ≤ 60) = false by simp; omega]; simp
  by_cases g2 : x.insert.length = n
  case neg =>
    have g2b : ((x.insert.length : Int) == (n : Int)) = false := by simp; omega
    have g2c : ((x.insert.length : Int) != (n : Int)) = true := by simp; omega
    repeat' (first | (with_reducible first | refine st_reg ?_ | refine sN (by conv => lhs; simp [dInp, hn0, g1, g2, g2b, g2c]) ?_ | refine rN ?_ ?_ | refine rO ?_ ?_ | refine rF ?_ ?_ | refine sG (by conv => lhs; simp [dInp, hn0, g1, g2, g2b, g2c]) ?_ | refine gF ?_ | refine gS rfl (by conv => lhs; simp [dInp, hn0, g1, g2, g2b, g2c]) ?_ ?_ | (refine st_gef0 ?_ ?_; focus (conv => (lhs; simp [dInp, hn0, g1, g2, g2b, g2c])); done) | refine sE (by conv => lhs; simp) ?_ | refine Nx.go ?_ | refine st_blke' (by decide) ?_ | refine st_seq ?_ | refine st_blk ?_ | refine st_cond (by conv => lhs; simp) (by conv => lhs; simp [dInp, hn0, g1, g2, g2b, g2c]) ?_ ?_ ?_ | refine st_lexit ?_) | (intro h_; try simp only [reduceCtorEq, y1, y2, y3, y4, y5, y6, y7, y8, y9, z1, z2, z3, z4, z5, z6, z7, ne_eq] at h_))
    all_goals try (first | contradiction | exact True.intro | omega | rfl | (simp [AV.fits, AV.cells, AV.one, DV.fits, DV.cells, DV.one, DV.conf, confL, DV.conf1]; done) | (simp [AV.fits, AV.cells, AV.one, DV.fits, DV.cells, DV.one, DV.conf, confL, DV.conf1, *] <;> omega))
    refine atEnd_pure ⟨trivial, trivial⟩ ?_ rfl
    show AV.d (DV.bool false) = _
    rw [validI, show decide (x.insert.length = n) = false by simp [g2]]; simp
  by_cases g3 : x.swap < 0
  · skip
    repeat' (first | (with_reducible first | refine st_reg ?_ | refine sN (by conv => lhs; simp [dInp, hn0, g1, g2, g3]) ?_ | refine rN ?_ ?_ | refine rO ?_ ?_ | refine rF ?_ ?_ | refine sG (by conv => lhs; simp [dInp, hn0, g1, g2, g3]) ?_ | refine gF ?_ | refine gS rfl (by conv => lhs; simp [dInp, hn0, g1, g2, g3]) ?_ ?_ | (refine st_gef0 ?_ ?_; focus (conv => (lhs; simp [dInp, hn0, g1, g2, g3])); done) | refine sE (by conv => lhs; simp) ?_ | refine Nx.go ?_ | refine st_blke' (by decide) ?_ | refine st_seq ?_ | refine st_blk ?_ | refine st_cond (by conv => lhs; simp) (by conv => lhs; simp [dInp, hn0, g1, g2, g3]) ?_ ?_ ?_ | refine st_lexit ?_) | (intro h_; try simp only [reduceCtorEq, y1, y2, y3, y4, y5, y6, y7, y8, y9, z1, z2, z3, z4, z5, z6, z7, ne_eq] at h_))
    all_goals try (first | contradiction | exact True.intro | omega | rfl | (simp [AV.fits, AV.cells, AV.one, DV.fits, DV.cells, DV.one, DV.conf, confL, DV.conf1]; done) | (simp [AV.fits, AV.cells, AV.one, DV.fits, DV.cells, DV.one, DV.conf, confL, DV.conf1, *] <;> omega))
    refine atEnd_pure ⟨trivial, trivial⟩ ?_ rfl
    show AV.d (DV.bool false) = _
    rw [validI, show decide (0 ≤ x.swap) = false by simp; omega]; simp
  by_cases g4 : 60000 < x.swap
  · skip
    repeat' (first | (with_reducible first | refine st_reg ?_ | refine sN (by conv => lhs; simp [dInp, hn0, g1, g2, g3, g4]) ?_ | refine rN ?_ ?_ | refine rO ?_ ?_ | refine rF ?_ ?_ | refine sG (by conv => lhs; simp [dInp, hn0, g1, g2, g3, g4]) ?_ | refine gF ?_ | refine gS rfl (by conv => lhs; simp [dInp, hn0, g1, g2, g3, g4]) ?_ ?_ | (refine st_gef0 ?_ ?_; focus (conv => (lhs; simp [dInp, hn0, g1, g2, g3, g4])); done) | refine sE (by conv => lhs; simp) ?_ | refine Nx.go ?_ | refine st_blke' (by decide) ?_ | refine st_seq ?_ | refine st_blk ?_ | refine st_cond (by conv => lhs; simp) (by conv => lhs; simp [dInp, hn0, g1, g2, g3, g4]) ?_ ?_ ?_ | refine st_lexit ?_) | (intro h_; try simp only [reduceCtorEq, y1, y2, y3, y4, y5, y6, y7, y8, y9, z1, z2, z3, z4, z5, z6, z7, ne_eq] at h_))
    all_goals try (first | contradiction | exact True.intro | omega | rfl | (simp [AV.fits, AV.cells, AV.one, DV.fits, DV.cells, DV.one, DV.conf, confL, DV.conf1]; done) | (simp [AV.fits, AV.cells, AV.one, DV.fits, DV.cells, DV.one, DV.conf, confL, DV.conf1, *] <;> omega))
    refine atEnd_pure ⟨trivial, trivial⟩ ?_ rfl
    show AV.d (DV.bool false) = _
    rw [validI, show decide (x.swap ≤ 60000) = false by simp; omega]; simp
  repeat' (first | (with_reducible first | refine st_reg ?_ | refine sN (by conv => lhs; simp [dInp, hn0, g1, g2, g3, g4]) ?_ | refine rN ?_ ?_ | refine rO ?_ ?_ | refine rF ?_ ?_ | refine sG (by conv => lhs; simp [dInp, hn0, g1, g2, g3, g4]) ?_ | refine gF ?_ | refine gS rfl (by conv => lhs; simp [dInp, hn0, g1, g2, g3, g4]) ?_ ?_ | (refine st_gef0 ?_ ?_; focus (conv => (lhs; simp [dInp, hn0, g1, g2, g3, g4])); done) | refine sE (by conv => lhs; simp) ?_ | refine Nx.go ?_ | refine st_blke' (by decide) ?_ | refine st_seq ?_ | refine st_blk ?_ | refine st_cond (by conv => lhs; simp) (by conv => lhs; simp [dInp, hn0, g1, g2, g3, g4]) ?_ ?_ ?_ | refine st_lexit ?_) | (intro h_; try simp only [reduceCtorEq, y1, y2, y3, y4, y5, y6, y7, y8, y9, z1, z2, z3, z4, z5, z6, z7, ne_eq] at h_))
  all_goals try (first | contradiction | exact True.intro | omega | rfl | (simp [AV.fits, AV.cells, AV.one, DV.fits, DV.cells, DV.one, DV.conf, confL, DV.conf1]; done) | (simp [AV.fits, AV.cells, AV.one, DV.fits, DV.cells, DV.one, DV.conf, confL, DV.conf1, *] <;> omega))
  refine st_get (by conv => lhs; simp) (st_call (by simp [solidOk]) (by conv => lhs; simp) (columns45 x.cols n hn (by omega)) (by exact ⟨.inl rfl, .inl rfl, trivial⟩) (pendOk_refl _) ?_)
  rcases hc : x.cols.all (fun c => colOk c n) with _ | _
  · skip
    repeat' (first | (with_reducible first | refine st_reg ?_ | refine sN (by conv => lhs; simp [dInp]) ?_ | refine rN ?_ ?_ | refine rO ?_ ?_ | refine rF ?_ ?_ | refine sG (by conv => lhs; simp [dInp]) ?_ | refine gF ?_ | refine gS rfl (by conv => lhs; simp [dInp]) ?_ ?_ | (refine st_gef0 ?_ ?_; focus (conv => (lhs; simp [dInp])); done) | refine sE (by conv => lhs; simp) ?_ | refine Nx.go ?_ | refine st_blke' (by decide) ?_ | refine st_seq ?_ | refine st_blk ?_ | refine st_cond (by conv => lhs; simp) (by conv => lhs; simp [dInp]) ?_ ?_ ?_ | refine st_lexit ?_) | (intro h_; try simp only [reduceCtorEq, y1, y2, y3, y4, y5, y6, y7, y8, y9, z1, z2, z3, z4, z5, z6, z7, ne_eq] at h_))
    all_goals try (first | contradiction | exact True.intro | omega | rfl | (simp [AV.fits, AV.cells, AV.one, DV.fits, DV.cells, DV.one, DV.conf, confL, DV.conf1]; done) | (simp [AV.fits, AV.cells, AV.one, DV.fits, DV.cells, DV.one, DV.conf, confL, DV.conf1, *] <;> omega))
    refine atEnd_pure ⟨trivial, trivial⟩ ?_ rfl
    show AV.d (DV.bool false) = _
    rw [validI, hc]; simp
  repeat' (first | (with_reducible first | refine st_reg ?_ | refine sN (by conv => lhs; simp [dInp]) ?_ | refine rN ?_ ?_ | refine rO ?_ ?_ | refine rF ?_ ?_ | refine sG (by conv => lhs; simp [dInp]) ?_ | refine gF ?_ | refine gS rfl (by conv => lhs; simp [dInp]) ?_ ?_ | (refine st_gef0 ?_ ?_; focus (conv => (lhs; simp [dInp])); done) | refine sE (by conv => lhs; simp) ?_ | refine Nx.go ?_ | refine st_blke' (by decide) ?_ | refine st_seq ?_ | refine st_blk ?_ | refine st_cond (by conv => lhs; simp) (by conv => lhs; simp [dInp]) ?_ ?_ ?_ | refine st_lexit ?_) | (intro h_; try simp only [reduceCtorEq, y1, y2, y3, y4, y5, y6, y7, y8, y9, z1, z2, z3, z4, z5, z6, z7, ne_eq] at h_))
  all_goals try (first | contradiction | exact True.intro | omega | rfl | (simp [AV.fits, AV.cells, AV.one, DV.fits, DV.cells, DV.one, DV.conf, confL, DV.conf1]; done) | (simp [AV.fits, AV.cells, AV.one, DV.fits, DV.cells, DV.one, DV.conf, confL, DV.conf1, *] <;> omega))
  refine wpC_loop (fun s => ∃ (k : Nat) (v6 v7 : AV), k ≤ x.insert.length ∧ (x.insert.take k).all okX = true ∧ s = ⟨[.d (dInp x), .d (.int .i64 n), .ptr 0 0 0, .d (.bool false), .d (.int .i64 k), .undef, v6, v7], [some (.arr 3 [.d (dInp x)])]⟩)
    (fun s => x.insert.length - (s.int 4).toNat)
    (s' := ⟨[.d (dInp x), .d (.int .i64 n), .ptr 0 0 0, .d (.bool false), .d (.int .i64 (0 : Nat)), .undef, .undef, .undef], [some (.arr 3 [.d (dInp x)])]⟩)
    (Gh.weak (by simp [weak])) ⟨0, _, _, by omega, rfl, rfl⟩ ?_
  rintro _ ⟨k, v6, v7, hk, hall, rfl⟩
  have hw : IntKind.i64.wrap ((k : Int) + 1) = ((k + 1 : Nat) : Int) := by rw [wrap64 (by omega) (by omega)]; simp
  rcases Nat.lt_or_ge k x.insert.length with hkl | hkl
  · have hkn : k < n := by omega
    repeat' (first | (with_reducible first | refine st_reg ?_ | refine sN (by conv => lhs; simp [dInp, getD_map_lt, hkl, hkn, dI, hw]) ?_ | refine rN ?_ ?_ | refine rO ?_ ?_ | refine rF ?_ ?_ | refine sG (by conv => lhs; simp [dInp, getD_map_lt, hkl, hkn, dI, hw]) ?_ | refine gF ?_ | refine gS rfl (by conv => lhs; simp [dInp, getD_map_lt, hkl, hkn, dI, hw]) ?_ ?_ | (refine st_gef0 ?_ ?_; focus (conv => (lhs; simp [dInp, getD_map_lt, hkl, hkn, dI, hw])); done) | refine sE (by conv => lhs; simp) ?_ | refine Nx.go ?_ | refine st_blke' (by decide) ?_ | refine st_seq ?_ | refine st_blk ?_ | refine st_cond (by conv => lhs; simp) (by conv => lhs; simp [dInp, getD_map_lt, hkl, hkn, dI, hw]) ?_ ?_ ?_ | refine st_lexit ?_) | (intro h_; try simp only [reduceCtorEq, y1, y2, y3, y4, y5, y6, y7, y8, y9, z1, z2, z3, z4, z5, z6, z7, ne_eq] at h_))
    all_goals try (first | contradiction | exact True.intro | omega | rfl | (simp [AV.fits, AV.cells, AV.one, DV.fits, DV.cells, DV.one, DV.conf, confL, DV.conf1]; done) | (simp [AV.fits, AV.cells, AV.one, DV.fits, DV.cells, DV.one, DV.conf, confL, DV.conf1, *] <;> omega))
    · refine atEnd_pure ⟨trivial, trivial⟩ ?_ rfl
      show AV.d (DV.bool false) = _
      rw [validI, all_take_false (p := okX) hkl (by simp [okX]; omega), Bool.and_false]
    · refine st_lnormw (ys := [.d (dInp x), .d (.int .i64 n), .ptr 0 0 0, .d (.bool false), .d (.int .i64 (k + 1 : Nat)), .undef, .undef, .undef]) (by simp [weak]) ⟨k + 1, _, _, by omega, ?_, rfl⟩ (by simp [St.int]; omega)
      rw [List.take_add_one, List.getElem?_eq_getElem hkl, List.all_append, hall]
      simp [okX]; omega
  · have hkn : ¬ k < n := by omega
    have hkn2 : k = x.insert.length := by omega
    rw [hkn2, List.take_length] at hall
    repeat' (first | (with_reducible first | refine st_reg ?_ | refine sN (by conv => lhs; simp [dInp, hkn]) ?_ | refine rN ?_ ?_ | refine rO ?_ ?_ | refine rF ?_ ?_ | refine sG (by conv => lhs; simp [dInp, hkn]) ?_ | refine gF ?_ | refine gS rfl (by conv => lhs; simp [dInp, hkn]) ?_ ?_ | (refine st_gef0 ?_ ?_; focus (conv => (lhs; simp [dInp, hkn])); done) | refine sE (by conv => lhs; simp) ?_ | refine Nx.go ?_ | refine st_blke' (by decide) ?_ | refine st_seq ?_ | refine st_blk ?_ | refine st_cond (by conv => lhs; simp) (by conv => lhs; simp [dInp, hkn]) ?_ ?_ ?_ | refine st_lexit ?_) | (intro h_; try simp only [reduceCtorEq, y1, y2, y3, y4, y5, y6, y7, y8, y9, z1, z2, z3, z4, z5, z6, z7, ne_eq] at h_))
    all_goals try (first | contradiction | exact True.intro | omega | rfl | (simp [AV.fits, AV.cells, AV.one, DV.fits, DV.cells, DV.one, DV.conf, confL, DV.conf1]; done) | (simp [AV.fits, AV.cells, AV.one, DV.fits, DV.cells, DV.one, DV.conf, confL, DV.conf1, *] <;> omega))
    refine atEnd_pure ⟨trivial, trivial⟩ ?_ rfl
    show AV.d (DV.bool true) = _
    rw [validI, hc, hall]
    simp
    omega

theorem fair11 (x : Inp) (k : Int) : Pure prog 5 [.d (dInp x), .d (.int .i64 k)] (.d (.bool (fairB x k))) := by
  refine fn_of e5 hm (by rfl) (vs := [.d (dInp x), .d (.int .i64 k), .undef, .undef]) rfl ?_
  unfold c5
  repeat' (first | (with_reducible first | refine st_reg ?_ | refine sN (by conv => lhs; simp [dInp]) ?_ | refine rN ?_ ?_ | refine rO ?_ ?_ | refine rF ?_ ?_ | refine sG (by conv => lhs; simp [dInp]) ?_ | refine gF ?_ | refine gS rfl (by conv => lhs; simp [dInp]) ?_ ?_ | (refine st_gef0 ?_ ?_; focus (conv => (lhs; simp [dInp])); done) | refine sE (by conv => lhs; simp) ?_ | refine Nx.go ?_ | refine st_blke' (by decide) ?_ | refine st_seq ?_ | refine st_blk ?_ | refine st_cond (by conv => lhs; simp) (by conv => lhs; simp [dInp]) ?_ ?_ ?_ | refine st_lexit ?_) | (intro h_; try simp only [reduceCtorEq, y1, y2, y3, y4, y5, y6, y7, y8, y9, z1, z2, z3, z4, z5, z6, z7, ne_eq] at h_))
  all_goals try (first | contradiction | exact True.intro | omega | rfl | (simp [AV.fits, AV.cells, AV.one, DV.fits, DV.cells, DV.one, DV.conf, confL, DV.conf1]; done) | (simp [AV.fits, AV.cells, AV.one, DV.fits, DV.cells, DV.one, DV.conf, confL, DV.conf1, *] <;> omega))
  refine st_e (st_call (by simp [solidOk]) (by conv => lhs; simp) (Small27 x k 5) (by exact ⟨.inl rfl, .inl rfl, .inl rfl, trivial⟩) (pendOk_refl _) ?_)
  rcases hs : (decide ((x.cols.length : Int) ≤ k) && decide ((x.insert.length : Int) ≤ 5)) with _ | _
  · skip
    repeat' (first | (with_reducible first | refine st_reg ?_ | refine sN (by conv => lhs; simp [dInp]) ?_ | refine rN ?_ ?_ | refine rO ?_ ?_ | refine rF ?_ ?_ | refine sG (by conv => lhs; simp [dInp]) ?_ | refine gF ?_ | refine gS rfl (by conv => lhs; simp [dInp]) ?_ ?_ | (refine st_gef0 ?_ ?_; focus (conv => (lhs; simp [dInp])); done) | refine sE (by conv => lhs; simp) ?_ | refine Nx.go ?_ | refine st_blke' (by decide) ?_ | refine st_seq ?_ | refine st_blk ?_ | refine st_cond (by conv => lhs; simp) (by conv => lhs; simp [dInp]) ?_ ?_ ?_ | refine st_lexit ?_) | (intro h_; try simp only [reduceCtorEq, y1, y2, y3, y4, y5, y6, y7, y8, y9, z1, z2, z3, z4, z5, z6, z7, ne_eq] at h_))
    all_goals try (first | contradiction | exact True.intro | omega | rfl | (simp [AV.fits, AV.cells, AV.one, DV.fits, DV.cells, DV.one, DV.conf, confL, DV.conf1]; done) | (simp [AV.fits, AV.cells, AV.one, DV.fits, DV.cells, DV.one, DV.conf, confL, DV.conf1, *] <;> omega))
    refine atEnd_pure ⟨trivial, trivial⟩ ?_ rfl
    show AV.d (DV.bool false) = _
    rw [fairB, hs]; rfl
  · have hl : (x.insert.length : Int) ≤ 5 := by simp at hs; omega
    repeat' (first | (with_reducible first | refine st_reg ?_ | refine sN (by conv => lhs; simp [dInp]) ?_ | refine rN ?_ ?_ | refine rO ?_ ?_ | refine rF ?_ ?_ | refine sG (by conv => lhs; simp [dInp]) ?_ | refine gF ?_ | refine gS rfl (by conv => lhs; simp [dInp]) ?_ ?_ | (refine st_gef0 ?_ ?_; focus (conv => (lhs; simp [dInp])); done) | refine sE (by conv => lhs; simp) ?_ | refine Nx.go ?_ | refine st_blke' (by decide) ?_ | refine st_seq ?_ | refine st_blk ?_ | refine st_cond (by conv => lhs; simp) (by conv => lhs; simp [dInp]) ?_ ?_ ?_ | refine st_lexit ?_) | (intro h_; try simp only [reduceCtorEq, y1, y2, y3, y4, y5, y6, y7, y8, y9, z1, z2, z3, z4, z5, z6, z7, ne_eq] at h_))
    all_goals try (first | contradiction | exact True.intro | omega | rfl | (simp [AV.fits, AV.cells, AV.one, DV.fits, DV.cells, DV.one, DV.conf, confL, DV.conf1]; done) | (simp [AV.fits, AV.cells, AV.one, DV.fits, DV.cells, DV.one, DV.conf, confL, DV.conf1, *] <;> omega))
    refine st_get (by conv => lhs; simp) (st_call (by simp [solidOk]) (by conv => lhs; simp) (Valid28 x x.insert.length (by omega)) (by exact ⟨.inl rfl, .inl rfl, trivial⟩) (pendOk_refl _) ?_)
    repeat' (first | (with_reducible first | refine st_reg ?_ | refine sN (by conv => lhs; simp [dInp]) ?_ | refine rN ?_ ?_ | refine rO ?_ ?_ | refine rF ?_ ?_ | refine sG (by conv => lhs; simp [dInp]) ?_ | refine gF ?_ | refine gS rfl (by conv => lhs; simp [dInp]) ?_ ?_ | (refine st_gef0 ?_ ?_; focus (conv => (lhs; simp [dInp])); done) | refine sE (by conv => lhs; simp) ?_ | refine Nx.go ?_ | refine st_blke' (by decide) ?_ | refine st_seq ?_ | refine st_blk ?_ | refine st_cond (by conv => lhs; simp) (by conv => lhs; simp [dInp]) ?_ ?_ ?_ | refine st_lexit ?_) | (intro h_; try simp only [reduceCtorEq, y1, y2, y3, y4, y5, y6, y7, y8, y9, z1, z2, z3, z4, z5, z6, z7, ne_eq] at h_))
    all_goals try (first | contradiction | exact True.intro | omega | rfl | (simp [AV.fits, AV.cells, AV.one, DV.fits, DV.cells, DV.one, DV.conf, confL, DV.conf1]; done) | (simp [AV.fits, AV.cells, AV.one, DV.fits, DV.cells, DV.one, DV.conf, confL, DV.conf1, *] <;> omega))
    refine atEnd_pure ⟨trivial, trivial⟩ ?_ rfl
    show AV.d (DV.bool _) = _
    rw [fairB, hs]; simp

theorem wf_of_fair {x : Inp} {k : Int} (h : fairB x k = true) : WF x ∧ (x.cols.length : Int) ≤ k ∧ x.insert.length ≤ 5 := by
  simp only [fairB, validI, Bool.and_eq_true, decide_eq_true_eq, List.all_eq_true] at h
  obtain ⟨⟨h1, h2⟩, ⟨⟨⟨⟨h3, _⟩, h4⟩, h5⟩, h6⟩, h7⟩ := h
  refine ⟨⟨h3, ?_, ?_, ⟨h4, h5⟩, by omega⟩, h1, by omega⟩
  · intro c hc
    have hco := h6 c hc
    simp only [colOk, headOk, Bool.and_eq_true, decide_eq_true_eq, Bool.or_eq_true, List.all_eq_true, List.mem_range] at hco
    obtain ⟨⟨⟨⟨⟨a1, a2⟩, a3⟩, a4⟩, a5⟩, a6⟩ := hco
    refine ⟨a1, a2, a3, a4, by omega, ?_⟩
    intro p hp
    obtain ⟨t, ht, rfl⟩ := List.getElem_of_mem hp
    have := a6 t (by omega)
    simp only [readOk, List.getElem?_eq_getElem ht] at this
    split at this
    · simp at this; omega
    · simp [okX] at this; omega
  · intro p hp
    have := h7 p hp
    simp [okX] at this
    exact this
end Go.Vm.L
