/- Scripts applied: the state that is carried along, and its small operations. -/
import Derived.Test.YtibpfnjbgojfoaaDoorZdY
import Derived.Test.YtibpfnjbgojfoaaDoorZdIr5
set_option linter.all false
set_option maxHeartbeats 8000000
namespace Go.Vm
open Go
variable [Gl]
/-- An object that may as well be another. -/
theorem Rel.weakOb {μ : Locs} {F : Nat → Prop} {w : World} {H : Heap} (hR : Rel μ F w H) {id : Nat} {o o' : Ob} (ho : H[id]? = some (some o)) (h : ∀ l, μ id = some l → ObAt μ F w l o → ObAt μ F w l o') : Post μ F w H μ F w (H.set id (some o')) := by
  have hid : id < H.length := (List.getElem?_eq_some_iff.1 ho).1
  have al : ∀ i o1, (H.set id (some o'))[i]? = some (some o1) → ∃ o2, H[i]? = some (some o2) := fun i o1 h1 => by
    by_cases e : i = id
    · subst e; exact ⟨o, ho⟩
    · rw [List.getElem?_set_ne (fun h => e h.symm)] at h1; exact ⟨o1, h1⟩
  refine ⟨⟨fun i l o1 hm h1 => ?_, fun i j l1 l2 o1 o2 h1 h2 h3 h4 h5 => ?_, fun i l o1 hm h1 => ?_, hR.lt, hR.Flt, fun i l h => by simpa using hR.idlt i l h, hR.gl⟩, Ext.refl _ _ _ _, by simp, fun i _ ⟨o1, h1⟩ => al i o1 h1⟩
  · by_cases e : i = id
    · subst e
      rw [List.getElem?_set_self hid] at h1
      cases h1
      exact h l hm (hR.ob i l o hm ho)
    · rw [List.getElem?_set_ne (fun h => e h.symm)] at h1
      exact hR.ob i l o1 hm h1
  · obtain ⟨a1, b1⟩ := al i o1 h3
    obtain ⟨a2, b2⟩ := al j o2 h4
    exact hR.inj i j l1 l2 a1 a2 h1 h2 b1 b2 h5
  · obtain ⟨a1, b1⟩ := al i o1 h1
    exact hR.nF i l a1 hm b1
/-- A slice in a struct that is nil becomes an object of no room. -/
theorem Gh.nilCell {xs : List AV} {H : Heap} {id s k sz : Nat} {cs : List AV} (ho : H.ob id = some (Ob.arr s [AV.agg cs])) (hk : cs[k]? = some .nils) :
    Gh ⟨xs, H⟩ ⟨xs, (H ++ [some (Ob.arr sz [])]).set id (some (Ob.arr s [AV.agg (cs.set k (.hs H.length 0 0 sz))]))⟩ := fun μ F w hR => by
  have hv := hR.virt (Ob.arr sz [])
  have ho' : (H ++ [some (Ob.arr sz [])])[id]? = some (some (Ob.arr s [.agg cs])) := ob_get (ob_old ho)
  refine ⟨μ, F, hv.trans hR (hv.rel.weakOb (o' := Ob.arr s [.agg (cs.set k (.hs H.length 0 0 sz))]) ho' fun l hm hA => ?_), fun i x h => ⟨x, h, fun u hu => hu⟩⟩
  obtain ⟨h1, h2, h3, h4, h5⟩ := hA
  refine ⟨h1, h2, fun x hx => ?_, h4, fun i j x y hx hy => ?_⟩
  · simp only [List.mem_singleton] at hx
    subst hx
    have := h3 (.agg cs) (by simp)
    simp only [AV.fits, AV.cells, Bool.and_eq_true, beq_iff_eq, List.all_eq_true, List.length_set] at this ⊢
    refine ⟨this.1, fun z hz => ?_⟩
    rcases List.mem_or_eq_of_mem_set hz with hz | rfl
    · exact this.2 z hz
    · rfl
  · cases i with
    | succ i => simp at hx
    | zero =>
      simp only [List.getElem?_cons_zero, Option.some.injEq] at hx
      subst hx
      simp only [AV.cells] at hy
      rw [List.getElem?_set] at hy
      split at hy
      · rename_i e; subst e
        split at hy
        · cases hy
          obtain ⟨u, e1, e2, e3⟩ := h5 0 k (.agg cs) .nils rfl hk
          refine ⟨u, e1, e2, ?_⟩
          cases e3
          exact .hs0 _ _ _ _
        · cases hy
      · exact h5 0 j (.agg cs) y rfl hy
end Go.Vm
namespace Go.Vm.L
open Go Go.Vm

theorem add85 (a b : Int) (ha : -1000000000000000 ≤ a ∧ a ≤ 1000000000000000) (hb : -1000000000000000 ≤ b ∧ b ≤ 1000000000000000) : Pure prog 85 [.d (.int .i64 a), .d (.int .i64 b)] (.d (.int .i64 (min (a + b) 1099511627776))) := by
  refine fn_of e85 hm (by rfl) (vs := [.d (.int .i64 a), .d (.int .i64 b), .undef]) rfl ?_
  unfold c85
  have hw : IntKind.i64.wrap (a + b) = a + b := wrap64 (by omega) (by omega)
  have e : (if 1099511627776 < a + b then 1099511627776 else a + b) = min (a + b) 1099511627776 := by split <;> omega
  repeat' (first | (with_reducible first | refine st_reg ?_ | refine sN (by conv => lhs; simp [hw, e]) ?_ | refine rN ?_ ?_ | refine rO ?_ ?_ | refine rF ?_ ?_ | refine sG (by conv => lhs; simp [hw, e]) ?_ | refine gF ?_ | refine gS rfl (by conv => lhs; simp [hw, e]) ?_ ?_ | (refine st_gef0 ?_ ?_; focus (conv => (lhs; simp [hw, e])); done) | refine sE (by conv => lhs; simp) ?_ | refine Nx.go ?_ | refine st_blke' (by decide) ?_ | refine st_seq ?_ | refine st_blk ?_ | refine st_cond (by conv => lhs; simp) (by conv => lhs; simp [hw, e]) ?_ ?_ ?_ | refine st_lexit ?_) | (intro h_; try simp only [reduceCtorEq, y1, y2, y3, y4, y5, y6, y7, y8, y9, z1, z2, z3, z4, z5, z6, z7, ne_eq] at h_))
  all_goals try (first | contradiction | exact True.intro | omega | rfl | (simp [AV.fits, AV.cells, AV.one, DV.fits, DV.cells, DV.one, DV.conf, confL, DV.conf1]; done) | (simp [AV.fits, AV.cells, AV.one, DV.fits, DV.cells, DV.one, DV.conf, confL, DV.conf1, *] <;> omega))
  exact atEnd_pure ⟨trivial, trivial⟩ rfl rfl
theorem swappable86 (x : Inp) (m : Nat) (hb : x.cols.length < 4611686018427387904) (hm' : m ≤ x.cols.length) :
    Pure prog 86 [.d (dInp x), .d (.int .i64 m)] (.d (.bool (swapB x m))) := by
  refine fn_of e86 hm (by rfl) (vs := [.d (dInp x), .d (.int .i64 m), .undef, .undef]) rfl ?_
  unfold c86
  have hw : IntKind.i64.wrap ((m : Int) + 1) = (m : Int) + 1 := wrap64 (by omega) (by omega)
  by_cases h1 : m + 1 < x.cols.length
  · have h1' : (m : Int) + 1 < x.cols.length := by omega
    have h2 : m < x.cols.length := by omega
    repeat' (first | (with_reducible first | refine st_reg ?_ | refine sN (by conv => lhs; simp [dInp, dCol, getD_map_lt, *]) ?_ | refine rN ?_ ?_ | refine rO ?_ ?_ | refine rF ?_ ?_ | refine sG (by conv => lhs; simp [dInp, dCol, getD_map_lt, *]) ?_ | refine gF ?_ | refine gS rfl (by conv => lhs; simp [dInp, dCol, getD_map_lt, *]) ?_ ?_ | (refine st_gef0 ?_ ?_; focus (conv => (lhs; simp [dInp, dCol, getD_map_lt, *])); done) | refine sE (by conv => lhs; simp [dInp, dCol, getD_map_lt, *]) ?_ | refine Nx.go ?_ | refine st_blke' (by decide) ?_ | refine st_seq ?_ | refine st_blk ?_ | refine st_cond (by conv => lhs; simp [dInp, dCol, getD_map_lt, *]) (by conv => lhs; simp [dInp, dCol, getD_map_lt, *]) ?_ ?_ ?_ | refine st_lexit ?_) | (intro h_; try simp only [reduceCtorEq, y1, y2, y3, y4, y5, y6, y7, y8, y9, z1, z2, z3, z4, z5, z6, z7, ne_eq] at h_))
    all_goals try (first | contradiction | exact True.intro | omega | rfl | (simp [AV.fits, AV.cells, AV.one, DV.fits, DV.cells, DV.one, DV.conf, confL, DV.conf1]; done) | (simp [AV.fits, AV.cells, AV.one, DV.fits, DV.cells, DV.one, DV.conf, confL, DV.conf1, *] <;> omega))
    refine atEnd_pure ⟨trivial, trivial⟩ ?_ rfl
    show AV.d (DV.bool _) = _
    simp [swapB, List.getElem?_eq_getElem h1, List.getElem?_eq_getElem h2, Bool.and_assoc]
  · have h1' : ¬ ((m : Int) + 1 < x.cols.length) := by omega
    repeat' (first | (with_reducible first | refine st_reg ?_ | refine sN (by conv => lhs; simp [dInp, dCol, *]) ?_ | refine rN ?_ ?_ | refine rO ?_ ?_ | refine rF ?_ ?_ | refine sG (by conv => lhs; simp [dInp, dCol, *]) ?_ | refine gF ?_ | refine gS rfl (by conv => lhs; simp [dInp, dCol, *]) ?_ ?_ | (refine st_gef0 ?_ ?_; focus (conv => (lhs; simp [dInp, dCol, *])); done) | refine sE (by conv => lhs; simp [dInp, dCol, *]) ?_ | refine Nx.go ?_ | refine st_blke' (by decide) ?_ | refine st_seq ?_ | refine st_blk ?_ | refine st_cond (by conv => lhs; simp [dInp, dCol, *]) (by conv => lhs; simp [dInp, dCol, *]) ?_ ?_ ?_ | refine st_lexit ?_) | (intro h_; try simp only [reduceCtorEq, y1, y2, y3, y4, y5, y6, y7, y8, y9, z1, z2, z3, z4, z5, z6, z7, ne_eq] at h_))
    all_goals try (first | contradiction | exact True.intro | omega | rfl | (simp [AV.fits, AV.cells, AV.one, DV.fits, DV.cells, DV.one, DV.conf, confL, DV.conf1]; done) | (simp [AV.fits, AV.cells, AV.one, DV.fits, DV.cells, DV.one, DV.conf, confL, DV.conf1, *] <;> omega))
    refine atEnd_pure ⟨trivial, trivial⟩ ?_ rfl
    show AV.d (DV.bool _) = _
    have : x.cols[m + 1]? = none := List.getElem?_eq_none (by omega)
    cases hx : x.cols[m]? <;> simp [swapB, this, hx]

/-- The state of a script that is being applied. -/
@[simp] def stV (x : Inp) (at_ : Nat) (v : AV) (cost : Int) : AV := .agg [.d (.vs (x.cols.map dCol)), .d (.vs (x.insert.map dI)), .d (.int .i64 x.swap), .d (.int .i64 at_), v, .d (.int .i64 cost)]
def SH (x : Inp) (at_ : Nat) (out : List Int) (cost : Int) : Heap := [some (.arr 6 [stV x at_ (.hs 1 0 out.length 1) cost]), some (.arr 1 ((out.map dI).map .d))]
/-- What a heap holds behind an operation. -/
def SX (x : Inp) (at_ : Nat) (out : List Int) (cost : Int) (H : Heap) : Prop := ∃ id, id ≠ 0 ∧ H.ob 0 = some (.arr 6 [stV x at_ (.hs id 0 out.length 1) cost]) ∧ H.ob id = some (.arr 1 ((out.map dI).map .d))

theorem emit78 (x : Inp) (at_ : Nat) (out : List Int) (cost t : Int) (ho : out.length < 1000000) :
    Fn prog 78 [.ptr 0 0 0, .d (.int .i64 t)] (SH x at_ out cost) (fun r H' => r = .tup [] ∧ H' = [some (.arr 6 [stV x at_ (.hs 2 0 (out ++ [t]).length 1) cost]), none, some (.arr 1 (((out ++ [t]).map dI).map .d))]) := by
  refine fn_of e78 hm (by rfl) (vs := [.ptr 0 0 0, .d (.int .i64 t), .undef]) rfl ?_
  unfold c78 SH
  repeat' (first | (with_reducible first | refine st_reg ?_ | refine sN (by conv => lhs; simp [litV, litE, litOb, toDL, AV.toD, AV.norm, List.replicate, fillC, fillOb, AV.mkAgg, AV.allD, AV.cells, DV.cells]) ?_ | refine rN ?_ ?_ | refine rO ?_ ?_ | refine rF ?_ ?_ | refine sG (by conv => lhs; simp [litV, litE, litOb, toDL, AV.toD, AV.norm, List.replicate, fillC, fillOb, AV.mkAgg, AV.allD, AV.cells, DV.cells]) ?_ | refine gF ?_ | refine gS rfl (by conv => lhs; simp [litV, litE, litOb, toDL, AV.toD, AV.norm, List.replicate, fillC, fillOb, AV.mkAgg, AV.allD, AV.cells, DV.cells]) ?_ ?_ | (refine st_gef0 ?_ ?_; focus (conv => (lhs; simp [litV, litE, litOb, toDL, AV.toD, AV.norm, List.replicate, fillC, fillOb, AV.mkAgg, AV.allD, AV.cells, DV.cells])); done) | refine sE (by conv => lhs; simp) ?_ | refine Nx.go ?_ | refine st_blke' (by decide) ?_ | refine st_seq ?_ | refine st_blk ?_ | refine st_cond (by conv => lhs; simp) (by conv => lhs; simp [litV, litE, litOb, toDL, AV.toD, AV.norm, List.replicate, fillC, fillOb, AV.mkAgg, AV.allD, AV.cells, DV.cells]) ?_ ?_ ?_ | refine st_lexit ?_) | (intro h_; try simp only [reduceCtorEq, y1, y2, y3, y4, y5, y6, y7, y8, y9, z1, z2, z3, z4, z5, z6, z7, ne_eq] at h_))
  all_goals try (first | contradiction | exact True.intro | omega | rfl | (simp [AV.fits, AV.cells, AV.one, DV.fits, DV.cells, DV.one, DV.conf, confL, DV.conf1]; done) | (simp [AV.fits, AV.cells, AV.one, DV.fits, DV.cells, DV.one, DV.conf, confL, DV.conf1, *] <;> omega))
  refine st_e (st_app (id := 1) (off := 0) (len := out.length) (ds := [dI t]) (by simp) (by conv => lhs; simp) (by simp [dI]) rfl (by simp) (by simp [dI, DV.fits, DV.cells, DV.one]) (by simp; omega) ?_)
  repeat' (first | (with_reducible first | refine st_reg ?_ | refine sN (by conv => lhs; simp) ?_ | refine rN ?_ ?_ | refine rO ?_ ?_ | refine rF ?_ ?_ | refine sG (by conv => lhs; simp) ?_ | refine gF ?_ | refine gS rfl (by conv => lhs; simp) ?_ ?_ | (refine st_gef0 ?_ ?_; focus (conv => (lhs; simp)); done) | refine sE (by conv => lhs; simp) ?_ | refine Nx.go ?_ | refine st_blke' (by decide) ?_ | refine st_seq ?_ | refine st_blk ?_ | refine st_cond (by conv => lhs; simp) (by conv => lhs; simp) ?_ ?_ ?_ | refine st_lexit ?_) | (intro h_; try simp only [reduceCtorEq, y1, y2, y3, y4, y5, y6, y7, y8, y9, z1, z2, z3, z4, z5, z6, z7, ne_eq] at h_))
  all_goals try (first | contradiction | exact True.intro | omega | rfl | (simp [AV.fits, AV.cells, AV.one, DV.fits, DV.cells, DV.one, DV.conf, confL, DV.conf1]; done) | (simp [AV.fits, AV.cells, AV.one, DV.fits, DV.cells, DV.one, DV.conf, confL, DV.conf1, *] <;> omega))
  refine st_e (st_store (id := 0) (ix := 0) (o := 4) (sz := 6) ⟨by simp, trivial⟩ (by conv => lhs; simp) (by conv => lhs; simp) rfl ⟨by simp, by simp⟩ (by simp [AV.fits, AV.cells, AV.one]) rfl (by simp [updA, AV.fits, AV.cells, DV.cells, AV.mkAgg, AV.allD, AV.one, DV.one]) ⟨trivial, ?_⟩)
  repeat' (first | (with_reducible first | refine st_reg ?_ | refine sN (by conv => lhs; simp) ?_ | refine rN ?_ ?_ | refine rO ?_ ?_ | refine rF ?_ ?_ | refine sG (by conv => lhs; simp) ?_ | refine gF ?_ | refine gS rfl (by conv => lhs; simp) ?_ ?_ | (refine st_gef0 ?_ ?_; focus (conv => (lhs; simp)); done) | refine sE (by conv => lhs; simp) ?_ | refine Nx.go ?_ | refine st_blke' (by decide) ?_ | refine st_seq ?_ | refine st_blk ?_ | refine st_cond (by conv => lhs; simp) (by conv => lhs; simp) ?_ ?_ ?_ | refine st_lexit ?_) | (intro h_; try simp only [reduceCtorEq, y1, y2, y3, y4, y5, y6, y7, y8, y9, z1, z2, z3, z4, z5, z6, z7, ne_eq] at h_))
  all_goals try (first | contradiction | exact True.intro | omega | rfl | (simp [AV.fits, AV.cells, AV.one, DV.fits, DV.cells, DV.one, DV.conf, confL, DV.conf1]; done) | (simp [AV.fits, AV.cells, AV.one, DV.fits, DV.cells, DV.one, DV.conf, confL, DV.conf1, *] <;> omega))
  refine atEnd_Hn 3 (Gh.refl _) trivial (by simp) (by simp) ?_ rfl ⟨rfl, ?_⟩
  · intro i o hi ho
    match i, hi with
    | 0, _ => simp [updA, AV.cells, AV.mkAgg, AV.allD] at ho; subst ho; simp [Ob.und, undL, AV.und]
    | 1, _ => simp at ho
    | 2, _ =>
      simp at ho; subst ho
      simp only [Ob.und]
      have := undL_data (n := 3) (out.map dI ++ [dI t])
      simpa using this
  · simp [updA, AV.cells, AV.mkAgg, AV.allD]

theorem next84 (x : Inp) (at_ : Nat) (out : List Int) (cost : Int) (c : Col) (hn : at_ < x.cols.length) (hc : c = x.cols[at_]) (hb : x.cols.length < 1000000) :
    Fn prog 84 [.ptr 0 0 0] (SH x at_ out cost) (fun r H' => r = .tup [.d (dCol c), .d (.bool true)] ∧ H' = SH x at_ out cost) := by
  refine fn_of e84 hm (by rfl) (vs := [.ptr 0 0 0, .undef, .undef, .undef]) rfl ?_
  unfold c84 SH
  have hn' : ¬ x.cols.length ≤ at_ := by omega
  repeat' (first | (with_reducible first | refine st_reg ?_ | refine sN (by conv => lhs; simp [litV, litE, litOb, toDL, AV.toD, AV.norm, List.replicate, fillC, fillOb, AV.mkAgg, AV.allD, AV.cells, DV.cells, hn, hn', getD_map_lt, ← hc, dCol]) ?_ | refine rN ?_ ?_ | refine rO ?_ ?_ | refine rF ?_ ?_ | refine sG (by conv => lhs; simp [litV, litE, litOb, toDL, AV.toD, AV.norm, List.replicate, fillC, fillOb, AV.mkAgg, AV.allD, AV.cells, DV.cells, hn, hn', getD_map_lt, ← hc, dCol]) ?_ | refine gF ?_ | refine gS rfl (by conv => lhs; simp [litV, litE, litOb, toDL, AV.toD, AV.norm, List.replicate, fillC, fillOb, AV.mkAgg, AV.allD, AV.cells, DV.cells, hn, hn', getD_map_lt, ← hc, dCol]) ?_ ?_ | (refine st_gef0 ?_ ?_; focus (conv => (lhs; simp [litV, litE, litOb, toDL, AV.toD, AV.norm, List.replicate, fillC, fillOb, AV.mkAgg, AV.allD, AV.cells, DV.cells, hn, hn', getD_map_lt, ← hc, dCol])); done) | refine sE (by conv => lhs; simp) ?_ | refine Nx.go ?_ | refine st_blke' (by decide) ?_ | refine st_seq ?_ | refine st_blk ?_ | refine st_cond (by conv => lhs; simp) (by conv => lhs; simp [litV, litE, litOb, toDL, AV.toD, AV.norm, List.replicate, fillC, fillOb, AV.mkAgg, AV.allD, AV.cells, DV.cells, hn, hn', getD_map_lt, ← hc, dCol]) ?_ ?_ ?_ | refine st_lexit ?_) | (intro h_; try simp only [reduceCtorEq, y1, y2, y3, y4, y5, y6, y7, y8, y9, z1, z2, z3, z4, z5, z6, z7, ne_eq] at h_))
  all_goals try (first | contradiction | exact True.intro | omega | rfl | (simp [AV.fits, AV.cells, AV.one, DV.fits, DV.cells, DV.one, DV.conf, confL, DV.conf1]; done) | (simp [AV.fits, AV.cells, AV.one, DV.fits, DV.cells, DV.one, DV.conf, confL, DV.conf1, *] <;> omega))
  refine st_e (st_store (id := 2) (ix := 0) (o := 0) (sz := 3) ⟨by simp, trivial⟩ (by conv => lhs; simp) (by conv => lhs; simp) rfl ⟨by simp, by simp⟩ (by simp [AV.fits, DV.fits, DV.cells, DV.one]) updA_whole (by simp [AV.fits, DV.fits, DV.cells, DV.one]) ⟨trivial, ?_⟩)
  repeat' (first | (with_reducible first | refine st_reg ?_ | refine sN (by conv => lhs; simp) ?_ | refine rN ?_ ?_ | refine rO ?_ ?_ | refine rF ?_ ?_ | refine sG (by conv => lhs; simp) ?_ | refine gF ?_ | refine gS rfl (by conv => lhs; simp) ?_ ?_ | (refine st_gef0 ?_ ?_; focus (conv => (lhs; simp)); done) | refine sE (by conv => lhs; simp) ?_ | refine Nx.go ?_ | refine st_blke' (by decide) ?_ | refine st_seq ?_ | refine st_blk ?_ | refine st_cond (by conv => lhs; simp) (by conv => lhs; simp) ?_ ?_ ?_ | refine st_lexit ?_) | (intro h_; try simp only [reduceCtorEq, y1, y2, y3, y4, y5, y6, y7, y8, y9, z1, z2, z3, z4, z5, z6, z7, ne_eq] at h_))
  all_goals try (first | contradiction | exact True.intro | omega | rfl | (simp [AV.fits, AV.cells, AV.one, DV.fits, DV.cells, DV.one, DV.conf, confL, DV.conf1]; done) | (simp [AV.fits, AV.cells, AV.one, DV.fits, DV.cells, DV.one, DV.conf, confL, DV.conf1, *] <;> omega))
  refine atEnd_Hr 2 (Gh.refl _) ?_ (by simp) (by simp) ?_ ?_ ⟨?_, ?_⟩
  · simp [r84, evRs, RV.ev]
  · intro i o hi ho
    match i, hi with
    | 0, _ => simp at ho; subst ho; simp [Ob.und, undL, AV.und]
    | 1, _ =>
      simp at ho; subst ho
      simp only [Ob.und]
      have := undL_data (n := 2) (out.map dI)
      simpa using this
  · simp [r84, resV, RV.ev, AV.und, undL]
  · simp [r84, resV, RV.ev]
  · simp
end Go.Vm.L
