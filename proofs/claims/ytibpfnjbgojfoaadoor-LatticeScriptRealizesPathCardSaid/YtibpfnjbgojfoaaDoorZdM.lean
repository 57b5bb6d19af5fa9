/- Lattice: Build. -/
import Derived.Test.YtibpfnjbgojfoaaDoorZdL
import Derived.Test.YtibpfnjbgojfoaaDoorV7
set_option linter.all false
set_option maxHeartbeats 8000000
namespace Go.Vm.L
open Go Go.Vm

def sortK (ks : List Key) : List Key := ks.mergeSort fun x y => !decide (cmpK y x < 0)
def SortC : Prop := ∀ (ks : List Key) (n : Nat), n = ks.length → n < 1000000 →
  Fn prog 24 [.hs 0 0 n 3, .d (.fn 25)] [some (.arr 3 ((ks.map dKey).map .d))] (fun r H' => r = .tup [] ∧ H' = [some (.arr 3 (((sortK ks).map dKey).map .d))])

theorem cmpK_lt (a b : Key) : (cmpK a b < 0) ↔ (a.frm < b.frm ∨ a.frm = b.frm ∧ (a.to < b.to ∨ a.to = b.to ∧ a.term < b.term)) := by
  simp only [cmpK, orI, cmpI]
  by_cases h1 : a.frm < b.frm
  · simp [h1]
  · by_cases h2 : a.frm > b.frm
    · simp [h1, h2]; omega
    · have h3 : a.frm = b.frm := by omega
      by_cases h4 : a.to < b.to
      · simp [h3, h4]
      · by_cases h5 : a.to > b.to
        · simp [h3, h4, h5]; omega
        · have h6 : a.to = b.to := by omega
          by_cases h7 : a.term < b.term
          · simp [h3, h6, h7]
          · by_cases h8 : a.term > b.term <;> simp [h3, h6, h7, h8]
def leK (x y : Key) : Bool := !decide (cmpK y x < 0)
theorem leK_iff (x y : Key) : leK x y = true ↔ ¬ (y.frm < x.frm ∨ y.frm = x.frm ∧ (y.to < x.to ∨ y.to = x.to ∧ y.term < x.term)) := by
  simp only [leK, Bool.not_eq_true', decide_eq_false_iff_not, cmpK_lt]
theorem leK_trans (a b c : Key) (h1 : leK a b = true) (h2 : leK b c = true) : leK a c = true := by rw [leK_iff] at *; omega
theorem leK_total (a b : Key) : (leK a b || leK b a) = true := by
  rw [Bool.or_eq_true, leK_iff, leK_iff]; omega
theorem leK_anti (a b : Key) (h1 : leK a b = true) (h2 : leK b a = true) : a = b := by
  rw [leK_iff] at *
  cases a; cases b
  simp only [Key.mk.injEq] at *
  omega
theorem sortK_perm (ks : List Key) : (sortK ks).Perm ks := List.mergeSort_perm _ _
theorem sortK_sorted (ks : List Key) : (sortK ks).Pairwise fun a b => leK a b = true := List.pairwise_mergeSort (le := leK) leK_trans leK_total ks
theorem sortK_congr {ks ks' : List Key} (h : ks.Perm ks') : sortK ks = sortK ks' :=
  List.Perm.eq_of_pairwise (le := fun a b => leK a b = true) (fun a b _ _ h1 h2 => leK_anti a b h1 h2) (sortK_sorted ks) (sortK_sorted ks') ((sortK_perm ks).trans (h.trans (sortK_perm ks').symm))

def buildM (x : Inp) (k : Nat) : List (Key × Arc) := (List.range k).foldl (fun M i => fromL x i M) []
def finAt (x : Inp) (i s : Nat) : Int := if s % 2 = 0 ∧ s / 2 < i then delS x (s / 2) x.cols.length else 1099511627776
def finTo (x : Inp) (i : Nat) : List Int := (List.range (2 * x.cols.length + 1)).map (finAt x i)
def arcOf (M : List (Key × Arc)) (k : Key) : Arc := (getM M k).getD ⟨0, 0, 0, 0, []⟩
def buildA (x : Inp) : List Arc := (sortK ((buildM x (x.cols.length + 1)).map (·.1))).map (arcOf (buildM x (x.cols.length + 1)))
def buildL (x : Inp) : Lat := ⟨(2 * x.cols.length + 1 : Nat), buildA x, finTo x (x.cols.length + 1)⟩

theorem finTo_len (x : Inp) (i : Nat) : (finTo x i).length = 2 * x.cols.length + 1 := by simp [finTo]
theorem finTo_zero (x : Inp) : finTo x 0 = List.replicate (2 * x.cols.length + 1) 1099511627776 := by
  apply List.ext_getElem
  · simp [finTo]
  · intro i h1 h2; simp [finTo, finAt]
theorem finTo_succ (x : Inp) (i : Nat) (hi : i ≤ x.cols.length) : finTo x (i + 1) = (finTo x i).set (2 * i) (delS x i x.cols.length) := by
  apply List.ext_getElem
  · simp [finTo]
  · intro s h1 h2
    rw [List.getElem_set]
    simp only [finTo, List.getElem_map, List.getElem_range, finAt]
    by_cases hs : 2 * i = s
    · subst hs
      rw [if_pos rfl, if_pos (by omega), show 2 * i / 2 = i by omega]
    · rw [if_neg hs]
      by_cases h3 : s % 2 = 0 ∧ s / 2 < i
      · rw [if_pos h3, if_pos (by omega)]
      · rw [if_neg h3, if_neg (by omega)]

theorem getM_mem {M : List (Key × Arc)} {k : Key} (h : k ∈ M.map (·.1)) : ∃ a, getM M k = some a := by
  induction M with
  | nil => simp at h
  | cons p r ih =>
    obtain ⟨k', a'⟩ := p
    simp only [getM]
    by_cases hk : k = k'
    · exact ⟨a', by rw [if_pos hk]⟩
    · rw [if_neg hk]
      simp only [List.map_cons, List.mem_cons] at h
      exact ih (h.resolve_left hk)
theorem fm_getM (M : List (Key × Arc)) (k : Key) : fmGet (M.map fun p => dKey p.1) (M.map fun p => dArc p.2) (dKey k) = (getM M k).map dArc := by
  induction M with
  | nil => rfl
  | cons p r ih =>
    obtain ⟨k', a'⟩ := p
    simp only [List.map_cons, fmGet, eqk_key, getM, ih]
    by_cases hk : k = k' <;> simp [hk]

/-- Calls with the builder, wherever it lies. -/
theorem handG {H : Heap} {x : Inp} {M : List (Key × Arc)} {ib im : Nat} (h0 : H.ob ib = some (bldO x im)) (h1 : H.ob im = some (mapO M)) : handM (renOf [ib, im] H.length) H [ib, im] (BH x M) := by
  refine ⟨ob_lt h0, ?_, ob_lt h1, ?_, trivial⟩
  · rw [ob_get h0]; simp [bld_ren, renOf]
  · rw [ob_get h1]; simp [map_ren]
theorem backG {H H' : Heap} {x : Inp} {M : List (Key × Arc)} {ib im : Nat} (hc : CallH [ib, im] H (BH x M) H') : H'.ob ib = some (bldO x im) ∧ H'.ob im = some (mapO M) ∧ H'.length = H.length := by
  refine ⟨?_, ?_, ?_⟩
  · have := hc.inn 0 ib (bldO x 1) rfl rfl
    rwa [bld_ren] at this
  · have := hc.inn 1 im (mapO M) rfl rfl
    rwa [map_ren] at this
  · have := hc.len; simpa [BH] using this
theorem st_bldG {P : Program} {vs env : List AV} {H : Heap} {K : AV → Heap → Prop} {x : Inp} {M M' : List (Key × Arc)} {ib im : Nat} {f : FuncId} {args : List Arg} {ds xs : List AV} {pend solid : List Arg} {r0 : AV}
    (h0 : H.ob ib = some (bldO x im)) (h1 : H.ob im = some (mapO M)) (hne : ib ≠ im) (hf : Fn P f (.ptr 0 0 0 :: ds) (BH x M) (fun r H' => r = r0 ∧ H' = BH x M'))
    (ho : argsOb (evalA vs env) args ∧ solidOk (evalA vs env) solid) (hx : (args.map fun a => (evalA vs env a).strip) = .ptr ib 0 0 :: xs) (hd : argsM (renOf [ib, im] H.length) xs ds)
    (hr : ∀ f, r0.ren f = r0) (hp : ∀ H' : Heap, (∀ j, j ≠ ib → j ≠ im → j < H.length → H'[j]? = H[j]?) → pendOk (evalA vs env) H H' pend)
    (hk : ∀ H', H'.ob ib = some (bldO x im) → H'.ob im = some (mapO M') → H'.length = H.length → (∀ j, j ≠ ib → j ≠ im → j < H.length → H'.ob j = H.ob j) → K r0 H') : wpEff P (evalA vs env) H (.call f args) pend solid false K := by
  refine stA_call [ib, im] ho hx hf ⟨.inl (by simp [AV.ren, renOf]), hd⟩ (handG h0 h1) (by simp [hne]) (fun r Hc H3 hr2 hH2 => ?_)
  obtain ⟨rfl, rfl⟩ := hr2
  obtain ⟨c0, c1, c2⟩ := backG hH2
  have hg : ∀ j, j ≠ ib → j ≠ im → j < H.length → H3[j]? = H[j]? := fun j hj hj2 hjl => hH2.get j (by simp [hj, hj2]) hjl
  rw [hr]
  exact ⟨hp H3 hg, hk H3 c0 c1 c2 fun j a b c => by simp only [Heap.ob, hg j a b c]⟩

def resO : Ob := .arr 3 [.agg [.d (.int .i64 0), .nils, .nils]]
def bfO (x : Inp) (KS VS : List DV) : Ob := .arr 4 [.agg [.d (.vs (x.cols.map dCol)), .d (.vs (x.insert.map dI)), .d (.int .i64 x.swap), .d (.fm KS VS)]]
def finO (x : Inp) (i : Nat) : Ob := .arr 1 (((finTo x i).map dI).map .d)
def latO (N : Nat) (va : AV) : Ob := .arr 3 [.agg [.d (.int .i64 N), va, .hs 4 0 N 1]]
def left6 (s : St) : Nat := match s.heap.ob 6 with
  | some (.iter _ left) => left.length
  | _ => 0
/-- What Build's second loop holds. -/
@[reducible] def L2 (x : Inp) (n N i : Nat) (M : List (Key × Arc)) (KS VS : List DV) (s : St) : Prop := ∃ (left : List (Key × Arc)) (ks : List Key) (cur : Option (DV × DV)) (H : Heap) (v7 v8 : AV),
  s = ⟨[.d (dInp x), .ptr 0 0 0, .ptr 1 0 0, .ptr 3 0 0, .d (.int .i64 n), .ptr 5 0 0, .undef, v7, v8, .undef, .undef, .undef, .undef, .it 6, .undef, .undef, .undef, .undef, .undef], H⟩ ∧ 7 ≤ H.length ∧
  H.ob 6 = some (.iter cur (left.map fun p => (dKey p.1, dArc p.2))) ∧ OwnS H v7 3 (ks.map dKey) ∧ (∀ id, v7.rid = some id → 7 ≤ id) ∧ (ks ++ left.map (·.1)).Perm (M.map (·.1)) ∧
  H.ob 1 = some resO ∧ H.ob 3 = some (bfO x KS VS) ∧ H.ob 4 = some (finO x i) ∧ H.ob 5 = some (latO N .nils)
end Go.Vm.L
