/- Lattice: the distance in the lattice of an input is the edit distance. -/
import Derived.Test.YtibpfnjbgojfoaaZlX
set_option linter.all false
set_option maxHeartbeats 8000000
namespace Go.Vm.L
open Go Go.Vm
/-- One entry of the table of edit distances, out of the others. -/
def optR (x : Inp) (y : List Int) (T : Nat → Nat → Int) (i j : Nat) : Int := if i < x.cols.length ∧ j < y.length ∧ (readAt x i).getD (y.getD j 0).toNat 0 ≥ 0 then min ((readAt x i).getD (y.getD j 0).toNat 0 + T (i + 1) (j + 1)) 1099511627776 else 1099511627776
def delAt (x : Inp) (m : Nat) : Int := (x.cols[m]?.map (·.del)).getD 0
def optD (x : Inp) (T : Nat → Nat → Int) (i j : Nat) : Int := if i < x.cols.length then min (delAt x i + T (i + 1) j) 1099511627776 else 1099511627776
def optI (x : Inp) (y : List Int) (T : Nat → Nat → Int) (i j : Nat) : Int := if j < y.length then min (x.insert.getD (y.getD j 0).toNat 0 + T i (j + 1)) 1099511627776 else 1099511627776
def optS (x : Inp) (y : List Int) (T : Nat → Nat → Int) (i j : Nat) : Int := if swapB x i = true ∧ j + 1 < y.length ∧ y.getD j 0 = kindAt x (i + 1) ∧ y.getD (j + 1) 0 = kindAt x i then min (x.swap + T (i + 2) (j + 2)) 1099511627776 else 1099511627776
def edS (x : Inp) (y : List Int) (T : Nat → Nat → Int) (i j : Nat) : Int :=
  if i = x.cols.length ∧ j = y.length then 0 else min (min (min (optR x y T i j) (optD x T i j)) (optI x y T i j)) (optS x y T i j)
def edF (x : Inp) (y : List Int) : Nat → Nat → Nat → Int
  | 0, _, _ => 0
  | f + 1, i, j => edS x y (edF x y f) i j
theorem edS_congr {x : Inp} {y : List Int} {T T' : Nat → Nat → Int} {i j : Nat} (hi : i ≤ x.cols.length) (hj : j ≤ y.length) (h : ∀ i' j', i ≤ i' → j ≤ j' → i' ≤ x.cols.length → j' ≤ y.length → i + j < i' + j' → T i' j' = T' i' j') : edS x y T i j = edS x y T' i j := by
  have h1 : optR x y T i j = optR x y T' i j := by
    unfold optR; split
    · rw [h _ _ (by omega) (by omega) (by omega) (by omega) (by omega)]
    · rfl
  have h2 : optD x T i j = optD x T' i j := by
    unfold optD; split
    · rw [h _ _ (by omega) (by omega) (by omega) (by omega) (by omega)]
    · rfl
  have h3 : optI x y T i j = optI x y T' i j := by
    unfold optI; split
    · rw [h _ _ (by omega) (by omega) (by omega) (by omega) (by omega)]
    · rfl
  have h4 : optS x y T i j = optS x y T' i j := by
    unfold optS; split
    · rename_i hc
      have := swapB_lt hc.1
      rw [h _ _ (by omega) (by omega) (by omega) (by omega) (by omega)]
    · rfl
  unfold edS; rw [h1, h2, h3, h4]
theorem edF_eq {x : Inp} {y : List Int} : ∀ (f f' i j : Nat), i ≤ x.cols.length → j ≤ y.length → (x.cols.length - i) + (y.length - j) < f → (x.cols.length - i) + (y.length - j) < f' → edF x y f i j = edF x y f' i j
  | 0, _, _, _, _, _, h, _ => by omega
  | _ + 1, 0, _, _, _, _, _, h => by omega
  | f + 1, f' + 1, i, j, hi, hj, h, h' => by
    simp only [edF]
    exact edS_congr hi hj fun i' j' h1 h2 h3 h4 h5 => edF_eq f f' i' j' h3 h4 (by omega) (by omega)
def ed (x : Inp) (y : List Int) (i j : Nat) : Int := edF x y ((x.cols.length - i) + (y.length - j) + 1) i j
theorem ed_eq {x : Inp} {y : List Int} {i j : Nat} (hi : i ≤ x.cols.length) (hj : j ≤ y.length) : ed x y i j = edS x y (ed x y) i j := by
  show edS x y (edF x y _) i j = _
  exact edS_congr hi hj fun i' j' h1 h2 h3 h4 h5 => edF_eq _ _ _ _ h3 h4 (by omega) (by omega)
theorem edS_bd {x : Inp} (hx : WF x) {y : List Int} {T : Nat → Nat → Int} (hy : ∀ t ∈ y, 0 ≤ t ∧ t < x.insert.length) {i j : Nat} (hi : i ≤ x.cols.length) (hj : j ≤ y.length)
    (h : ∀ i' j', i ≤ i' → j ≤ j' → i' ≤ x.cols.length → j' ≤ y.length → i + j < i' + j' → 0 ≤ T i' j') : 0 ≤ edS x y T i j ∧ edS x y T i j ≤ 1099511627776 := by
  have h1 : 0 ≤ optR x y T i j ∧ optR x y T i j ≤ 1099511627776 := by
    unfold optR; split
    · have := h (i + 1) (j + 1) (by omega) (by omega) (by omega) (by omega) (by omega); omega
    · omega
  have h2 : 0 ≤ optD x T i j := by
    unfold optD; split
    · rename_i hil
      have := h (i + 1) j (by omega) (by omega) (by omega) (by omega) (by omega)
      have hd := hx.cols x.cols[i] (List.getElem_mem hil)
      have : delAt x i = x.cols[i].del := by simp [delAt, hil]
      omega
    · omega
  have h3 : 0 ≤ optI x y T i j := by
    unfold optI; split
    · rename_i hjl
      have := h i (j + 1) (by omega) (by omega) (by omega) (by omega) (by omega)
      have ht := getD_bd (P := fun t => 0 ≤ t ∧ t < x.insert.length) hjl hy
      have := getD_bd (P := fun p => 1 ≤ p ∧ p ≤ 60000) (i := (y.getD j 0).toNat) (by omega) hx.ins
      omega
    · omega
  have h4 : 0 ≤ optS x y T i j := by
    unfold optS; split
    · rename_i hc
      have := swapB_lt hc.1
      have := h (i + 2) (j + 2) (by omega) (by omega) (by omega) (by omega) (by omega)
      have := hx.swap
      omega
    · omega
  unfold edS; split <;> omega
theorem edF_nn {x : Inp} (hx : WF x) {y : List Int} (hy : ∀ t ∈ y, 0 ≤ t ∧ t < x.insert.length) : ∀ (f i j : Nat), i ≤ x.cols.length → j ≤ y.length → 0 ≤ edF x y f i j
  | 0, _, _, _, _ => Int.le_refl _
  | f + 1, i, j, hi, hj => (edS_bd hx hy hi hj fun i' j' _ _ h3 h4 _ => edF_nn hx hy f i' j' h3 h4).1
theorem ed_bd {x : Inp} (hx : WF x) {y : List Int} (hy : ∀ t ∈ y, 0 ≤ t ∧ t < x.insert.length) {i j : Nat} (hi : i ≤ x.cols.length) (hj : j ≤ y.length) : 0 ≤ ed x y i j ∧ ed x y i j ≤ 1099511627776 := by
  rw [ed_eq hi hj]
  exact edS_bd hx hy hi hj fun i' j' _ _ h3 h4 _ => edF_nn hx hy _ i' j' h3 h4

theorem foldl_addW : ∀ (cs : List Col) (s : Int), (∀ c ∈ cs, 1 ≤ c.del ∧ c.del ≤ 1099511627776) → 0 ≤ s → s ≤ 1099511627776 → cs.foldl (fun s c => addW s c.del) s = min (s + (cs.map (·.del)).sum) 1099511627776 ∧ 0 ≤ (cs.map (·.del)).sum
  | [], s, _, h1, h2 => by simp; omega
  | c :: r, s, h, h1, h2 => by
    have hc := h c (by simp)
    have e : addW s c.del = min (s + c.del) 1099511627776 := addW_min ⟨h1, h2⟩ (by omega)
    have ih := foldl_addW r (addW s c.del) (fun d hd => h d (by simp [hd])) (by omega) (by omega)
    rw [List.foldl_cons, ih.1, List.map_cons, List.sum_cons]
    omega
theorem delS_cons {x : Inp} (hx : WF x) {i m : Nat} (him : i < m) (hm : m ≤ x.cols.length) : delS x i m = min (delAt x i + delS x (i + 1) m) 1099511627776 := by
  have hil : i < x.cols.length := by omega
  have hd := hx.cols x.cols[i] (List.getElem_mem hil)
  have e : delAt x i = x.cols[i].del := by simp [delAt, hil]
  have hall : ∀ c ∈ (x.cols.drop (i + 1)).take (m - (i + 1)), 1 ≤ c.del ∧ c.del ≤ 1099511627776 := fun c hc => by
    have := hx.cols c (List.mem_of_mem_drop (List.mem_of_mem_take hc)); omega
  unfold delS
  rw [List.drop_eq_getElem_cons hil, show m - i = (m - (i + 1)) + 1 by omega, List.take_succ_cons, List.foldl_cons]
  have h0 : addW 0 x.cols[i].del = x.cols[i].del := by rw [addW_min (by omega) (by omega)]; omega
  rw [h0, (foldl_addW _ _ hall (by omega) (by omega)).1, (foldl_addW _ 0 hall (by omega) (by omega)).1, e]
  have := (foldl_addW _ 0 hall (by omega) (by omega)).2
  omega

/-- What is left to pay in a state, some of the label to come. -/
def G (x : Inp) (y : List Int) (s j : Nat) : Int := if s % 2 = 0 then ed x y (s / 2) j
  else if swapB x (s / 2) = true ∧ j < y.length ∧ y.getD j 0 = kindAt x (s / 2) then ed x y (s / 2 + 2) (j + 1) else 1099511627776
theorem G_even (x : Inp) (y : List Int) (i j : Nat) : G x y (2 * i) j = ed x y i j := by
  unfold G; rw [if_pos (by omega)]; congr 1; omega
theorem G_odd (x : Inp) (y : List Int) (i j : Nat) : G x y (2 * i + 1) j = if swapB x i = true ∧ j < y.length ∧ y.getD j 0 = kindAt x i then ed x y (i + 2) (j + 1) else 1099511627776 := by
  unfold G; rw [if_neg (by omega), show (2 * i + 1) / 2 = i by omega]
theorem G_bd {x : Inp} (hx : WF x) {y : List Int} (hy : ∀ t ∈ y, 0 ≤ t ∧ t < x.insert.length) {s j : Nat} (hs : s < 2 * x.cols.length + 1) (hj : j ≤ y.length) : 0 ≤ G x y s j ∧ G x y s j ≤ 1099511627776 := by
  unfold G; split
  · exact ed_bd hx hy (by omega) hj
  · split
    · rename_i h
      have := swapB_lt h.1
      exact ed_bd hx hy (by omega) (by omega)
    · omega
/-- What may be done at a place besides a deletion. -/
def optA (x : Inp) (y : List Int) (m j : Nat) : Int := min (min (optR x y (ed x y) m j) (optI x y (ed x y) m j)) (optS x y (ed x y) m j)
theorem ed_unroll {x : Inp} (hx : WF x) {y : List Int} (hy : ∀ t ∈ y, 0 ≤ t ∧ t < x.insert.length) {j : Nat} (hj : j < y.length) : ∀ (d i : Nat), d = x.cols.length - i → i ≤ x.cols.length → ∀ w : Int,
    (w ≤ ed x y i j ↔ w ≤ 1099511627776 ∧ ∀ m, i ≤ m → m ≤ x.cols.length → w ≤ delS x i m + optA x y m j)
  | d, i, hd, hi, w => by
    rw [ed_eq hi (by omega), edS, if_neg (by omega)]
    have hA : ∀ v : Int, v ≤ optA x y i j ↔ v ≤ optR x y (ed x y) i j ∧ v ≤ optI x y (ed x y) i j ∧ v ≤ optS x y (ed x y) i j := by
      intro v; unfold optA; omega
    have hRb : optR x y (ed x y) i j ≤ 1099511627776 := by unfold optR; split <;> omega
    by_cases hil : i < x.cols.length
    · have ih := ed_unroll hx hy hj (d - 1) (i + 1) (by omega) (by omega) (w - delAt x i)
      have hdel := hx.cols x.cols[i] (List.getElem_mem hil)
      have e : delAt x i = x.cols[i].del := by simp [delAt, hil]
      have hAn : ∀ m, i ≤ m → m ≤ x.cols.length → 0 ≤ optA x y m j := by
        intro m h1 h2
        have h3 : 0 ≤ edS x y (ed x y) m j := (edS_bd hx hy h2 (by omega) fun i' j' _ _ h5 h6 _ => (ed_bd hx hy h5 h6).1).1
        rw [edS, if_neg (by omega)] at h3
        unfold optA; omega
      have hD : w ≤ optD x (ed x y) i j ↔ w ≤ 1099511627776 ∧ ∀ m, i + 1 ≤ m → m ≤ x.cols.length → w ≤ delS x i m + optA x y m j := by
        unfold optD; rw [if_pos hil]
        constructor
        · intro h
          refine ⟨by omega, fun m h1 h2 => ?_⟩
          have := (ih.1 (by omega)).2 m h1 h2
          rw [delS_cons hx (by omega) h2]
          have := hAn m (by omega) h2
          omega
        · rintro ⟨h1, h2⟩
          have := ih.2 ⟨by omega, fun m h3 h4 => ?_⟩
          · omega
          · have h5 := h2 m h3 h4
            rw [delS_cons hx (by omega) h4] at h5
            omega
      constructor
      · intro h
        have h1 := hD.1 (by omega)
        refine ⟨h1.1, fun m h2 h3 => ?_⟩
        rcases Nat.eq_or_lt_of_le h2 with rfl | h4
        · rw [delS_self]; have := (hA w).2 ⟨by omega, by omega, by omega⟩; omega
        · exact h1.2 m h4 h3
      · rintro ⟨h1, h2⟩
        have h3 := hD.2 ⟨h1, fun m h4 h5 => h2 m (by omega) h5⟩
        have h4 := h2 i (by omega) (by omega)
        rw [delS_self] at h4
        have := (hA w).1 (by omega)
        omega
    · have hie : i = x.cols.length := by omega
      have hD : optD x (ed x y) i j = 1099511627776 := by unfold optD; rw [if_neg hil]
      constructor
      · intro h
        refine ⟨by omega, fun m h2 h3 => ?_⟩
        obtain rfl : m = i := by omega
        rw [delS_self]; have := (hA w).2 ⟨by omega, by omega, by omega⟩; omega
      · rintro ⟨h1, h2⟩
        have h4 := h2 i (by omega) (by omega)
        rw [delS_self] at h4
        have := (hA w).1 (by omega)
        omega
termination_by d => d
decreasing_by omega
theorem ed_end {x : Inp} (hx : WF x) (y : List Int) : ∀ (d i : Nat), d = x.cols.length - i → i ≤ x.cols.length → ed x y i y.length = delS x i x.cols.length
  | 0, i, hd, hi => by
    obtain rfl : i = x.cols.length := by omega
    rw [ed_eq hi (Nat.le_refl _), edS, if_pos ⟨rfl, rfl⟩, delS_self]
  | d + 1, i, hd, hi => by
    have ih := ed_end hx y d (i + 1) (by omega) (by omega)
    rw [ed_eq hi (Nat.le_refl _), edS, if_neg (by omega), delS_cons hx (by omega) (Nat.le_refl _)]
    have h1 : optR x y (ed x y) i y.length = 1099511627776 := by unfold optR; rw [if_neg (by omega)]
    have h2 : optI x y (ed x y) i y.length = 1099511627776 := by unfold optI; rw [if_neg (by omega)]
    have h3 : optS x y (ed x y) i y.length = 1099511627776 := by unfold optS; rw [if_neg (by omega)]
    have h4 : optD x (ed x y) i y.length = min (delAt x i + delS x (i + 1) x.cols.length) 1099511627776 := by unfold optD; rw [if_pos (by omega), ih]
    rw [h1, h2, h3, h4]; omega

theorem bst_le : ∀ (cs : List Arc) (o : Option Arc) (c : Arc), (c ∈ cs ∧ c.cost < 1099511627776) ∨ o = some c → ∃ a, cs.foldl bst o = some a ∧ a.cost ≤ c.cost
  | [], o, c, h => by
    rcases h with ⟨h, _⟩ | h
    · cases h
    · exact ⟨c, h, Int.le_refl _⟩
  | b :: r, o, c, h => by
    rw [List.foldl_cons]
    have key : ∀ c' : Arc, bst o b = some c' → c'.cost ≤ c.cost → ∃ a, r.foldl bst (bst o b) = some a ∧ a.cost ≤ c.cost := fun c' h1 h2 => by
      obtain ⟨a, h3, h4⟩ := bst_le r (bst o b) c' (.inr h1)
      exact ⟨a, h3, by omega⟩
    rcases h with ⟨h, hc⟩ | rfl
    · rcases List.mem_cons.1 h with rfl | h
      · cases o with
        | none => exact key c (by simp [bst, hc]) (Int.le_refl _)
        | some old =>
          by_cases hl : c.cost < old.cost
          · exact key c (by simp [bst, hc, hl]) (Int.le_refl _)
          · exact key old (by simp [bst, hc, hl]) (by omega)
      · exact bst_le r _ c (.inl ⟨h, hc⟩)
    · by_cases hb : b.cost < 1099511627776
      · by_cases hl : b.cost < c.cost
        · exact key b (by simp [bst, hb, hl]) (by omega)
        · exact key c (by simp [bst, hb, hl]) (by omega)
      · exact key c (by simp [bst, hb]) (by omega)
theorem ref_dom {x : Inp} {c : Arc} (h : c ∈ bC x) (hc : c.cost < 1099511627776) : ∃ a ∈ refA x, keyOf a = keyOf c ∧ a.cost ≤ c.cost := by
  obtain ⟨a, h1, h2⟩ := bst_le (fk (keyOf c) (bC x)) none c (.inl ⟨List.mem_filter.2 ⟨h, by simp⟩, hc⟩)
  have h3 : getL (refA x) (keyOf c) = some a := by rw [getL_ref]; exact h1
  have h4 := getL_mem h3
  exact ⟨a, h4.1, h4.2.symm, h2⟩
theorem mem_read {x : Inp} {i m t : Nat} (h : i ≤ m) (hm : m < x.cols.length) (ht : t < x.insert.length) (hr : (readAt x m).getD t 0 ≥ 0) : readArc i m (delS x i m) (delOps (m - i)) (readAt x m) t ∈ bC x := by
  refine List.mem_flatMap.2 ⟨i, List.mem_range.2 (by omega), List.mem_append.2 (.inl (List.mem_flatMap.2 ⟨m + 1 - i, List.mem_range.2 (by omega), ?_⟩))⟩
  rw [show i + (m + 1 - i) = m + 1 by omega, stepC, if_pos (by omega)]
  refine List.mem_append.2 (.inl (List.mem_append.2 (.inl ?_)))
  rw [Nat.add_sub_cancel, readC, if_pos hm]
  exact List.mem_map.2 ⟨t, List.mem_filter.2 ⟨List.mem_range.2 ht, by simpa using hr⟩, rfl⟩
theorem mem_ins {x : Inp} {i m t : Nat} (h : i ≤ m) (hm : m ≤ x.cols.length) (ht : t < x.insert.length) : insArc x i m t ∈ bC x := by
  refine List.mem_flatMap.2 ⟨i, List.mem_range.2 (by omega), List.mem_append.2 (.inl (List.mem_flatMap.2 ⟨m - i, List.mem_range.2 (by omega), ?_⟩))⟩
  rw [show i + (m - i) = m by omega, stepC]
  exact List.mem_append.2 (.inl (List.mem_append.2 (.inr (List.mem_map.2 ⟨t, List.mem_range.2 ht, rfl⟩))))
theorem mem_sw {x : Inp} {i m : Nat} (h : i ≤ m) (hm : m ≤ x.cols.length) (hs : swapB x m = true) : swapArc x i m ∈ bC x := by
  refine List.mem_flatMap.2 ⟨i, List.mem_range.2 (by omega), List.mem_append.2 (.inl (List.mem_flatMap.2 ⟨m - i, List.mem_range.2 (by omega), ?_⟩))⟩
  rw [show i + (m - i) = m by omega, stepC]
  exact List.mem_append.2 (.inr (by rw [swC, if_pos hs]; simp))
theorem mem_la {x : Inp} {i : Nat} (hs : swapB x i = true) : lastArc x i ∈ bC x := by
  have := swapB_lt hs
  exact List.mem_flatMap.2 ⟨i, List.mem_range.2 (by omega), List.mem_append.2 (.inr (by rw [laC, if_pos hs]; simp))⟩
theorem G_step0 {x : Inp} (hx : WF x) {y : List Int} (hy : ∀ t ∈ y, 0 ≤ t ∧ t < x.insert.length) {j : Nat} (hj : j < y.length) {s : Nat} (hs : s < 2 * x.cols.length + 1) (w : Int) :
    w ≤ G x y s j ↔ w ≤ 1099511627776 ∧ ∀ c ∈ bC x, c.frm = s → c.term = y.getD j 0 → w ≤ c.cost + G x y c.to.toNat (j + 1) := by
  have hyj := getD_bd (P := fun t => 0 ≤ t ∧ t < x.insert.length) hj hy
  obtain ⟨t, ht⟩ : ∃ t : Nat, y.getD j 0 = t := ⟨(y.getD j 0).toNat, by omega⟩
  have htl : t < x.insert.length := by omega
  rcases Nat.mod_two_eq_zero_or_one s with he | ho
  · obtain ⟨i, rfl⟩ : ∃ i, s = 2 * i := ⟨s / 2, by omega⟩
    have hi : i ≤ x.cols.length := by omega
    rw [G_even, ed_unroll hx hy hj _ i rfl hi]
    have hAll : ∀ m, i ≤ m → m ≤ x.cols.length → (w ≤ 1099511627776 → (w ≤ delS x i m + optA x y m j ↔
        (∀ c ∈ readC x i m, c.frm = (2 * i : Nat) → c.term = y.getD j 0 → w ≤ c.cost + G x y c.to.toNat (j + 1)) ∧
        (∀ c ∈ insC x i m, c.frm = (2 * i : Nat) → c.term = y.getD j 0 → w ≤ c.cost + G x y c.to.toNat (j + 1)) ∧
        (∀ c ∈ swC x i m, c.frm = (2 * i : Nat) → c.term = y.getD j 0 → w ≤ c.cost + G x y c.to.toNat (j + 1)))) := by
      intro m him hm hw
      have hd := delS_bd hx him hm
      have hmin : w ≤ delS x i m + optA x y m j ↔ w ≤ delS x i m + optR x y (ed x y) m j ∧ w ≤ delS x i m + optI x y (ed x y) m j ∧ w ≤ delS x i m + optS x y (ed x y) m j := by
        unfold optA; omega
      rw [hmin]
      have hR : w ≤ delS x i m + optR x y (ed x y) m j ↔ ∀ c ∈ readC x i m, c.frm = (2 * i : Nat) → c.term = y.getD j 0 → w ≤ c.cost + G x y c.to.toNat (j + 1) := by
        unfold optR
        constructor
        · intro h c hc hf hk
          obtain ⟨hm', t', ht', hr, rfl⟩ := mem_readC hc
          simp only [readArc] at hk ⊢
          obtain rfl : t' = t := by omega
          rw [ht, Int.toNat_natCast, if_pos ⟨hm', hj, hr⟩] at h
          rw [show ((2 * (m : Int) + 2)).toNat = 2 * (m + 1) by omega, G_even]
          omega
        · intro h
          split
          · rename_i hc
            have := h _ (show readArc i m (delS x i m) (delOps (m - i)) (readAt x m) t ∈ readC x i m by
              rw [readC, if_pos hc.1]; exact List.mem_map.2 ⟨t, List.mem_filter.2 ⟨List.mem_range.2 htl, by have := hc.2.2; rw [ht] at this; simpa using this⟩, rfl⟩) rfl (by rw [ht]; rfl)
            simp only [readArc] at this
            rw [show ((2 * (m : Int) + 2)).toNat = 2 * (m + 1) by omega, G_even] at this
            rw [ht, Int.toNat_natCast]
            omega
          · omega
      have hI : w ≤ delS x i m + optI x y (ed x y) m j ↔ ∀ c ∈ insC x i m, c.frm = (2 * i : Nat) → c.term = y.getD j 0 → w ≤ c.cost + G x y c.to.toNat (j + 1) := by
        unfold optI
        rw [if_pos hj, ht, Int.toNat_natCast]
        constructor
        · intro h c hc hf hk
          obtain ⟨t', ht', rfl⟩ := mem_insC hc
          simp only [insArc] at hk ⊢
          obtain rfl : t' = t := by omega
          rw [show ((2 * (m : Int))).toNat = 2 * m by omega, G_even]
          omega
        · intro h
          have := h _ (show insArc x i m t ∈ insC x i m from List.mem_map.2 ⟨t, List.mem_range.2 htl, rfl⟩) rfl rfl
          simp only [insArc] at this
          rw [show ((2 * (m : Int))).toNat = 2 * m by omega, G_even] at this
          omega
      have hS : w ≤ delS x i m + optS x y (ed x y) m j ↔ ∀ c ∈ swC x i m, c.frm = (2 * i : Nat) → c.term = y.getD j 0 → w ≤ c.cost + G x y c.to.toNat (j + 1) := by
        unfold optS
        constructor
        · intro h c hc hf hk
          obtain ⟨hsw, rfl⟩ := mem_swC hc
          simp only [swapArc] at hk ⊢
          rw [show ((2 * (m : Int) + 1)).toNat = 2 * m + 1 by omega, G_odd]
          have h4 := swapB_lt hsw
          have h5 := hx.swap
          split
          · rename_i h6
            rw [if_pos ⟨hsw, h6.2.1, hk.symm, h6.2.2⟩] at h
            rw [show j + 1 + 1 = j + 2 from rfl]
            omega
          · omega
        · intro h
          split
          · rename_i hc
            have := h _ (show swapArc x i m ∈ swC x i m by rw [swC, if_pos hc.1]; simp) rfl hc.2.2.1.symm
            simp only [swapArc] at this
            rw [show ((2 * (m : Int) + 1)).toNat = 2 * m + 1 by omega, G_odd, if_pos ⟨hc.1, hc.2.1, hc.2.2.2⟩] at this
            rw [show j + 1 + 1 = j + 2 from rfl] at this
            omega
          · omega
      rw [hR, hI, hS]
    constructor
    · rintro ⟨h1, h2⟩
      refine ⟨h1, fun c hc hf hk => ?_⟩
      obtain ⟨i', m, him, hm, hcc⟩ := mem_bC hc
      have hi' : i' = i ∨ c ∈ laC x i' := by
        rcases hcc with h | h | h | h
        · obtain ⟨_, t', _, _, rfl⟩ := mem_readC h; simp only [readArc] at hf; left; omega
        · obtain ⟨t', _, rfl⟩ := mem_insC h; simp only [insArc] at hf; left; omega
        · obtain ⟨_, rfl⟩ := mem_swC h; simp only [swapArc] at hf; left; omega
        · exact .inr h
      rcases hi' with rfl | h
      · have h3 := (hAll m him hm h1).1 (h2 m him hm)
        rcases hcc with h | h | h | h
        · exact h3.1 c h hf hk
        · exact h3.2.1 c h hf hk
        · exact h3.2.2 c h hf hk
        · obtain ⟨_, rfl⟩ := mem_laC h; simp only [lastArc] at hf; omega
      · obtain ⟨_, rfl⟩ := mem_laC h; simp only [lastArc] at hf; omega
    · rintro ⟨h1, h2⟩
      refine ⟨h1, fun m him hm => (hAll m him hm h1).2 ⟨fun c hc => ?_, fun c hc => ?_, fun c hc => ?_⟩⟩
      · obtain ⟨hm', t', ht', hr, rfl⟩ := mem_readC hc; exact h2 _ (mem_read him hm' ht' hr)
      · obtain ⟨t', ht', rfl⟩ := mem_insC hc; exact h2 _ (mem_ins him hm ht')
      · obtain ⟨hsw, rfl⟩ := mem_swC hc; exact h2 _ (mem_sw him hm hsw)
  · obtain ⟨i, rfl⟩ : ∃ i, s = 2 * i + 1 := ⟨s / 2, by omega⟩
    rw [G_odd]
    constructor
    · intro h
      have hb : w ≤ 1099511627776 := by
        split at h
        · rename_i hc
          have := swapB_lt hc.1
          have := ed_bd hx hy (show i + 2 ≤ x.cols.length by omega) (show j + 1 ≤ y.length by omega); omega
        · exact h
      refine ⟨hb, fun c hc hf hk => ?_⟩
      obtain ⟨i', m, him, hm, hcc⟩ := mem_bC hc
      rcases hcc with h' | h' | h' | h'
      · obtain ⟨_, t', _, _, rfl⟩ := mem_readC h'; simp only [readArc] at hf; omega
      · obtain ⟨t', _, rfl⟩ := mem_insC h'; simp only [insArc] at hf; omega
      · obtain ⟨_, rfl⟩ := mem_swC h'; simp only [swapArc] at hf; omega
      · obtain ⟨hsw, rfl⟩ := mem_laC h'
        simp only [lastArc] at hf hk ⊢
        obtain rfl : i' = i := by omega
        rw [if_pos ⟨hsw, hj, hk.symm⟩] at h
        rw [show ((2 * (i' : Int) + 4)).toNat = 2 * (i' + 2) by omega, G_even]
        omega
    · rintro ⟨h1, h2⟩
      split
      · rename_i hc
        have := h2 _ (mem_la hc.1) (by simp [lastArc]) hc.2.2.symm
        simp only [lastArc] at this
        rw [show ((2 * (i : Int) + 4)).toNat = 2 * (i + 2) by omega, G_even] at this
        omega
      · exact h1
theorem G_step {x : Inp} (hx : WF x) {y : List Int} (hy : ∀ t ∈ y, 0 ≤ t ∧ t < x.insert.length) {j : Nat} (hj : j < y.length) {s : Nat} (hs : s < 2 * x.cols.length + 1) (w : Int) :
    w ≤ G x y s j ↔ w ≤ 1099511627776 ∧ ∀ c ∈ refA x, c.frm = s → c.term = y.getD j 0 → w ≤ c.cost + G x y c.to.toNat (j + 1) := by
  rw [G_step0 hx hy hj hs]
  constructor
  · rintro ⟨h1, h2⟩
    exact ⟨h1, fun c hc => h2 c (refA_mem hc).1⟩
  · rintro ⟨h1, h2⟩
    refine ⟨h1, fun c hc hf hk => ?_⟩
    have hok := bC_ok hx hc
    have hto := hok.t
    have hto0 : 0 ≤ c.to := by have := hok.f; have := hok.ft; omega
    by_cases hcc : c.cost < 1099511627776
    · obtain ⟨a, ha, hka, hle⟩ := ref_dom hc hcc
      simp only [keyOf, Key.mk.injEq] at hka
      have := h2 a ha (by rw [hka.1]; exact hf) (by rw [hka.2.2]; exact hk)
      rw [hka.2.1] at this
      omega
    · have := (G_bd hx hy (s := c.to.toNat) (j := j + 1) (by omega) (by omega)).1
      omega
/-- The distance in the lattice is the edit distance. -/
theorem dist_ed {x : Inp} (hx : WF x) (ht : x.insert.length ≤ 5) (hn : x.cols.length ≤ 8) {y : List Int} (hy : ∀ t ∈ y, 0 ≤ t ∧ t < x.insert.length) : distL (refL x) y = ed x y 0 0 := by
  have hl := wl_ref hx ht hn
  have hf := refL_flen x
  have inv : ∀ (r pre : List Int) (cur : List Int), pre ++ r = y → cur.length = (refL x).final.length → (∀ v ∈ cur, 0 ≤ v ∧ v ≤ 1099511627776) →
      ∀ v : Int, ((v ≤ 1099511627776 ∧ ∀ s, s < (refL x).final.length → v ≤ cur.getD s 0 + G x y s pre.length) ↔ (v ≤ 1099511627776 ∧ ∀ s, s < (refL x).final.length → v ≤ (r.foldl (stepTok (refL x)) cur).getD s 0 + (refL x).final.getD s 0)) := by
    intro r
    induction r with
    | nil =>
      intro pre cur hp hcl hcb v
      rw [List.append_nil] at hp
      subst hp
      have hG : ∀ s, s < (refL x).final.length → G x pre s pre.length = (refL x).final.getD s 0 := by
        intro s hs
        rcases Nat.mod_two_eq_zero_or_one s with he | ho
        · obtain ⟨i, rfl⟩ : ∃ i, s = 2 * i := ⟨s / 2, by omega⟩
          rw [G_even, fin_even (by omega), ed_end hx pre _ i rfl (by omega)]
        · obtain ⟨i, rfl⟩ : ∃ i, s = 2 * i + 1 := ⟨s / 2, by omega⟩
          rw [G_odd, fin_odd (by omega), if_neg (by omega)]
      constructor
      · rintro ⟨h1, h2⟩
        exact ⟨h1, fun s hs => by have := h2 s hs; rw [hG s hs] at this; exact this⟩
      · rintro ⟨h1, h2⟩
        exact ⟨h1, fun s hs => by have := h2 s hs; rw [← hG s hs] at this; exact this⟩
    | cons t r ih =>
      intro pre cur hp hcl hcb v
      have hj : pre.length < y.length := by rw [← hp]; simp
      have hyt : y.getD pre.length 0 = t := by rw [← hp]; simp [List.getD_eq_getElem?_getD]
      have hBd : Bd (refL x) cur := ⟨hcl, hcb⟩
      have hstep : Bd (refL x) (stepTok (refL x) cur t) := Bd.toks hl [t] cur hBd
      have ih' := ih (pre ++ [t]) (stepTok (refL x) cur t) (by simpa using hp) hstep.1 hstep.2 v
      rw [List.foldl_cons, ← ih', List.length_append, List.length_singleton]
      have e1 : (v ≤ 1099511627776 ∧ ∀ s, s < (refL x).final.length → v ≤ cur.getD s 0 + G x y s pre.length) ↔ (v ≤ 1099511627776 ∧ ∀ c ∈ refA x, c.term = t → v ≤ cur.getD c.frm.toNat 0 + c.cost + G x y c.to.toNat (pre.length + 1)) := by
        constructor
        · rintro ⟨h1, h2⟩
          refine ⟨h1, fun c hc hk => ?_⟩
          have ha := hl.arc c hc
          have h3 := h2 c.frm.toNat (by omega)
          have h4 := ((G_step hx hy hj (s := c.frm.toNat) (by omega) (v - cur.getD c.frm.toNat 0)).1 (by omega)).2 c hc (by omega) (by rw [hyt]; exact hk)
          omega
        · rintro ⟨h1, h2⟩
          refine ⟨h1, fun s hs => ?_⟩
          have hc0 := hBd.get hs
          have := (G_step hx hy hj (s := s) (by omega) (v - cur.getD s 0)).2 ⟨by omega, fun c hc hf hk => ?_⟩
          · omega
          · have := h2 c hc (by rw [← hyt]; exact hk)
            rw [hf, Int.toNat_natCast] at this
            omega
      have e2 : (v ≤ 1099511627776 ∧ ∀ s, s < (refL x).final.length → v ≤ (stepTok (refL x) cur t).getD s 0 + G x y s (pre.length + 1)) ↔ (v ≤ 1099511627776 ∧ ∀ c ∈ refA x, c.term = t → v ≤ cur.getD c.frm.toNat 0 + c.cost + G x y c.to.toNat (pre.length + 1)) := by
        constructor
        · rintro ⟨h1, h2⟩
          refine ⟨h1, fun c hc hk => ?_⟩
          have ha := hl.arc c hc
          have h3 := h2 c.to.toNat (by omega)
          have h4 := ((le_tok hl (cur := cur) (t := t) (s := c.to.toNat) (by omega)).1 (Int.le_refl _)).2 c hc hk (by omega)
          omega
        · rintro ⟨h1, h2⟩
          refine ⟨h1, fun s hs => ?_⟩
          have hg := G_bd hx hy (s := s) (j := pre.length + 1) (by omega) (by omega)
          have := (le_tok hl (cur := cur) (t := t) (v := v - G x y s (pre.length + 1)) hs).2 ⟨by omega, fun c hc hk hto => ?_⟩
          · omega
          · have := h2 c hc hk
            rw [hto, Int.toNat_natCast] at this
            omega
      rw [e1, e2]
  have hle : ∀ v : Int, v ≤ distL (refL x) y ↔ v ≤ ed x y 0 0 := by
    intro v
    have hb := Bd.at0 (refL x)
    rw [le_dist, atL, ← inv y [] (at0 (refL x)) rfl hb.1 hb.2 v]
    have h0 := ed_bd hx hy (Nat.zero_le _) (Nat.zero_le _)
    have g0 : G x y 0 0 = ed x y 0 0 := G_even x y 0 0
    constructor
    · rintro ⟨h1, h2⟩
      have := h2 0 (by omega)
      unfold at0 at this
      rw [getD_set_eq (by simp; omega), if_pos rfl, List.length_nil, g0] at this
      omega
    · intro h
      refine ⟨by omega, fun s hs => ?_⟩
      unfold at0
      rw [getD_set_eq (by simp; omega), getD_rep hs]
      have := G_bd hx hy (s := s) (j := 0) (by omega) (Nat.zero_le _)
      split
      · rename_i e; subst e; rw [List.length_nil, g0]; omega
      · rw [List.length_nil]; omega
  have h1 := (hle _).1 (Int.le_refl _)
  have h2 := (hle _).2 (Int.le_refl _)
  omega
end Go.Vm.L
