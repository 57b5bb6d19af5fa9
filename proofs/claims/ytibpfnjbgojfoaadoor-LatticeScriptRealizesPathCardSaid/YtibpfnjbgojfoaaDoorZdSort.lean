/- Lattice: slices.SortFunc of keys. -/
import Derived.Test.YtibpfnjbgojfoaaDoorZdM
import Derived.Shelf.SlSortCmp.NoneTotal
set_option linter.all false
set_option maxHeartbeats 4000000
namespace Go.Vm.L
open Go Go.Vm Go.Proofs Go.Sort
def sortRen : Go.Shelf.Ren := ⟨fun | 6 => 24 | 15 => 39 | 14 => 38 | 28 => 54 | 29 => 55 | 20 => 46 | 21 => 47 | 22 => 48 | 23 => 49 | 24 => 50 | 25 => 51 | 26 => 52 | 27 => 53 | 46 => 57 | 47 => 58 | 48 => 59 | 49 => 60 | 50 => 61 | 57 => 62 | n => n, fun | 22 => 66 | 24 => 68 | 25 => 70 | 3 => 3 | 39 => 81 | 0 => 0 | 53 => 94 | 55 => 97 | 4 => 4 | 46 => 103 | 45 => 102 | 50 => 107 | 5 => 5 | 9 => 9 | 66 => 111 | 70 => 115 | 76 => 117 | 77 => 118 | n => n, fun | n => n⟩
theorem sortLay : Go.Proofs.SlLaysF0.n6 Tryd.prog sortRen where
  mixed := by kernel_rfl
  f6 := ⟨ "slices.SortFunc[[]emendate/lattice.key,emendate/lattice.key]", by decide, Tryd.func24.trans (congrArg some (by kernel_rfl))⟩
  f14 := ⟨ "slices.pdqsortCmpFunc[emendate/lattice.key]", by decide, Tryd.func38.trans (congrArg some (by kernel_rfl))⟩
  f15 := Tryd.func39.trans (congrArg some (by kernel_rfl))
  f20 := ⟨ "slices.insertionSortCmpFunc[emendate/lattice.key]", by decide, Tryd.func46.trans (congrArg some (by kernel_rfl))⟩
  f21 := ⟨ "slices.heapSortCmpFunc[emendate/lattice.key]", by decide, Tryd.func47.trans (congrArg some (by kernel_rfl))⟩
  f22 := ⟨ "slices.breakPatternsCmpFunc[emendate/lattice.key]", by decide, Tryd.func48.trans (congrArg some (by kernel_rfl))⟩
  f23 := ⟨ "slices.choosePivotCmpFunc[emendate/lattice.key]", by decide, Tryd.func49.trans (congrArg some (by kernel_rfl))⟩
  f24 := ⟨ "slices.reverseRangeCmpFunc[emendate/lattice.key]", by decide, Tryd.func50.trans (congrArg some (by kernel_rfl))⟩
  f25 := ⟨ "slices.partialInsertionSortCmpFunc[emendate/lattice.key]", by decide, Tryd.func51.trans (congrArg some (by kernel_rfl))⟩
  f26 := ⟨ "slices.partitionEqualCmpFunc[emendate/lattice.key]", by decide, Tryd.func52.trans (congrArg some (by kernel_rfl))⟩
  f27 := ⟨ "slices.partitionCmpFunc[emendate/lattice.key]", by decide, Tryd.func53.trans (congrArg some (by kernel_rfl))⟩
  f28 := Tryd.func54.trans (congrArg some (by kernel_rfl))
  f29 := Tryd.func55.trans (congrArg some (by kernel_rfl))
  f46 := ⟨ "slices.siftDownCmpFunc[emendate/lattice.key]", by decide, Tryd.func57.trans (congrArg some (by kernel_rfl))⟩
  f47 := Tryd.func58.trans (congrArg some (by kernel_rfl))
  f48 := Tryd.func59.trans (congrArg some (by kernel_rfl))
  f49 := ⟨ "slices.medianAdjacentCmpFunc[emendate/lattice.key]", by decide, Tryd.func60.trans (congrArg some (by kernel_rfl))⟩
  f50 := ⟨ "slices.medianCmpFunc[emendate/lattice.key]", by decide, Tryd.func61.trans (congrArg some (by kernel_rfl))⟩
  f57 := ⟨ "slices.order2CmpFunc[emendate/lattice.key]", by decide, Tryd.func62.trans (congrArg some (by kernel_rfl))⟩
  t0 := Tryd.underlying0
  a0 := Tryd.isAgg0
  z0 := Tryd.sizeOf0
  v0 := Tryd.zeroValue0
  t3 := Tryd.underlying3
  a3 := Tryd.isAgg3
  z3 := Tryd.sizeOf3
  v3 := Tryd.zeroValue3
  t4 := Tryd.underlying4
  a4 := Tryd.isAgg4
  z4 := Tryd.sizeOf4
  v4 := Tryd.zeroValue4
  t5 := Tryd.underlying5
  a5 := Tryd.isAgg5
  z5 := Tryd.sizeOf5
  v5 := Tryd.zeroValue5
  t9 := Tryd.underlying9
  a9 := Tryd.isAgg9
  z9 := Tryd.sizeOf9
  v9 := Tryd.zeroValue9
  t22 := Tryd.underlying66
  a22 := Tryd.isAgg66
  z22 := Tryd.sizeOf66
  v22 := Tryd.zeroValue66
  t25 := Tryd.underlying70
  a25 := Tryd.isAgg70
  z25 := Tryd.sizeOf70
  v25 := Tryd.zeroValue70
  t39 := Tryd.underlying81
  a39 := Tryd.isAgg81
  z39 := Tryd.sizeOf81
  v39 := Tryd.zeroValue81
  t45 := Tryd.underlying102
  a45 := Tryd.isAgg102
  z45 := Tryd.sizeOf102
  v45 := Tryd.zeroValue102
  t46 := Tryd.underlying103
  a46 := Tryd.isAgg103
  z46 := Tryd.sizeOf103
  v46 := Tryd.zeroValue103
  t50 := Tryd.underlying107
  a50 := Tryd.isAgg107
  z50 := Tryd.sizeOf107
  v50 := Tryd.zeroValue107
  t53 := Tryd.underlying94
  a53 := Tryd.isAgg94
  z53 := Tryd.sizeOf94
  v53 := Tryd.zeroValue94
  t55 := Tryd.underlying97
  a55 := Tryd.isAgg97
  z55 := Tryd.sizeOf97
  v55 := Tryd.zeroValue97
  t66 := Tryd.underlying111
  a66 := Tryd.isAgg111
  z66 := Tryd.sizeOf111
  v66 := Tryd.zeroValue111
  t70 := Tryd.underlying115
  a70 := Tryd.isAgg115
  z70 := Tryd.sizeOf115
  v70 := Tryd.zeroValue115
  t76 := Tryd.underlying117
  a76 := Tryd.isAgg117
  z76 := Tryd.sizeOf117
  v76 := Tryd.zeroValue117
  t77 := Tryd.underlying118
  a77 := Tryd.isAgg118
  z77 := Tryd.sizeOf118
  v77 := Tryd.zeroValue118
def encK (k : Key) : List Value := [.int .i64 k.frm, .int .i64 k.to, .int .i64 k.term]
instance : Inhabited Key := ⟨⟨0, 0, 0⟩⟩
theorem swoK : SWO (ltOf cmpK) where
  irrefl x := by
    simp only [ltOf, decide_eq_false_iff_not, cmpK_lt]; omega
  trans x y z h1 h2 := by
    simp only [ltOf, decide_eq_true_eq, cmpK_lt] at *; omega
  ntrans x y z h1 h2 := by
    simp only [ltOf, decide_eq_false_iff_not, cmpK_lt] at *; omega
theorem totK (x y : Key) (h1 : ltOf cmpK x y = false) (h2 : ltOf cmpK y x = false) : x = y := by
  simp only [ltOf, decide_eq_false_iff_not, cmpK_lt] at *
  cases x; cases y
  simp only [Key.mk.injEq] at *
  omega
theorem repKey {F : Nat → Prop} {w : World} (k : Key) : RepD F w (dKey k) (.agg (encK k).toArray) := by
  refine .agg _ _ rfl fun i x u hx hu => ?_
  match i with
  | 0 => simp [encK] at hx hu; subst hx; subst hu; exact .int _ _
  | 1 => simp [encK] at hx hu; subst hx; subst hu; exact .int _ _
  | 2 => simp [encK] at hx hu; subst hx; subst hu; exact .int _ _
  | i + 3 => simp at hx
/-- What a function of data alone does to the world. -/
theorem grow_of {μ μ' : Locs} {F F' : Nat → Prop} {w w' : World} {T : Nat → Prop} (h : Ext μ F w μ' F' w' T) (hT : ∀ i, ¬ T i) : ∃ q os, w' = grow (w.drewN q) os := by
  refine ⟨w'.drawn - w.drawn, w'.heap.extract w.heap.size w'.heap.size, ?_⟩
  have hh : w'.heap = w.heap ++ w'.heap.extract w.heap.size w'.heap.size := by
    apply Array.ext
    · simp; have := h.size; omega
    · intro i h1 h2
      by_cases hi : i < w.heap.size
      · have := h.keep i hi (fun id l ht => absurd ht (hT id))
        rw [Array.getElem_append_left hi]
        have e1 : w'.heap[i]? = some w'.heap[i] := Array.getElem?_eq_getElem h1
        have e2 : w.heap[i]? = some w.heap[i] := Array.getElem?_eq_getElem hi
        rw [e1, e2] at this
        exact Option.some.inj this
      · rw [Array.getElem_append_right (by omega)]
        simp only [Array.getElem_extract]
        congr 1
        omega
  have hd := h.output
  have h1 := h.os
  have h2 := h.tape
  cases w'; cases w
  simp only [grow, World.drewN] at *
  simp only [World.mk.injEq]
  exact ⟨hh, h2, by omega, h1, hd.1⟩

theorem grow_get (w : World) (os : Array Obj) (b : Nat) (hb : b < w.heap.size) : (grow w os).heap[b]? = w.heap[b]? := by
  show (w.heap ++ os)[b]? = _
  rw [Array.getElem?_append_left hb]
theorem sortGet (blk off m : Nat) (w : World) (dk : Array Key) (os : Array Obj) : w.heap.size ≤ (sortWorldK encK 3 w blk off m dk os).heap.size ∧ ∀ b, b < w.heap.size → b ≠ blk → (sortWorldK encK 3 w blk off m dk os).heap[b]? = w.heap[b]? := by
  have hs1 : (putRowK encK 3 (Sort.ahead w m) blk off dk).heap.size = w.heap.size := Sort.size_putRow _ _ _ _ _
  refine ⟨?_, fun b hb hne => ?_⟩
  · rw [sortWorldK]; simp [Sort.grow, hs1]
  · rw [sortWorldK, grow_get _ _ _ (by rw [hs1]; exact hb)]
    simp only [putRowK, putRow, mapBlock, Array.getElem?_modify]
    rw [if_neg (fun e => hne e.symm)]
    rfl
theorem cmpLays {F : Nat → Prop} (blk off size : Nat) (w : World) (hg : GOk F w) (hF : ∀ b, F b → b < w.heap.size ∧ b ≠ blk) : CmpLays prog 25 #[] encK 3 cmpK blk off size w := by
  intro m os dk _ x y
  have hf : Fn prog 25 [.d (dKey x), .d (dKey y)] [] (fun r H' => r = .d (.int .i64 (cmpK x y)) ∧ H' = []) := compare33 x y
  have hRel : Rel (fun _ => none) F (sortWorldK encK 3 w blk off m dk os) [] := by
    constructor
    · intro id l o h; cases h
    · intro i j l l' o o' h; cases h
    · intro id l o h; cases h
    · intro id l h; cases h
    · intro b h; exact Nat.lt_of_lt_of_le (hF b h).1 (sortGet blk off m w dk os).1
    · intro id l h; cases h
    · exact hg.mono (fun _ h => h) (fun b hb => (sortGet blk off m w dk os).2 b (hF b hb).1 (hF b hb).2)
  refine (hf _ _ _ #[.agg (encK x).toArray, .agg (encK y).toArray] hRel ?_).mono ?_
  · refine ⟨rfl, fun i a u ha hu => ?_⟩
    match i with
    | 0 => simp at ha hu; subst ha; subst hu; exact .d _ _ (repKey x)
    | 1 => simp at ha hu; subst ha; subst hu; exact .d _ _ (repKey y)
    | i + 2 => simp at ha
  · rintro e w' ⟨r, H', u, μ', F', rfl, ⟨rfl, _⟩, hu, hp⟩
    have hi := hu.inv_d.inv_int
    subst hi
    refine ⟨rfl, grow_of hp.ext fun i => ?_⟩
    rintro ⟨o, ho⟩
    simp at ho

theorem relGrow {μ : Locs} {F : Nat → Prop} {w : World} {H : Heap} (hR : Rel μ F w H) (os : Array Obj) : Post μ F w H μ F (grow w os) H := by
  have hk : ∀ b, b < w.heap.size → (grow w os).heap[b]? = w.heap[b]? := fun b hb => grow_get w os b hb
  have hs : w.heap.size ≤ (grow w os).heap.size := by simp [Sort.grow]
  refine ⟨⟨fun i l o hm h => (hR.ob i l o hm h).mono (fun _ _ h => h) (fun _ h => h) (fun b hb => hk b (hR.Flt b hb)) (hk _ (hR.lt i l hm)), hR.inj, hR.nF, fun i l h => ?_, fun b hb => ?_, hR.idlt, hR.gl.mono (fun _ h => h) (fun b hb => hk b (hR.Flt b hb))⟩,
    ⟨fun _ _ h => h, fun _ h => h, hs, rfl, rfl, ⟨rfl, Nat.le_refl _⟩, fun b hb _ => hk b hb, fun _ _ h => .inl h, fun _ h => .inl h⟩, Nat.le_refl _, fun _ _ h => h⟩
  · exact Nat.lt_of_lt_of_le (hR.lt i l h) hs
  · exact Nat.lt_of_lt_of_le (hR.Flt b hb) hs

theorem sortC : SortC := by
  intro ks n hn hlt μ F w us hR hargs
  subst hn
  obtain ⟨hus, hrep⟩ := hargs
  obtain ⟨u0, u1, rfl⟩ : ∃ u0 u1, us = #[u0, u1] := by
    match us, hus with
    | ⟨[a, b]⟩, _ => exact ⟨a, b, rfl⟩
  have hr0 := hrep 0 _ u0 rfl rfl
  have hr1 := (hrep 1 _ u1 rfl rfl).inv_d
  obtain rfl : u1 = .func (.func 25) #[] #[] := by cases hr1; rfl
  have hnone : ∀ (p : Option Addr) (cap : Nat), ks = [] → u0 = .slice p 0 cap → Calls prog 24 #[u0, .func (.func 25) #[] #[]] w (fun e w' => ∃ r H' u μ' F', e = .returned u ∧ (r = .tup [] ∧ H' = [some (.arr 3 (((sortK ks).map dKey).map .d))]) ∧ RepA μ' F' w' r u ∧ Post μ F w [some (.arr 3 ((ks.map dKey).map .d))] μ' F' w' H') := by
    rintro p cap rfl rfl
    refine (AnyF.slices_SortFunc_none (P := prog) (ρ := sortRen) { sortLay with } p cap (.func (.func 25) #[] #[]) w).mono ?_
    rintro e w' ⟨rfl, rfl⟩
    exact ⟨.tup [], _, .tuple #[], μ, F, rfl, ⟨rfl, rfl⟩, .tup _ _ rfl (by simp), by rw [show sortK [] = [] from by simp [sortK]]; exact Post.refl hR⟩
  by_cases hk0 : ks = []
  · have hl0 : ks.length = 0 := by rw [hk0]; rfl
    rw [hl0] at hr0
    cases hr0 with
    | hs _ _ _ _ l c h hsz hlc hc => exact hnone _ c hk0 rfl
    | hs0 _ _ _ a => exact hnone a 0 hk0 rfl
  · generalize hlen : ks.length = n at hr0
    cases hr0 with
    | hs0 _ _ _ a => exact absurd (List.length_eq_zero_iff.1 hlen) hk0
    | hs _ _ _ _ l c hm hsz hlc hc =>
      subst hlen
      have hH0 : ([some (Ob.arr 3 ((ks.map dKey).map .d))] : Heap)[0]? = some (some (.arr 3 ((ks.map dKey).map .d))) := rfl
      have hA : ArrAt μ F w l 3 ((ks.map dKey).map .d) := hR.ob 0 l _ hm hH0
      obtain ⟨cells, ty, hblk, hsize⟩ := hA.blk
      have hcell : ∀ (i j : Nat) (k : Key), ks[i]? = some k → j < 3 → w.cell? ⟨l.blk, l.off + (i * 3 + j), none⟩ = some (encK k)[j]! := by
        intro i j k hk hj
        have hx : ((ks.map dKey).map AV.d)[i]? = some (.d (dKey k)) := by simp [hk]
        match j, hj with
        | 0, _ => obtain ⟨u, h1, _, h3⟩ := hA.rep i 0 _ (.d (.int .i64 k.frm)) hx rfl; rw [h1, h3.inv_d.inv_int]; rfl
        | 1, _ => obtain ⟨u, h1, _, h3⟩ := hA.rep i 1 _ (.d (.int .i64 k.to)) hx rfl; rw [h1, h3.inv_d.inv_int]; rfl
        | 2, _ => obtain ⟨u, h1, _, h3⟩ := hA.rep i 2 _ (.d (.int .i64 k.term)) hx rfl; rw [h1, h3.inv_d.inv_int]; rfl
      have hfro : ∀ a : Addr, a.block = l.blk → w.frozen? a = false := by
        intro a ha
        simp [World.frozen?, ha, hblk]
      have hHold : HoldsK encK 3 w l.blk l.off ks.toArray := by
        intro t ht
        rw [size_flatK] at ht
        have ht3 : t / 3 < ks.length := by simp at ht; omega
        refine ⟨?_, hfro _ rfl⟩
        rw [get_flatK _ _ _ _ ht]
        have := hcell (t / 3) (t % 3) ks[t / 3] (by simp [ht3]) (by omega)
        rw [show t / 3 * 3 + t % 3 = t by omega] at this
        rw [this]
        simp [ht3]
      have hS := AnyQ.slices_SortFunc_total (P := prog) (ρ := sortRen) sortLay 3 Tryd.isAgg68 Tryd.sizeOf68 encK (fun _ => rfl) (fun x v hv => by simp [encK] at hv; rcases hv with rfl | rfl | rfl <;> rfl) cmpK swoK 25 #[] l.blk l.off c ks.toArray w
        (fun args w => run_callFunc (by kernel_rfl) args) (cmpLays _ _ _ _ hR.gl (fun b hb => ⟨hR.Flt b hb, fun e => hR.nF 0 l _ hm hH0 (e ▸ hb)⟩)) hHold (hR.lt 0 l hm) (by simp; omega) totK
      refine hS.mono ?_
      rintro e w' ⟨rfl, m, os, rfl⟩
      have hsort : (ks.toArray.toList.mergeSort fun x y => !(ltOf cmpK) y x) = sortK ks := rfl
      rw [hsort]
      have hsl : (sortK ks).length = ks.length := (sortK_perm ks).length_eq
      obtain ⟨w1, hw1⟩ : ∃ w1, w1 = putRowK encK 3 (Sort.ahead w m) l.blk l.off (sortK ks).toArray := ⟨_, rfl⟩
      have hHold1 : HoldsK encK 3 w1 l.blk l.off (sortK ks).toArray := by
        rw [hw1]
        exact holdsK_putRowK encK 3 _ _ _ ks.toArray _ (holdsK_ahead encK 3 w m l.blk l.off _ hHold) (by simp [hsl])
      have hother : ∀ b, b ≠ l.blk → w1.heap[b]? = w.heap[b]? := by
        intro b hb
        rw [hw1]
        simp only [putRowK, putRow, mapBlock, Array.getElem?_modify]
        rw [if_neg (fun e => hb e.symm)]
        rfl
      have hsame : ∃ c, w1.heap[l.blk]? = some (.cells c ty (0, 0)) ∧ c.size = cells.size := by
        refine ⟨putCells id l.off (flatK encK 3 (sortK ks).toArray) cells, ?_, by simp [putCells]⟩
        rw [hw1]
        simp only [putRowK, putRow, mapBlock, Array.getElem?_modify, if_true]
        show Option.map _ (w.heap[l.blk]?) = _
        rw [hblk]; rfl
      have hs1 : w1.heap.size = w.heap.size := by rw [hw1]; exact Sort.size_putRow _ _ _ _ _
      have hP1 : Post μ F w [some (.arr 3 ((ks.map dKey).map .d))] μ F w1 ([some (.arr 3 ((ks.map dKey).map .d))].set 0 (some (.arr 3 (((sortK ks).map dKey).map .d)))) := by
        refine hR.write hm ⟨_, hH0⟩ hs1 (by rw [hw1]; rfl) (by rw [hw1]; rfl) ⟨by rw [hw1]; rfl, by rw [hw1]; show w.drawn ≤ w.drawn + m; omega⟩ hother ?_
        obtain ⟨c1, hc1, hc2⟩ := hsame
        refine ⟨hA.hsz, ?_, fun x hx => ?_, ⟨c1, ty, hc1, by rw [hc2]; exact hsize⟩, fun i j x y hx hy => ?_⟩
        · have := hA.room; simp at this ⊢; omega
        · obtain ⟨d, hd, rfl⟩ := List.mem_map.1 hx
          obtain ⟨k, _, rfl⟩ := List.mem_map.1 hd
          rfl
        · have hi : i < (sortK ks).length := by have := (List.getElem?_eq_some_iff.1 hx).1; simpa using this
          have hxe : x = .d (dKey (sortK ks)[i]) := by
            have : (((sortK ks).map dKey).map AV.d)[i]? = some (.d (dKey (sortK ks)[i])) := by simp [hi]
            rw [this] at hx; exact (Option.some.inj hx).symm
          subst hxe
          have hj : j < 3 := by have := (List.getElem?_eq_some_iff.1 hy).1; simpa [AV.cells, DV.cells] using this
          obtain ⟨h1, _⟩ := HoldsK.cell hHold1 (i := i) (c := j) (by simpa using hi) hj
          rw [Nat.add_assoc] at h1
          refine ⟨_, h1, ?_⟩
          have hget : (sortK ks).toArray[i]! = (sortK ks)[i] := by simp [hi]
          rw [hget]
          match j, hj with
          | 0, _ => simp [AV.cells, DV.cells] at hy; subst hy; exact ⟨rfl, .d _ _ (.int _ _)⟩
          | 1, _ => simp [AV.cells, DV.cells] at hy; subst hy; exact ⟨rfl, .d _ _ (.int _ _)⟩
          | 2, _ => simp [AV.cells, DV.cells] at hy; subst hy; exact ⟨rfl, .d _ _ (.int _ _)⟩
      have hP2 := hP1.trans hR (relGrow hP1.rel os)
      refine ⟨.tup [], [some (.arr 3 (((sortK ks).map dKey).map .d))], .tuple #[], μ, F, rfl, ⟨rfl, rfl⟩, .tup _ _ rfl (by simp), ?_⟩
      rw [sortWorldK, ← hw1]
      exact hP2
#print axioms sortC
end Go.Vm.L
