/- Scripts applied: the script of an accepting path realizes the path. -/
import Derived.Test.YtibpfnjbgojfoaaDoorZdS5
import Derived.Test.YtibpfnjbgojfoaaDoorZdW
import Derived.Test.YtibpfnjbgojfoaaDoorZdX
set_option linter.all false
set_option maxHeartbeats 8000000
namespace Go.Vm.L
open Go Go.Vm

def termOf (l : Lat) (i : Int) : Int := (l.arcs[i.toNat]?.map (·.term)).getD 0
theorem stepR_read {x : Inp} {r : RS} {t : Nat} (h1 : r.at_ < x.cols.length) (h2 : t < (readAt x r.at_).length) (h3 : 0 ≤ (readAt x r.at_).getD t 0) :
    stepR x r ⟨1, t⟩ = some ⟨r.at_ + 1, r.out ++ [(t : Int)], min (r.cost + (readAt x r.at_).getD t 0) 1099511627776⟩ := by
  unfold stepR
  rw [if_pos (by rfl), if_pos ⟨h1, Int.natCast_nonneg t, Int.ofNat_lt.2 h2, h3⟩]; rfl
theorem stepR_del {x : Inp} {r : RS} (h1 : r.at_ < x.cols.length) (h2 : delAt' x r.at_ < 1099511627776) :
    stepR x r ⟨2, 0⟩ = some ⟨r.at_ + 1, r.out, min (r.cost + delAt' x r.at_) 1099511627776⟩ := by
  unfold stepR
  rw [if_neg (by decide), if_pos (by rfl), if_pos ⟨h1, by rfl, h2⟩]
theorem stepR_ins {x : Inp} {r : RS} {t : Nat} (h1 : t < x.insert.length) :
    stepR x r ⟨3, t⟩ = some ⟨r.at_, r.out ++ [(t : Int)], min (r.cost + x.insert.getD t 0) 1099511627776⟩ := by
  unfold stepR
  rw [if_neg (show ¬ (3 : Int) = 1 by decide), if_neg (show ¬ (3 : Int) = 2 by decide), if_pos (by rfl), if_pos ⟨Int.natCast_nonneg t, Int.ofNat_lt.2 h1⟩]; rfl
theorem stepR_swap {x : Inp} {r : RS} (h1 : swapB x r.at_ = true) :
    stepR x r ⟨4, 0⟩ = some ⟨r.at_ + 2, r.out ++ [kindAt x (r.at_ + 1)] ++ [kindAt x r.at_], min (r.cost + x.swap) 1099511627776⟩ := by
  unfold stepR
  rw [if_neg (by decide), if_neg (by decide), if_neg (by decide), if_pos (by rfl), if_pos ⟨by rfl, h1⟩]
theorem run_dels {x : Inp} (hx : WF x) (o : List Int) (c : Int) (hc : 0 ≤ c ∧ c ≤ 1099511627776) {i : Nat} : ∀ {m : Nat}, i ≤ m → m ≤ x.cols.length → delS x i m < 1099511627776 →
    runR x (delOps (m - i)) ⟨i, o, c⟩ = some ⟨m, o, min (c + delS x i m) 1099511627776⟩ := by
  intro m him
  induction him with
  | refl => intro _ _; rw [delS_self, Nat.sub_self, show min (c + 0) 1099511627776 = c by omega]; rfl
  | step h ih =>
    rename_i m
    intro hm hd
    have h : i ≤ m := h
    have hml : m < x.cols.length := by omega
    have hc' := hx.cols x.cols[m] (List.getElem_mem hml)
    have hb := delS_bd hx h (by omega : m ≤ x.cols.length)
    have e : delS x i (m + 1) = min (delS x i m + x.cols[m].del) 1099511627776 := by
      rw [delS_succ x h hml, addW_min hb (by omega)]
    rw [show m.succ = m + 1 from rfl] at hd ⊢
    have hda : delAt' x m = x.cols[m].del := by simp [delAt', hml]
    have e2 : delOps (m + 1 - i) = delOps (m - i) ++ [⟨2, 0⟩] := by
      rw [show m + 1 - i = (m - i) + 1 by omega]; simp [delOps, List.replicate_succ', delOp]
    rw [e2, runR_append, ih (by omega) (by omega)]
    simp only [Option.bind_some, runR]
    have := stepR_del (x := x) (r := ⟨m, o, min (c + delS x i m) 1099511627776⟩) hml (by simp only [hda]; omega)
    simp only [hda] at this
    rw [this]
    simp only [Option.bind_some]
    rw [show min (min (c + delS x i m) 1099511627776 + x.cols[m].del) 1099511627776 = min (c + delS x i (m + 1)) 1099511627776 by omega]
def JR (x : Inp) (st : Int) (lab : List Int) (c : Int) (r : RS) : Prop :=
  (0 ≤ c ∧ c ≤ 1099511627776) ∧ ((∃ i : Nat, i ≤ x.cols.length ∧ st = 2 * i ∧ r = ⟨i, lab, c⟩) ∨ ∃ m : Nat, swapB x m = true ∧ st = 2 * m + 1 ∧ r = ⟨m + 2, lab ++ [kindAt x m], c⟩)
theorem JR.arc {x : Inp} (hx : WF x) {a : Arc} (ha : a ∈ refA x) {lab : List Int} {c : Int} {r : RS} (h : JR x a.frm lab c r) :
    ∃ r', runR x a.ops r = some r' ∧ JR x a.to (lab ++ [a.term]) (addW c a.cost) r' := by
  obtain ⟨hb, hcost⟩ := refA_mem ha
  obtain ⟨i, m, him, hm, hb⟩ := mem_bC hb
  obtain ⟨hc, hj⟩ := h
  have hdb := delS_bd hx him hm
  have hsw := hx.swap
  rcases hb with hb | hb | hb | hb
  · obtain ⟨hml, t, ht, hp, rfl⟩ := mem_readC hb
    have hpb := readAt_bd hx hml ht
    have hrl : (readAt x m).length = x.insert.length := by
      have := hx.cols x.cols[m] (List.getElem_mem hml)
      simp [readAt, hml]; omega
    simp only [readArc] at hcost hj ⊢
    rcases hj with ⟨i', hi', he, rfl⟩ | ⟨m', _, he, _⟩
    · have : i' = i := by omega
      subst this
      rw [runR_append, run_dels hx lab c hc him hm (by omega)]
      simp only [Option.bind_some, runR]
      rw [stepR_read (r := ⟨m, lab, min (c + delS x i' m) 1099511627776⟩) hml (by show t < (readAt x m).length; omega) hp]
      refine ⟨_, rfl, ?_, .inl ⟨m + 1, by omega, by omega, ?_⟩⟩
      · rw [addW_min hc (by omega)]; omega
      · rw [addW_min hc (by omega)]
        congr 1; (try dsimp only); omega
    · omega
  · obtain ⟨t, ht, rfl⟩ := mem_insC hb
    have hpb := getD_bd (P := fun p => 1 ≤ p ∧ p ≤ 60000) ht hx.ins
    simp only [insArc] at hcost hj ⊢
    rcases hj with ⟨i', hi', he, rfl⟩ | ⟨m', _, he, _⟩
    · have : i' = i := by omega
      subst this
      rw [runR_append, run_dels hx lab c hc him hm (by omega)]
      simp only [Option.bind_some, runR]
      rw [stepR_ins ht]
      refine ⟨_, rfl, ?_, .inl ⟨m, by omega, by omega, ?_⟩⟩
      · rw [addW_min hc (by omega)]; omega
      · rw [addW_min hc (by omega)]
        congr 1; (try dsimp only); omega
    · omega
  · obtain ⟨hs, rfl⟩ := mem_swC hb
    simp only [swapArc] at hcost hj ⊢
    rcases hj with ⟨i', hi', he, rfl⟩ | ⟨m', _, he, _⟩
    · have : i' = i := by omega
      subst this
      rw [runR_append, run_dels hx lab c hc him hm (by omega)]
      simp only [Option.bind_some, runR]
      rw [stepR_swap (r := ⟨m, lab, min (c + delS x i' m) 1099511627776⟩) hs]
      refine ⟨_, rfl, ?_, .inr ⟨m, hs, by omega, ?_⟩⟩
      · rw [addW_min hc (by omega)]; omega
      · rw [addW_min hc (by omega)]
        congr 1; (try dsimp only); omega
    · omega
  · obtain ⟨hs, rfl⟩ := mem_laC hb
    have hl := swapB_lt hs
    simp only [lastArc] at hcost hj ⊢
    rcases hj with ⟨i', hi', he, rfl⟩ | ⟨m', _, he, rfl⟩
    · omega
    · have : m' = i := by omega
      subst this
      refine ⟨_, rfl, ?_, .inl ⟨m' + 2, by omega, by omega, ?_⟩⟩
      · rw [addW_min hc (by omega)]; omega
      · rw [addW_min hc (by omega)]
        congr 1; (try dsimp only); omega
theorem JR.path {x : Inp} (hx : WF x) : ∀ (p : List Int) (s c : Int) (lab : List Int) (r : RS) (ops : List Op) (s' c' : Int), JR x s lab c r → pathC (refL x) p s c = some (s', c') →
    ∃ more r', pathTo (refL x) p s ops = some (s', ops ++ more) ∧ runR x more r = some r' ∧ JR x s' (lab ++ p.map (termOf (refL x))) c' r' ∧ ∀ i ∈ p, 0 ≤ i ∧ i < (refL x).arcs.length
  | [], s, c, lab, r, ops, s', c', h, hp => by
    cases hp
    exact ⟨[], r, by simp [pathTo], rfl, by simpa using h, by simp⟩
  | i :: p, s, c, lab, r, ops, s', c', h, hp => by
    simp only [pathC] at hp
    split at hp
    · cases hp
    · rename_i hi
      split at hp
      · cases hp
      · rename_i a ha
        split at hp
        · cases hp
        · rename_i hf
          have hf : a.frm = s := by simpa using hf
          have hmem : a ∈ refA x := List.mem_of_getElem? ha
          subst hf
          obtain ⟨r1, h1, h2⟩ := h.arc hx hmem
          obtain ⟨more, r', h3, h4, h5, h6⟩ := JR.path hx p a.to (addW c a.cost) (lab ++ [a.term]) r1 (ops ++ a.ops) s' c' h2 hp
          refine ⟨a.ops ++ more, r', ?_, ?_, ?_, ?_⟩
          · simp only [pathTo, if_neg hi, ha]
            rw [if_neg (by simp), h3, List.append_assoc]
          · rw [runR_append, h1]; exact h4
          · have : termOf (refL x) i = a.term := by simp [termOf, ha]
            simpa [this] using h5
          · intro j hj
            rcases List.mem_cons.1 hj with rfl | hj
            · have := (List.getElem?_eq_some_iff.1 ha).1
              omega
            · exact h6 j hj
theorem realize {x : Inp} (hx : WF x) {path : List Int} {s c : Int} (h : pathL (refL x) path = (s, c, true)) :
    ∃ ops, scriptL x (refL x) path = (ops, 0) ∧ runR x ops ⟨0, [], 0⟩ = some ⟨x.cols.length, path.map (termOf (refL x)), c⟩ ∧ ∀ i ∈ path, 0 ≤ i ∧ i < (refL x).arcs.length := by
  unfold pathL at h
  split at h
  · simp at h
  · rename_i s0 c0 hpc
    split at h
    · simp at h
    · rename_i hfin
      simp only [Prod.mk.injEq, and_true] at h
      obtain ⟨rfl, rfl⟩ := h
      obtain ⟨more, r', h3, h4, h5, h6⟩ := JR.path hx path 0 0 [] ⟨0, [], 0⟩ [] s0 c0 ⟨by omega, .inl ⟨0, by omega, rfl, rfl⟩⟩ hpc
      obtain ⟨hc, hj⟩ := h5
      rcases hj with ⟨i, hi, rfl, rfl⟩ | ⟨m, hs, rfl, _⟩
      · have hti : (2 * (i : Int)).toNat = 2 * i := by omega
        rw [hti, fin_even hi] at hfin ⊢
        have hdb := delS_bd hx hi (Nat.le_refl _)
        refine ⟨more ++ delOps (x.cols.length - i), ?_, ?_, h6⟩
        · simp only [scriptL, h3, hti, fin_even hi]
          rw [if_neg hfin, show 2 * i / 2 = i by omega]; simp
        · rw [runR_append, h4]
          simp only [Option.bind_some]
          rw [run_dels hx _ _ hc hi (Nat.le_refl _) (by omega), addW_min hc hdb]; simp
      · have hl := swapB_lt hs
        have hti : (2 * (m : Int) + 1).toNat = 2 * m + 1 := by omega
        rw [hti, fin_odd (by omega)] at hfin
        exact absurd (Int.le_refl _) hfin
theorem unreal {x : Inp} {path : List Int} (h : (pathL (refL x) path).2.2 = false) : scriptL x (refL x) path = ([], 1) := by
  unfold pathL at h
  split at h
  · rename_i hpc
    have := pathC_to (refL x) path 0 0 []
    rw [hpc] at this
    cases ht : pathTo (refL x) path 0 [] with
    | none => simp [scriptL, ht]
    | some z => rw [ht] at this; cases this
  · rename_i s0 c0 hpc
    split at h
    · rename_i hinf
      have := pathC_to (refL x) path 0 0 []
      rw [hpc] at this
      cases ht : pathTo (refL x) path 0 [] with
      | none => rw [ht] at this; cases this
      | some z =>
        obtain ⟨z1, z2⟩ := z
        rw [ht] at this; simp at this; subst this
        simp only [scriptL, ht]; rw [if_pos hinf]
    · simp at h
end Go.Vm.L
