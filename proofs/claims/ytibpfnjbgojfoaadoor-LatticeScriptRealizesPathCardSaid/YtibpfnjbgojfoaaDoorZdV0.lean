/- Lattice: what the reference's Build comes to. -/
import Derived.Test.YtibpfnjbgojfoaaDoorZdU
import Derived.Test.YtibpfnjbgojfoaaDoorZdM
set_option linter.all false
set_option maxHeartbeats 8000000
namespace Go.Vm.L
open Go Go.Vm

def rT (x : Inp) (i m : Nat) (L : List Arc) (t : Nat) : List Arc := if m < x.cols.length ∧ (readAt x m).getD t 0 ≥ 0 then putL L (readArc i m (delS x i m) (delOps (m - i)) (readAt x m) t) else L
def rTs (x : Inp) (i m : Nat) (L : List Arc) (k : Nat) : List Arc := (List.range k).foldl (rT x i m) L
def rM (x : Inp) (i : Nat) (L : List Arc) (m : Nat) : List Arc := if swapB x m then putL (rTs x i m L x.insert.length) (swapArc x i m) else rTs x i m L x.insert.length
def rMs (x : Inp) (i : Nat) (L : List Arc) (k : Nat) : List Arc := (List.range k).foldl (fun L j => rM x i L (i + j)) L
def rI (x : Inp) (L : List Arc) (i : Nat) : List Arc := if swapB x i then putL (rMs x i L (x.cols.length + 1 - i)) (lastArc x i) else rMs x i L (x.cols.length + 1 - i)
def rIs (x : Inp) (k : Nat) : List Arc := (List.range k).foldl (rI x) []
def iTs (x : Inp) (i m : Nat) (L : List Arc) (k : Nat) : List Arc := (List.range k).foldl (fun L t => putL L (insArc x i m t)) L
def iMs (x : Inp) (i : Nat) (L : List Arc) (k : Nat) : List Arc := (List.range k).foldl (fun L j => iTs x i (i + j) L x.insert.length) L
def iIs (x : Inp) (k : Nat) : List Arc := (List.range k).foldl (fun L i => iMs x i L (x.cols.length + 1 - i)) (rIs x (x.cols.length + 1))
def refA (x : Inp) : List Arc := iIs x (x.cols.length + 1)
def refL (x : Inp) : Lat := ⟨(2 * x.cols.length + 1 : Nat), refA x, finTo x (x.cols.length + 1)⟩

theorem putSteps_len (a : Arc) : ∀ (l : List Arc) (d : Bool) (out : List Arc), (l.foldl (putStep a) (d, out)).2.length + (if (l.foldl (putStep a) (d, out)).1 then 0 else 1) ≤ out.length + l.length + (if d then 0 else 1)
  | [], d, out => by cases d <;> simp
  | x :: r, d, out => by
    obtain ⟨d', out', he⟩ : ∃ d' out', putStep a (d, out) x = (d', out') := ⟨_, _, rfl⟩
    have h1 : out'.length + (if d' then 0 else 1) ≤ out.length + 1 + (if d then 0 else 1) := by
      unfold putStep at he
      cases d
      · split at he
        · split at he <;> · simp only [Prod.mk.injEq] at he; obtain ⟨rfl, rfl⟩ := he; simp
        · split at he <;> · simp only [Prod.mk.injEq] at he; obtain ⟨rfl, rfl⟩ := he; simp
      · simp at he
        obtain ⟨rfl, rfl⟩ := he; simp
    have h2 := putSteps_len a r d' out'
    rw [List.foldl_cons, he, List.length_cons]
    omega
theorem putL_len (l : List Arc) (a : Arc) : (putL l a).length ≤ l.length + 1 := by
  unfold putL
  have h := putSteps_len a l false []
  split
  · omega
  · split
    · simp_all
    · simp_all
theorem putL_sat (L : List Arc) (f t k : Int) (ops : List Op) {d p : Int} (hd : 0 ≤ d ∧ d ≤ 1099511627776) (hp : 0 ≤ p ∧ p ≤ 1099511627776) : putL L ⟨f, t, k, addW d p, ops⟩ = putL L ⟨f, t, k, d + p, ops⟩ := by
  rw [addW_min hd hp]
  rcases Int.lt_or_le (d + p) 1099511627776 with h | h
  · rw [show min (d + p) 1099511627776 = d + p by omega]
  · simp only [putL]
    rw [if_pos (by omega), if_pos (by omega)]
theorem foldl_len {f : List Arc → Nat → List Arc} {c : Nat} (h : ∀ L j, (f L j).length ≤ L.length + c) : ∀ (js : List Nat) (L : List Arc), (js.foldl f L).length ≤ L.length + js.length * c
  | [], L => by simp
  | j :: r, L => by
    have h1 := h L j
    have h2 := foldl_len h r (f L j)
    rw [List.foldl_cons, List.length_cons, Nat.add_mul]
    omega
theorem rTs_len (x : Inp) (i m : Nat) (L : List Arc) (k : Nat) : (rTs x i m L k).length ≤ L.length + k := by
  have := foldl_len (f := rT x i m) (c := 1) (fun L j => by unfold rT; split; exact putL_len _ _; omega) (List.range k) L
  simpa [rTs] using this
theorem rM_len (x : Inp) (i m : Nat) (L : List Arc) (ht : x.insert.length ≤ 5) : (rM x i L m).length ≤ L.length + 6 := by
  have h1 := rTs_len x i m L x.insert.length
  unfold rM
  split
  · have := putL_len (rTs x i m L x.insert.length) (swapArc x i m); omega
  · omega
theorem rMs_len (x : Inp) (i : Nat) (L : List Arc) (k : Nat) (ht : x.insert.length ≤ 5) : (rMs x i L k).length ≤ L.length + 6 * k := by
  have := foldl_len (f := fun L j => rM x i L (i + j)) (c := 6) (fun L j => rM_len x i (i + j) L ht) (List.range k) L
  simp at this
  unfold rMs; omega
theorem rI_len (x : Inp) (L : List Arc) (i : Nat) (ht : x.insert.length ≤ 5) (hn : x.cols.length ≤ 8) : (rI x L i).length ≤ L.length + 55 := by
  have h1 := rMs_len x i L (x.cols.length + 1 - i) ht
  unfold rI
  split
  · have := putL_len (rMs x i L (x.cols.length + 1 - i)) (lastArc x i); omega
  · omega
theorem rIs_len (x : Inp) (k : Nat) (ht : x.insert.length ≤ 5) (hn : x.cols.length ≤ 8) : (rIs x k).length ≤ 55 * k := by
  have := foldl_len (f := rI x) (c := 55) (fun L j => rI_len x L j ht hn) (List.range k) []
  simp at this
  unfold rIs; omega
theorem iTs_len (x : Inp) (i m : Nat) (L : List Arc) (k : Nat) : (iTs x i m L k).length ≤ L.length + k := by
  have := foldl_len (f := fun L t => putL L (insArc x i m t)) (c := 1) (fun L j => putL_len _ _) (List.range k) L
  simpa [iTs] using this
theorem iMs_len (x : Inp) (i : Nat) (L : List Arc) (k : Nat) (ht : x.insert.length ≤ 5) : (iMs x i L k).length ≤ L.length + 5 * k := by
  have := foldl_len (f := fun L j => iTs x i (i + j) L x.insert.length) (c := 5) (fun L j => by have := iTs_len x i (i + j) L x.insert.length; omega) (List.range k) L
  simp at this
  unfold iMs; omega
theorem iIs_len (x : Inp) (k : Nat) (ht : x.insert.length ≤ 5) (hn : x.cols.length ≤ 8) : (iIs x k).length ≤ 495 + 45 * k := by
  have h0 := rIs_len x (x.cols.length + 1) ht hn
  have := foldl_len (f := fun L i => iMs x i L (x.cols.length + 1 - i)) (c := 45) (fun L j => by have := iMs_len x j L (x.cols.length + 1 - j) ht; omega) (List.range k) (rIs x (x.cols.length + 1))
  simp at this
  unfold iIs; omega
def fillG (N k : Nat) (f : Nat → Int) : List Int := (List.range N).map fun i => if i < k then f i else 0
theorem fillG_set {N k : Nat} {f : Nat → Int} : (fillG N k f).set k (f k) = fillG N (k + 1) f := by
  refine List.ext_getElem (by simp [fillG]) fun i h1 h2 => ?_
  simp only [fillG, List.getElem_set, List.getElem_map, List.getElem_range]
  by_cases h : k = i
  · subst h; simp
  · rw [if_neg h]
    by_cases h3 : i < k
    · rw [if_pos h3, if_pos (by omega)]
    · rw [if_neg h3, if_neg (by omega)]
theorem fillG_zero (N : Nat) (f : Nat → Int) : fillG N 0 f = List.replicate N 0 := by
  refine List.ext_getElem (by simp [fillG]) fun i h1 h2 => ?_
  simp [fillG]
theorem fillG_full (N : Nat) (f : Nat → Int) : fillG N N f = (List.range N).map f := by
  refine List.ext_getElem (by simp [fillG]) fun i h1 h2 => ?_
  simp [fillG] at h1 ⊢; omega
end Go.Vm.L
