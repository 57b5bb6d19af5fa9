/- What the rows' arguments read as: data of the machine. -/
import Derived.Test.YtibpfnjbgojfoaaDoorV7
import Derived.ProofKit
import Derived.Deep.Slices
set_option linter.all false
set_option linter.all false
namespace Go.Vm
open Go Go.RowKit Go.ChangeShapes Go.WideShapes Go.Deep
variable [Gl]

/-- The cells 'cs' stand for 'xs'. -/
def Cs (w : World) (xs : List DV) (cs : List Value) : Prop :=
  cs.length = xs.length ∧ ∀ (i : Nat) (x : DV) (u : Value), xs[i]? = some x → cs[i]? = some u → RepD (fun b => b < w.heap.size) w x u

/-- What reads as of type t stands for one of 'g a'. -/
def Rd (P : Program) (t : TypeId) {α : Type} (g : α → DV) : Prop :=
  ∀ (H : Type) (enc : TypeId × Value → H) (w : World) (base : Nat) (spare : Nat → Bool) (held : Bool) (fuel : Nat) (cs : List Value) (x : DataW H × List MemPlace),
    DataW.trod enc P w base spare held fuel t cs = some x → ∃ a, Cs w (g a).cells cs

theorem Cs.nil {w : World} : Cs w [] [] := ⟨rfl, fun i x u h => by simp at h⟩
theorem Cs.cons {w : World} {x : DV} {u : Value} {xs : List DV} {us : List Value} (h : RepD (fun b => b < w.heap.size) w x u) (hr : Cs w xs us) : Cs w (x :: xs) (u :: us) := by
  refine ⟨by simp [hr.1], fun i y v hy hv => ?_⟩
  cases i with
  | zero => simp at hy hv; subst hy; subst hv; exact h
  | succ i => exact hr.2 i y v (by simpa using hy) (by simpa using hv)
theorem Cs.head {w : World} {x : DV} {u : Value} {xs : List DV} {us : List Value} (h : Cs w (x :: xs) (u :: us)) : RepD (fun b => b < w.heap.size) w x u :=
  h.2 0 x u rfl rfl

theorem exists_list {α : Type} {p : Nat → α → Prop} : ∀ {n : Nat}, (∀ i, i < n → ∃ a, p i a) → ∃ l : List α, l.length = n ∧ ∀ (i : Nat) (a : α), l[i]? = some a → p i a
  | 0, _ => ⟨[], rfl, fun i a h => by simp at h⟩
  | n + 1, h => by
    obtain ⟨l, hl, hp⟩ := exists_list (n := n) fun i hi => h i (by omega)
    obtain ⟨a, ha⟩ := h n (by omega)
    refine ⟨l ++ [a], by simp [hl], fun i b hb => ?_⟩
    rw [List.getElem?_append] at hb
    split at hb
    · exact hp i b hb
    · rename_i hlt
      have hi : i = n := by
        have := List.getElem?_eq_some_iff.1 hb
        obtain ⟨h1, _⟩ := this
        simp at h1; omega
      subst hi
      simp [hl] at hb
      exact hb ▸ ha

theorem rd_int {P : Program} {t : TypeId} {k : IntKind} (ht : P.underlying t = some (.int k)) : Rd P t (fun n : Int => .int k n) := by
  intro H enc w base spare held fuel cs x h
  obtain ⟨n, rfl, _, _⟩ := DataW.trod_int ht h
  exact ⟨n, Cs.cons (.int k n) Cs.nil⟩

theorem add_cell {w : World} {a : Addr} {k : Nat} {u : Value} (h : w.cell? (a.add k) = some u) : a.block < w.heap.size ∧ a.spot = none ∨ k ≠ 0 ∧ a.block < w.heap.size := by
  have hb : (a.add k).block = a.block := by unfold Addr.add; split <;> rfl
  have hlt : a.block < w.heap.size := by
    rcases Nat.lt_or_ge a.block w.heap.size with h1 | h1
    · exact h1
    · rw [World.cell?, hb, Array.getElem?_eq_none h1] at h; cases h
  by_cases hk : k = 0
  · subst hk
    refine .inl ⟨hlt, ?_⟩
    have : a.add 0 = a := by simp [Addr.add]
    rw [this, World.cell?] at h
    split at h
    · split at h
      · cases h
      · rename_i hs; simpa using hs
    · cases h
  · exact .inr ⟨hk, hlt⟩

theorem add_eq {a : Addr} (hs : a.spot = none) (k : Nat) : a.add k = ⟨a.block, a.off + k, none⟩ := by
  unfold Addr.add
  split
  · rename_i h; subst h; cases a; simp_all
  · rfl

theorem rd_slice {P : Program} {t e : TypeId} {α : Type} {g : α → DV} {sz : Nat} (ht : P.underlying t = some (.slice e)) (hc : P.cellsOf e = sz) (hsz : 0 < sz)
    (hf : ∀ a, (g a).fits sz = true) (he : Rd P e g) : Rd P t (fun l : List α => .vs (l.map g)) := by
  intro H enc w base spare held fuel cs x h
  rcases open_slice ht h with ⟨rfl, _⟩ | ⟨a, len, cap, m, n, D, Pl, rfl, _, hl, _, hm, _, hx⟩
  · refine ⟨[], Cs.cons ?_ Cs.nil⟩
    exact .vs [] none 0 0 sz (fun _ _ => .bool false) rfl (Nat.le_refl _) (by simp) (fun h => absurd rfl h) (fun ad h => by cases h) (fun i j x y h => by simp at h)
  · have hlm : len ≤ m := by rw [hm]; split <;> omega
    obtain ⟨l, hll, hp⟩ := exists_list (n := len) (p := fun i b => ∃ cs', w.cells? base (a.add (i * P.cellsOf e)) (P.cellsOf e) = some cs' ∧ Cs w (g b).cells cs') fun i hi => by
      obtain ⟨cs', h1, h2⟩ := hx i (by omega)
      obtain ⟨b, hb⟩ := he H enc w base spare held n cs' _ h2
      exact ⟨b, cs', h1, hb⟩
    rw [hc] at hp
    have hne : l ≠ [] → a.block < w.heap.size ∧ a.spot = none := by
      intro hne
      cases l with
      | nil => exact absurd rfl hne
      | cons b r =>
        obtain ⟨cs', h1, h2⟩ := hp 0 b rfl
        obtain ⟨_, h4, h5⟩ := World.cells?_some h1
        have h6 := h5 0 hsz
        have : cs'[0]? = some (cs'[0]'(by omega)) := List.getElem?_eq_getElem (by omega)
        rw [this, show (a.add (0 * sz)).add 0 = a.add 0 by simp [Addr.add]] at h6
        rcases add_cell h6 with h | ⟨h, _⟩
        · exact h
        · exact absurd rfl h
    have hcell : ∀ (i j : Nat) (x y : DV), (l.map g)[i]? = some x → x.cells[j]? = some y → ∃ u, w.cell? ⟨a.block, a.off + (i * sz + j), none⟩ = some u ∧ RepD (fun b => b < w.heap.size) w y u := by
      intro i j x y hi hj
      rw [List.getElem?_map] at hi
      obtain ⟨b, hb, rfl⟩ := Option.map_eq_some_iff.1 hi
      obtain ⟨cs', h1, h2⟩ := hp i b hb
      obtain ⟨_, h4, h5⟩ := World.cells?_some h1
      have hjl : j < (g b).cells.length := (List.getElem?_eq_some_iff.1 hj).1
      have hj2 : j < cs'.length := by rw [h2.1]; exact hjl
      have h6 := h5 j (by omega)
      rw [List.getElem?_eq_getElem hj2] at h6
      have hsp := (hne (by intro hh; rw [hh] at hb; simp at hb)).2
      rw [add_eq hsp, add_eq rfl, Nat.add_assoc] at h6
      exact ⟨_, h6, h2.2 j y _ hj (List.getElem?_eq_getElem hj2)⟩
    refine ⟨l, Cs.cons ?_ Cs.nil⟩
    refine .vs (l.map g) (some a) len cap sz (fun i j => (w.cell? ⟨a.block, a.off + (i * sz + j), none⟩).getD (.bool false)) (by simp [hll]) hl ?_ ?_ ?_ ?_
    · intro x hx
      obtain ⟨b, _, rfl⟩ := List.mem_map.1 hx
      exact hf b
    · intro h
      have := hne (by intro h2; rw [h2] at h; exact h rfl)
      exact ⟨a, rfl, this.1, this.2⟩
    · intro ad had i j x y hi hj
      obtain rfl := Option.some.inj had
      obtain ⟨u, h1, h2⟩ := hcell i j x y hi hj
      rw [h1]; rfl
    · intro i j x y hi hj
      obtain ⟨u, h1, h2⟩ := hcell i j x y hi hj
      rw [h1]; exact h2

/-- A struct of one-cell fields. -/
theorem rd_fields {P : Program} {t : TypeId} {fs : Array Field} (ht : P.underlying t = some (.struct fs)) (hc : P.cellsOf t = fs.size)
    (ho : ∀ (i : Nat) (f : Field), fs[i]? = some f → f.offset = i ∧ P.cellsOf f.type = 1) {H : Type} {enc : TypeId × Value → H} {w : World} {base : Nat} {spare : Nat → Bool} {held : Bool} {fuel : Nat} {cs : List Value} {x : DataW H × List MemPlace}
    (h : DataW.trod enc P w base spare held fuel t cs = some x) :
    cs.length = fs.size ∧ ∀ (i : Nat) (f : Field), fs[i]? = some f → ∃ u n y, cs[i]? = some u ∧ DataW.trod enc P w base spare held n f.type [u] = some y := by
  obtain ⟨xs, n, _, _, hl, hxl, hf⟩ := DataW.trod_struct ht h
  rw [hc] at hl
  refine ⟨hl, fun i f hi => ?_⟩
  obtain ⟨h1, h2⟩ := ho i f hi
  have hlt : i < fs.size := (Array.getElem?_eq_some_iff.1 hi).1
  have h3 := hf i f hi
  rw [h1, h2] at h3
  have h4 : (cs.drop i).take 1 = [cs[i]'(by omega)] := by
    rw [List.drop_eq_getElem_cons (by omega)]; rfl
  rw [h4, List.getElem?_eq_getElem (by omega)] at h3
  exact ⟨_, n, _, List.getElem?_eq_getElem (by omega), h3⟩
theorem Rd.one {P : Program} {t : TypeId} {α : Type} {g : α → DV} (h : Rd P t g) (h1 : ∀ a, (g a).cells = [g a]) {H : Type} {enc : TypeId × Value → H} {w : World} {base : Nat} {spare : Nat → Bool} {held : Bool} {fuel : Nat} {u : Value} {x : DataW H × List MemPlace}
    (hx : DataW.trod enc P w base spare held fuel t [u] = some x) : ∃ a, RepD (fun b => b < w.heap.size) w (g a) u := by
  obtain ⟨a, ha⟩ := h _ _ _ _ _ _ _ _ _ hx
  rw [h1] at ha
  exact ⟨a, ha.head⟩

/-- What lands: nothing below the heap's old size has turned. -/
theorem below_of_post {F : Nat → Prop} {w w' : World} {μ' : Locs} {F' : Nat → Prop} {H' : Heap} (h : Post (fun _ => none) F w [] μ' F' w' H') : Below w.heap.size w w' :=
  ⟨h.ext.os, h.ext.tape, h.ext.output.1, h.ext.size, fun k hk => h.ext.keep k hk fun id l _ hm => by cases hm⟩
theorem rel_nil {w : World} (hg : GOk (fun b => b < w.heap.size) w) : Rel (fun _ => none) (fun b => b < w.heap.size) w [] where
  ob := fun _ _ _ h => by cases h
  inj := fun _ _ _ _ _ _ h => by cases h
  nF := fun _ _ _ h => by cases h
  lt := fun _ _ h => by cases h
  Flt := fun _ h => h
  idlt := fun _ _ h => by cases h
  gl := hg
end Go.Vm
