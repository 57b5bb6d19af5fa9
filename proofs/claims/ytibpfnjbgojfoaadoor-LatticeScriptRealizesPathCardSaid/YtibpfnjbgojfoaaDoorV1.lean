/- A small machine over plain values, for proofs about Go functions: what a Go value and the memory behind it mean. -/
import Derived.Calls
import Derived.Orders
import Derived.Below
import Derived.Laws.Append
import Derived.Laws.Cells
import Derived.Laws.World
import Derived.Laws.Rows
import Derived.KernelRfl
import Derived.Laws.Build
set_option linter.all false
namespace Go.Vm
open Go

/-- Data: values that hold no reference to memory that may change. -/
inductive DV where
  | bool (b : Bool)
  | int (k : IntKind) (n : Int)
  | str (s : List UInt8)
  | nilp
  | nilm
  | nilf
  | nili
  | fn (f : FuncId)
  | ifc (t : TypeId) (v : DV)
  | vs (xs : List DV)
  | agg (cs : List DV)
  | fm (ks xs : List DV)
  deriving Inhabited

/-- The cells that a value takes in memory. -/
def DV.cells : DV → List DV
  | .agg cs => cs
  | x => [x]

/-- The value of one cell. -/
def DV.one : DV → Bool
  | .agg _ => false
  | _ => true
def DV.isAgg : DV → Bool
  | .agg _ => true
  | _ => false
/-- A value of n cells. -/
def DV.fits (n : Nat) (x : DV) : Bool := x.cells.length == n && x.cells.all DV.one

/-- Where an object of the machine lies: its block, its first cell, the cells of one element, how many elements have room. -/
structure Loc where
  blk : Nat
  off : Nat
  sz : Nat
  cap : Nat

/-- Values of the machine. -/
inductive AV where
  | undef
  | d (x : DV)
  | nils
  | ptr (id ix off : Nat)
  | hs (id off len sz : Nat)
  | mp (id : Nat)
  | it (id : Nat)
  | fp (x : DV) (off : Nat)
  | clo (f : FuncId) (caps : List AV)
  | ifc (t : TypeId) (v : AV)
  | agg (cs : List AV)
  | tup (cs : List AV)
  | when (b : Bool) (v : AV)
  deriving Inhabited

def AV.cells : AV → List AV
  | .agg cs => cs
  | .d x => x.cells.map .d
  | x => [x]
def AV.one : AV → Bool
  | .agg _ | .tup _ | .undef | .when _ _ => false
  | .d x => x.one
  | _ => true
def AV.isAgg : AV → Bool
  | .agg _ => true
  | .d x => x.isAgg
  | _ => false
def AV.fits (n : Nat) (x : AV) : Bool := match x with
  | .d x => x.fits n
  | x => x.cells.length == n && x.cells.all AV.one

/-- What data mean as Go values: F: the blocks that nobody will write. -/
inductive RepD (F : Nat → Prop) (w : World) : DV → Value → Prop
  | bool (b : Bool) : RepD F w (.bool b) (.bool b)
  | int (k : IntKind) (n : Int) : RepD F w (.int k n) (.int k n)
  | str (s : List UInt8) : RepD F w (.str s) (.string ⟨s.toArray⟩)
  | nilp : RepD F w .nilp (.pointer none)
  | nilm : RepD F w .nilm (.map none)
  | nilf : RepD F w .nilf .nilFunc
  | nili : RepD F w .nili .nilIface
  | fn (f : FuncId) : RepD F w (.fn f) (.func (.func f) #[] #[])
  | ifc (t : TypeId) (x : DV) (v : Value) (h : RepD F w x v) : RepD F w (.ifc t x) (.iface t v)
  | agg (cs : List DV) (us : Array Value) (hs : us.size = cs.length)
      (h : ∀ (i : Nat) (x : DV) (u : Value), cs[i]? = some x → us[i]? = some u → RepD F w x u) : RepD F w (.agg cs) (.agg us)
  | vs (xs : List DV) (a : Option Addr) (n c sz : Nat) (f : Nat → Nat → Value) (hn : n = xs.length) (hc : n ≤ c)
      (hsz : ∀ x ∈ xs, x.fits sz = true)
      (ha : xs ≠ [] → ∃ ad, a = some ad ∧ F ad.block ∧ ad.spot = none)
      (hcell : ∀ ad, a = some ad → ∀ (i j : Nat) (x y : DV), xs[i]? = some x → x.cells[j]? = some y →
        w.cell? ⟨ad.block, ad.off + (i * sz + j), none⟩ = some (f i j))
      (hrep : ∀ (i j : Nat) (x y : DV), xs[i]? = some x → x.cells[j]? = some y → RepD F w y (f i j)) :
      RepD F w (.vs xs) (.slice a n c)
  | fm (ks xs : List DV) (b : Nat) (ents : Array MapEntry) (clock : Nat) (hF : F b) (hb : w.heap[b]? = some (.map ents clock)) (h1 : ents.size = ks.length) (h2 : xs.length = ks.length)
      (hk : ∀ (i : Nat) (x : DV) (e : MapEntry), ks[i]? = some x → ents[i]? = some e → RepD F w x e.key)
      (hv : ∀ (i : Nat) (x : DV) (e : MapEntry), xs[i]? = some x → ents[i]? = some e → RepD F w x e.val)
      (hborn : ∀ (i : Nat) (e : MapEntry), ents[i]? = some e → e.born < clock)
      (hinj : ∀ (i j : Nat) (e e' : MapEntry), ents[i]? = some e → ents[j]? = some e' → e.born = e'.born → i = j) :
      RepD F w (.fm ks xs) (.map (some b))

abbrev Locs := Nat → Option Loc

inductive RepA (μ : Locs) (F : Nat → Prop) (w : World) : AV → Value → Prop
  | undef (v : Value) : RepA μ F w .undef v
  | d (x : DV) (v : Value) (h : RepD F w x v) : RepA μ F w (.d x) v
  | nils : RepA μ F w .nils (.slice none 0 0)
  | ptr (id ix off : Nat) (l : Loc) (h : μ id = some l) : RepA μ F w (.ptr id ix off) (.pointer (some ⟨l.blk, l.off + (ix * l.sz + off), none⟩))
  | hs (id off len sz : Nat) (l : Loc) (c : Nat) (h : μ id = some l) (hsz : l.sz = sz) (hl : len ≤ c) (hc : off + c ≤ l.cap) :
      RepA μ F w (.hs id off len sz) (.slice (some ⟨l.blk, l.off + off * sz, none⟩) len c)
  | hs0 (id off sz : Nat) (a : Option Addr) : RepA μ F w (.hs id off 0 sz) (.slice a 0 0)
  | mp (id : Nat) (l : Loc) (h : μ id = some l) : RepA μ F w (.mp id) (.map (some l.blk))
  | it (id : Nat) (l : Loc) (h : μ id = some l) : RepA μ F w (.it id) (.pointer (some ⟨l.blk, 0, none⟩))
  | fp (x : DV) (off : Nat) (b o : Nat) (f : Nat → Value) (hF : F b)
      (hcell : ∀ (j : Nat) (y : DV), x.cells[j]? = some y → w.cell? ⟨b, o + j, none⟩ = some (f j))
      (hrep : ∀ (j : Nat) (y : DV), x.cells[j]? = some y → RepD F w y (f j)) :
      RepA μ F w (.fp x off) (.pointer (some ⟨b, o + off, none⟩))
  | clo (f : FuncId) (caps : List AV) (us : Array Value) (hs : us.size = caps.length)
      (h : ∀ (i : Nat) (x : AV) (u : Value), caps[i]? = some x → us[i]? = some u → RepA μ F w x u) : RepA μ F w (.clo f caps) (.func (.func f) #[] us)
  | ifc (t : TypeId) (x : AV) (v : Value) (h : RepA μ F w x v) : RepA μ F w (.ifc t x) (.iface t v)
  | agg (cs : List AV) (us : Array Value) (hs : us.size = cs.length)
      (h : ∀ (i : Nat) (x : AV) (u : Value), cs[i]? = some x → us[i]? = some u → RepA μ F w x u) : RepA μ F w (.agg cs) (.agg us)
  | tup (cs : List AV) (us : Array Value) (hs : us.size = cs.length)
      (h : ∀ (i : Nat) (x : AV) (u : Value), cs[i]? = some x → us[i]? = some u → RepA μ F w x u) : RepA μ F w (.tup cs) (.tuple us)
  | when (b : Bool) (x : AV) (v : Value) (h : b = true → RepA μ F w x v) (hn : b = false → v = .tuple #[]) : RepA μ F w (.when b x) v

/-- The types of keys: one cell, or the cells of a struct. -/
inductive KT where
  | int (k : IntKind)
  | bool
  | str
  deriving DecidableEq, Inhabited
inductive KS where
  | one (t : KT)
  | many (ts : List KT)
  deriving DecidableEq, Inhabited
def DV.conf1 : KT → DV → Bool
  | .int k, .int k' _ => k == k'
  | .bool, .bool _ => true
  | .str, .str _ => true
  | _, _ => false
def confL : List KT → List DV → Bool
  | [], [] => true
  | t :: ts, x :: xs => x.conf1 t && confL ts xs
  | _, _ => false
def DV.conf : KS → DV → Bool
  | .one t, x => x.conf1 t
  | .many ts, .agg cs => confL ts cs
  | _, _ => false

/-- Objects that may change. -/
inductive Ob where
  | arr (sz : Nat) (es : List AV)
  | map (ks : KS) (es : List (DV × AV))
  | iter (cur : Option (DV × DV)) (left : List (DV × DV))
  deriving Inhabited

abbrev Heap := List (Option Ob)

/-- An array of elements of sz cells each, at its place. -/
structure ArrAt (μ : Locs) (F : Nat → Prop) (w : World) (l : Loc) (sz : Nat) (es : List AV) : Prop where
  hsz : l.sz = sz
  room : es.length ≤ l.cap
  cells : ∀ x ∈ es, x.fits sz = true
  blk : ∃ c t, w.heap[l.blk]? = some (.cells c t (0, 0)) ∧ l.off + l.cap * l.sz ≤ c.size
  rep : ∀ (i j : Nat) (x y : AV), es[i]? = some x → x.cells[j]? = some y → ∃ u, w.cell? ⟨l.blk, l.off + (i * sz + j), none⟩ = some u ∧ u.oneCell' = true ∧ RepA μ F w y u

/-- A map, its entries in the order in which they were laid. -/
structure MapAt (μ : Locs) (F : Nat → Prop) (w : World) (l : Loc) (ks : KS) (es : List (DV × AV)) : Prop where
  conf : ∀ x ∈ es, x.1.conf ks = true
  blk : ∃ ents clock, w.heap[l.blk]? = some (.map ents clock) ∧ ents.size = es.length ∧
    (∀ (i : Nat) (x : DV × AV) (e : MapEntry), es[i]? = some x → ents[i]? = some e → RepD F w x.1 e.key ∧ RepA μ F w x.2 e.val) ∧
    (∀ (i : Nat) (e : MapEntry), ents[i]? = some e → e.born < clock) ∧
    (∀ (i j : Nat) (e e' : MapEntry), ents[i]? = some e → ents[j]? = some e' → e.born = e'.born → i = j)

/-- An iterator over a map that nobody writes any more; the entry at which it stands; the entries that it has not come to. -/
def IterAt (F : Nat → Prop) (w : World) (l : Loc) (cur : Option (DV × DV)) (left : List (DV × DV)) : Prop :=
  ∃ (b clock : Nat) (seen : Array Nat) (ents : Array MapEntry), w.heap[l.blk]? = some (.mapIter (some b) clock seen clock) ∧ F b ∧ w.heap[b]? = some (.map ents clock) ∧
    (∀ (i : Nat) (e : MapEntry), ents[i]? = some e → e.born < clock) ∧ (ents.toList.map (·.born)).Nodup ∧
    (ents.toList.filter fun e => !seen.contains e.born).length = left.length ∧
    (∀ (j : Nat) (x : DV × DV) (e : MapEntry), left[j]? = some x → (ents.toList.filter fun e => !seen.contains e.born)[j]? = some e → RepD F w x.1 e.key ∧ RepD F w x.2 e.val) ∧
    ∀ x, cur = some x → ∃ e, e ∈ ents.toList ∧ seen.back? = some e.born ∧ RepD F w x.1 e.key ∧ RepD F w x.2 e.val

def ObAt (μ : Locs) (F : Nat → Prop) (w : World) (l : Loc) : Ob → Prop
  | .arr sz es => ArrAt μ F w l sz es
  | .map ks es => MapAt μ F w l ks es
  | .iter cur left => IterAt F w l cur left

/-- The package-level variables that hold what they held at the start: their blocks, what they hold. -/
class Gl where
  tab : List (Nat × DV)
variable [Gl]
/-- They hold it, and nobody writes it. -/
def GOk (F : Nat → Prop) (w : World) : Prop :=
  ∀ g x, (g, x) ∈ Gl.tab → F g ∧ ∃ f : Nat → Value, ∀ (j : Nat) (y : DV), x.cells[j]? = some y → w.cell? ⟨g, j, none⟩ = some (f j) ∧ RepD F w y (f j)

/-- The heap of the machine stands in the world. -/
structure Rel (μ : Locs) (F : Nat → Prop) (w : World) (H : Heap) : Prop where
  ob : ∀ id l o, μ id = some l → H[id]? = some (some o) → ObAt μ F w l o
  inj : ∀ i j l l' o o', μ i = some l → μ j = some l' → H[i]? = some (some o) → H[j]? = some (some o') → l.blk = l'.blk → i = j
  nF : ∀ id l o, μ id = some l → H[id]? = some (some o) → ¬ F l.blk
  lt : ∀ id l, μ id = some l → l.blk < w.heap.size
  Flt : ∀ b, F b → b < w.heap.size
  idlt : ∀ id l, μ id = some l → id < H.length
  gl : GOk F w

/-- What a step may have done: T: the numbers of the objects that it may have written. -/
structure Ext (μ : Locs) (F : Nat → Prop) (w : World) (μ' : Locs) (F' : Nat → Prop) (w' : World) (T : Nat → Prop) : Prop where
  locs : ∀ id l, μ id = some l → μ' id = some l
  fro : ∀ b, F b → F' b
  size : w.heap.size ≤ w'.heap.size
  os : w'.os = w.os
  tape : w'.tape = w.tape
  output : w'.output = w.output ∧ w.drawn ≤ w'.drawn
  keep : ∀ b, b < w.heap.size → (∀ id l, T id → μ id = some l → l.blk ≠ b) → w'.heap[b]? = w.heap[b]?
  newl : ∀ id l, μ' id = some l → μ id = some l ∨ (μ id = none ∧ (w.heap.size ≤ l.blk ∨ ∃ id0 l0, T id0 ∧ μ id0 = some l0 ∧ l0.blk = l.blk))
  newf : ∀ b, F' b → F b ∨ w.heap.size ≤ b ∨ ∃ id0 l0, T id0 ∧ μ id0 = some l0 ∧ l0.blk = b

theorem RepD.mono {F F' : Nat → Prop} {w w' : World} (hF : ∀ b, F b → F' b) (hk : ∀ b, F b → w'.heap[b]? = w.heap[b]?) {x : DV} {u : Value}
    (h : RepD F w x u) : RepD F' w' x u := by
  induction h with
  | bool b => exact .bool b
  | int k n => exact .int k n
  | str s => exact .str s
  | nilp => exact .nilp
  | nilm => exact .nilm
  | nilf => exact .nilf
  | nili => exact .nili
  | fn f => exact .fn f
  | ifc t x v _ ih => exact .ifc t x v ih
  | agg cs us hs _ ih => exact .agg cs us hs ih
  | vs xs a n c sz f hn hc hsz ha hcell hrep ih =>
    refine .vs xs a n c sz f hn hc hsz (fun hne => ?_) (fun ad had i j x y hx hy => ?_) ih
    · obtain ⟨ad, e, hb, hs⟩ := ha hne
      exact ⟨ad, e, hF _ hb, hs⟩
    · have hne : xs ≠ [] := fun e => by simp [e] at hx
      obtain ⟨ad', e, hb, _⟩ := ha hne
      rw [had] at e
      obtain rfl := Option.some.inj e
      exact (World.cell?_of_block (w := w) (a := ⟨ad.block, ad.off + (i * sz + j), none⟩) (hk _ hb)).trans (hcell ad had i j x y hx hy)
  | fm ks xs b ents clock hFb hb h1 h2 _ _ hborn hinj ihk ihv => exact .fm ks xs b ents clock (hF _ hFb) (by rw [hk _ hFb]; exact hb) h1 h2 ihk ihv hborn hinj

theorem GOk.mono {F F' : Nat → Prop} {w w' : World} (h : GOk F w) (hF : ∀ b, F b → F' b) (hk : ∀ b, F b → w'.heap[b]? = w.heap[b]?) : GOk F' w' := by
  intro g x hm
  obtain ⟨h1, f, h2⟩ := h g x hm
  refine ⟨hF g h1, f, fun j y hy => ?_⟩
  obtain ⟨h3, h4⟩ := h2 j y hy
  exact ⟨(World.cell?_of_block (w := w) (a := ⟨g, j, none⟩) (hk _ h1)).trans h3, h4.mono hF hk⟩
theorem GOk.rep {μ : Locs} {F : Nat → Prop} {w : World} (h : GOk F w) {g : Nat} {x : DV} (hm : (g, x) ∈ Gl.tab) : RepA μ F w (.fp x 0) (.pointer (some ⟨g, 0, none⟩)) := by
  obtain ⟨h1, f, h2⟩ := h g x hm
  exact .fp x 0 g 0 f h1 (fun j y hy => by rw [Nat.zero_add]; exact (h2 j y hy).1) (fun j y hy => (h2 j y hy).2)

theorem RepA.mono {μ μ' : Locs} {F F' : Nat → Prop} {w w' : World} (hμ : ∀ id l, μ id = some l → μ' id = some l) (hF : ∀ b, F b → F' b)
    (hk : ∀ b, F b → w'.heap[b]? = w.heap[b]?) {x : AV} {u : Value} (h : RepA μ F w x u) : RepA μ' F' w' x u := by
  induction h with
  | undef v => exact .undef v
  | d x v h => exact .d x v (h.mono hF hk)
  | nils => exact .nils
  | ptr id ix off l h => exact .ptr id ix off l (hμ _ _ h)
  | hs id off len sz l c h hsz hl hc => exact .hs id off len sz l c (hμ _ _ h) hsz hl hc
  | hs0 id off sz a => exact .hs0 id off sz a
  | mp id l h => exact .mp id l (hμ _ _ h)
  | it id l h => exact .it id l (hμ _ _ h)
  | fp x off b o f hFb hcell hrep =>
    refine .fp x off b o f (hF _ hFb) (fun j y hy => ?_) (fun j y hy => (hrep j y hy).mono hF hk)
    exact (World.cell?_of_block (w := w) (a := ⟨b, o + j, none⟩) (hk _ hFb)).trans (hcell j y hy)
  | clo f caps us hs _ ih => exact .clo f caps us hs ih
  | ifc t x v _ ih => exact .ifc t x v ih
  | agg cs us hs _ ih => exact .agg cs us hs ih
  | tup cs us hs _ ih => exact .tup cs us hs ih
  | when b x v _ hn ih => exact .when b x v ih hn

/-- Every object but those of T stands as it stood. -/
theorem ObAt.mono {μ μ' : Locs} {F F' : Nat → Prop} {w w' : World} (hμ : ∀ id l, μ id = some l → μ' id = some l) (hF : ∀ b, F b → F' b)
    (hk : ∀ b, F b → w'.heap[b]? = w.heap[b]?) {l : Loc} (hl : w'.heap[l.blk]? = w.heap[l.blk]?) {o : Ob} (h : ObAt μ F w l o) : ObAt μ' F' w' l o := by
  cases o with
  | arr sz es =>
    obtain ⟨h1, h2, h3, ⟨c, t, h4, h5⟩, h6⟩ := h
    refine ⟨h1, h2, h3, ⟨c, t, by rw [hl]; exact h4, h5⟩, fun i j x y hx hy => ?_⟩
    obtain ⟨u, e, ho, hr⟩ := h6 i j x y hx hy
    exact ⟨u, (World.cell?_of_block (w := w) (a := ⟨l.blk, l.off + (i * sz + j), none⟩) hl).trans e, ho, hr.mono hμ hF hk⟩
  | map ks es =>
    obtain ⟨h0, ents, clock, h1, h2, h3, h4, h5⟩ := h
    exact ⟨h0, ents, clock, by rw [hl]; exact h1, h2, fun i x e hx he => ⟨(h3 i x e hx he).1.mono hF hk, (h3 i x e hx he).2.mono hμ hF hk⟩, h4, h5⟩
  | iter cur left =>
    obtain ⟨b, clock, seen, ents, h1, h2, h3, h4, h5, h6, h7, h8⟩ := h
    refine ⟨b, clock, seen, ents, by rw [hl]; exact h1, hF _ h2, by rw [hk _ h2]; exact h3, h4, h5, h6, fun j x e hx he => ⟨(h7 j x e hx he).1.mono hF hk, (h7 j x e hx he).2.mono hF hk⟩, fun x hx => ?_⟩
    obtain ⟨e, h9, h10, h11, h12⟩ := h8 x hx
    exact ⟨e, h9, h10, h11.mono hF hk, h12.mono hF hk⟩

/-- Blocks that nobody writes are kept by a step over alive objects. -/
theorem Ext.keepF {μ : Locs} {F : Nat → Prop} {w : World} {μ' : Locs} {F' : Nat → Prop} {w' : World} {T : Nat → Prop} {H : Heap}
    (e : Ext μ F w μ' F' w' T) (r : Rel μ F w H) (hT : ∀ id, T id → ∃ o, H[id]? = some (some o)) : ∀ b, F b → w'.heap[b]? = w.heap[b]? := by
  intro b hb
  refine e.keep b (r.Flt b hb) (fun id l ht hm hbl => ?_)
  obtain ⟨o, ho⟩ := hT id ht
  exact r.nF id l o hm ho (hbl ▸ hb)

theorem Ext.refl (μ : Locs) (F : Nat → Prop) (w : World) (T : Nat → Prop) : Ext μ F w μ F w T :=
  ⟨fun _ _ h => h, fun _ h => h, Nat.le_refl _, rfl, rfl, ⟨rfl, Nat.le_refl _⟩, fun _ _ _ => rfl, fun _ _ h => .inl h, fun _ h => .inl h⟩

theorem Ext.monoT {μ : Locs} {F : Nat → Prop} {w : World} {μ' : Locs} {F' : Nat → Prop} {w' : World} {T T' : Nat → Prop}
    (e : Ext μ F w μ' F' w' T) (h : ∀ id, T id → T' id) : Ext μ F w μ' F' w' T' :=
  ⟨e.locs, e.fro, e.size, e.os, e.tape, e.output, fun b hb hn => e.keep b hb (fun id l ht => hn id l (h id ht)),
   fun id l hm => (e.newl id l hm).imp (fun x => x) (fun ⟨a, b⟩ => ⟨a, b.imp (fun x => x) (fun ⟨i, l0, t, r⟩ => ⟨i, l0, h i t, r⟩)⟩),
   fun b hb => (e.newf b hb).imp (fun x => x) (fun b => b.imp (fun x => x) (fun ⟨i, l0, t, r⟩ => ⟨i, l0, h i t, r⟩))⟩

end Go.Vm
/- The machine's code, and how it comes out of the loaded program. -/
namespace Go.Vm
open Go
variable [Gl]

inductive Arg where
  | loc (k : Nat)
  | var (i : Nat)
  | k (v : AV)
  deriving Inhabited

/-- Operations that write nothing that was there. -/
inductive NOp where
  | mov (x : Arg)
  | pick (c a b : Arg)
  | bin (o : BinOp) (t : KT) (x y : Arg)
  | eqs (neg : Bool) (ks : KS) (x y : Arg)
  | not (x : Arg)
  | neg (x : Arg)
  | conv (k : IntKind) (x : Arg)
  | fieldAddr (off : Nat) (x : Arg)
  | load (n : Nat) (agg : Bool) (x : Arg)
  | alloc (sz : Nat) (z : AV)
  | box (sz : Nat) (x : Arg)
  | build (z : List AV) (parts : List (Nat × Nat × Arg))
  | lit (sz : Nat) (z : AV) (n : Nat) (parts : List (Nat × Arg)) (keep : Bool)
  | mkFunc (f : FuncId) (caps : List Arg)
  | mkMap (ks : KS)
  | mkSlice (sz bytes : Nat) (z : AV) (len cap : Arg)
  | slice (sz : Nat) (lo hi : Option Arg) (x : Arg)
  | idxAddr (sz : Nat) (x i : Arg)
  | idxArr (n sz : Nat) (x i : Arg)
  | lookup (ok : Bool) (ks : KS) (z : AV) (x k : Arg)
  | extract (i : Nat) (x : Arg)
  | field (off n : Nat) (agg : Bool) (x : Arg)
  | len (k : Nat) (x : Arg)
  | minmax (isMin : Bool) (xs : List Arg)
  | nilCheck (x : Arg)
  | mkIface (t : TypeId) (x : Arg)
  deriving Inhabited

/-- Operations that write, or call. -/
inductive EOp where
  | store (n : Nat) (agg : Bool) (x v : Arg)
  | append (sz bytes : Nat) (s x : Arg)
  | mapUpd (ks : KS) (m k v : Arg)
  | isNil (neg : Bool) (x : Arg)
  | panic
  | copy (sz : Nat) (d s : Arg)
  | delete (ks : KS) (m k : Arg)
  | call (f : FuncId) (args : List Arg)
  | callv (fv : Arg) (args : List Arg)
  | range (x : Arg)
  | next (x : Arg)
  | entry (x : Arg)
  | mapEntry (ks : KS) (z : AV) (m k : Arg)
  | entryStore (ks : KS) (m s v : Arg)
  deriving Inhabited

inductive Ins where
  | n (g : Option (Arg × Bool)) (op : NOp)
  | e (g : Option (Arg × Bool)) (op : EOp) (pend solid : List Arg) (fz : Bool)
  deriving Inhabited

structure Reg where
  ins : List Ins
  outs : List (Nat × Nat)
  deriving Inhabited

inductive C where
  | skip
  | reg (r : Reg)
  | seq (a b : C)
  | cond (c : Arg) (a b : C)
  | block (id : Nat) (c : C)
  | loop (c : C)
  | exit (id : Nat)
  | ret
  deriving Inhabited

/-- Data out of values, where all are data. 'nils' reads as a slice of nothing. -/
def AV.allD : List AV → Option (List DV)
  | [] => some []
  | .d x :: r => (AV.allD r).map (x :: ·)
  | _ :: _ => none

def AV.mkAgg (cs : List AV) : AV := match AV.allD cs with
  | some ds => .d (.agg ds)
  | none => .agg cs

/-- A constant of the program. -/
def kAV : Value → Option AV
  | .bool b => some (.d (.bool b))
  | .int k n => some (.d (.int k n))
  | .string s => some (.d (.str s.data.toList))
  | .pointer none => some (.d .nilp)
  | .slice none 0 0 => some .nils
  | .map none => some (.d .nilm)
  | .nilFunc => some (.d .nilf)
  | .nilIface => some (.d .nili)
  | _ => none
def kAs : List Value → Option (List AV)
  | [] => some []
  | v :: r => match kAV v, kAs r with
    | some x, some xs => some (x :: xs)
    | _, _ => none
/-- A constant, an aggregate too. -/
def kVal : Value → Option AV
  | .agg cs => (kAs cs.toList).map AV.mkAgg
  | v => kAV v

section
variable (P : Program)

def aggT (t : TypeId) : Option Bool := match P.underlying t with
  | some (.struct _) | some (.array _ _) => some true
  | some _ => some false
  | none => none
def sizeT (t : TypeId) : Option Nat := (P.info? t).map (·.size)
def zeroT (t : TypeId) : Option AV := ((P.info? t).bind (·.zero)).bind kVal
def bytesT (t : TypeId) : Option Nat := (P.info? t).map (·.bytes)
def elemT (t : TypeId) : Option TypeId := match P.underlying t with
  | some (.slice e) => some e
  | _ => none
def fieldT (t : TypeId) (f : Nat) : Option Field := match P.underlying t with
  | some (.struct fs) => fs[f]?
  | _ => none
def ktT (t : TypeId) : Option KT := match P.underlying t with
  | some .bool => some .bool
  | some (.int k) => some (.int k)
  | some .string => some .str
  | _ => none
def ktFields : List Field → Nat → Option (List KT)
  | [], _ => some []
  | f :: r, i => if f.offset = i ∧ f.name ≠ "_" ∧ sizeT P f.type = some 1 then match ktT P f.type, ktFields r (i + 1) with
      | some t, some ts => some (t :: ts)
      | _, _ => none
    else none
/-- Types whose '==' compares bools, numbers, strings, cell by cell. -/
def ksT (t : TypeId) : Option KS := match P.underlying t with
  | some (.struct fs) => if fs.size ≤ 100 ∧ P.stoodInHeld t = false ∧ P.eqGuardType P.depth t = false ∧ sizeT P t = some fs.size then (ktFields P fs.toList 0).map .many else none
  | _ => (ktT P t).map .one

variable (res : Operand → Option Arg)

def resAll : List Operand → Option (List Arg)
  | [] => some []
  | x :: r => match res x, resAll r with
    | some a, some as => some (a :: as)
    | _, _ => none
def resOpt : Option Operand → Option (Option Arg)
  | none => some none
  | some x => (res x).map some

def fieldParts (t : TypeId) : List (Nat × Operand) → Option (List (Nat × Nat × Arg))
  | [] => some []
  | (i, x) :: r => match fieldT P t i, res x, fieldParts t r with
    | some f, some a, some as => (sizeT P f.type).map fun s => (f.offset, s, a) :: as
    | _, _, _ => none
def elemParts : List (Nat × Operand) → Option (List (Nat × Arg))
  | [] => some []
  | (i, x) :: r => match res x, elemParts r with
    | some a, some as => some ((i, a) :: as)
    | _, _ => none

def binOk (o : BinOp) (t : KT) : Bool := match t with
  | .int _ => true
  | .bool => o == .eql || o == .neq
  | .str => o == .add || o == .eql || o == .neq
def isNilSlice : Operand → Bool
  | .const (.slice none 0 0) => true
  | _ => false

def compOp (keep : Bool) : Oper → Option (NOp ⊕ EOp) := fun o => match o.op with
  | .move x | .assign x => (res x).map fun a => .inl (.mov a)
  | .pick c a b => match res c, res a, res b with
    | some c, some a, some b => some (.inl (.pick c a b))
    | _, _, _ => none
  | .binOp b t x y _ =>
    if isNilSlice y then
      match elemT P t, res x with
      | some _, some a => if b = .eql then some (.inr (.isNil false a)) else if b = .neq then some (.inr (.isNil true a)) else none
      | _, _ => none
    else match ksT P t, res x, res y with
      | some (.one k), some x, some y => if binOk b k then some (.inl (.bin b k x y)) else none
      | some (.many ts), some x, some y => if b = .eql then some (.inl (.eqs false (.many ts) x y)) else if b = .neq then some (.inl (.eqs true (.many ts) x y)) else none
      | _, _, _ => none
  | .panic _ => some (.inr .panic)
  | .unOp .not _ x => (res x).map fun a => .inl (.not a)
  | .unOp .neg _ x => (res x).map fun a => .inl (.neg a)
  | .convert src dst x => match P.underlying dst, res x, P.underlying src with
    | some (.int k), some a, some _ => some (.inl (.conv k a))
    | _, _, _ => none
  | .fieldAddr t x f => match fieldT P t f, res x, sizeT P t with
    | some f, some a, some n => if (sizeT P f.type).getD 0 ≠ 0 ∧ n ≠ 1 then some (.inl (.fieldAddr f.offset a)) else none
    | _, _, _ => none
  | .load t x => match sizeT P t, aggT P t, res x with
    | some n, some g, some a => if g = true ∨ n = 1 then some (.inl (.load n g a)) else none
    | _, _, _ => none
  | .alloc t => match sizeT P t, zeroT P t with
    | some n, some z => some (.inl (.alloc n z))
    | _, _ => none
  | .box t x => match sizeT P t, res x with
    | some n, some a => some (.inl (.box n a))
    | _, _ => none
  | .build t ps => match (P.info? t).bind (·.zero), fieldParts P res t ps.toList with
    | some (.agg cs), some parts => match P.underlying t with
      | some (.struct fs) => if fs.toList.all (fun f => (sizeT P f.type).isSome) then (kAs cs.toList).map fun z => .inl (.build z parts) else none
      | _ => none
    | _, _ => none
  | .buildSlice t n ps => match elemT P t, elemParts res ps.toList with
    | some e, some parts => match sizeT P e, zeroT P e with
      | some s, some z => if n * s ≤ 16777216 ∧ s ≠ 0 then some (.inl (.lit s z n parts keep)) else none
      | _, _ => none
    | _, _ => none
  | .makeFunc (.func f) first caps => if first.size = 0 then (resAll res caps.toList).map fun as => .inl (.mkFunc f as) else none
  | .makeMap t none => match P.underlying t with
    | some (.map kt _) => (ksT P kt).map fun ks => .inl (.mkMap ks)
    | _ => none
  | .makeSlice t n c => match elemT P t, res n, res c with
    | some e, some n, some c => match sizeT P e, bytesT P e, zeroT P e with
      | some s, some b, some z => if s ≠ 0 then some (.inl (.mkSlice s b z n c)) else none
      | _, _, _ => none
    | _, _, _ => none
  | .slice t x lo hi max => if max.isSome then none else match P.underlying t, res x, resOpt res lo, resOpt res hi with
    | some (.slice e), some a, some lo, some hi => (sizeT P e).bind fun s => if s ≠ 0 then some (.inl (.slice s lo hi a)) else none
    | some .string, some a, some lo, some hi => some (.inl (.slice 0 lo hi a))
    | _, _, _, _ => none
  | .indexAddr t x i => match elemT P t, res x, res i with
    | some e, some a, some i => (sizeT P e).bind fun s => if s ≠ 0 then some (.inl (.idxAddr s a i)) else none
    | none, some a, some i => match P.underlying t with
      | some (.array n e) => (sizeT P e).map fun s => .inl (.idxArr n s a i)
      | _ => none
    | _, _, _ => none
  | .lookup t x k ok => match P.underlying t, res x, res k with
    | some (.map kt e), some a, some k => match ksT P kt, zeroT P e with
      | some ks, some z => some (.inl (.lookup ok ks z a k))
      | _, _ => none
    | _, _, _ => none
  | .extract x i => (res x).map fun a => .inl (.extract i a)
  | .field t x f => match fieldT P t f, res x with
    | some f, some a => match sizeT P f.type, aggT P f.type with
      | some n, some g => if g = true ∨ n = 1 then some (.inl (.field f.offset n g a)) else none
      | _, _ => none
    | _, _ => none
  | .nilCheck x => (res x).map fun a => .inl (.nilCheck a)
  | .makeInterface t x => if P.concrete t = true then (res x).map fun a => .inl (.mkIface t a) else none
  | .store t x v => match sizeT P t, aggT P t, res x, res v with
    | some n, some g, some a, some v => if g = true ∨ n = 1 then some (.inr (.store n g a v)) else none
    | _, _, _, _ => none
  | .mapUpdate t m k v | .insert t m k v => match P.underlying t, res m, res k, res v with
    | some (.map kt _), some m, some k, some v => (ksT P kt).map fun ks => .inr (.mapUpd ks m k v)
    | _, _, _, _ => none
  | .mapEntry t m k => match P.underlying t, res m, res k with
    | some (.map kt e), some m, some k => match ksT P kt, zeroT P e with
      | some ks, some z => some (.inr (.mapEntry ks z m k))
      | _, _ => none
    | _, _, _ => none
  | .entryStore t m s v => match P.underlying t, res m, res s, res v with
    | some (.map kt _), some m, some s, some v => (ksT P kt).map fun ks => .inr (.entryStore ks m s v)
    | _, _, _, _ => none
  | .range t x => match P.underlying t, res x with
    | some (.map _ _), some a => some (.inr (.range a))
    | _, _ => none
  | .next x false => (res x).map fun a => .inr (.next a)
  | .entry x => (res x).map fun a => .inr (.entry a)
  | .call { callee := .builtin .len, args, argTypes } => match args.toList, argTypes.toList with
    | [x], [t] => match P.underlying t with
      | some (.slice _) => (res x).map fun a => .inl (.len 0 a)
      | some .string => (res x).map fun a => .inl (.len 1 a)
      | some (.map _ _) => (res x).map fun a => .inl (.len 2 a)
      | _ => none
    | _, _ => none
  | .call { callee := .builtin .min, args, .. } => (resAll res args.toList).map fun as => .inl (.minmax true as)
  | .call { callee := .builtin .max, args, .. } => (resAll res args.toList).map fun as => .inl (.minmax false as)
  | .call { callee := .builtin .append, args, argTypes } => match args.toList, argTypes.toList with
    | [s, x], [t, u] => match elemT P t, res s, res x with
      | some e, some s, some x => match sizeT P e, bytesT P e, zeroT P e with
        | some n, some b, some z => if n ≠ 0 ∧ t = u ∧ z.fits n = true then some (.inr (.append n b s x)) else none
        | _, _, _ => none
      | _, _, _ => none
    | _, _ => none
  | .call { callee := .builtin .copy, args, argTypes } => match args.toList, argTypes.toList with
    | [d, s], [t, u] => match elemT P t, elemT P u, res d, res s with
      | some e, some e', some d, some s => match sizeT P e with
        | some n => if n ≠ 0 ∧ sizeT P e' = some n then some (.inr (.copy n d s)) else none
        | _ => none
      | _, _, _, _ => none
    | _, _ => none
  | .call { callee := .builtin .delete, args, argTypes } => match args.toList, argTypes.toList with
    | [m, k], t :: _ => match P.underlying t, res m, res k with
      | some (.map kt _), some m, some k => (ksT P kt).map fun ks => .inr (.delete ks m k)
      | _, _, _ => none
    | _, _ => none
  | .call { callee := .value (.func f), args, .. } => if (P.funcs[f]?).any (fun fn => fn.body.isSome && fn.name != "runtime.NumGoroutine") then (resAll res args.toList).map fun as => .inr (.call f as) else none
  | .call { callee := .value x, args, .. } => match res x, resAll res args.toList with
    | some fv, some as => some (.inr (.callv fv as))
    | _, _ => none
  | _ => none

end

/-- The writer of a temporary within a region. -/
def writerOf (ops : List Oper) (t : Tmp) : Option Nat := ops.findIdx? (fun o => o.dst == some t)

/-- An operand of operation j: 'bef i j': i comes before j; 'aft': j comes before i (then the old value is read); 'at_ i': how far back i's result lies. -/
def resolve1 (vars : List Tmp) (ops : List Oper) (bef : Nat → Bool) (aft : Nat → Bool) (at_ : Nat → Option Nat) : Operand → Option Arg
  | .tmp t => match writerOf ops t with
    | some i => if bef i then (at_ i).map .loc else if aft i then (vars.findIdx? (· == t)).map .var else none
    | none => (vars.findIdx? (· == t)).map .var
  | .const v => (kVal v).map .k
  | .func f => some (.k (.d (.fn f)))
  | .global g => (Gl.tab.find? (·.1 == g)).map fun p => .k (.fp p.2 0)

def isEff : Op → Bool
  | .store .. | .mapUpdate .. | .entryStore .. | .mapEntry .. | .insert .. | .next .. | .range .. | .entry .. => true
  | .call { callee := .builtin b, .. } => b == .append || b == .copy || b == .delete || b == .clear || b == .panic
  | .call _ => true
  | .panic _ => true
  | .binOp _ _ _ y _ => isNilSlice y
  | _ => false

/-- The order in which the machine goes through a region. Where the order is drawn: each operation as early as its effects let it. -/
def lev (bits : List Nat) (effs : List Nat) (j : Nat) : Nat := (effs.filter fun i => (bits.getD j 0).testBit i).length
def canon (n : Nat) (bits : List Nat) (effs : List Nat) : List Nat :=
  (List.range (effs.length + 1)).flatMap fun l =>
    ((List.range n).filter fun j => !effs.contains j && lev bits effs j == l) ++ (effs[l]?).toList

def Arg.shift (d : Nat) : Arg → Arg
  | .loc i => .loc (i + d)
  | x => x
/-- What is read: the argument that leads to the object. -/
def NOp.reads : NOp → Option Arg
  | .load _ _ x | .lookup _ _ _ x _ | .len 2 x => some x
  | _ => none
/-- Does it make an object, or a block? -/
def NOp.makes : NOp → Bool
  | .alloc _ _ | .box _ _ | .lit _ _ _ _ _ | .mkMap _ | .mkSlice _ _ _ _ _ => true
  | _ => false

/-- The bits say no more than the edges. -/
def bitsOk (ops : List Oper) (bits : List Nat) : Bool :=
  (List.range ops.length).all fun j => match ops[j]? with
    | some o =>
      let on := (o.after.toList.filter (Region.binds .any ·)).map (·.on)
      on.all (fun m => decide (m < j)) && (List.range ops.length).all fun i => !(bits.getD j 0).testBit i || on.contains i || on.any fun m => (bits.getD m 0).testBit i
    | none => true

section
variable (P : Program) (vars : List Tmp) (keeps : List Tmp) (nt : Nat) (ops : List Oper) (bef : Nat → Nat → Bool) (order : List Nat)

/-- How far back from position p operation i's result lies. -/
def atPos (p i : Nat) : Option Nat := if order.idxOf i < p then some (p - 1 - order.idxOf i) else none
def resAt (p j : Nat) : Operand → Option Arg := resolve1 vars ops (fun i => bef i j) (fun i => bef j i || i == j) (atPos order p)
def compGuard (p j : Nat) : Option (Nat × Bool) → Option (Option (Arg × Bool))
  | none => some none
  | some (i, want) => if bef i j && ((ops[i]?).bind (·.dst)).isSome then (atPos order p i).map fun k => some (.loc k, want) else none

def compIns (p j : Nat) : Option Ins := match ops[j]? with
  | none => none
  | some o => match compGuard ops bef order p j o.guard, compOp P (resAt vars ops bef order p j) (o.dst.any keeps.contains) o with
    | some g, some (.inl op) => some (.n g op)
    | some g, some (.inr op) => some (.e g op [] [] (o.dst.any keeps.contains))
    | _, _ => none

/-- Operations that may come before or after an effect: what they read, what they make. -/
def pendAt (ins : List Ins) (p j : Nat) : List Arg := (List.range p).filterMap fun q => match (order[q]? : Option Nat), (ins[q]? : Option Ins) with
  | some i, some (.n _ op) => if bef i j then none else op.reads.map (Arg.shift (p - q))
  | _, _ => none
def solidAt (ins : List Ins) (p j : Nat) : List Arg := (List.range p).filterMap fun q => match (order[q]? : Option Nat), (ins[q]? : Option Ins) with
  | some i, some (.n _ op) => if bef i j || !op.makes then none else some (.loc (p - 1 - q))
  | _, _ => none
def addPend (ins : List Ins) (p j : Nat) : Ins → Ins
  | .e g op _ _ fz => .e g op (pendAt bef order ins p j) (solidAt bef order ins p j) fz
  | x => x

def compAll (f : Nat → Nat → Option Ins) : Nat → List Nat → Option (List Ins)
  | _, [] => some []
  | p, j :: r => match f p j, compAll f (p + 1) r with
    | some x, some xs => some (x :: xs)
    | _, _ => none
def pendAll (ins : List Ins) : Nat → List Nat → List Ins → List Ins
  | p, j :: r, x :: xs => addPend bef order ins p j x :: pendAll ins (p + 1) r xs
  | _, _, _ => []

def Ins.isE : Ins → Bool
  | .e _ _ _ _ _ => true
  | _ => false

/-- Effects stand where the order says, against every other operation. -/
def effOk (ins : List Ins) : Bool := (ins.zip order).zipIdx.all fun ((x, i), q) => !x.isE || order.zipIdx.all fun (j, p) => i == j || bef i j == decide (q < p)
def permOk : Bool := order.length == ops.length && (List.range ops.length).all (fun j => order[order.idxOf j]? == some j) && order.zipIdx.all (fun (j, p) => order.idxOf j == p && decide (j < ops.length))
def dstOk : Bool := ops.zipIdx.all fun (o, j) => match o.dst with
  | some d => decide (d < nt) && writerOf ops d == some j
  | none => true

def compBy : Option Reg := if permOk ops order && dstOk nt ops then match compAll (compIns P vars keeps ops bef order) 0 order with
    | some ins => if effOk bef order ins then some { ins := pendAll bef order ins 0 order ins, outs := vars.zipIdx.filterMap fun (t, v) => (writerOf ops t).bind fun i => if order.idxOf i < order.length then some (v, order.length - 1 - order.idxOf i) else none } else none
    | none => none
  else none

def seqBef (i j : Nat) : Bool := decide (i < j)
def bitBef (bits : List Nat) (i j : Nat) : Bool := (bits.getD j 0).testBit i

def compReg (draw : Bool) : Option Reg :=
  if draw then
    let bits := (Region.before ops.toArray).toList
    if bitsOk ops bits then compBy P vars keeps nt ops (bitBef bits) (canon ops.length bits ((List.range ops.length).filter fun j => (ops[j]?).any (isEff ·.op))) else none
  else compBy P vars keeps nt ops seqBef (List.range ops.length)
end

section
variable (P : Program) (vars : List Tmp) (keeps : List Tmp) (nt : Nat)

def compArg : Operand → Option Arg := resolve1 vars [] (fun _ => false) (fun _ => false) (fun _ => none)

def comp : Code → Option C
  | .skip => some .skip
  | .region _ ops draw => (compReg P vars keeps nt ops.toList draw).map .reg
  | .seq a b => match comp a, comp b with
    | some a, some b => some (.seq a b)
    | _, _ => none
  | .cond c a b => match compArg vars c, comp a, comp b with
    | some c, some a, some b => some (.cond c a b)
    | _, _, _ => none
  | .block id c => (comp c).map (.block id)
  | .loop c => (comp c).map .loop
  | .exit id => some (.exit id)
  | .ret => some .ret
  | _ => none
end

end Go.Vm
/- What the machine's code does: obligations and values. -/
namespace Go.Vm
open Go

inductive New where
  | none
  | obj (o : Ob)
  | frozen
  deriving Inhabited

/-- What an operation comes to: what it asks, its value, what it makes. -/
structure NR where
  ob : Prop
  v : AV
  new : New := .none

def NR.no : NR := ⟨False, .undef, .none⟩

def AV.strip : AV → AV
  | .when _ v => v
  | v => v
/-- What a value asks before it may be used. -/
def AV.sob : AV → Prop
  | .when b _ => b = true
  | _ => True

def eq1 : DV → DV → Bool
  | .bool a, .bool b => a == b
  | .int _ a, .int _ b => a == b
  | .str a, .str b => a == b
  | _, _ => false
def eqL : List DV → List DV → Bool
  | [], [] => true
  | a :: r, b :: s => eq1 a b && eqL r s
  | _, _ => false
/-- '==' on keys. -/
def DV.eqk : DV → DV → Bool
  | .agg a, .agg b => eqL a b
  | a, b => eq1 a b

def assocGet : List (DV × AV) → DV → Option AV
  | [], _ => none
  | (k, v) :: r, x => if x.eqk k then some v else assocGet r x
def assocSet : List (DV × AV) → DV → AV → List (DV × AV)
  | [], x, v => [(x, v)]
  | (k, u) :: r, x, v => if x.eqk k then (x, v) :: r else (k, u) :: assocSet r x v
/-- Out of a map that nobody writes any more. -/
def fmGet : List DV → List DV → DV → Option DV
  | k :: ks, v :: vs, x => if x.eqk k then some v else fmGet ks vs x
  | _, _, _ => none
def assocDel : List (DV × AV) → DV → List (DV × AV)
  | [], _ => []
  | (k, u) :: r, x => if x.eqk k then r else (k, u) :: assocDel r x

/-- Data out of a value; a slice that is nil becomes one that is empty. -/
def AV.dat : AV → Option DV
  | .d x => some x
  | .nils => some (.vs [])
  | _ => none
def datL : List AV → Option (List DV)
  | [] => some []
  | x :: r => match x.dat, datL r with
    | some y, some ys => some (y :: ys)
    | _, _ => none
/-- Data wherever it can be: through one level of a struct. -/
def AV.norm : AV → AV
  | .nils => .d (.vs [])
  | .agg cs => match datL cs with
    | some ds => .d (.agg ds)
    | none => .agg cs
  | x => x
def AV.toD (x : AV) : Option DV := match x.norm with
  | .d y => some y
  | _ => none
def toDL : List AV → Option (List DV)
  | [] => some []
  | x :: r => match x.toD, toDL r with
    | some y, some ys => some (y :: ys)
    | _, _ => none

def boolOf : AV → Option Bool
  | .d (.bool b) => some b
  | .when _ (.d (.bool b)) => some b
  | _ => none

def pickV (c : Bool) (a b : AV) : NR := match boolOf a, boolOf b with
  | some x, some y => ⟨(c = true → a.sob) ∧ (c = false → b.sob), .d (.bool (if c then x else y)), .none⟩
  | _, _ => .no

def bits2 (k : IntKind) (f : BitVec k.bits → BitVec k.bits → BitVec k.bits) (a b : Int) : AV :=
  .d (.int k (k.wrap (f (BitVec.ofInt k.bits a) (BitVec.ofInt k.bits b)).toNat))

def binInt (o : BinOp) (k : IntKind) (a : Int) (k' : IntKind) (b : Int) : NR := match o with
  | .add => ⟨k = k', .d (.int k (k.wrap (a + b))), .none⟩
  | .sub => ⟨k = k', .d (.int k (k.wrap (a - b))), .none⟩
  | .mul => ⟨k = k', .d (.int k (k.wrap (a * b))), .none⟩
  | .quo => ⟨k = k' ∧ b ≠ 0, .d (.int k (k.wrap (a.tdiv b))), .none⟩
  | .rem => ⟨k = k' ∧ b ≠ 0, .d (.int k (a.tmod b)), .none⟩
  | .and => ⟨k = k', bits2 k (· &&& ·) a b, .none⟩
  | .or => ⟨k = k', bits2 k (· ||| ·) a b, .none⟩
  | .xor => ⟨k = k', bits2 k (· ^^^ ·) a b, .none⟩
  | .andNot => ⟨k = k', bits2 k (fun x y => x &&& ~~~y) a b, .none⟩
  | .shl => ⟨0 ≤ b, .d (.int k (k.wrap (a * 2 ^ (min b.toNat k.bits)))), .none⟩
  | .shr => ⟨0 ≤ b, .d (.int k (a.fdiv (2 ^ (min b.toNat k.bits)))), .none⟩
  | .eql => ⟨k = k', .d (.bool (a == b)), .none⟩
  | .neq => ⟨k = k', .d (.bool (a != b)), .none⟩
  | .lss => ⟨k = k', .d (.bool (decide (a < b))), .none⟩
  | .leq => ⟨k = k', .d (.bool (decide (a ≤ b))), .none⟩
  | .gtr => ⟨k = k', .d (.bool (decide (a > b))), .none⟩
  | .geq => ⟨k = k', .d (.bool (decide (a ≥ b))), .none⟩

def binV (o : BinOp) (t : KT) (x y : AV) : NR := match t, x, y with
  | .int _, .d (.int k a), .d (.int k' b) => binInt o k a k' b
  | .bool, .d (.bool a), .d (.bool b) => match o with
    | .eql => ⟨True, .d (.bool (a == b)), .none⟩
    | .neq => ⟨True, .d (.bool (a != b)), .none⟩
    | _ => .no
  | .str, .d (.str a), .d (.str b) => match o with
    | .eql => ⟨True, .d (.bool (a == b)), .none⟩
    | .neq => ⟨True, .d (.bool (a != b)), .none⟩
    | .add => ⟨((a.length + b.length : Nat) : Int) ≤ 9223372036854775807, .d (.str (a ++ b)), .none⟩
    | _ => .no
  | _, _, _ => .no

def eqsV (neg : Bool) (ks : KS) (x y : AV) : NR := match x, y with
  | .d x, .d y => ⟨x.conf ks = true ∧ y.conf ks = true, .d (.bool (if neg then !(x.eqk y) else x.eqk y)), .none⟩
  | _, _ => .no

def notV : AV → NR
  | .d (.bool b) => ⟨True, .d (.bool !b), .none⟩
  | _ => .no
def negV : AV → NR
  | .d (.int k n) => ⟨True, .d (.int k (k.wrap (0 - n))), .none⟩
  | _ => .no
def convV (k : IntKind) : AV → NR
  | .d (.int _ n) => ⟨True, .d (.int k (k.wrap n)), .none⟩
  | _ => .no
def fieldAddrV (off : Nat) : AV → NR
  | .ptr id ix o => ⟨True, .ptr id ix (o + off), .none⟩
  | .fp x o => ⟨True, .fp x (o + off), .none⟩
  | _ => .no

/-- A part of a struct's cells. -/
def partD (x : DV) (off n : Nat) (agg : Bool) : DV :=
  if agg then (if off = 0 ∧ n = x.cells.length then x else .agg ((x.cells.drop off).take n)) else x.cells.getD off default
def partDOb (x : DV) (off n : Nat) (agg : Bool) : Prop :=
  off + n ≤ x.cells.length ∧ (if agg then (off = 0 ∧ n = x.cells.length → x.isAgg = true) else True)
def partA (x : AV) (off n : Nat) (agg : Bool) : AV := match x with
  | .d x => .d (partD x off n agg)
  | x => if agg then (if off = 0 ∧ n = x.cells.length then x else .mkAgg ((x.cells.drop off).take n)) else x.cells.getD off .undef
def partAOb (x : AV) (off n : Nat) (agg : Bool) : Prop := match x with
  | .d x => partDOb x off n agg
  | x => off + n ≤ x.cells.length ∧ (if agg then (off = 0 ∧ n = x.cells.length → x.isAgg = true) else True)

def loadV (G : Nat → Option Ob) (n : Nat) (agg : Bool) : AV → NR
  | .fp x o => ⟨partDOb x o n agg, .d (partD x o n agg), .none⟩
  | .ptr id ix o => match G id with
    | some (.arr _ es) => ⟨ix < es.length ∧ partAOb (es.getD ix .undef) o n agg, partA (es.getD ix .undef) o n agg, .none⟩
    | _ => .no
  | _ => .no

def fillC : List AV → List (Nat × Nat × AV) → List AV
  | cs, [] => cs
  | cs, (off, _, v) :: r => fillC (cs.take off ++ v.cells ++ cs.drop (off + v.cells.length)) r
def fillOb (n : Nat) : List (Nat × Nat × AV) → Prop
  | [] => True
  | (off, s, v) :: r => v.fits s = true ∧ off + s ≤ n ∧ fillOb n r

def litE : List AV → List (Nat × AV) → List AV
  | es, [] => es
  | es, (i, v) :: r => litE (es.set i v) r
def litOb (n sz : Nat) : List (Nat × AV) → Prop
  | [] => True
  | (i, v) :: r => i < n ∧ v.fits sz = true ∧ litOb n sz r
def litV (fresh : Nat) (sz : Nat) (z : AV) (n : Nat) (parts : List (Nat × AV)) (keep : Bool) : NR :=
  if keep then ⟨litOb n sz parts ∧ z.fits sz = true, .hs fresh 0 n sz, .obj (.arr sz (litE (List.replicate n z) parts))⟩
  else match toDL (litE (List.replicate n z) parts) with
    | some ds => ⟨litOb n sz parts ∧ z.fits sz = true, .d (.vs ds), .frozen⟩
    | none => ⟨litOb n sz parts ∧ z.fits sz = true, .hs fresh 0 n sz, .obj (.arr sz (litE (List.replicate n z) parts))⟩

def mkSliceV (fresh : Nat) (sz bytes : Nat) (z : AV) : AV → AV → NR
  | .d (.int _ n), .d (.int _ c) => ⟨0 ≤ n ∧ n ≤ c ∧ c * bytes ≤ 140737488355328 ∧ c < 9223372036854775808 ∧ z.fits sz = true, .hs fresh 0 n.toNat sz, .obj (.arr sz (List.replicate n.toNat z))⟩
  | _, _ => .no

def intOf? : Option AV → Option Int → Option Int
  | none, d => d
  | some (.d (.int _ n)), _ => some n
  | some _, _ => none

def sliceV (sz : Nat) (lo hi : Option AV) : AV → NR
  | .d (.vs xs) => match intOf? lo (some 0), intOf? hi (some xs.length) with
    | some l, some h => ⟨0 ≤ l ∧ l ≤ h ∧ h ≤ xs.length ∧ sz ≠ 0 ∧ ∀ x ∈ xs, x.fits sz = true, .d (.vs ((xs.drop l.toNat).take (h.toNat - l.toNat))), .none⟩
    | _, _ => .no
  | .hs id off len sz' => match intOf? lo (some 0), intOf? hi (some len) with
    | some l, some h => ⟨0 ≤ l ∧ l ≤ h ∧ h ≤ len ∧ sz' = sz ∧ sz ≠ 0, .hs id (off + l.toNat) (h.toNat - l.toNat) sz, .none⟩
    | _, _ => .no
  | .d (.str s) => match intOf? lo (some 0), intOf? hi (some s.length) with
    | some l, some h => ⟨0 ≤ l ∧ l ≤ h ∧ h ≤ s.length ∧ sz = 0, .d (.str ((s.drop l.toNat).take (h.toNat - l.toNat))), .none⟩
    | _, _ => .no
  | _ => .no

def idxAddrV (sz : Nat) : AV → AV → NR
  | .d (.vs xs), .d (.int _ i) => ⟨0 ≤ i ∧ i < xs.length ∧ (xs.getD i.toNat default).fits sz = true, .fp (xs.getD i.toNat default) 0, .none⟩
  | .hs id off len sz', .d (.int _ i) => ⟨sz' = sz ∧ 0 ≤ i ∧ i < len, .ptr id (off + i.toNat) 0, .none⟩
  | _, _ => .no

def idxArrV (n sz : Nat) : AV → AV → NR
  | .fp x o, .d (.int _ i) => ⟨0 ≤ i ∧ i < n, .fp x (o + i.toNat * sz), .none⟩
  | .ptr id ix o, .d (.int _ i) => ⟨0 ≤ i ∧ i < n, .ptr id ix (o + i.toNat * sz), .none⟩
  | _, _ => .no

def lookupV (G : Nat → Option Ob) (ok : Bool) (ks : KS) (z : AV) : AV → AV → NR
  | .mp id, .d k => match G id with
    | some (.map ks' es) => ⟨ks' = ks ∧ k.conf ks = true, if ok then .tup [(assocGet es k).getD z, .d (.bool (assocGet es k).isSome)] else (assocGet es k).getD z, .none⟩
    | _ => .no
  | .d .nilm, .d k => ⟨k.conf ks = true, if ok then .tup [z, .d (.bool false)] else z, .none⟩
  | .d (.fm as bs), .d k => ⟨(∀ x ∈ as, x.conf ks = true) ∧ k.conf ks = true, if ok then .tup [((fmGet as bs k).map AV.d).getD z, .d (.bool (fmGet as bs k).isSome)] else ((fmGet as bs k).map AV.d).getD z, .none⟩
  | _, _ => .no

def extractV (i : Nat) : AV → NR
  | .tup cs => ⟨i < cs.length, cs.getD i .undef, .none⟩
  | _ => .no

def lenV (G : Nat → Option Ob) : Nat → AV → NR
  | 0, .d (.vs xs) => ⟨True, .d (.int .i64 xs.length), .none⟩
  | 0, .nils => ⟨True, .d (.int .i64 0), .none⟩
  | 0, .hs _ _ len _ => ⟨True, .d (.int .i64 len), .none⟩
  | 1, .d (.str s) => ⟨True, .d (.int .i64 s.length), .none⟩
  | 2, .d .nilm => ⟨True, .d (.int .i64 0), .none⟩
  | 2, .mp id => match G id with
    | some (.map _ es) => ⟨True, .d (.int .i64 es.length), .none⟩
    | _ => .no
  | _, _ => .no

def min2V (isMin : Bool) : AV → AV → Option AV
  | .d (.int k x), .d (.int _ y) => some (.d (.int k (if isMin then (if y < x then y else x) else (if y > x then y else x))))
  | _, _ => none
def minL (isMin : Bool) : AV → List AV → Option AV
  | x, [] => some x
  | x, y :: r => (min2V isMin x y).bind fun z => minL isMin z r
def minmaxV (isMin : Bool) : List AV → NR
  | x :: r => match minL isMin x r with
    | some v => ⟨True, v, .none⟩
    | none => .no
  | [] => .no

def nilCheckV : AV → NR
  | .ptr id ix o => ⟨True, .ptr id ix o, .none⟩
  | .fp x o => ⟨True, .fp x o, .none⟩
  | .clo f c => ⟨True, .clo f c, .none⟩
  | .d (.fn f) => ⟨True, .d (.fn f), .none⟩
  | _ => .no
def mkIfaceV (t : TypeId) : AV → NR
  | .d x => ⟨True, .d (.ifc t x), .none⟩
  | x => ⟨True, .ifc t x, .none⟩
def mkFuncV (f : FuncId) : List AV → NR
  | [] => ⟨True, .d (.fn f), .none⟩
  | cs => ⟨True, .clo f cs, .none⟩

section
variable (ρ : Arg → AV) (G : Nat → Option Ob) (fresh : Nat)

def NOp.ev : NOp → NR
  | .mov x => ⟨True, ρ x, .none⟩
  | .pick _ _ _ => .no
  | .bin o t x y => binV o t (ρ x) (ρ y)
  | .eqs ng ks x y => eqsV ng ks (ρ x) (ρ y)
  | .not x => notV (ρ x)
  | .neg x => negV (ρ x)
  | .conv k x => convV k (ρ x)
  | .fieldAddr off x => fieldAddrV off (ρ x)
  | .load n agg x => loadV G n agg (ρ x)
  | .alloc sz z => ⟨z.fits sz = true, .ptr fresh 0 0, .obj (.arr sz [z])⟩
  | .box sz x => ⟨(ρ x).fits sz = true, .ptr fresh 0 0, .obj (.arr sz [ρ x])⟩
  | .build z parts => ⟨fillOb z.length (parts.map fun p => (p.1, p.2.1, ρ p.2.2)), .mkAgg (fillC z (parts.map fun p => (p.1, p.2.1, ρ p.2.2))), .none⟩
  | .lit sz z n parts keep => litV fresh sz z n (parts.map fun p => (p.1, ρ p.2)) keep
  | .mkFunc f caps => mkFuncV f (caps.map ρ)
  | .mkMap ks => ⟨True, .mp fresh, .obj (.map ks [])⟩
  | .mkSlice sz bytes z n c => mkSliceV fresh sz bytes z (ρ n) (ρ c)
  | .slice sz lo hi x => sliceV sz (lo.map ρ) (hi.map ρ) (ρ x)
  | .idxAddr sz x i => idxAddrV sz (ρ x) (ρ i)
  | .idxArr n sz x i => idxArrV n sz (ρ x) (ρ i)
  | .lookup ok ks z x k => lookupV G ok ks z (ρ x) (ρ k)
  | .extract i x => extractV i (ρ x)
  | .field off n agg x => ⟨(ρ x).isAgg = true ∧ partAOb (ρ x) off n agg, partA (ρ x) off n agg, .none⟩
  | .len k x => lenV G k (ρ x)
  | .minmax isMin xs => minmaxV isMin (xs.map ρ)
  | .nilCheck x => nilCheckV (ρ x)
  | .mkIface t x => mkIfaceV t (ρ x)
end

def NOp.args : NOp → List Arg
  | .mov x | .not x | .neg x | .conv _ x | .fieldAddr _ x | .load _ _ x | .box _ x | .extract _ x | .field _ _ _ x | .len _ x | .nilCheck x | .mkIface _ x => [x]
  | .pick _ _ _ | .alloc _ _ | .mkMap _ => []
  | .bin _ _ x y | .eqs _ _ x y | .mkSlice _ _ _ x y | .idxAddr _ x y | .idxArr _ _ x y | .lookup _ _ _ x y => [x, y]
  | .build _ ps => ps.map (·.2.2)
  | .lit _ _ _ ps _ => ps.map (·.2)
  | .mkFunc _ cs => cs
  | .slice _ lo hi x => x :: (lo.toList ++ hi.toList)
  | .minmax _ xs => xs

def argsOb (ρ : Arg → AV) : List Arg → Prop
  | [] => True
  | x :: r => (ρ x).sob ∧ argsOb ρ r

/-- An operation, its operands' conditions with it. -/
def NOp.evS (ρ : Arg → AV) (G : Nat → Option Ob) (fresh : Nat) (op : NOp) : NR := match op with
  | .pick c a b => match (ρ c).strip with
    | .d (.bool c') => ⟨(ρ c).sob ∧ (pickV c' (ρ a) (ρ b)).ob, (pickV c' (ρ a) (ρ b)).v, .none⟩
    | _ => .no
  | op => let r := op.ev (fun x => (ρ x).strip) G fresh
    ⟨argsOb ρ op.args ∧ r.ob, r.v, r.new⟩

/-- The flag of a guard: is the operation carried out? -/
def flagOf (want : Bool) : AV → Option Bool
  | .d (.bool b) => some (b == want)
  | .when c (.d (.bool b)) => some (c && b == want)
  | _ => none

/-- The state of a call: the variables that live from statement to statement, and the objects. -/
structure St where
  vars : List AV
  heap : Heap
  deriving Inhabited

def Heap.ob (H : Heap) (id : Nat) : Option Ob := (H[id]?).join
def evalA (vars env : List AV) : Arg → AV
  | .loc k => env.getD k .undef
  | .var i => vars.getD i .undef
  | .k v => v

def New.add (H : Heap) : New → Heap
  | .obj o => H ++ [some o]
  | _ => H

/-- The new value of an element, some of its cells written. -/
def updA (sz : Nat) (e : AV) (off n : Nat) (v : AV) : AV :=
  if off = 0 ∧ n = sz then v else .mkAgg (e.cells.take off ++ v.cells ++ e.cells.drop (off + n))

/-- The elements of a slice: of data, or of an object. -/
def srcE (H : Heap) (sz : Nat) : AV → Option (Prop × List AV)
  | .d (.vs xs) => some (∀ x ∈ xs, x.fits sz = true, xs.map .d)
  | .nils => some (True, [])
  | .hs id off len sz' => match H.ob id with
    | some (.arr _ es) => some (sz' = sz ∧ off + len ≤ es.length, (es.drop off).take len)
    | _ => none
  | _ => none

/-- What a call's operand may be taken for. -/
def asArg (x y : AV) : Prop := y = x ∨ y = x.norm

/-- The object's number to which a value leads. -/
def AV.rid : AV → Option Nat
  | .ptr id _ _ | .mp id | .hs id _ _ _ => some id
  | _ => none

mutual
/-- Numbers of objects, renamed. -/
def AV.ren (f : Nat → Nat) : AV → AV
  | .undef => .undef
  | .d x => .d x
  | .nils => .nils
  | .ptr id ix off => .ptr (f id) ix off
  | .hs id off len sz => .hs (f id) off len sz
  | .mp id => .mp (f id)
  | .it id => .it (f id)
  | .fp x off => .fp x off
  | .clo g caps => .clo g (renL f caps)
  | .ifc t v => .ifc t (v.ren f)
  | .agg cs => .agg (renL f cs)
  | .tup cs => .tup (renL f cs)
  | .when b v => .when b (v.ren f)
def renL (f : Nat → Nat) : List AV → List AV
  | [] => []
  | x :: r => x.ren f :: renL f r
end
def renE (f : Nat → Nat) : List (DV × AV) → List (DV × AV)
  | [] => []
  | (k, v) :: r => (k, v.ren f) :: renE f r
def Ob.ren (f : Nat → Nat) : Ob → Ob
  | .arr sz es => .arr sz (renL f es)
  | .map ks es => .map ks (renE f es)
  | .iter cur left => .iter cur left

/-- A call's numbers in its caller: those that were handed in, then new ones. -/
def renOf (ns : List Nat) (n : Nat) (i : Nat) : Nat := if i < ns.length then ns.getD i 0 else n + (i - ns.length)
/-- Where a number stands in a list. -/
def pos : List Nat → Nat → Option Nat
  | [], _ => none
  | x :: r, k => if x = k then some 0 else (pos r k).map (· + 1)
def putB (ns : List Nat) (f : Nat → Nat) (Hc : Heap) : Nat → Heap → Heap
  | _, [] => []
  | k, o :: r => (match pos ns k with
    | some i => (Hc.getD i none).map (Ob.ren f)
    | none => o) :: putB ns f Hc (k + 1) r
/-- The caller's objects behind a call: those handed in as the call left them, the call's new ones behind. -/
def putBack (ns : List Nat) (H Hc : Heap) : Heap :=
  putB ns (renOf ns H.length) Hc 0 H ++ (Hc.drop ns.length).map (Option.map (Ob.ren (renOf ns H.length)))

end Go.Vm
