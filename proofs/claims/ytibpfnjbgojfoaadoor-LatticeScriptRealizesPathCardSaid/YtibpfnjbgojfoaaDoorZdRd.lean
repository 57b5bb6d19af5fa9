/- The rows' types as data, and what a law of data alone comes to as a row. -/
import Derived.Test.YtibpfnjbgojfoaaDoorZdS5
import Derived.Test.YtibpfnjbgojfoaaDoorZdG
import Derived.Test.YtibpfnjbgojfoaaDoorV8
import Derived.Test.YtibpfnjbgojfoaaDoorRows
import Derived.ProofKit
import Derived.LaidMore
set_option linter.all false
set_option maxRecDepth 10000
namespace Go.Vm.L
open Go Go.Vm Go.RowKit Go.ChangeShapes Go.WideShapes Go.Proofs

theorem rdI : Rd Tryd.prog 3 dI := rd_int Tryd.underlying3
theorem rdIs : Rd Tryd.prog 23 (fun l : List Int => .vs (l.map dI)) := rd_slice Tryd.underlying23 (sz := 1) (by kernel_rfl) (by decide) (fun a => rfl) rdI

theorem rdCol : Rd Tryd.prog 50 dCol := by
  intro H enc w base spare held fuel cs x h
  obtain ⟨hl, hf⟩ := rd_fields Tryd.underlying50 (by kernel_rfl) (fun i f hi => by
    match i, hi with
    | 0, hi => simp at hi; subst hi; exact ⟨rfl, by kernel_rfl⟩
    | 1, hi => simp at hi; subst hi; exact ⟨rfl, by kernel_rfl⟩
    | 2, hi => simp at hi; subst hi; exact ⟨rfl, by kernel_rfl⟩) h
  obtain ⟨u0, n0, y0, h0, t0⟩ := hf 0 _ rfl
  obtain ⟨u1, n1, y1, h1, t1⟩ := hf 1 _ rfl
  obtain ⟨u2, n2, y2, h2, t2⟩ := hf 2 _ rfl
  obtain ⟨a0, r0⟩ := rdI.one (fun _ => rfl) t0
  obtain ⟨a1, r1⟩ := rdIs.one (fun _ => rfl) t1
  obtain ⟨a2, r2⟩ := rdI.one (fun _ => rfl) t2
  match cs, hl with
  | [v0, v1, v2], _ =>
    simp at h0 h1 h2
    subst h0; subst h1; subst h2
    exact ⟨⟨a0, a1, a2⟩, Cs.cons r0 (Cs.cons r1 (Cs.cons r2 Cs.nil))⟩
theorem rdCols : Rd Tryd.prog 22 (fun l : List Col => .vs (l.map dCol)) := rd_slice Tryd.underlying22 (sz := 3) (by kernel_rfl) (by decide) (fun a => rfl) rdCol

theorem rdInp : Rd Tryd.prog 25 dInp := by
  intro H enc w base spare held fuel cs x h
  obtain ⟨hl, hf⟩ := rd_fields Tryd.underlying25 (by kernel_rfl) (fun i f hi => by
    match i, hi with
    | 0, hi => simp at hi; subst hi; exact ⟨rfl, by kernel_rfl⟩
    | 1, hi => simp at hi; subst hi; exact ⟨rfl, by kernel_rfl⟩
    | 2, hi => simp at hi; subst hi; exact ⟨rfl, by kernel_rfl⟩) h
  obtain ⟨u0, n0, y0, h0, t0⟩ := hf 0 _ rfl
  obtain ⟨u1, n1, y1, h1, t1⟩ := hf 1 _ rfl
  obtain ⟨u2, n2, y2, h2, t2⟩ := hf 2 _ rfl
  obtain ⟨a0, r0⟩ := rdCols.one (fun _ => rfl) t0
  obtain ⟨a1, r1⟩ := rdIs.one (fun _ => rfl) t1
  obtain ⟨a2, r2⟩ := rdI.one (fun _ => rfl) t2
  match cs, hl with
  | [v0, v1, v2], _ =>
    simp at h0 h1 h2
    subst h0; subst h1; subst h2
    exact ⟨⟨a0, a1, a2⟩, Cs.cons r0 (Cs.cons r1 (Cs.cons r2 Cs.nil))⟩

abbrev U8 := {n : Int // 0 ≤ n ∧ n < 256}
theorem rdU : Rd Tryd.prog 5 (fun n : U8 => .int .u8 n.1) := by
  intro H enc w base spare held fuel cs x h
  obtain ⟨n, rfl, _, hw⟩ := DataW.trod_int Tryd.underlying5 h
  simp [Lit.wf, IntKind.min, IntKind.max, IntKind.signed, IntKind.bits] at hw
  exact ⟨⟨n, by omega⟩, Cs.cons (.int .u8 n) Cs.nil⟩
theorem rdUs : Rd Tryd.prog 26 (fun l : List U8 => .vs (l.map fun n : U8 => .int .u8 n.1)) := rd_slice Tryd.underlying26 (sz := 1) (by kernel_rfl) (by decide) (fun a => rfl) rdU

section
variable {α : Type} {H : Type} {enc : TypeId × Value → H} {w : World} {base : Nat} {spare : Nat → Bool} {held : Bool} {d : DataW H} {v : Value} {ps : List MemPlace}
theorem op_agg {g : α → DV} {t : TypeId} {fs : Array Field} {r : Reach} {b0 : Nat} (hu : Tryd.prog.underlying t = some (.struct fs)) (hg : ∀ a, ∃ cs, g a = .agg cs) (hr : Rd Tryd.prog t g) (hval : Value.okWide Tryd.prog w r b0 t v) (h : DataW.Trod enc Tryd.prog w base spare held t v d ps) :
    ∃ a, RepD (fun b => b < w.heap.size) w (g a) v := by
  obtain ⟨us, rfl, _⟩ := okWide_struct hu hval
  obtain ⟨fuel, hx⟩ := h
  obtain ⟨a, ha⟩ := hr _ _ _ _ _ _ _ _ _ hx
  obtain ⟨cs, hcs⟩ := hg a
  refine ⟨a, ?_⟩
  rw [hcs] at ha ⊢
  refine .agg cs us ha.1 fun i x u hi hu => ha.2 i x u hi ?_
  show us.toList[i]? = some u
  rw [Array.getElem?_toList]; exact hu
theorem op_one {g : α → DV} {t : TypeId} (hg : ∀ a, (g a).cells = [g a]) (hc : v.cells = #[v]) (hr : Rd Tryd.prog t g) (h : DataW.Trod enc Tryd.prog w base spare held t v d ps) :
    ∃ a, RepD (fun b => b < w.heap.size) w (g a) v := by
  obtain ⟨fuel, hx⟩ := h
  rw [hc] at hx
  exact hr.one hg hx
theorem op_inp {r : Reach} {b0 : Nat} (hval : Value.okWide Tryd.prog w r b0 25 v) (h : DataW.Trod enc Tryd.prog w base spare held 25 v d ps) : ∃ a, RepD (fun b => b < w.heap.size) w (dInp a) v :=
  op_agg Tryd.underlying25 (fun a => ⟨_, rfl⟩) rdInp hval h
theorem op_ints {r : Reach} {b0 : Nat} (hval : Value.okWide Tryd.prog w r b0 23 v) (h : DataW.Trod enc Tryd.prog w base spare held 23 v d ps) : ∃ l : List Int, RepD (fun b => b < w.heap.size) w (.vs (l.map dI)) v := by
  obtain ⟨a, len, cap, rfl⟩ := okWide_slice Tryd.underlying23 hval
  exact op_one (fun _ => rfl) rfl rdIs h
theorem op_u8s {r : Reach} {b0 : Nat} (hval : Value.okWide Tryd.prog w r b0 26 v) (h : DataW.Trod enc Tryd.prog w base spare held 26 v d ps) : ∃ l : List Int, (∀ t ∈ l, 0 ≤ t ∧ t < 256) ∧ RepD (fun b => b < w.heap.size) w (.vs (l.map dU)) v := by
  obtain ⟨a, len, cap, rfl⟩ := okWide_slice Tryd.underlying26 hval
  obtain ⟨l, hl⟩ := op_one (fun _ => rfl) rfl rdUs h
  refine ⟨l.map (·.1), fun t ht => ?_, ?_⟩
  · obtain ⟨n, _, rfl⟩ := List.mem_map.1 ht
    exact n.2
  · rw [List.map_map]; exact hl
end
end Go.Vm.L
