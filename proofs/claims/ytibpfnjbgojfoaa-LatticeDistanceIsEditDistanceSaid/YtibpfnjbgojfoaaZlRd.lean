/- The rows' types as data, and what a law of data alone comes to as a row. -/
import Derived.Test.YtibpfnjbgojfoaaZlG
import Derived.Test.YtibpfnjbgojfoaaZlL
import Derived.Test.YtibpfnjbgojfoaaV8
import Derived.Test.YtibpfnjbgojfoaaRows
set_option linter.all false
set_option maxRecDepth 10000
namespace Go.Vm.L
open Go Go.Vm Go.RowKit Go.ChangeShapes Go.WideShapes Go.Proofs

theorem rdI : Rd Try.prog 3 dI := rd_int Try.underlying3
theorem rdIs : Rd Try.prog 23 (fun l : List Int => .vs (l.map dI)) := rd_slice Try.underlying23 (sz := 1) (by kernel_rfl) (by decide) (fun a => rfl) rdI

theorem rdOp : Rd Try.prog 52 dOp := by
  intro H enc w base spare held fuel cs x h
  obtain ⟨hl, hf⟩ := rd_fields Try.underlying52 (by kernel_rfl) (fun i f hi => by
    match i, hi with
    | 0, hi => simp at hi; subst hi; exact ⟨rfl, by kernel_rfl⟩
    | 1, hi => simp at hi; subst hi; exact ⟨rfl, by kernel_rfl⟩) h
  obtain ⟨u0, n0, y0, h0, t0⟩ := hf 0 _ rfl
  obtain ⟨u1, n1, y1, h1, t1⟩ := hf 1 _ rfl
  obtain ⟨a0, r0⟩ := rdI.one (fun _ => rfl) t0
  obtain ⟨a1, r1⟩ := rdI.one (fun _ => rfl) t1
  match cs, hl with
  | [v0, v1], _ =>
    simp at h0 h1
    subst h0; subst h1
    exact ⟨⟨a0, a1⟩, Cs.cons r0 (Cs.cons r1 Cs.nil)⟩
theorem rdOps : Rd Try.prog 38 (fun l : List Op => .vs (l.map dOp)) := rd_slice Try.underlying38 (sz := 2) (by kernel_rfl) (by decide) (fun a => rfl) rdOp

theorem rdArc : Rd Try.prog 45 dArc := by
  intro H enc w base spare held fuel cs x h
  obtain ⟨hl, hf⟩ := rd_fields Try.underlying45 (by kernel_rfl) (fun i f hi => by
    match i, hi with
    | 0, hi => simp at hi; subst hi; exact ⟨rfl, by kernel_rfl⟩
    | 1, hi => simp at hi; subst hi; exact ⟨rfl, by kernel_rfl⟩
    | 2, hi => simp at hi; subst hi; exact ⟨rfl, by kernel_rfl⟩
    | 3, hi => simp at hi; subst hi; exact ⟨rfl, by kernel_rfl⟩
    | 4, hi => simp at hi; subst hi; exact ⟨rfl, by kernel_rfl⟩) h
  obtain ⟨u0, n0, y0, h0, t0⟩ := hf 0 _ rfl
  obtain ⟨u1, n1, y1, h1, t1⟩ := hf 1 _ rfl
  obtain ⟨u2, n2, y2, h2, t2⟩ := hf 2 _ rfl
  obtain ⟨u3, n3, y3, h3, t3⟩ := hf 3 _ rfl
  obtain ⟨u4, n4, y4, h4, t4⟩ := hf 4 _ rfl
  obtain ⟨a0, r0⟩ := rdI.one (fun _ => rfl) t0
  obtain ⟨a1, r1⟩ := rdI.one (fun _ => rfl) t1
  obtain ⟨a2, r2⟩ := rdI.one (fun _ => rfl) t2
  obtain ⟨a3, r3⟩ := rdI.one (fun _ => rfl) t3
  obtain ⟨a4, r4⟩ := rdOps.one (fun _ => rfl) t4
  match cs, hl with
  | [v0, v1, v2, v3, v4], _ =>
    simp at h0 h1 h2 h3 h4
    subst h0; subst h1; subst h2; subst h3; subst h4
    exact ⟨⟨a0, a1, a2, a3, a4⟩, Cs.cons r0 (Cs.cons r1 (Cs.cons r2 (Cs.cons r3 (Cs.cons r4 Cs.nil))))⟩
theorem rdArcs : Rd Try.prog 28 (fun l : List Arc => .vs (l.map dArc)) := rd_slice Try.underlying28 (sz := 5) (by kernel_rfl) (by decide) (fun a => rfl) rdArc

theorem rdCol : Rd Try.prog 49 dCol := by
  intro H enc w base spare held fuel cs x h
  obtain ⟨hl, hf⟩ := rd_fields Try.underlying49 (by kernel_rfl) (fun i f hi => by
    match i, hi with
    | 0, hi => simp at hi; subst hi; exact ⟨rfl, by kernel_rfl⟩
    | 1, hi => simp at hi; subst hi; exact ⟨rfl, by kernel_rfl⟩
    | 2, hi => simp at hi; subst hi; exact ⟨rfl, by kernel_rfl⟩) h
  obtain ⟨u0, n0, y0, h0, t0⟩ := hf 0 _ rfl
  obtain ⟨u1, n1, y1, h1, t1⟩ := hf 1 _ rfl
  obtain ⟨u2, n2, y2, h2, t2⟩ := hf 2 _ rfl
  obtain ⟨a0, r0⟩ := rdI.one (fun _ => rfl) t0
  obtain ⟨a1, r1⟩ := rdIs.one (fun _ => rfl) t1
  obtain ⟨a2, r2⟩ := rdI.one (fun _ => rfl) t2
  match cs, hl with
  | [v0, v1, v2], _ =>
    simp at h0 h1 h2
    subst h0; subst h1; subst h2
    exact ⟨⟨a0, a1, a2⟩, Cs.cons r0 (Cs.cons r1 (Cs.cons r2 Cs.nil))⟩
theorem rdCols : Rd Try.prog 22 (fun l : List Col => .vs (l.map dCol)) := rd_slice Try.underlying22 (sz := 3) (by kernel_rfl) (by decide) (fun a => rfl) rdCol

theorem rdInp : Rd Try.prog 25 dInp := by
  intro H enc w base spare held fuel cs x h
  obtain ⟨hl, hf⟩ := rd_fields Try.underlying25 (by kernel_rfl) (fun i f hi => by
    match i, hi with
    | 0, hi => simp at hi; subst hi; exact ⟨rfl, by kernel_rfl⟩
    | 1, hi => simp at hi; subst hi; exact ⟨rfl, by kernel_rfl⟩
    | 2, hi => simp at hi; subst hi; exact ⟨rfl, by kernel_rfl⟩) h
  obtain ⟨u0, n0, y0, h0, t0⟩ := hf 0 _ rfl
  obtain ⟨u1, n1, y1, h1, t1⟩ := hf 1 _ rfl
  obtain ⟨u2, n2, y2, h2, t2⟩ := hf 2 _ rfl
  obtain ⟨a0, r0⟩ := rdCols.one (fun _ => rfl) t0
  obtain ⟨a1, r1⟩ := rdIs.one (fun _ => rfl) t1
  obtain ⟨a2, r2⟩ := rdI.one (fun _ => rfl) t2
  match cs, hl with
  | [v0, v1, v2], _ =>
    simp at h0 h1 h2
    subst h0; subst h1; subst h2
    exact ⟨⟨a0, a1, a2⟩, Cs.cons r0 (Cs.cons r1 (Cs.cons r2 Cs.nil))⟩

theorem rdLat : Rd Try.prog 30 dLat := by
  intro H enc w base spare held fuel cs x h
  obtain ⟨hl, hf⟩ := rd_fields Try.underlying30 (by kernel_rfl) (fun i f hi => by
    match i, hi with
    | 0, hi => simp at hi; subst hi; exact ⟨rfl, by kernel_rfl⟩
    | 1, hi => simp at hi; subst hi; exact ⟨rfl, by kernel_rfl⟩
    | 2, hi => simp at hi; subst hi; exact ⟨rfl, by kernel_rfl⟩) h
  obtain ⟨u0, n0, y0, h0, t0⟩ := hf 0 _ rfl
  obtain ⟨u1, n1, y1, h1, t1⟩ := hf 1 _ rfl
  obtain ⟨u2, n2, y2, h2, t2⟩ := hf 2 _ rfl
  obtain ⟨a0, r0⟩ := rdI.one (fun _ => rfl) t0
  obtain ⟨a1, r1⟩ := rdArcs.one (fun _ => rfl) t1
  obtain ⟨a2, r2⟩ := rdIs.one (fun _ => rfl) t2
  match cs, hl with
  | [v0, v1, v2], _ =>
    simp at h0 h1 h2
    subst h0; subst h1; subst h2
    exact ⟨⟨a0, a1, a2⟩, Cs.cons r0 (Cs.cons r1 (Cs.cons r2 Cs.nil))⟩

section
variable {α : Type} {H : Type} {enc : TypeId × Value → H} {w : World} {base : Nat} {spare : Nat → Bool} {held : Bool} {d : DataW H} {v : Value} {ps : List MemPlace}
theorem op_agg {g : α → DV} {t : TypeId} {fs : Array Field} {r : Reach} {b0 : Nat} (hu : Try.prog.underlying t = some (.struct fs)) (hg : ∀ a, ∃ cs, g a = .agg cs) (hr : Rd Try.prog t g) (hval : Value.okWide Try.prog w r b0 t v) (h : DataW.Trod enc Try.prog w base spare held t v d ps) :
    ∃ a, RepD (fun b => b < w.heap.size) w (g a) v := by
  obtain ⟨us, rfl, _⟩ := okWide_struct hu hval
  obtain ⟨fuel, hx⟩ := h
  obtain ⟨a, ha⟩ := hr _ _ _ _ _ _ _ _ _ hx
  obtain ⟨cs, hcs⟩ := hg a
  refine ⟨a, ?_⟩
  rw [hcs] at ha ⊢
  refine .agg cs us ha.1 fun i x u hi hu => ha.2 i x u hi ?_
  show us.toList[i]? = some u
  rw [Array.getElem?_toList]; exact hu
theorem op_one {g : α → DV} {t : TypeId} (hg : ∀ a, (g a).cells = [g a]) (hc : v.cells = #[v]) (hr : Rd Try.prog t g) (h : DataW.Trod enc Try.prog w base spare held t v d ps) :
    ∃ a, RepD (fun b => b < w.heap.size) w (g a) v := by
  obtain ⟨fuel, hx⟩ := h
  rw [hc] at hx
  exact hr.one hg hx
theorem op_lat {r : Reach} {b0 : Nat} (hval : Value.okWide Try.prog w r b0 30 v) (h : DataW.Trod enc Try.prog w base spare held 30 v d ps) : ∃ a, RepD (fun b => b < w.heap.size) w (dLat a) v :=
  op_agg Try.underlying30 (fun a => ⟨_, rfl⟩) rdLat hval h
theorem op_inp {r : Reach} {b0 : Nat} (hval : Value.okWide Try.prog w r b0 25 v) (h : DataW.Trod enc Try.prog w base spare held 25 v d ps) : ∃ a, RepD (fun b => b < w.heap.size) w (dInp a) v :=
  op_agg Try.underlying25 (fun a => ⟨_, rfl⟩) rdInp hval h
theorem op_ints {r : Reach} {b0 : Nat} (hval : Value.okWide Try.prog w r b0 23 v) (h : DataW.Trod enc Try.prog w base spare held 23 v d ps) : ∃ l : List Int, RepD (fun b => b < w.heap.size) w (.vs (l.map dI)) v := by
  obtain ⟨a, len, cap, rfl⟩ := okWide_slice Try.underlying23 hval
  exact op_one (fun _ => rfl) rfl rdIs h
theorem op_int {r : Reach} {b0 : Nat} (hval : Value.okWide Try.prog w r b0 3 v) (h : DataW.Trod enc Try.prog w base spare held 3 v d ps) : ∃ n : Int, RepD (fun b => b < w.heap.size) w (.int .i64 n) v := by
  obtain ⟨n, rfl, _, _, _⟩ := open_int Try.underlying3 hval h
  exact ⟨n, .int _ _⟩
end
end Go.Vm.L
