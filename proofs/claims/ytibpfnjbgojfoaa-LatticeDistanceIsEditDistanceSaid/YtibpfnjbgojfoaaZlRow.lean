/- What a law of data alone comes to as a row: common parts. -/
import Derived.Test.YtibpfnjbgojfoaaZlRd
set_option linter.all false
namespace Go.Proofs.Ytibpfnjbgojfoaa
open Go Go.RowKit Go.ChangeShapes Go.WideShapes Go.ChangeAt Go.Vm Go.Vm.L

theorem gok0 {F : Nat → Prop} {w : World} : GOk F w := fun g x hm => absurd (show (g, x) ∈ ([] : List (Nat × DV)) from hm) (by simp)
theorem calls_two {f : FuncId} {x y : DV} {u v : Value} {w : World} (h : Pure prog f [.d x, .d y] (.d (.bool true))) (hx : RepD (fun b => b < w.heap.size) w x u) (hy : RepD (fun b => b < w.heap.size) w y v) :
    Calls Try.prog f #[u, v] w fun e w' => e = .returned (.bool true) ∧ Below w.heap.size w w' := by
  refine (h (fun _ => none) _ w #[u, v] (rel_nil gok0) ?_).mono ?_
  · refine ⟨rfl, fun j z t hz ht => ?_⟩
    match j, hz, ht with
    | 0, hz, ht => simp at hz ht; subst hz; subst ht; exact .d _ _ hx
    | 1, hz, ht => simp at hz ht; subst hz; subst ht; exact .d _ _ hy
  · rintro e w' ⟨r, H', q, μ', F', rfl, ⟨rfl, rfl⟩, hr, hp⟩
    refine ⟨?_, below_of_post hp⟩
    cases hr with
    | d x v h => cases h; rfl

theorem shut_bool {H : Type} {enc : TypeId × Value → H} {w : World} {base : Nat} {spare : Nat → Bool} {held : Bool} {b : Bool} : DataW.Trod enc Try.prog w base spare held 4 (.bool b) (.lit (.bool b)) [] :=
  ⟨1, by simp [DataW.trod, Try.underlying4, Value.cells]⟩
theorem Try.own : ownKnob Try.prog.godebug = none := by kernel_rfl
theorem Try.laidOut : laidOutB Try.prog = true := by kernel_rfl

theorem calls_one {f : FuncId} {x : DV} {u : Value} {w : World} (h : Pure prog f [.d x] (.d (.bool true))) (hx : RepD (fun b => b < w.heap.size) w x u) :
    Calls Try.prog f #[u] w fun e w' => e = .returned (.bool true) ∧ Below w.heap.size w w' := by
  refine (h (fun _ => none) _ w #[u] (rel_nil gok0) ?_).mono ?_
  · refine ⟨rfl, fun j z t hz ht => ?_⟩
    match j, hz, ht with
    | 0, hz, ht => simp at hz ht; subst hz; subst ht; exact .d _ _ hx
  · rintro e w' ⟨r, H', q, μ', F', rfl, ⟨rfl, rfl⟩, hr, hp⟩
    refine ⟨?_, below_of_post hp⟩
    cases hr with
    | d x v h => cases h; rfl
set_option maxRecDepth 100000 in
theorem op_u8 {H : Type} {enc : TypeId × Value → H} {w : World} {base : Nat} {spare : Nat → Bool} {held : Bool} {d : DataW H} {v : Value} {ps : List MemPlace} {r : Reach} {b0 : Nat} (hval : Value.okWide Try.prog w r b0 5 v) (h : DataW.Trod enc Try.prog w base spare held 5 v d ps) :
    ∃ n : Int, (0 ≤ n ∧ n < 256) ∧ RepD (fun b => b < w.heap.size) w (.int .u8 n) v := by
  obtain ⟨n, rfl, _, _, hw⟩ := open_int Try.underlying5 hval h
  simp [Lit.wf, IntKind.min, IntKind.max, IntKind.signed, IntKind.bits] at hw
  exact ⟨n, by omega, .int _ _⟩
end Go.Proofs.Ytibpfnjbgojfoaa
