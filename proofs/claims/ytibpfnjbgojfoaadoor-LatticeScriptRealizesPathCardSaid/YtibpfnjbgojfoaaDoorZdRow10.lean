/- The law of scripts that realize their path, as a row; its tied card. -/
import Derived.Test.YtibpfnjbgojfoaaDoorZdRd
import Derived.Test.YtibpfnjbgojfoaaDoorZdZ
import Derived.Test.YtibpfnjbgojfoaaDoorTie
import Derived.Test.YtibpfnjbgojfoaaDoorCards
import Derived.ProofKit
import Derived.LaidMore
import Derived.OpenShut
import Derived.Stop.Joined
import Derived.SevenTiedAt
set_option linter.all false
namespace Go.Proofs.YtibpfnjbgojfoaaDoor
open Go Go.RowKit Go.ChangeShapes Go.WideShapes Go.ChangeAt Go.Vm Go.Vm.L

theorem Tryd.own : ownKnob Tryd.prog.godebug = none := by kernel_rfl
theorem Tryd.laidOut : laidOutB Tryd.prog = true := by kernel_rfl
theorem gActs : Tryd.prog.globalNamed "emendate/editscript.actions" = some 0 := by kernel_rfl
theorem tActs : (Tryd.prog.globals[0]?).map (·.type) = some 92 := by kernel_rfl
theorem cells91 : Tryd.prog.cellsOf 91 = 1 := by kernel_rfl
theorem cells92 : Tryd.prog.cellsOf 92 = 5 := by kernel_rfl
abbrev laid1 : List (String × DataW Unit) := [("emendate/editscript.actions", Rows.laid_emendate_editscript_actions)]

theorem nilf_of_trod {P : Program} {w : World} {H : Type} {enc : TypeId × Value → H} {base : Nat} {sp : Nat → Bool} {held : Bool} {fuel : Nat} {t : TypeId} {ps rs : Array TypeId} {va : Bool} {v : Value} {q : List MemPlace}
    (ht : P.underlying t = some (.func ps rs va)) (h : DataW.trod enc P w base sp held fuel t [v] = some (.nil, q)) : v = .nilFunc := by
  cases fuel with
  | zero => simp [DataW.trod] at h
  | succ n => cases v <;> simp [DataW.trod, ht] at h; rfl

/-- What the condition gives: the table of functions. -/
theorem gok_of_laid {W : World} (h : laidMetH Tryd.prog laid1 W) : GOk (fun b => b < W.heap.size) W := by
  obtain ⟨g, t, cs, fuel, p, hg, ht, hv, hd⟩ := h.funcs (List.mem_singleton.2 rfl)
  obtain rfl := Option.some.inj (gActs.symm.trans hg)
  obtain rfl := Option.some.inj (tActs.symm.trans ht)
  obtain ⟨xs, m, _, hx, hl, hxl, hel⟩ := DataW.trod_array Tryd.underlying92 hd
  rw [cells92] at hl
  rw [cells91] at hel
  have hc : ∀ j, W.cell? ⟨0, j, none⟩ = cs[j]? := World.var?_cell hg hv
  have hds : xs.map (·.1) = [.nil, .held [40, 42, 101, 109, 101, 110, 100, 97, 116, 101, 47, 101, 100, 105, 116, 115, 99, 114, 105, 112, 116, 46, 115, 116, 97, 116, 101, 41, 46, 114, 101, 97, 100], .held [40, 42, 101, 109, 101, 110, 100, 97, 116, 101, 47, 101, 100, 105, 116, 115, 99, 114, 105, 112, 116, 46, 115, 116, 97, 116, 101, 41, 46, 114, 101, 109, 111, 118, 101], .held [40, 42, 101, 109, 101, 110, 100, 97, 116, 101, 47, 101, 100, 105, 116, 115, 99, 114, 105, 112, 116, 46, 115, 116, 97, 116, 101, 41, 46, 105, 110, 115, 101, 114, 116], .held [40, 42, 101, 109, 101, 110, 100, 97, 116, 101, 47, 101, 100, 105, 116, 115, 99, 114, 105, 112, 116, 46, 115, 116, 97, 116, 101, 41, 46, 115, 119, 97, 112]] := by
    have h1 := congrArg Prod.fst hx
    simp only at h1
    exact (DataW.agg.inj h1).symm
  have hcs : cs.size = 5 := by simpa using hl
  have cell : ∀ i d, i < 5 → (xs.map (·.1))[i]? = some d → ∃ v q, cs[i]? = some v ∧ DataW.trod (funcToken Tryd.prog) Tryd.prog W 0 (fun _ => true) true m 91 [v] = some (d, q) := by
    intro i d hi hd
    rw [List.getElem?_map] at hd
    obtain ⟨y, hy, rfl⟩ := Option.map_eq_some_iff.1 hd
    have h1 := hel i hi
    rw [hy, Nat.mul_one] at h1
    have h4 : (cs.toList.drop i).take 1 = [cs[i]'(by omega)] := by
      rw [List.drop_eq_getElem_cons (by simp; omega)]; simp
    rw [h4] at h1
    exact ⟨cs[i]'(by omega), y.2, by rw [Array.getElem?_eq_getElem], h1⟩
  obtain ⟨v0, q0, c0, e0⟩ := cell 0 _ (by omega) (by rw [hds]; rfl)
  obtain ⟨v1, q1, c1, e1⟩ := cell 1 _ (by omega) (by rw [hds]; rfl)
  obtain ⟨v2, q2, c2, e2⟩ := cell 2 _ (by omega) (by rw [hds]; rfl)
  obtain ⟨v3, q3, c3, e3⟩ := cell 3 _ (by omega) (by rw [hds]; rfl)
  obtain ⟨v4, q4, c4, e4⟩ := cell 4 _ (by omega) (by rw [hds]; rfl)
  obtain rfl := nilf_of_trod Tryd.underlying91 e0
  obtain rfl := func_of_trod (f0 := 80) Tryd.underlying91 (by kernel_rfl) e1
  obtain rfl := func_of_trod (f0 := 81) Tryd.underlying91 (by kernel_rfl) e2
  obtain rfl := func_of_trod (f0 := 82) Tryd.underlying91 (by kernel_rfl) e3
  obtain rfl := func_of_trod (f0 := 83) Tryd.underlying91 (by kernel_rfl) e4
  have b0 : 0 < W.heap.size := by
    have h0 := (hc 0).trans c0
    rw [World.cell?] at h0
    split at h0
    · rename_i hb
      exact (Array.getElem?_eq_some_iff.1 hb).1
    · cases h0
  intro g x hm
  rw [show (Gl.tab : List (Nat × DV)) = [(0, .agg [.nilf, .fn 80, .fn 81, .fn 82, .fn 83])] from rfl, List.mem_singleton] at hm
  cases hm
  obtain ⟨f, hf⟩ : ∃ f : Nat → Value, ∀ j v, cs[j]? = some v → f j = v := ⟨fun j => (cs[j]?).getD .nilFunc, fun j v h => by simp [h]⟩
  refine ⟨b0, f, fun j y hy => ?_⟩
  match j, hy with
  | 0, hy => simp [DV.cells] at hy; subst hy; exact ⟨by rw [hc, c0, hf 0 _ c0], by rw [hf 0 _ c0]; exact .nilf⟩
  | 1, hy => simp [DV.cells] at hy; subst hy; exact ⟨by rw [hc, c1, hf 1 _ c1], by rw [hf 1 _ c1]; exact .fn 80⟩
  | 2, hy => simp [DV.cells] at hy; subst hy; exact ⟨by rw [hc, c2, hf 2 _ c2], by rw [hf 2 _ c2]; exact .fn 81⟩
  | 3, hy => simp [DV.cells] at hy; subst hy; exact ⟨by rw [hc, c3, hf 3 _ c3], by rw [hf 3 _ c3]; exact .fn 82⟩
  | 4, hy => simp [DV.cells] at hy; subst hy; exact ⟨by rw [hc, c4, hf 4 _ c4], by rw [hf 4 _ c4]; exact .fn 83⟩
  | n + 5, hy => simp [DV.cells] at hy

theorem calls_two {f : FuncId} {x y : DV} {u v : Value} {w : World} (hg : GOk (fun b => b < w.heap.size) w) (h : Pure prog f [.d x, .d y] (.d (.bool true))) (hx : RepD (fun b => b < w.heap.size) w x u) (hy : RepD (fun b => b < w.heap.size) w y v) :
    Calls Tryd.prog f #[u, v] w fun e w' => e = .returned (.bool true) ∧ Below w.heap.size w w' := by
  refine (h (fun _ => none) _ w #[u, v] (rel_nil hg) ?_).mono ?_
  · refine ⟨rfl, fun j z t hz ht => ?_⟩
    match j, hz, ht with
    | 0, hz, ht => simp at hz ht; subst hz; subst ht; exact .d _ _ hx
    | 1, hz, ht => simp at hz ht; subst hz; subst ht; exact .d _ _ hy
  · rintro e w' ⟨r, H', q, μ', F', rfl, ⟨rfl, rfl⟩, hr, hp⟩
    refine ⟨?_, below_of_post hp⟩
    cases hr with
    | d x v h => cases h; rfl
theorem shut_bool4 {H : Type} {enc : TypeId × Value → H} {w : World} {base : Nat} {spare : Nat → Bool} {held : Bool} {b : Bool} : DataW.Trod enc Tryd.prog w base spare held 4 (.bool b) (.lit (.bool b)) [] :=
  ⟨1, by simp [DataW.trod, Tryd.underlying4, Value.cells]⟩

theorem door_met (os : Os) (args : Array Value) : laidMetH Tryd.prog laid1 ((World.doorLaid Tryd.prog 600 os).forCall (fun _ _ => 0) ⟨#[], args, []⟩).memory :=
  laidMetH_of_parts3 (fuel := 8) (laidMet_of_run' 8 (by kernel_rfl) (by kernel_rfl)) (by kernel_rfl) (by kernel_rfl)

set_option maxRecDepth 100000 in
theorem lifted (os : Os) (started : os.Started) (H : Type) (enc : TypeId × Value → H) :
    ReturnsInHanded {} Tryd.checked os 3 .any (fun w args => (Rows.latticeScriptRealizesPathSpec.pre enc Tryd.prog Tryd.f3 [] false w args ∧ laidMetH Tryd.prog laid1 w) ∧ sizedMet enc Tryd.prog Tryd.f3 (OpenSpec.ofChange Rows.latticeScriptRealizesPathSpec) false w args)
      (Rows.latticeScriptRealizesPathSpec.post enc Tryd.prog Tryd.f3 false true false false) := by
  refine returnsInHanded_of_change_and (C := Tryd.checked) (X := fun w _ => laidMetH Tryd.prog laid1 w) (fun _ _ _ hh h => h.of_heap hh) Tryd.own started (by kernel_rfl) Tryd.func3
    (ChangeSpec.witness_shaped (enc := enc) (C := Tryd.checked) (os := os) (X := fun w _ => laidMetH Tryd.prog laid1 w) false (World.doorLaid Tryd.prog 600 os) #[.agg #[.slice none 0 0, .slice none 0 0, .int .i64 0], .slice none 0 0] 8 rfl (World.shaped_of_RefB (by kernel_rfl) (by kernel_rfl)) (by kernel_rfl) (by kernel_rfl) (by kernel_rfl) (door_met os _)) ?_
  intro W base args ds gs before hval0 hW _ _ hL _
  have hval : ∀ (j : Nat) t v, Tryd.f3.params[j]? = some t → args[j]? = some v → Value.okWide Tryd.prog W .any base t v := hval0
  have hW' := hW
  obtain ⟨p, q, hA0, hV, rfl, hfz, hnd⟩ := hW
  have hA : DataW.TrodAll enc Tryd.prog W 0 (fun _ => true) true Tryd.f3.params.toList args.toList ds p := hA0
  rw [Tryd.params3] at hA hval
  obtain ⟨v0, v1, d0, d1, p0, p1, rfl, rfl, rfl, h0, h1⟩ := trodAll_two hA
  obtain ⟨rfl, rfl⟩ := trodVars_none hV
  obtain ⟨a0, r0⟩ := op_inp (hval 0 25 v0 rfl rfl) h0
  obtain ⟨a1, b1, r1⟩ := op_u8s (hval 1 26 v1 rfl rfl) h1
  have hg := gok_of_laid hL
  have hlt := hW'.lt
  clear hA0 hval0
  refine (calls_two hg (law3 a0 a1 b1) r0 r1).mono fun e W' ⟨he, hb⟩ => ?_
  subst he
  refine ⟨_, rfl, [d0, d1], [], _, [], p0 ++ p1, [], hW', ?_, ?_, rfl, Below.frame hb _, fun h => by cases h⟩
  · exact trodAll_mk1 shut_bool4
  · exact trodAll_mk2 (Below.trod Tryd.laidOut (by kernel_rfl) (of_decide_eq_true (by kernel_rfl)) h0 hb (fun x hx => hlt x (by simp [hx])))
      (Below.trod Tryd.laidOut (by kernel_rfl) (of_decide_eq_true (by kernel_rfl)) h1 hb (fun x hx => hlt x (by simp [hx])))

theorem f_holds : Rows.LatticeScriptRealizesPathSaid :=
  OpenClaim.holds_of_wide 3 Tryd.f3 rfl rfl rfl rfl rfl rfl rfl ⟨rfl, rfl, rfl, rfl, rfl⟩ rfl rfl rfl rfl rfl (by kernel_rfl) Tryd.func3 (by kernel_rfl)
    (of_decide_eq_true (by kernel_rfl)) (by unfold Func.isWrapper; first | (rw [if_pos (by decide +kernel)]; kernel_rfl) | (rw [if_neg (by decide +kernel)]; exact ⟨rfl, rfl⟩))
    (fun os started H enc _ => lifted os started H enc)

theorem law10_holds : Rows.LatticeScriptRealizesPathCardSaid :=
  Claim7.holds_tied_plain_at .later [] [.funcs] true (true, "a0fcfab833f870a2ccc192b45f90b330c089c6c8fe25453159927b54624e59de") false
    f_holds (fun _ h => by cases h) (by kernel_rfl) (fun _ h => by cases h) latticeScriptRealizesPath_row_tie rfl ⟨rfl, rfl⟩ (by kernel_rfl) rfl
    (fun f fn hf hfn => by
      obtain rfl : f = 3 := Option.some.inj ((show Tryd.prog.funcNamed "emendate/emendatelaw37.LatticeScriptRealizesPath" = some 3 by kernel_rfl).symm.trans hf) |>.symm
      obtain rfl : fn = Tryd.f3 := (Option.some.inj (Tryd.func3.symm.trans hfn)).symm
      exact ⟨by kernel_rfl, fun j t ht => by
        rw [Tryd.params3] at ht
        have hm : t ∈ [25, 26] := by simpa using Array.mem_of_getElem? ht
        have hall : ([25, 26].all fun u => !Tryd.prog.wantsStandIn u) = true := by kernel_rfl
        exact (show Tryd.prog.wantsStandIn t = false by simpa using List.all_eq_true.1 hall t hm)⟩)
    (by kernel_rfl)
end Go.Proofs.YtibpfnjbgojfoaaDoor
