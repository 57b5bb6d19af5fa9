/- Code, and functions. -/
import Derived.Test.YtibpfnjbgojfoaaDoorV6
import Derived.Laws.Sem
set_option linter.all false
namespace Go.Vm
open Go
variable [Gl]

inductive XE where
  | normal
  | exit (id : Nat)
  | ret

/-- A state stands for another, whatever the world: nothing is run. -/
def Gh (s s' : St) : Prop := ∀ (μ : Locs) (F : Nat → Prop) (w : World), Rel μ F w s.heap → ∃ μ' F', Post μ F w s.heap μ' F' w s'.heap ∧
  ∀ (i : Nat) (x' : AV), s'.vars[i]? = some x' → ∃ x, s.vars[i]? = some x ∧ ∀ u, RepA μ F w x u → RepA μ' F' w x' u

theorem Gh.refl (s : St) : Gh s s := fun μ F w hR => ⟨μ, F, Post.refl hR, fun i x' h => ⟨x', h, fun _ h => h⟩⟩
theorem Gh.trans {s s' s'' : St} (h : Gh s s') (h' : Gh s' s'') : Gh s s'' := fun μ F w hR => by
  obtain ⟨μ1, F1, hp, hv⟩ := h μ F w hR
  obtain ⟨μ2, F2, hp2, hv2⟩ := h' μ1 F1 w hp.rel
  refine ⟨μ2, F2, hp.trans hR hp2, fun i x' hx => ?_⟩
  obtain ⟨x1, h1, h2⟩ := hv2 i x' hx
  obtain ⟨x0, h3, h4⟩ := hv i x1 h1
  exact ⟨x0, h3, fun u hu => h2 u (h4 u hu)⟩

def thenC (next : St → Prop) (Q : XE → St → Prop) : XE → St → Prop
  | .normal, s => ∃ s', Gh s s' ∧ next s'
  | .exit id, s => Q (.exit id) s
  | .ret, s => Q .ret s
def loopC (I : St → Prop) (m : St → Nat) (Q : XE → St → Prop) (s : St) : XE → St → Prop
  | .normal, s' => ∃ s'', Gh s' s'' ∧ I s'' ∧ m s'' < m s
  | .exit id, s' => ∃ s'', Gh s' s'' ∧ Q (.exit id) s''
  | .ret, s' => ∃ s'', Gh s' s'' ∧ Q .ret s''
def blockC (id : Nat) (Q : XE → St → Prop) : XE → St → Prop
  | .normal, s => Q .normal s
  | .exit id', s => if id' = id then Q .normal s else Q (.exit id') s
  | .ret, s => Q .ret s

def wpC (P : Program) : C → (XE → St → Prop) → St → Prop
  | .skip, Q, s => Q .normal s
  | .reg r, Q, s => wpReg P r s (Q .normal)
  | .seq a b, Q, s => ∃ M : St → Prop, wpC P a (thenC M Q) s ∧ ∀ s', M s' → wpC P b Q s'
  | .cond c a b, Q, s => match boolOf (evalA s.vars [] c) with
    | some t => (evalA s.vars [] c).sob ∧ (t = true → wpC P a Q s) ∧ (t = false → wpC P b Q s)
    | none => False
  | .block id c, Q, s => wpC P c (blockC id Q) s
  | .loop c, Q, s => ∃ (I : St → Prop) (m : St → Nat), (∃ s', Gh s s' ∧ I s') ∧ ∀ s, I s → wpC P c (loopC I m Q s) s
  | .exit id, Q, s => Q (.exit id) s
  | .ret, Q, s => Q .ret s

section
variable {P : Program} {vars keeps : List Tmp} {nt : Nat} {μ : Locs} {F : Nat → Prop} {w : World} {H : Heap} {a0 : Act}

/-- The exits, in the act. -/
def Outs (vars : List Tmp) (nt : Nat) (μ : Locs) (F : Nat → Prop) (w : World) (H : Heap) (a0 : Act) (Q : XE → St → Prop) : Exit → Act → World → Prop
  | .normal, a', w' => ∃ s', Q .normal s' ∧ Leads vars nt μ F w H a0 s' a' w'
  | .exit id, a', w' => ∃ s', Q (.exit id) s' ∧ Leads vars nt μ F w H a0 s' a' w'
  | .ret, a', w' => ∃ s', Q .ret s' ∧ Leads vars nt μ F w H a0 s' a' w'
  | _, _, _ => False

theorem Leads.gh (hR : Rel μ F w H) {s s' : St} {a' : Act} {w' : World} (h : Leads vars nt μ F w H a0 s a' w') (hg : Gh s s') : Leads vars nt μ F w H a0 s' a' w' := by
  obtain ⟨μ1, F1, hs, hp, hd⟩ := h
  obtain ⟨μ2, F2, hp2, hv⟩ := hg μ1 F1 w' hs.rel
  refine ⟨μ2, F2, ⟨hp2.rel, hs.nt, fun v t x' hvt hx => ?_⟩, hp.trans hR hp2, hd⟩
  obtain ⟨x, h1, h2⟩ := hv v x' hx
  exact h2 _ (hs.vars v t x hvt h1)

theorem least {p : Nat → Prop} (h : ∃ n, p n) : ∃ n, p n ∧ ∀ m, p m → n ≤ m := by
  obtain ⟨n, hn⟩ := h
  induction n using Nat.strongRecOn with
  | _ n ih =>
    by_cases hm : ∃ m, m < n ∧ p m
    · obtain ⟨m, h1, h2⟩ := hm
      exact ih m h1 h2
    · exact ⟨n, hn, fun m hpm => Nat.le_of_not_lt fun hlt => hm ⟨m, hlt, hpm⟩⟩

theorem compArg_sound {c : Operand} {b : Arg} (h : compArg vars c = some b) {s : St} {a : Act} (hs : Sim vars nt s a w μ F) : RepA μ F w (evalA s.vars [] b) (a.eval c) := by
  unfold compArg resolve1 at h
  split at h
  · rename_i t
    simp only [writerOf, List.findIdx?_nil, Option.map_eq_some_iff] at h
    obtain ⟨v, hv1, rfl⟩ := h
    rw [List.findIdx?_eq_some_iff_getElem] at hv1
    obtain ⟨hvl, hv2, _⟩ := hv1
    simp only [evalA, Act.eval]
    rw [List.getD_eq_getElem?_getD]
    cases hx : s.vars[v]? with
    | none => exact .undef _
    | some x => exact hs.vars v t x (by simp [hvl]; simpa using hv2) hx
  · simp only [Option.map_eq_some_iff] at h
    obtain ⟨y, hy, rfl⟩ := h
    exact kVal_rep hy
  · cases h; exact .d _ _ (.fn _)
  · rename_i g
    simp only [Option.map_eq_some_iff] at h
    obtain ⟨⟨g', x⟩, hf, rfl⟩ := h
    have hg : g' = g := by simpa using List.find?_some hf
    subst hg
    exact hs.rel.gl.rep (List.mem_of_find?_eq_some hf)

theorem boolOf_sound {x : AV} {t : Bool} (h : boolOf x = some t) (hs : x.sob) {u : Value} (hr : RepA μ F w x u) : u = .bool t := by
  unfold boolOf at h
  split at h
  · cases h; exact hr.inv_d.inv_bool
  · rename_i c b
    cases h
    have := hr.strip hs
    exact this.inv_d.inv_bool
  · cases h

theorem comp_sound (hm : P.follows .mixedOrders = true) (hR : Rel μ F w H) : ∀ (code : Code) (c : C), comp P vars keeps nt code = some c → ∀ (Q : XE → St → Prop) (s : St) (a' : Act) (w' : World),
    wpC P c Q s → Leads vars nt μ F w H a0 s a' w' → code.wp P (Outs vars nt μ F w H a0 Q) a' w' := by
  intro code
  induction code with
  | skip => intro c h Q s a' w' hw hl; cases h; exact wp_skip ⟨s, hw, hl⟩
  | region id ops draw =>
    intro c h Q s a' w' hw hl
    simp only [comp, Option.map_eq_some_iff] at h
    obtain ⟨r, hr, rfl⟩ := h
    obtain ⟨μ1, F1, hs, hp, hd⟩ := hl
    refine reg_sound hr hm hs hw (fun s2 a2 w2 hq hl2 => ?_)
    obtain ⟨μ2, F2, hs2, hp2, hd2⟩ := hl2
    exact ⟨s2, hq, μ2, F2, hs2, hp.trans hR hp2, hd2.trans hd⟩
  | seq x y ihx ihy =>
    intro c h Q s a' w' hw hl
    simp only [comp] at h
    split at h
    · rename_i cx cy h1 h2
      cases h
      obtain ⟨M, hw, hnx⟩ := hw
      refine wp_seq (Go.wp_mono (ihx cx h1 _ s a' w' hw hl) ?_)
      intro e a2 w2 ho
      cases e with
      | normal =>
        obtain ⟨s2, ⟨s3, hg, hw3⟩, hl2⟩ := ho
        exact ihy cy h2 Q s3 a2 w2 (hnx s3 hw3) (hl2.gh hR hg)
      | exit id => exact ho
      | ret => exact ho
      | goto l => exact ho.elim
      | panic ch => exact ho.elim
      | outgrown => exact ho.elim
    · cases h
  | cond co x y ihx ihy =>
    intro c h Q s a' w' hw hl
    simp only [comp] at h
    split at h
    · rename_i b cx cy h0 h1 h2
      cases h
      simp only [wpC] at hw
      split at hw
      · rename_i t ht
        obtain ⟨h3, h4, h5⟩ := hw
        have hl' := hl
        obtain ⟨μ1, F1, hs, hp, hd⟩ := hl'
        have hv := boolOf_sound ht h3 (compArg_sound h0 hs)
        refine wp_cond_split hv (fun e => ?_) (fun e => ?_)
        · exact ihx cx h1 Q s a' w' (h4 e) hl
        · exact ihy cy h2 Q s a' w' (h5 e) hl
      · exact hw.elim
    · cases h
  | block id x ih =>
    intro c h Q s a' w' hw hl
    simp only [comp, Option.map_eq_some_iff] at h
    obtain ⟨cx, h1, rfl⟩ := h
    refine wp_block (Go.wp_mono (ih cx h1 _ s a' w' hw hl) ?_)
    intro e a2 w2 ho
    cases e with
    | normal => exact ho
    | exit id' =>
      obtain ⟨s2, h2, h3⟩ := ho
      simp only [blockC] at h2
      simp only [Exit.inBlock]
      split
      · rename_i e; rw [if_pos e] at h2; exact ⟨s2, h2, h3⟩
      · rename_i e; rw [if_neg e] at h2; exact ⟨s2, h2, h3⟩
    | ret => exact ho
    | goto l => exact ho.elim
    | panic ch => exact ho.elim
    | outgrown => exact ho.elim
  | loop x ih =>
    intro c h Q s a' w' hw hl
    simp only [comp, Option.map_eq_some_iff] at h
    obtain ⟨cx, h1, rfl⟩ := h
    obtain ⟨I, m, ⟨s0, hg0, hI0⟩, hround⟩ := hw
    let p : Act → World → Nat → Prop := fun a w2 n => ∃ s, I s ∧ Leads vars nt μ F w H a0 s a w2 ∧ m s = n
    let mm : Act → World → Nat := fun a w2 => open Classical in if h : ∃ n, p a w2 n then (least h).choose else 0
    refine wp_loop (fun a w2 => ∃ n, p a w2 n) mm ⟨_, s0, hI0, hl.gh hR hg0, rfl⟩ ?_
    intro a2 w2 hI2
    have hspec := (least hI2).choose_spec
    have hmm : mm a2 w2 = (least hI2).choose := by simp only [mm]; rw [dif_pos hI2]
    rw [← hmm] at hspec
    obtain ⟨⟨s2, hs2, hl2, hm2⟩, _⟩ := hspec
    refine Go.wp_mono (ih cx h1 _ s2 a2 w2 (hround s2 hs2) hl2) ?_
    intro e a3 w3 ho
    cases e with
    | normal =>
      obtain ⟨s3, ⟨s4, hg, hI4, hlt⟩, hl3⟩ := ho
      have hp3 : p a3 w3 (m s4) := ⟨s4, hI4, hl3.gh hR hg, rfl⟩
      refine ⟨⟨_, hp3⟩, ?_⟩
      have hex : ∃ n, p a3 w3 n := ⟨_, hp3⟩
      have hmm3 : mm a3 w3 = (least hex).choose := by simp only [mm]; rw [dif_pos hex]
      have := (least hex).choose_spec.2 _ hp3
      rw [hmm3, ← hm2]; omega
    | exit id => obtain ⟨s3, ⟨s4, hg, hq⟩, hl3⟩ := ho; exact ⟨s4, hq, hl3.gh hR hg⟩
    | ret => obtain ⟨s3, ⟨s4, hg, hq⟩, hl3⟩ := ho; exact ⟨s4, hq, hl3.gh hR hg⟩
    | goto l => exact ho.elim
    | panic ch => exact ho.elim
    | outgrown => exact ho.elim
  | exit id => intro c h Q s a' w' hw hl; cases h; exact wp_exit ⟨s, hw, hl⟩
  | ret => intro c h Q s a' w' hw hl; cases h; exact wp_ret ⟨s, hw, hl⟩
  | _ => intro c h; cases h

end
end Go.Vm
/- Functions: from the body to the contract. -/
namespace Go.Vm
open Go
variable [Gl]

mutual
/-- No object from n on. -/
def AV.und (n : Nat) : AV → Bool
  | .undef | .d _ | .nils | .fp _ _ => true
  | .ptr id _ _ | .hs id _ _ _ | .mp id | .it id => decide (id < n)
  | .clo _ caps => undL n caps
  | .ifc _ v => v.und n
  | .agg cs | .tup cs => undL n cs
  | .when _ v => v.und n
def undL (n : Nat) : List AV → Bool
  | [] => true
  | x :: r => x.und n && undL n r
end
def undE (n : Nat) : List (DV × AV) → Bool
  | [] => true
  | (_, v) :: r => v.und n && undE n r
def Ob.und (n : Nat) : Ob → Bool
  | .arr _ es => undL n es
  | .map _ es => undE n es
  | .iter _ _ => true

def cutL (μ : Locs) (n : Nat) : Locs := fun i => if i < n then μ i else none

section
variable {μ μ' : Locs} {F F' : Nat → Prop} {w w' : World} {H H' : Heap} {n : Nat}

theorem undL_get : ∀ {l : List AV}, undL n l = true → ∀ (i : Nat) (x : AV), l[i]? = some x → x.und n = true
  | [], _, i, x, h => by simp at h
  | y :: r, hb, i, x, h => by
    simp only [undL, Bool.and_eq_true] at hb
    cases i with
    | zero => simp at h; subst h; exact hb.1
    | succ i => exact undL_get hb.2 i x (by simpa using h)
theorem undE_get : ∀ {l : List (DV × AV)}, undE n l = true → ∀ (i : Nat) (x : DV × AV), l[i]? = some x → x.2.und n = true
  | [], _, i, x, h => by simp at h
  | (k, y) :: r, hb, i, x, h => by
    simp only [undE, Bool.and_eq_true] at hb
    cases i with
    | zero => simp at h; subst h; exact hb.1
    | succ i => exact undE_get hb.2 i x (by simpa using h)

theorem cutL_some {i : Nat} {l : Loc} (h : cutL μ n i = some l) : i < n ∧ μ i = some l := by
  unfold cutL at h; split at h
  · exact ⟨‹_›, h⟩
  · cases h

theorem RepA.cut {x : AV} {u : Value} (h : RepA μ F w x u) (hb : x.und n = true) : RepA (cutL μ n) F w x u := by
  have at_ : ∀ {id l}, id < n → μ id = some l → cutL μ n id = some l := fun {id l} h1 h2 => by unfold cutL; rw [if_pos h1]; exact h2
  induction h with
  | undef v => exact .undef v
  | d x v h => exact .d x v h
  | nils => exact .nils
  | ptr id ix off l h => exact .ptr _ ix off l (at_ (by simpa [AV.und] using hb) h)
  | hs id off len sz l c h hsz hl hc => exact .hs _ off len sz l c (at_ (by simpa [AV.und] using hb) h) hsz hl hc
  | hs0 id off sz a => exact .hs0 _ off sz a
  | mp id l h => exact .mp _ l (at_ (by simpa [AV.und] using hb) h)
  | it id l h => exact .it _ l (at_ (by simpa [AV.und] using hb) h)
  | fp x off b o g h1 h2 h3 => exact .fp x off b o g h1 h2 h3
  | clo g caps us hs _ ih => exact .clo g _ us hs fun i x u hx hu => ih i x u hx hu (undL_get (by simpa [AV.und] using hb) i x hx)
  | ifc t x v _ ih => exact .ifc t _ v (ih (by simpa [AV.und] using hb))
  | agg cs us hs _ ih => exact .agg _ us hs fun i x u hx hu => ih i x u hx hu (undL_get (by simpa [AV.und] using hb) i x hx)
  | tup cs us hs _ ih => exact .tup _ us hs fun i x u hx hu => ih i x u hx hu (undL_get (by simpa [AV.und] using hb) i x hx)
  | when b x v _ hn ih => exact .when b _ v (fun hbb => ih hbb (by simpa [AV.und] using hb)) hn

theorem cells_und {x y : AV} {j : Nat} (hb : x.und n = true) (h : x.cells[j]? = some y) : y.und n = true := by
  cases x <;> simp only [AV.cells] at h
  case agg cs => exact undL_get (by simpa [AV.und] using hb) j y h
  case d x =>
    simp only [List.getElem?_map, Option.map_eq_some_iff] at h
    obtain ⟨z, _, rfl⟩ := h; rfl
  all_goals (cases j <;> simp at h; subst h; exact hb)

theorem ObAt.cut {l : Loc} {o : Ob} (h : ObAt μ F w l o) (hb : o.und n = true) : ObAt (cutL μ n) F w l o := by
  cases o with
  | arr sz es =>
    obtain ⟨h1, h2, h3, h4, h5⟩ := h
    refine ⟨h1, h2, h3, h4, fun i j x y hx hy => ?_⟩
    obtain ⟨u, h6, h7, h8⟩ := h5 i j x y hx hy
    exact ⟨u, h6, h7, h8.cut (cells_und (undL_get (by simpa [Ob.und] using hb) i x hx) hy)⟩
  | map ks es =>
    obtain ⟨h1, ents, clock, h2, h3, h4, h5, h6⟩ := h
    exact ⟨h1, ents, clock, h2, h3, fun i x e hx he => ⟨(h4 i x e hx he).1, (h4 i x e hx he).2.cut (undE_get (by simpa [Ob.und] using hb) i x hx)⟩, h5, h6⟩
  | iter cur left => exact h

/-- What nobody names any more is let go. -/
theorem Post.cut (hR : Rel μ F w H) (p : Post μ F w H μ' F' w' H') (hn : H.length ≤ n) (hn' : n ≤ H'.length) (hb : ∀ (i : Nat) (o : Ob), i < n → H'[i]? = some (some o) → o.und n = true) :
    Post μ F w H (cutL μ' n) F' w' (H'.take n) := by
  have get : ∀ i o, (H'.take n)[i]? = some (some o) → i < n ∧ H'[i]? = some (some o) := fun i o h => by
    rw [List.getElem?_take] at h
    split at h
    · exact ⟨‹_›, h⟩
    · cases h
  refine ⟨⟨fun i l o hm h => ?_, fun i j l1 l2 o o' h1 h2 h3 h4 h5 => ?_, fun i l o hm h => ?_, fun i l h => p.rel.lt i l (cutL_some h).2, p.rel.Flt, fun i l h => ?_, p.rel.gl⟩, ?_, by simp; omega, fun i hi ⟨o, h⟩ => p.alive i hi ⟨o, (get i o h).2⟩⟩
  · obtain ⟨h1, h2⟩ := get i o h
    exact (p.rel.ob i l o (cutL_some hm).2 h2).cut (hb i o h1 h2)
  · exact p.rel.inj i j l1 l2 o o' (cutL_some h1).2 (cutL_some h2).2 (get i o h3).2 (get j o' h4).2 h5
  · exact p.rel.nF i l o (cutL_some hm).2 (get i o h).2
  · have := (cutL_some h).1; simp; omega
  · refine ⟨fun i l h => ?_, p.ext.fro, p.ext.size, p.ext.os, p.ext.tape, p.ext.output, p.ext.keep, fun i l h => p.ext.newl i l (cutL_some h).2, p.ext.newf⟩
    have := hR.idlt i l h
    unfold cutL; rw [if_pos (by omega)]; exact p.ext.locs i l h
end

/-- A result variable: a temporary, or a cell to be read at the end. -/
inductive RV where
  | tmp (v : Nat)
  | cell (v n : Nat) (agg : Bool)

def compRes (P : Program) (vars : List Tmp) : ResultVar → Option RV
  | .tmp t => (vars.findIdx? (· == t)).map .tmp
  | .cell a t => match vars.findIdx? (· == a), sizeT P t, aggT P t with
    | some v, some n, some g => if g = true ∨ n = 1 then some (.cell v n g) else none
    | _, _, _ => none
def compRess (P : Program) (vars : List Tmp) : List ResultVar → Option (List RV)
  | [] => some []
  | x :: r => match compRes P vars x, compRess P vars r with
    | some y, some ys => some (y :: ys)
    | _, _ => none

def RV.ev (s : St) : RV → NR
  | .tmp v => ⟨True, s.vars.getD v .undef, .none⟩
  | .cell v n g => ⟨(s.vars.getD v .undef).sob ∧ (loadV s.heap.ob n g (s.vars.getD v .undef).strip).ob, (loadV s.heap.ob n g (s.vars.getD v .undef).strip).v, .none⟩
def evRs (s : St) : List RV → Prop
  | [] => True
  | x :: r => (x.ev s).ob ∧ evRs s r
def resV (s : St) : List RV → AV
  | [x] => (x.ev s).v
  | xs => .tup (xs.map fun x => (x.ev s).v)

section
variable {P : Program} {vars keeps : List Tmp} {nt : Nat} {μ : Locs} {F : Nat → Prop} {w : World} {s : St} {a : Act}

def runRes (tmps : Array Value) : ResultVar → Sem Value
  | .tmp t => pure (tmps.getD t undef)
  | .cell a t => do loadVar t (← asAddr (tmps.getD a undef))

theorem var_rep (hs : Sim vars nt s a w μ F) {t : Tmp} {v : Nat} (h : vars.findIdx? (· == t) = some v) : RepA μ F w (s.vars.getD v .undef) (a.tmps.getD t undef) := by
  rw [List.findIdx?_eq_some_iff_getElem] at h
  obtain ⟨hvl, hv2, _⟩ := h
  rw [List.getD_eq_getElem?_getD]
  cases hx : s.vars[v]? with
  | none => exact .undef _
  | some x => exact hs.vars v t x (by simp [hvl]; simpa using hv2) hx

theorem res_one (hs : Sim vars nt s a w μ F) {r : ResultVar} {x : RV} (h : compRes P vars r = some x) (ho : (x.ev s).ob) : ∃ u, (runRes a.tmps r).run P w = .ok u w ∧ RepA μ F w (x.ev s).v u := by
  cases r with
  | tmp t =>
    simp only [compRes, Option.map_eq_some_iff] at h
    obtain ⟨v, hv, rfl⟩ := h
    exact ⟨_, rfl, var_rep hs hv⟩
  | cell c t =>
    simp only [compRes] at h
    split at h
    · rename_i v n g hv hn hg
      split at h
      · rename_i h1
        cases h
        obtain ⟨ho1, ho2⟩ := ho
        have hr := (var_rep hs hv).strip ho1
        have := load_sound (P := P) (fresh := 0) (a := a) { (default : Oper) with op := .load t (.tmp c) } (.tmp c) rfl hn hg h1 hs.rel (vx := (s.vars.getD v .undef).strip) (by simpa [Act.eval] using hr) ho2
        unfold NOut at this
        have hnew : (loadV s.heap.ob n g (s.vars.getD v .undef).strip).new = .none := by
          unfold loadV
          (repeat' split) <;> rfl
        rw [hnew] at this
        obtain ⟨u, hu1, hu2⟩ := this
        refine ⟨u, ?_, hu2⟩
        have hV : ∃ ad, a.tmps.getD c undef = .pointer (some ad) := by
          generalize (s.vars.getD v .undef).strip = z at hr ho2
          generalize a.tmps.getD c undef = V at hr
          cases hr <;> simp only [loadV] at ho2 <;> first | exact ho2.elim | exact ⟨_, rfl⟩
        obtain ⟨ad, hV⟩ := hV
        simp only [execOp, Act.eval, hV, Instr.loadAt, Instr.sureAddr] at hu1
        simp only [runRes, hV, asAddr]
        simp only [Sem.run_bind, Sem.run_pure, Result.andThen_ok] at hu1 ⊢
        cases hl : (loadVar t ad).run P w with
        | ok u' w' => rw [hl] at hu1; simp at hu1; obtain ⟨rfl, rfl⟩ := hu1; rfl
        | halt x w' => rw [hl] at hu1; cases hu1
      · cases h
    · cases h

theorem mapM_run (tmps : Array Value) : ∀ {rs : List ResultVar} {xs : List RV}, compRess P vars rs = some xs → evRs s xs → Sim vars nt s a w μ F → a.tmps = tmps →
    ∃ us : List Value, (rs.mapM (runRes tmps)).run P w = .ok us w ∧ us.length = xs.length ∧ ∀ (i : Nat) (x : RV) (u : Value), xs[i]? = some x → us[i]? = some u → RepA μ F w (x.ev s).v u
  | [], xs, h, _, _, _ => by cases h; exact ⟨[], rfl, rfl, by simp⟩
  | r :: rs, xs, h, ho, hs, ht => by
    simp only [compRess] at h
    split at h
    · rename_i y ys h1 h2
      cases h
      obtain ⟨u, hu, hr⟩ := res_one hs h1 ho.1
      obtain ⟨us, h3, h4, h5⟩ := mapM_run tmps h2 ho.2 hs ht
      refine ⟨u :: us, ?_, by simp [h4], fun i x v hx hv => ?_⟩
      · rw [ht] at hu
        rw [List.mapM_cons]
        simp only [Sem.run_bind, hu, Result.andThen_ok, h3, Sem.run_pure]
      · cases i with
        | zero => simp at hx hv; subst hx; subst hv; exact hr
        | succ i => exact h5 i x v (by simpa using hx) (by simpa using hv)
    · cases h

theorem results_run {fn : Func} {xs : List RV} (hx : compRess P vars fn.results.toList = some xs) (ho : evRs s xs) (hs : Sim vars nt s a w μ F) :
    ∃ u, (results fn a.tmps).run P w = .ok u w ∧ RepA μ F w (resV s xs) u := by
  obtain ⟨us, h1, h2, h3⟩ := mapM_run a.tmps hx ho hs rfl
  have e : results fn a.tmps = (fn.results.mapM (runRes a.tmps) >>= fun vs => pure (if h : vs.size = 1 then vs[0] else .tuple vs)) := by
    unfold results
    congr 1
  rw [e, Array.mapM_eq_mapM_toList]
  simp only [Sem.run_bind, map_eq_pure_bind, h1, Result.andThen_ok, Sem.run_pure]
  refine ⟨_, rfl, ?_⟩
  match xs, us, h2, h3 with
  | [x], [u], _, h3 =>
    simpa [resV] using h3 0 x u rfl rfl
  | [], [], _, h3 =>
    exact .tup _ _ rfl (by simp)
  | x :: y :: r, u :: v :: t, h2, h3 =>
    simp only [resV]
    rw [dif_neg (by simp)]
    refine .tup _ _ (by simp at h2; simp [h2]) (fun i x' u' hx hu => ?_)
    rw [List.getElem?_map] at hx
    simp only [Option.map_eq_some_iff] at hx
    obtain ⟨z, hz, rfl⟩ := hx
    exact h3 i z u' hz (by simpa using hu)

theorem entry_sim {args : List AV} {H : Heap} {us : Array Value} (hR : Rel μ F w H) (hargs : Cw μ F w args us) (hv : (List.range args.length).all (fun i => vars[i]? == some i) = true) :
    Sim vars nt ⟨args ++ List.replicate (vars.length - args.length) .undef, H⟩ { tmps := us ++ Array.replicate (nt - us.size) undef, defers := [] } w μ F := by
  refine ⟨hR, by simp; omega, fun v t x hvt hx' => ?_⟩
  simp only at hx'
  rw [List.getElem?_append] at hx'
  split at hx'
  · rename_i hlt
    rw [List.all_eq_true] at hv
    have h1 := hv v (by simpa using hlt)
    rw [hvt] at h1
    have h2 : t = v := by simpa using h1
    subst h2
    have hul : t < us.size := by rw [hargs.1]; exact hlt
    have h3 := hargs.2 t x us[t] hx' (by simp [hul])
    have h4 : (us ++ Array.replicate (nt - us.size) undef).getD t undef = us[t] := by simp [Array.getElem?_append, hul]
    rw [h4]; exact h3
  · rw [List.getElem?_replicate] at hx'
    split at hx'
    · cases hx'; exact .undef _
    · cases hx'

def compFn (P : Program) (vars keeps : List Tmp) (f : FuncId) : Option (C × List RV) := match P.funcs[f]? with
  | some fn => match fn.body with
    | some code => match comp P vars keeps fn.ntmps code, compRess P vars fn.results.toList with
      | some c, some xs => some (c, xs)
      | _, _ => none
    | none => none
  | none => none

theorem compFn_some {f : FuncId} {c : C} {xs : List RV} (h : compFn P vars keeps f = some (c, xs)) : ∃ fn code, P.funcs[f]? = some fn ∧ fn.body = some code ∧ comp P vars keeps fn.ntmps code = some c ∧ compRess P vars fn.results.toList = some xs := by
  unfold compFn at h
  split at h
  · rename_i fn hf
    split at h
    · rename_i code hb
      split at h
      · rename_i c' xs' hc hx
        cases h
        exact ⟨fn, code, hf, hb, hc, hx⟩
      · cases h
    · cases h
  · cases h

/-- At a function's end. -/
def AtEnd (xs : List RV) (H : Heap) (R : AV → Heap → Prop) (s : St) : Prop :=
  ∃ s', Gh s s' ∧ evRs s' xs ∧ ∃ n, H.length ≤ n ∧ n ≤ s'.heap.length ∧ (∀ (i : Nat) (o : Ob), i < n → s'.heap[i]? = some (some o) → o.und n = true) ∧ (resV s' xs).und n = true ∧ R (resV s' xs) (s'.heap.take n)
def atEnd (xs : List RV) (H : Heap) (R : AV → Heap → Prop) : XE → St → Prop
  | .normal, s => AtEnd xs H R s
  | .ret, s => AtEnd xs H R s
  | .exit _, _ => False

theorem fn_of {f : FuncId} {c : C} {xs : List RV} (hc : compFn P vars keeps f = some (c, xs)) (hm : P.follows .mixedOrders = true) {args : List AV} {H : Heap} {R : AV → Heap → Prop}
    (hv : (List.range args.length).all (fun i => vars[i]? == some i) = true) {vs : List AV} (hvs : vs = args ++ List.replicate (vars.length - args.length) .undef)
    (h : wpC P c (atEnd xs H R) ⟨vs, H⟩) : Fn P f args H R := by
  obtain ⟨fn, code, hf, hb, hc', hx⟩ := compFn_some hc
  subst hvs
  intro μ F w us hR hargs
  refine calls_of_wp hf hb ?_
  refine Go.wp_mono (comp_sound hm hR code c hc' _ _ _ w h ⟨μ, F, entry_sim hR hargs hv, Post.refl hR, rfl⟩) ?_
  have fin : ∀ (a' : Act) (w' : World) (s : St), AtEnd xs H R s →
      Leads vars fn.ntmps μ F w H { tmps := us ++ Array.replicate (fn.ntmps - us.size) undef, defers := [] } s a' w' →
      a'.defers = [] ∧ ∃ v, (results fn a'.tmps).run P w' = .ok v w' ∧ ∃ r H' u μ' F', Ending.returned v = .returned u ∧ R r H' ∧ RepA μ' F' w' r u ∧ Post μ F w H μ' F' w' H' := by
    rintro a' w' s ⟨s', hg, hev, n, hn1, hn2, hn3, hn4, hRR⟩ hl
    obtain ⟨μ', F', hs', hp, hd⟩ := hl.gh hR hg
    obtain ⟨u, hu1, hu2⟩ := results_run hx hev hs'
    exact ⟨hd, u, hu1, _, _, u, cutL μ' n, F', rfl, hRR, hu2.cut hn4, hp.cut hR hn1 hn2 hn3⟩
  intro e a' w' ho
  cases e with
  | normal => obtain ⟨s, h1, h2⟩ := ho; exact fin a' w' s h1 h2
  | ret => obtain ⟨s, h1, h2⟩ := ho; exact fin a' w' s h1 h2
  | exit id => obtain ⟨s, h0, _⟩ := ho; exact h0.elim
  | goto l => exact ho.elim
  | panic ch => exact ho.elim
  | outgrown => exact ho.elim
end
end Go.Vm
/- Rules for whoever goes through a function's code. -/
namespace Go.Vm
open Go
variable [Gl]

/-- A function of data alone. -/
def Pure (P : Program) (f : FuncId) (args : List AV) (x : AV) : Prop := Fn P f args [] fun r H' => r = x ∧ H' = []

theorem putBack_nil (H : Heap) : putBack [] H [] = H := by
  unfold putBack
  have h : ∀ (H : Heap) (f : Nat → Nat) (k : Nat), putB [] f [] k H = H := by
    intro H
    induction H with
    | nil => intro f k; rfl
    | cons o r ih => intro f k; simp [putB, pos, ih]
  simp [h]

theorem wpCall_pure {P : Program} {f : FuncId} {as as' : List AV} {x : DV} {H : Heap} {K : AV → Heap → Prop} (hf : Pure P f as' (.d x)) (ha : argsM (renOf [] H.length) as as') (hk : K (.d x) H) : wpCall P f as H K := by
  refine ⟨as', [], [], _, hf, ha, trivial, List.nodup_nil, ?_⟩
  rintro r Hc' ⟨rfl, rfl⟩ _
  rw [putBack_nil]
  exact hk

theorem atEnd_pure {xs : List RV} {s : St} {x : AV} (ho : evRs s xs) (hx : resV s xs = x) (hu : x.und 0 = true) : AtEnd xs [] (fun r H' => r = x ∧ H' = []) s :=
  ⟨s, Gh.refl s, ho, 0, Nat.le_refl _, Nat.zero_le _, fun i o h => absurd h (Nat.not_lt_zero _), by rw [hx]; exact hu, hx, by simp⟩

/-- A result reads as data, wherever it can. -/
theorem Fn.norm {P : Program} {f : FuncId} {args : List AV} {H : Heap} {R R' : AV → Heap → Prop} (h : Fn P f args H R) (hr : ∀ r H', R r H' → R' r.norm H') : Fn P f args H R' :=
  fun μ F w us hR hc => (h μ F w us hR hc).mono fun _ _ ⟨r, H', u, μ', F', he, hk, hu, hp⟩ => ⟨r.norm, H', u, μ', F', he, hr _ _ hk, norm_rep hu, hp⟩

/-- Variables may be forgotten. -/
def weak : List AV → List AV → Prop
  | [], [] => True
  | x :: r, y :: s => (y = .undef ∨ y = x) ∧ weak r s
  | _, _ => False
theorem weak_get : ∀ {xs ys : List AV}, weak xs ys → ∀ (i : Nat) (y : AV), ys[i]? = some y → ∃ x, xs[i]? = some x ∧ (y = .undef ∨ y = x)
  | [], [], _, i, y, h => by simp at h
  | [], _ :: _, h, _, _, _ => h.elim
  | _ :: _, [], h, _, _, _ => h.elim
  | x :: r, z :: s, h, i, y, hy => by
    cases i with
    | zero => simp at hy; subst hy; exact ⟨x, rfl, h.1⟩
    | succ i => simpa using weak_get h.2 i y (by simpa using hy)
theorem Gh.weak {xs ys : List AV} {H : Heap} (h : weak xs ys) : Gh ⟨xs, H⟩ ⟨ys, H⟩ := fun μ F w hR => by
  refine ⟨μ, F, Post.refl hR, fun i y hy => ?_⟩
  obtain ⟨x, h1, h2⟩ := weak_get h i y hy
  refine ⟨x, h1, fun u hu => ?_⟩
  rcases h2 with rfl | rfl
  · exact .undef _
  · exact hu

/-- A slice becomes data. -/
theorem Gh.freeze {xs : List AV} {H : Heap} {i id off len sz sz' : Nat} {es : List AV} {ds : List DV} (hi : xs[i]? = some (.hs id off len sz)) (ha : arrOf H id = some (sz', es)) (hl : off + len ≤ es.length)
    (hd : toDL ((es.drop off).take len) = some ds) : Gh ⟨xs, H⟩ ⟨xs.set i (.d (.vs ds)), H.set id none⟩ := fun μ F w hR => by
  obtain ⟨F', h1, hF, h2⟩ := frz_hs (sz := sz) hR ha hl hd
  refine ⟨μ, F', h1, fun j y hy => ?_⟩
  rw [List.getElem?_set] at hy
  split at hy
  · rename_i e; subst e
    split at hy
    · cases hy; exact ⟨_, hi, h2⟩
    · cases hy
  · exact ⟨y, hy, fun u hu => hu.mono (fun _ _ h => h) hF (fun _ _ => rfl)⟩

/-- A nil slice becomes an object of no room. -/
theorem Gh.nils {xs : List AV} {H : Heap} {i : Nat} (sz : Nat) (hi : xs[i]? = some .nils) : Gh ⟨xs, H⟩ ⟨xs.set i (.hs H.length 0 0 sz), H ++ [some (.arr sz [])]⟩ := fun μ F w hR => by
  refine ⟨μ, F, hR.virt _, fun j y hy => ?_⟩
  rw [List.getElem?_set] at hy
  split at hy
  · rename_i e; subst e
    split at hy
    · cases hy
      refine ⟨_, hi, fun u hu => ?_⟩
      cases hu
      exact .hs0 _ _ _ _
    · cases hy
  · exact ⟨y, hy, fun u hu => hu⟩

/-- A map becomes data, wherever it stands. -/
theorem Gh.letgo {xs : List AV} {H : Heap} {id : Nat} {ks : KS} {es : List (DV × AV)} {vs : List DV} (ho : H.ob id = some (.map ks es)) (hv : es.map (·.2) = vs.map .d) :
    Gh ⟨xs, H⟩ ⟨xs.map (AV.subm (gMap id (.fm (es.map (·.1)) vs))), Heap.subm (gMap id (.fm (es.map (·.1)) vs)) (H.set id none)⟩ := fun μ F w hR => by
  have ho' := Heap.ob_some ho
  have h1 : OneG (gMap id (.fm (es.map (·.1)) vs)) := gMap_one rfl
  have fin : ∀ F', Post μ F w H μ F' w (H.set id none) → (∀ b, F b → F' b) → (∀ l, μ id = some l → RepD F' w (.fm (es.map (·.1)) vs) (.map (some l.blk))) →
      ∃ μ' F', Post μ F w H μ' F' w (Heap.subm (gMap id (.fm (es.map (·.1)) vs)) (H.set id none)) ∧ ∀ (i : Nat) (x' : AV), (xs.map (AV.subm (gMap id (.fm (es.map (·.1)) vs))))[i]? = some x' → ∃ x, xs[i]? = some x ∧ ∀ u, RepA μ F w x u → RepA μ' F' w x' u := by
    intro F' p hF hd
    have hg : ∀ F0, (∀ b, F0 b → F' b) → SubG μ F0 F' w (gMap id (.fm (es.map (·.1)) vs)) := fun F0 hF0 => by
      refine ⟨fun i u hu => ?_, fun i o l s u hu => hu.mono (fun _ _ h => h) hF0 fun _ _ => rfl⟩
      cases hu with
      | mp _ l hm =>
        simp only [gMap]
        split
        · rename_i e; subst e; exact .d _ _ (hd l hm)
        · exact .mp _ l hm
    refine ⟨μ, F', p.subm h1 (hg F' fun _ h => h), fun i x' hx => ?_⟩
    simp only [List.getElem?_map, Option.map_eq_some_iff] at hx
    obtain ⟨x, hx, rfl⟩ := hx
    exact ⟨x, hx, fun u hu => hu.subm hF (hg F hF)⟩
  cases hm : μ id with
  | none => exact fin F (hR.kill id) (fun _ h => h) (fun l h => by rw [hm] at h; cases h)
  | some l =>
    refine fin _ (hR.freeze hm ho') (fun _ h => .inl h) (fun l' h => ?_)
    rw [hm] at h; cases h
    exact MapAt.fm (hR.ob id l _ hm ho') hv (fun _ h => .inl h) (.inr rfl)

/-- An array becomes data, wherever it stands. -/
theorem Gh.letarr {xs : List AV} {H : Heap} {id sz : Nat} {es : List AV} {ds : List DV} (ha : arrOf H id = some (sz, es)) (hd : toDL es = some ds) :
    Gh ⟨xs, H⟩ ⟨xs.map (AV.subm (gArr id ds)), Heap.subm (gArr id ds) (H.set id none)⟩ := fun μ F w hR => by
  have hl : ds.length = es.length := (toDL_some hd).1
  have hH := arrOf_some ha
  have fin : ∀ F', Post μ F w H μ F' w (H.set id none) → (∀ b, F b → F' b) → (∀ F0, (∀ b, F0 b → F' b) → ∀ o l s u, o + l ≤ ds.length → RepA μ F0 w (.hs id o l s) u → RepA μ F' w (.d (.vs ((ds.drop o).take l))) u) →
      ∃ μ' F', Post μ F w H μ' F' w (Heap.subm (gArr id ds) (H.set id none)) ∧ ∀ (i : Nat) (x' : AV), (xs.map (AV.subm (gArr id ds)))[i]? = some x' → ∃ x, xs[i]? = some x ∧ ∀ u, RepA μ F w x u → RepA μ' F' w x' u := by
    intro F' p hF hd'
    have hg : ∀ F0, (∀ b, F0 b → F' b) → SubG μ F0 F' w (gArr id ds) := fun F0 hF0 => by
      refine ⟨fun i u hu => hu.mono (fun _ _ h => h) hF0 fun _ _ => rfl, fun i o l s u hu => ?_⟩
      simp only [gArr]
      split
      · rename_i e
        obtain ⟨rfl, hle⟩ := e
        exact hd' F0 hF0 o l s u hle hu
      · exact hu.mono (fun _ _ h => h) hF0 fun _ _ => rfl
    refine ⟨μ, F', p.subm gArr_one (hg F' fun _ h => h), fun i x' hx => ?_⟩
    simp only [List.getElem?_map, Option.map_eq_some_iff] at hx
    obtain ⟨x, hx, rfl⟩ := hx
    exact ⟨x, hx, fun u hu => hu.subm hF (hg F hF)⟩
  have key : ∀ (es : List AV) (ds : List DV) (o l : Nat), toDL es = some ds → toDL ((es.drop o).take l) = some ((ds.drop o).take l) := by
    intro es
    induction es with
    | nil => intro ds o l h; simp only [toDL] at h; cases h; simp [toDL]
    | cons x r ih =>
      intro ds o l h
      simp only [toDL] at h
      split at h
      · rename_i y ys hy hys
        cases h
        cases o with
        | zero =>
          cases l with
          | zero => simp [toDL]
          | succ l =>
            have := ih ys 0 l hys
            simp only [List.drop_zero] at this
            simp [toDL, hy, this]
        | succ o => simpa using ih ys o l hys
      · cases h
  have empty : ∀ (F' : Nat → Prop) (a : Option Addr), RepA μ F' w (.d (.vs [])) (.slice a 0 0) := fun F' a =>
    .d _ _ (.vs [] a 0 0 sz (fun _ _ => default) rfl (Nat.le_refl _) (by simp) (by simp) (by simp) (by simp))
  cases hm : μ id with
  | none =>
    refine fin F (hR.kill id) (fun _ h => h) (fun F0 hF0 o l s u hle hu => ?_)
    cases hu with
    | hs _ _ _ _ l c h => rw [hm] at h; cases h
    | hs0 _ _ _ a => simpa using empty F a
  | some l =>
    refine fin _ (hR.freeze hm hH) (fun _ h => .inl h) (fun F0 hF0 o n s u hle hu => ?_)
    have hd2 := key es ds o n hd
    have hlen : ((es.drop o).take n).length = n := by simp; omega
    cases hu with
    | hs _ _ _ _ l' c h hsz hlc hc =>
      rw [hm] at h; cases h
      obtain ⟨h1, h2, h3, h4, h5⟩ := hR.ob id l _ hm hH
      refine .d _ _ (frozen_row (μ := μ) (F' := fun b => F b ∨ b = l.blk) (w := w) (sz := s) (.inr rfl) hd2 hlen.symm hlc (fun x hx => ?_) (fun i j x y hx hy => ?_))
      · rw [← hsz, h1]; exact h3 x (List.mem_of_mem_drop (List.mem_of_mem_take hx))
      · rw [List.getElem?_take] at hx
        split at hx
        · rw [List.getElem?_drop] at hx
          obtain ⟨u, h6, _, h8⟩ := h5 (o + i) j x y hx hy
          refine ⟨u, ?_, h8.mono (fun _ _ h => h) (fun _ h => .inl h) (fun _ _ => rfl)⟩
          rw [← h6]
          congr 2
          rw [← h1, hsz, Nat.add_mul]; omega
        · cases hx
    | hs0 _ _ _ a => simpa using empty _ a

theorem Gh.kill {xs : List AV} {H : Heap} (id : Nat) : Gh ⟨xs, H⟩ ⟨xs, H.set id none⟩ := fun μ F w hR => ⟨μ, F, hR.kill id, fun i x h => ⟨x, h, fun _ h => h⟩⟩

end Go.Vm
/- The rules, in the form in which the simplifier goes through code from the front. -/
namespace Go.Vm
open Go
variable [Gl]

def run {α : Type} (x : α) (f : α → Prop) : Prop := f x
@[congr] theorem run_congr {α : Type} {x : α} {y : Unit → α} {f : α → Prop} (h : ∀ u, x = y u) : run x f = run (y ()) f := by rw [← h ()]
theorem run_go {α : Type} (x : α) (f : α → Prop) : run x f = f x := rfl

def withReg (x : Reg) (f : List Ins → List (Nat × Nat) → Prop) : Prop := f x.ins x.outs
@[congr] theorem withReg_congr {x : Reg} {y : Unit → Reg} {f : List Ins → List (Nat × Nat) → Prop} (h : ∀ u, x = y u) : withReg x f = withReg (y ()) f := by rw [← h ()]
theorem withReg_mk (a : List Ins) (b : List (Nat × Nat)) (f : List Ins → List (Nat × Nat) → Prop) : withReg ⟨a, b⟩ f = f a b := rfl
def onFlag (fl : Option Bool) (f : Bool → Prop) : Prop := match fl with
  | none => False
  | some e => f e
@[congr] theorem onFlag_congr {x : Option Bool} {y : Unit → Option Bool} {f : Bool → Prop} (h : ∀ u, x = y u) : onFlag x f = onFlag (y ()) f := by rw [← h ()]
theorem onFlag_some (e : Bool) (f : Bool → Prop) : onFlag (some e) f = f e := rfl
theorem onFlag_none (f : Bool → Prop) : onFlag none f = False := rfl

section
variable {P : Program} {vs env : List AV} {H : Heap} {K : List AV → Heap → Prop} {r : List Ins} {op : NOp} {eop : EOp} {g : Arg} {want : Bool} {pend solid : List Arg} {fz : Bool} {Q : XE → St → Prop} {s : St}

theorem wpL_nil : wpL P vs [] env H K = K env H := rfl
theorem wpL_n : wpL P vs (.n none op :: r) env H K = run (op.evS (evalA vs env) H.ob H.length) fun x => x.ob ∧ run (x.new.add H) fun H' => wpL P vs r (x.v :: env) H' K := rfl
theorem wpL_g : wpL P vs (.n (some (g, want)) op :: r) env H K = onFlag (flagOf want (evalA vs env g)) fun e => run (op.evS (evalA vs env) H.ob H.length) fun x => (e = true → x.ob) ∧
    if op.makes then (e = true → wpL P vs r (.when true x.v :: env) (x.new.add H) K) ∧ (e = false → wpL P vs r (.when false (.d (.bool false)) :: env) H K)
      else ∃ v, (e = true → v = x.v) ∧ wpL P vs r (.when e v :: env) H K := by
  cases h : flagOf want (evalA vs env g) <;> simp only [wpL, run, onFlag, h]
theorem wpL_e : wpL P vs (.e none eop pend solid fz :: r) env H K = wpEff P (evalA vs env) H eop pend solid fz fun v H' => wpL P vs r (v :: env) H' K := rfl
theorem wpL_eg : wpL P vs (.e (some (g, want)) eop pend solid fz :: r) env H K = onFlag (flagOf want (evalA vs env g)) fun e => (e = true → wpEff P (evalA vs env) H eop pend solid fz fun v H' => wpL P vs r (.when true v :: env) H' K) ∧
      (e = false → solidOk (evalA vs env) solid ∧ wpL P vs r (.when false (.d (.bool false)) :: env) H K) := by
  cases h : flagOf want (evalA vs env g) <;> simp only [wpL, onFlag, h]
theorem wpReg_go {x : Reg} {K : St → Prop} : wpReg P x s K = wpL P s.vars x.ins [] s.heap fun env H => run (setOuts env x.outs s.vars) fun vs => K ⟨vs, H⟩ := rfl
theorem wpC_skip : wpC P .skip Q s = Q .normal s := rfl
theorem wpC_reg {x : Reg} : wpC P (.reg x) Q s = wpReg P x s (Q .normal) := rfl
theorem wpC_regw {x : Reg} : wpC P (.reg x) Q s = withReg x fun ins outs => wpL P s.vars ins [] s.heap fun env H => run (setOuts env outs s.vars) fun vs => Q .normal ⟨vs, H⟩ := rfl
theorem wpC_cond {c : Arg} {a b : C} : wpC P (.cond c a b) Q s = run (evalA s.vars [] c) fun x => onFlag (boolOf x) fun t => x.sob ∧ (t = true → wpC P a Q s) ∧ (t = false → wpC P b Q s) := by
  cases h : boolOf (evalA s.vars [] c) <;> simp only [wpC, run, onFlag, h]
theorem wpC_block {id : Nat} {c : C} : wpC P (.block id c) Q s = wpC P c (blockC id Q) s := rfl
theorem wpC_exit {id : Nat} : wpC P (.exit id) Q s = Q (.exit id) s := rfl
theorem wpC_ret : wpC P .ret Q s = Q .ret s := rfl
theorem wpC_loop {c : C} (I : St → Prop) (m : St → Nat) {s' : St} (hg : Gh s s') (h0 : I s') (h : ∀ s, I s → wpC P c (loopC I m Q s) s) : wpC P (.loop c) Q s := ⟨I, m, ⟨s', hg, h0⟩, h⟩
theorem thenC_e {f : St → Prop} {id : Nat} : thenC f Q (.exit id) s = Q (.exit id) s := rfl
theorem thenC_r {f : St → Prop} : thenC f Q .ret s = Q .ret s := rfl
theorem blockC_n {id : Nat} : blockC id Q .normal s = Q .normal s := rfl
theorem blockC_e {id id' : Nat} : blockC id Q (.exit id') s = if id' = id then Q .normal s else Q (.exit id') s := rfl
theorem blockC_r {id : Nat} : blockC id Q .ret s = Q .ret s := rfl

theorem wpReg_mk {ins : List Ins} {outs : List (Nat × Nat)} {K : St → Prop} : wpReg P ⟨ins, outs⟩ s K = wpL P s.vars ins [] s.heap fun env H => run (setOuts env outs s.vars) fun vs => K ⟨vs, H⟩ := rfl
@[congr] theorem wpC_congr {c : C} {s' : St} (h : s = s') : wpC P c Q s = wpC P c Q s' := by rw [h]
theorem wpEff_go {ρ : Arg → AV} {K : AV → Heap → Prop} : wpEff P ρ H eop pend solid fz K = (argsOb ρ eop.args ∧ solidOk ρ solid ∧ wpE P H (fun x => (ρ x).strip) eop fun v H' => run (frz fz v H') fun x => pendOk ρ H x.2 pend ∧ K x.1 x.2) := rfl
variable {ρ : Arg → AV} {K : AV → Heap → Prop}
theorem wpE_store {n : Nat} {agg : Bool} {x v : Arg} : wpE P H ρ (.store n agg x v) K = run (ρ x) fun x => run (ρ v) fun v => wpStore H n x v K := rfl
theorem wpE_append {sz b : Nat} {x v : Arg} : wpE P H ρ (.append sz b x v) K = run (ρ x) fun x => run (ρ v) fun v => wpAppend H sz b x v K := rfl
theorem wpE_mapUpd {ks : KS} {m k v : Arg} : wpE P H ρ (.mapUpd ks m k v) K = run (ρ m) fun m => run (ρ k) fun k => run (ρ v) fun v => wpMapUpd H ks m k v K := rfl
theorem wpE_range {x : Arg} : wpE P H ρ (.range x) K = wpRange H (ρ x) K := rfl
theorem wpE_next {x : Arg} : wpE P H ρ (.next x) K = wpNext H (ρ x) K := rfl
theorem wpE_entry {x : Arg} : wpE P H ρ (.entry x) K = wpEntry H (ρ x) K := rfl
theorem wpE_copy {sz : Nat} {x y : Arg} : wpE P H ρ (.copy sz x y) K = wpCopy H sz (ρ x) (ρ y) K := rfl
theorem wpE_isNil {ng : Bool} {x : Arg} : wpE P H ρ (.isNil ng x) K = run (ρ x) fun x => wpIsNil ng H x K := rfl
theorem wpE_call {f : FuncId} {args : List Arg} : wpE P H ρ (.call f args) K = run (args.map ρ) fun xs => wpCall P f xs H K := rfl
@[congr] theorem wpStore_congr {H' : Heap} {n : Nat} {x x' v v' : AV} (h1 : H = H') (h2 : x = x') (h3 : v = v') : wpStore H n x v K = wpStore H' n x' v' K := by rw [h1, h2, h3]
@[congr] theorem wpAppend_congr {H' : Heap} {n b : Nat} {x x' v v' : AV} (h1 : H = H') (h2 : x = x') (h3 : v = v') : wpAppend H n b x v K = wpAppend H' n b x' v' K := by rw [h1, h2, h3]
@[congr] theorem wpMapUpd_congr {H' : Heap} {ks : KS} {m m' k k' v v' : AV} (h1 : H = H') (h2 : m = m') (h3 : k = k') (h4 : v = v') : wpMapUpd H ks m k v K = wpMapUpd H' ks m' k' v' K := by rw [h1, h2, h3, h4]
@[congr] theorem wpIsNil_congr {H' : Heap} {ng : Bool} {x x' : AV} (h1 : H = H') (h2 : x = x') : wpIsNil ng H x K = wpIsNil ng H' x' K := by rw [h1, h2]
@[congr] theorem wpCall_congr {H' : Heap} {f : FuncId} {xs ys : List AV} (h1 : H = H') (h2 : xs = ys) : wpCall P f xs H K = wpCall P f ys H' K := by rw [h1, h2]
@[congr] theorem atEnd_congr {xs : List RV} {R : AV → Heap → Prop} {e : XE} {s s' : St} (h : s = s') : atEnd xs H R e s = atEnd xs H R e s' := by rw [h]
@[congr] theorem loopC_congr {I : St → Prop} {m : St → Nat} {s0 s s' : St} {e : XE} (h : s = s') : loopC I m Q s0 e s = loopC I m Q s0 e s' := by rw [h]
end
end Go.Vm
/- Values of operations, equation by equation: for the simplifier. -/
namespace Go.Vm
open Go
variable [Gl]
def NR.and (p : Prop) (r : NR) : NR := ⟨p ∧ r.ob, r.v, r.new⟩
/-- A load through a pointer to an object. -/
def loadP (o : Option Ob) (n : Nat) (agg : Bool) (ix off : Nat) : NR := match o with
  | some (.arr _ es) => ⟨ix < es.length ∧ partAOb (es.getD ix .undef) off n agg, partA (es.getD ix .undef) off n agg, .none⟩
  | _ => .no
def lookP (o : Option Ob) (ok : Bool) (ks : KS) (z : AV) (k : DV) : NR := match o with
  | some (.map ks' es) => ⟨ks' = ks ∧ k.conf ks = true, if ok then .tup [(assocGet es k).getD z, .d (.bool (assocGet es k).isSome)] else (assocGet es k).getD z, .none⟩
  | _ => .no
def lenP (o : Option Ob) : NR := match o with
  | some (.map _ es) => ⟨True, .d (.int .i64 es.length), .none⟩
  | _ => .no
section
variable {vs env : List AV} {ρ : Arg → AV} {G : Nat → Option Ob} {fresh : Nat} {p ob : Prop} {v : AV} {new : New} {H : Heap}
theorem q_and : NR.and p ⟨ob, v, new⟩ = ⟨p ∧ ob, v, new⟩ := (rfl)
theorem q_loc {k : Nat} : evalA vs env (.loc k) = env.getD k .undef := (rfl)
theorem q_var {k : Nat} : evalA vs env (.var k) = vs.getD k .undef := (rfl)
theorem q_k : evalA vs env (.k v) = v := (rfl)
theorem q_sob_undef : AV.sob (.undef) = True := (rfl)
theorem q_strip_undef : AV.strip (.undef) = (.undef) := (rfl)
theorem q_sob_d {x : DV} : AV.sob (.d x) = True := (rfl)
theorem q_strip_d {x : DV} : AV.strip (.d x) = (.d x) := (rfl)
theorem q_sob_nils : AV.sob (.nils) = True := (rfl)
theorem q_strip_nils : AV.strip (.nils) = (.nils) := (rfl)
theorem q_sob_ptr {a b c : Nat} : AV.sob (.ptr a b c) = True := (rfl)
theorem q_strip_ptr {a b c : Nat} : AV.strip (.ptr a b c) = (.ptr a b c) := (rfl)
theorem q_sob_hs {a b c d : Nat} : AV.sob (.hs a b c d) = True := (rfl)
theorem q_strip_hs {a b c d : Nat} : AV.strip (.hs a b c d) = (.hs a b c d) := (rfl)
theorem q_sob_mp {a : Nat} : AV.sob (.mp a) = True := (rfl)
theorem q_strip_mp {a : Nat} : AV.strip (.mp a) = (.mp a) := (rfl)
theorem q_sob_it {a : Nat} : AV.sob (.it a) = True := (rfl)
theorem q_strip_it {a : Nat} : AV.strip (.it a) = (.it a) := (rfl)
theorem q_sob_fp {x : DV} {a : Nat} : AV.sob (.fp x a) = True := (rfl)
theorem q_strip_fp {x : DV} {a : Nat} : AV.strip (.fp x a) = (.fp x a) := (rfl)
theorem q_sob_clo {f : FuncId} {c : List AV} : AV.sob (.clo f c) = True := (rfl)
theorem q_strip_clo {f : FuncId} {c : List AV} : AV.strip (.clo f c) = (.clo f c) := (rfl)
theorem q_sob_ifc {t : TypeId} {x : AV} : AV.sob (.ifc t x) = True := (rfl)
theorem q_strip_ifc {t : TypeId} {x : AV} : AV.strip (.ifc t x) = (.ifc t x) := (rfl)
theorem q_sob_agg {c : List AV} : AV.sob (.agg c) = True := (rfl)
theorem q_strip_agg {c : List AV} : AV.strip (.agg c) = (.agg c) := (rfl)
theorem q_sob_tup {c : List AV} : AV.sob (.tup c) = True := (rfl)
theorem q_strip_tup {c : List AV} : AV.strip (.tup c) = (.tup c) := (rfl)
theorem q_sob_when {b : Bool} : AV.sob (.when b v) = (b = true) := (rfl)
theorem q_strip_when {b : Bool} : AV.strip (.when b v) = v := (rfl)
theorem q_argsOb0 : argsOb ρ [] = True := (rfl)
theorem q_argsOb1 {x : Arg} {r : List Arg} : argsOb ρ (x :: r) = ((ρ x).sob ∧ argsOb ρ r) := (rfl)
theorem q_mov {x : Arg} : (NOp.mov x).evS ρ G fresh = ⟨(ρ x).sob, (ρ x).strip, .none⟩ := by simp [NOp.evS, NOp.ev, NOp.args, argsOb]
def pickN (c a b : AV) : NR := match c.strip with
  | .d (.bool c') => ⟨c.sob ∧ (pickV c' a b).ob, (pickV c' a b).v, .none⟩
  | _ => .no
theorem q_pick {x y z : Arg} : (NOp.pick x y z).evS ρ G fresh = pickN (ρ x) (ρ y) (ρ z) := (rfl)
theorem q_pick000 {c a b : Bool} : pickN (.d (.bool c)) (.d (.bool a)) (.d (.bool b)) = ⟨(True) ∧ (c = true → (True)) ∧ (c = false → (True)), .d (.bool (if c then a else b)), .none⟩ := (rfl)
theorem q_pick001 {c a b t : Bool} : pickN (.d (.bool c)) (.d (.bool a)) (.when t (.d (.bool b))) = ⟨(True) ∧ (c = true → (True)) ∧ (c = false → (t = true)), .d (.bool (if c then a else b)), .none⟩ := (rfl)
theorem q_pick010 {c a b s : Bool} : pickN (.d (.bool c)) (.when s (.d (.bool a))) (.d (.bool b)) = ⟨(True) ∧ (c = true → (s = true)) ∧ (c = false → (True)), .d (.bool (if c then a else b)), .none⟩ := (rfl)
theorem q_pick011 {c a b s t : Bool} : pickN (.d (.bool c)) (.when s (.d (.bool a))) (.when t (.d (.bool b))) = ⟨(True) ∧ (c = true → (s = true)) ∧ (c = false → (t = true)), .d (.bool (if c then a else b)), .none⟩ := (rfl)
theorem q_pick100 {c a b w : Bool} : pickN (.when w (.d (.bool c))) (.d (.bool a)) (.d (.bool b)) = ⟨(w = true) ∧ (c = true → (True)) ∧ (c = false → (True)), .d (.bool (if c then a else b)), .none⟩ := (rfl)
theorem q_pick101 {c a b w t : Bool} : pickN (.when w (.d (.bool c))) (.d (.bool a)) (.when t (.d (.bool b))) = ⟨(w = true) ∧ (c = true → (True)) ∧ (c = false → (t = true)), .d (.bool (if c then a else b)), .none⟩ := (rfl)
theorem q_pick110 {c a b w s : Bool} : pickN (.when w (.d (.bool c))) (.when s (.d (.bool a))) (.d (.bool b)) = ⟨(w = true) ∧ (c = true → (s = true)) ∧ (c = false → (True)), .d (.bool (if c then a else b)), .none⟩ := (rfl)
theorem q_pick111 {c a b w s t : Bool} : pickN (.when w (.d (.bool c))) (.when s (.d (.bool a))) (.when t (.d (.bool b))) = ⟨(w = true) ∧ (c = true → (s = true)) ∧ (c = false → (t = true)), .d (.bool (if c then a else b)), .none⟩ := (rfl)
theorem q_bin {o : BinOp} {t : KT} {x y : Arg} : (NOp.bin o t x y).evS ρ G fresh = NR.and ((ρ x).sob ∧ (ρ y).sob) (binV o t (ρ x).strip (ρ y).strip) := by simp [NOp.evS, NOp.ev, NOp.args, argsOb, NR.and]
theorem q_eqs {n : Bool} {ks : KS} {x y : Arg} : (NOp.eqs n ks x y).evS ρ G fresh = NR.and ((ρ x).sob ∧ (ρ y).sob) (eqsV n ks (ρ x).strip (ρ y).strip) := by simp [NOp.evS, NOp.ev, NOp.args, argsOb, NR.and]
theorem q_not {x : Arg} : (NOp.not x).evS ρ G fresh = NR.and (ρ x).sob (notV (ρ x).strip) := by simp [NOp.evS, NOp.ev, NOp.args, argsOb, NR.and]
theorem q_neg {x : Arg} : (NOp.neg x).evS ρ G fresh = NR.and (ρ x).sob (negV (ρ x).strip) := by simp [NOp.evS, NOp.ev, NOp.args, argsOb, NR.and]
theorem q_conv {k : IntKind} {x : Arg} : (NOp.conv k x).evS ρ G fresh = NR.and (ρ x).sob (convV k (ρ x).strip) := by simp [NOp.evS, NOp.ev, NOp.args, argsOb, NR.and]
theorem q_fieldAddr {o : Nat} {x : Arg} : (NOp.fieldAddr o x).evS ρ G fresh = NR.and (ρ x).sob (fieldAddrV o (ρ x).strip) := by simp [NOp.evS, NOp.ev, NOp.args, argsOb, NR.and]
theorem q_load {n : Nat} {g : Bool} {x : Arg} : (NOp.load n g x).evS ρ G fresh = NR.and (ρ x).sob (loadV G n g (ρ x).strip) := by simp [NOp.evS, NOp.ev, NOp.args, argsOb, NR.and]
theorem q_extract {i : Nat} {x : Arg} : (NOp.extract i x).evS ρ G fresh = NR.and (ρ x).sob (extractV i (ρ x).strip) := by simp [NOp.evS, NOp.ev, NOp.args, argsOb, NR.and]
theorem q_len {k : Nat} {x : Arg} : (NOp.len k x).evS ρ G fresh = NR.and (ρ x).sob (lenV G k (ρ x).strip) := by simp [NOp.evS, NOp.ev, NOp.args, argsOb, NR.and]
theorem q_nilCheck {x : Arg} : (NOp.nilCheck x).evS ρ G fresh = NR.and (ρ x).sob (nilCheckV (ρ x).strip) := by simp [NOp.evS, NOp.ev, NOp.args, argsOb, NR.and]
theorem q_mkIface {t : TypeId} {x : Arg} : (NOp.mkIface t x).evS ρ G fresh = NR.and (ρ x).sob (mkIfaceV t (ρ x).strip) := by simp [NOp.evS, NOp.ev, NOp.args, argsOb, NR.and]
theorem q_alloc {sz : Nat} {z : AV} : (NOp.alloc sz z).evS ρ G fresh = ⟨z.fits sz = true, .ptr fresh 0 0, .obj (.arr sz [z])⟩ := by simp [NOp.evS, NOp.ev, NOp.args, argsOb]
theorem q_box {sz : Nat} {x : Arg} : (NOp.box sz x).evS ρ G fresh = ⟨(ρ x).sob ∧ (ρ x).strip.fits sz = true, .ptr fresh 0 0, .obj (.arr sz [(ρ x).strip])⟩ := by simp [NOp.evS, NOp.ev, NOp.args, argsOb]
theorem q_build {z : List AV} {ps : List (Nat × Nat × Arg)} : (NOp.build z ps).evS ρ G fresh = NR.and (argsOb ρ (ps.map (·.2.2))) ⟨fillOb z.length (ps.map fun p => (p.1, p.2.1, (ρ p.2.2).strip)), .mkAgg (fillC z (ps.map fun p => (p.1, p.2.1, (ρ p.2.2).strip))), .none⟩ := (rfl)
theorem q_lit {sz n : Nat} {z : AV} {ps : List (Nat × Arg)} {kp : Bool} : (NOp.lit sz z n ps kp).evS ρ G fresh = NR.and (argsOb ρ (ps.map (·.2))) (litV fresh sz z n (ps.map fun p => (p.1, (ρ p.2).strip)) kp) := (rfl)
theorem q_mkFunc {f : FuncId} {cs : List Arg} : (NOp.mkFunc f cs).evS ρ G fresh = NR.and (argsOb ρ cs) (mkFuncV f (cs.map fun x => (ρ x).strip)) := (rfl)
theorem q_mkMap {ks : KS} : (NOp.mkMap ks).evS ρ G fresh = ⟨True, .mp fresh, .obj (.map ks [])⟩ := by simp [NOp.evS, NOp.ev, NOp.args, argsOb]
theorem q_mkSlice {sz b : Nat} {z : AV} {x y : Arg} : (NOp.mkSlice sz b z x y).evS ρ G fresh = NR.and ((ρ x).sob ∧ (ρ y).sob) (mkSliceV fresh sz b z (ρ x).strip (ρ y).strip) := by simp [NOp.evS, NOp.ev, NOp.args, argsOb, NR.and]
theorem q_slice {sz : Nat} {lo hi : Option Arg} {x : Arg} : (NOp.slice sz lo hi x).evS ρ G fresh = NR.and (argsOb ρ (x :: (lo.toList ++ hi.toList))) (sliceV sz (lo.map fun x => (ρ x).strip) (hi.map fun x => (ρ x).strip) (ρ x).strip) := (rfl)
theorem q_ixa {n sz : Nat} {x y : Arg} : (NOp.idxArr n sz x y).evS ρ G fresh = NR.and ((ρ x).sob ∧ (ρ y).sob) (idxArrV n sz (ρ x).strip (ρ y).strip) := by simp [NOp.evS, NOp.ev, NOp.args, argsOb, NR.and]
theorem q_idx {sz : Nat} {x y : Arg} : (NOp.idxAddr sz x y).evS ρ G fresh = NR.and ((ρ x).sob ∧ (ρ y).sob) (idxAddrV sz (ρ x).strip (ρ y).strip) := by simp [NOp.evS, NOp.ev, NOp.args, argsOb, NR.and]
theorem q_lookup {ok : Bool} {ks : KS} {x y : Arg} : (NOp.lookup ok ks v x y).evS ρ G fresh = NR.and ((ρ x).sob ∧ (ρ y).sob) (lookupV G ok ks v (ρ x).strip (ρ y).strip) := by simp [NOp.evS, NOp.ev, NOp.args, argsOb, NR.and]
theorem q_field {o n : Nat} {g : Bool} {x : Arg} : (NOp.field o n g x).evS ρ G fresh = ⟨(ρ x).sob ∧ (ρ x).strip.isAgg = true ∧ partAOb (ρ x).strip o n g, partA (ρ x).strip o n g, .none⟩ := by simp [NOp.evS, NOp.ev, NOp.args, argsOb]
theorem q_minmax {m : Bool} {xs : List Arg} : (NOp.minmax m xs).evS ρ G fresh = NR.and (argsOb ρ xs) (minmaxV m (xs.map fun x => (ρ x).strip)) := (rfl)
theorem q_i_add {k0 k k' : IntKind} {a b : Int} : binV .add (.int k0) (.d (.int k a)) (.d (.int k' b)) = ⟨k = k', .d (.int k (k.wrap (a + b))), .none⟩ := (rfl)
theorem q_i_sub {k0 k k' : IntKind} {a b : Int} : binV .sub (.int k0) (.d (.int k a)) (.d (.int k' b)) = ⟨k = k', .d (.int k (k.wrap (a - b))), .none⟩ := (rfl)
theorem q_i_mul {k0 k k' : IntKind} {a b : Int} : binV .mul (.int k0) (.d (.int k a)) (.d (.int k' b)) = ⟨k = k', .d (.int k (k.wrap (a * b))), .none⟩ := (rfl)
theorem q_i_quo {k0 k k' : IntKind} {a b : Int} : binV .quo (.int k0) (.d (.int k a)) (.d (.int k' b)) = ⟨k = k' ∧ b ≠ 0, .d (.int k (k.wrap (a.tdiv b))), .none⟩ := (rfl)
theorem q_i_rem {k0 k k' : IntKind} {a b : Int} : binV .rem (.int k0) (.d (.int k a)) (.d (.int k' b)) = ⟨k = k' ∧ b ≠ 0, .d (.int k (a.tmod b)), .none⟩ := (rfl)
theorem q_i_eql {k0 k k' : IntKind} {a b : Int} : binV .eql (.int k0) (.d (.int k a)) (.d (.int k' b)) = ⟨k = k', .d (.bool (a == b)), .none⟩ := (rfl)
theorem q_i_neq {k0 k k' : IntKind} {a b : Int} : binV .neq (.int k0) (.d (.int k a)) (.d (.int k' b)) = ⟨k = k', .d (.bool (a != b)), .none⟩ := (rfl)
theorem q_i_lss {k0 k k' : IntKind} {a b : Int} : binV .lss (.int k0) (.d (.int k a)) (.d (.int k' b)) = ⟨k = k', .d (.bool (decide (a < b))), .none⟩ := (rfl)
theorem q_i_leq {k0 k k' : IntKind} {a b : Int} : binV .leq (.int k0) (.d (.int k a)) (.d (.int k' b)) = ⟨k = k', .d (.bool (decide (a ≤ b))), .none⟩ := (rfl)
theorem q_i_gtr {k0 k k' : IntKind} {a b : Int} : binV .gtr (.int k0) (.d (.int k a)) (.d (.int k' b)) = ⟨k = k', .d (.bool (decide (a > b))), .none⟩ := (rfl)
theorem q_i_geq {k0 k k' : IntKind} {a b : Int} : binV .geq (.int k0) (.d (.int k a)) (.d (.int k' b)) = ⟨k = k', .d (.bool (decide (a ≥ b))), .none⟩ := (rfl)
theorem q_i_and {k0 k k' : IntKind} {a b : Int} : binV .and (.int k0) (.d (.int k a)) (.d (.int k' b)) = ⟨k = k', bits2 k (· &&& ·) a b, .none⟩ := (rfl)
theorem q_i_or {k0 k k' : IntKind} {a b : Int} : binV .or (.int k0) (.d (.int k a)) (.d (.int k' b)) = ⟨k = k', bits2 k (· ||| ·) a b, .none⟩ := (rfl)
theorem q_i_xor {k0 k k' : IntKind} {a b : Int} : binV .xor (.int k0) (.d (.int k a)) (.d (.int k' b)) = ⟨k = k', bits2 k (· ^^^ ·) a b, .none⟩ := (rfl)
theorem q_i_shl {k0 k k' : IntKind} {a b : Int} : binV .shl (.int k0) (.d (.int k a)) (.d (.int k' b)) = ⟨0 ≤ b, .d (.int k (k.wrap (a * 2 ^ (min b.toNat k.bits)))), .none⟩ := (rfl)
theorem q_i_shr {k0 k k' : IntKind} {a b : Int} : binV .shr (.int k0) (.d (.int k a)) (.d (.int k' b)) = ⟨0 ≤ b, .d (.int k (a.fdiv (2 ^ (min b.toNat k.bits)))), .none⟩ := (rfl)
theorem q_b_eql {a b : Bool} : binV .eql .bool (.d (.bool a)) (.d (.bool b)) = ⟨True, .d (.bool (a == b)), .none⟩ := (rfl)
theorem q_s_eql {a b : List UInt8} : binV .eql .str (.d (.str a)) (.d (.str b)) = ⟨True, .d (.bool (a == b)), .none⟩ := (rfl)
theorem q_b_neq {a b : Bool} : binV .neq .bool (.d (.bool a)) (.d (.bool b)) = ⟨True, .d (.bool (a != b)), .none⟩ := (rfl)
theorem q_s_neq {a b : List UInt8} : binV .neq .str (.d (.str a)) (.d (.str b)) = ⟨True, .d (.bool (a != b)), .none⟩ := (rfl)
theorem q_s_add {a b : List UInt8} : binV .add .str (.d (.str a)) (.d (.str b)) = ⟨((a.length + b.length : Nat) : Int) ≤ 9223372036854775807, .d (.str (a ++ b)), .none⟩ := (rfl)
theorem q_eqsd {n : Bool} {ks : KS} {x y : DV} : eqsV n ks (.d x) (.d y) = ⟨x.conf ks = true ∧ y.conf ks = true, .d (.bool (if n then !(x.eqk y) else x.eqk y)), .none⟩ := (rfl)
theorem q_notd {b : Bool} : notV (.d (.bool b)) = ⟨True, .d (.bool !b), .none⟩ := (rfl)
theorem q_negd {k : IntKind} {n : Int} : negV (.d (.int k n)) = ⟨True, .d (.int k (k.wrap (0 - n))), .none⟩ := (rfl)
theorem q_convd {k k' : IntKind} {n : Int} : convV k (.d (.int k' n)) = ⟨True, .d (.int k (k.wrap n)), .none⟩ := (rfl)
theorem q_fap {f a b c : Nat} : fieldAddrV f (.ptr a b c) = ⟨True, .ptr a b (c + f), .none⟩ := (rfl)
theorem q_faf {f c : Nat} {x : DV} : fieldAddrV f (.fp x c) = ⟨True, .fp x (c + f), .none⟩ := (rfl)
theorem q_ldf {n o : Nat} {g : Bool} {x : DV} : loadV G n g (.fp x o) = ⟨partDOb x o n g, .d (partD x o n g), .none⟩ := (rfl)
theorem q_ldp {n id ix o : Nat} {g : Bool} : loadV G n g (.ptr id ix o) = loadP (G id) n g ix o := (rfl)
theorem q_ldps {n sz ix o : Nat} {g : Bool} {es : List AV} : loadP (some (.arr sz es)) n g ix o = ⟨ix < es.length ∧ partAOb (es.getD ix .undef) o n g, partA (es.getD ix .undef) o n g, .none⟩ := (rfl)
theorem q_exd {i : Nat} {cs : List AV} : extractV i (.tup cs) = ⟨i < cs.length, cs.getD i .undef, .none⟩ := (rfl)
theorem q_len0 {xs : List DV} : lenV G 0 (.d (.vs xs)) = ⟨True, .d (.int .i64 xs.length), .none⟩ := (rfl)
theorem q_len0n : lenV G 0 .nils = ⟨True, .d (.int .i64 0), .none⟩ := (rfl)
theorem q_len0h {a b n s : Nat} : lenV G 0 (.hs a b n s) = ⟨True, .d (.int .i64 n), .none⟩ := (rfl)
theorem q_len1 {s : List UInt8} : lenV G 1 (.d (.str s)) = ⟨True, .d (.int .i64 s.length), .none⟩ := (rfl)
theorem q_len2 {id : Nat} : lenV G 2 (.mp id) = lenP (G id) := (rfl)
theorem q_lenp {ks : KS} {es : List (DV × AV)} : lenP (some (.map ks es)) = ⟨True, .d (.int .i64 es.length), .none⟩ := (rfl)
theorem q_lkp {ok : Bool} {ks : KS} {id : Nat} {k : DV} : lookupV G ok ks v (.mp id) (.d k) = lookP (G id) ok ks v k := (rfl)
theorem q_lkf {ok : Bool} {ks : KS} {as bs : List DV} {k : DV} : lookupV G ok ks v (.d (.fm as bs)) (.d k) = ⟨(∀ x ∈ as, x.conf ks = true) ∧ k.conf ks = true, if ok then .tup [((fmGet as bs k).map AV.d).getD v, .d (.bool (fmGet as bs k).isSome)] else ((fmGet as bs k).map AV.d).getD v, .none⟩ := (rfl)
theorem q_lkps {ok : Bool} {ks ks' : KS} {k : DV} {es : List (DV × AV)} : lookP (some (.map ks' es)) ok ks v k = ⟨ks' = ks ∧ k.conf ks = true, if ok then .tup [(assocGet es k).getD v, .d (.bool (assocGet es k).isSome)] else (assocGet es k).getD v, .none⟩ := (rfl)
theorem q_ncp {a b c : Nat} : nilCheckV (.ptr a b c) = ⟨True, .ptr a b c, .none⟩ := (rfl)
theorem q_ncf {c : Nat} {x : DV} : nilCheckV (.fp x c) = ⟨True, .fp x c, .none⟩ := (rfl)
theorem q_mkI {t : TypeId} {x : DV} : mkIfaceV t (.d x) = ⟨True, .d (.ifc t x), .none⟩ := (rfl)
theorem q_mkF {f : FuncId} : mkFuncV f [] = ⟨True, .d (.fn f), .none⟩ := (rfl)
theorem q_mkS {sz b : Nat} {z : AV} {k k' : IntKind} {n c : Int} : mkSliceV fresh sz b z (.d (.int k n)) (.d (.int k' c)) = ⟨0 ≤ n ∧ n ≤ c ∧ c * b ≤ 140737488355328 ∧ c < 9223372036854775808 ∧ z.fits sz = true, .hs fresh 0 n.toNat sz, .obj (.arr sz (List.replicate n.toNat z))⟩ := (rfl)
theorem q_ixd {sz : Nat} {xs : List DV} {k : IntKind} {i : Int} : idxAddrV sz (.d (.vs xs)) (.d (.int k i)) = ⟨0 ≤ i ∧ i < xs.length ∧ (xs.getD i.toNat default).fits sz = true, .fp (xs.getD i.toNat default) 0, .none⟩ := (rfl)
theorem q_iaf {n sz o : Nat} {x : DV} {k : IntKind} {i : Int} : idxArrV n sz (.fp x o) (.d (.int k i)) = ⟨0 ≤ i ∧ i < n, .fp x (o + i.toNat * sz), .none⟩ := (rfl)
theorem q_iap {n sz a b c : Nat} {k : IntKind} {i : Int} : idxArrV n sz (.ptr a b c) (.d (.int k i)) = ⟨0 ≤ i ∧ i < n, .ptr a b (c + i.toNat * sz), .none⟩ := (rfl)
theorem q_ixh {sz id off len s' : Nat} {k : IntKind} {i : Int} : idxAddrV sz (.hs id off len s') (.d (.int k i)) = ⟨s' = sz ∧ 0 ≤ i ∧ i < len, .ptr id (off + i.toNat) 0, .none⟩ := (rfl)
theorem q_slvs {sz : Nat} {k k' : IntKind} {l h : Int} {xs : List DV} : sliceV sz (some (.d (.int k l))) (some (.d (.int k' h))) (.d (.vs xs)) = ⟨0 ≤ l ∧ l ≤ h ∧ h ≤ xs.length ∧ sz ≠ 0 ∧ ∀ x ∈ xs, x.fits sz = true, .d (.vs ((xs.drop l.toNat).take (h.toNat - l.toNat))), .none⟩ := (rfl)
theorem q_slvh {sz : Nat} {k' : IntKind} {h : Int} {xs : List DV} : sliceV sz none (some (.d (.int k' h))) (.d (.vs xs)) = ⟨0 ≤ (0 : Int) ∧ 0 ≤ h ∧ h ≤ xs.length ∧ sz ≠ 0 ∧ ∀ x ∈ xs, x.fits sz = true, .d (.vs ((xs.drop (0 : Int).toNat).take (h.toNat - (0 : Int).toNat))), .none⟩ := (rfl)
theorem q_slvl {sz : Nat} {k : IntKind} {l : Int} {xs : List DV} : sliceV sz (some (.d (.int k l))) none (.d (.vs xs)) = ⟨0 ≤ l ∧ l ≤ (xs.length : Int) ∧ (xs.length : Int) ≤ xs.length ∧ sz ≠ 0 ∧ ∀ x ∈ xs, x.fits sz = true, .d (.vs ((xs.drop l.toNat).take ((xs.length : Int).toNat - l.toNat))), .none⟩ := (rfl)
theorem q_mm1 {m : Bool} {x : AV} : minmaxV m [x] = ⟨True, x, .none⟩ := (rfl)
theorem q_mm2 {k k' : IntKind} {a b : Int} : minmaxV true [.d (.int k a), .d (.int k' b)] = ⟨True, .d (.int k (if b < a then b else a)), .none⟩ := by simp [minmaxV, minL, min2V]
theorem q_mx2 {k k' : IntKind} {a b : Int} : minmaxV false [.d (.int k a), .d (.int k' b)] = ⟨True, .d (.int k (if b > a then b else a)), .none⟩ := by simp [minmaxV, minL, min2V]
theorem q_fl {w b : Bool} : flagOf w (.d (.bool b)) = some (b == w) := (rfl)
theorem q_flw {w b c : Bool} : flagOf w (.when c (.d (.bool b))) = some (c && b == w) := (rfl)
theorem q_bo {b : Bool} : boolOf (.d (.bool b)) = some b := (rfl)
theorem q_bow {b c : Bool} : boolOf (.when c (.d (.bool b))) = some b := (rfl)
theorem q_add0 : New.add H .none = H := (rfl)
theorem q_addf : New.add H .frozen = H := (rfl)
theorem q_addo {o : Ob} : New.add H (.obj o) = H ++ [some o] := (rfl)
theorem q_so0 : setOuts env [] vs = vs := (rfl)
theorem q_so1 {v k : Nat} {r : List (Nat × Nat)} : setOuts env ((v, k) :: r) vs = setOuts env r (vs.set v (env.getD k .undef)) := (rfl)
theorem q_mk_mov {x : Arg} : (NOp.mov x).makes = false := (rfl)
theorem q_mk_bin {o : BinOp} {t : KT} {x y : Arg} : (NOp.bin o t x y).makes = false := (rfl)
theorem q_mk_eqs {n : Bool} {ks : KS} {x y : Arg} : (NOp.eqs n ks x y).makes = false := (rfl)
theorem q_mk_not {x : Arg} : (NOp.not x).makes = false := (rfl)
theorem q_mk_neg {x : Arg} : (NOp.neg x).makes = false := (rfl)
theorem q_mk_conv {k : IntKind} {x : Arg} : (NOp.conv k x).makes = false := (rfl)
theorem q_mk_fieldAddr {o : Nat} {x : Arg} : (NOp.fieldAddr o x).makes = false := (rfl)
theorem q_mk_load {n : Nat} {g : Bool} {x : Arg} : (NOp.load n g x).makes = false := (rfl)
theorem q_mk_ixa {n s : Nat} {x y : Arg} : (NOp.idxArr n s x y).makes = false := (rfl)
theorem q_mk_idx {s : Nat} {x y : Arg} : (NOp.idxAddr s x y).makes = false := (rfl)
theorem q_mk_lookup {ok : Bool} {ks : KS} {z : AV} {x y : Arg} : (NOp.lookup ok ks z x y).makes = false := (rfl)
theorem q_mk_len {k : Nat} {x : Arg} : (NOp.len k x).makes = false := (rfl)
theorem q_mk_pick {x y z : Arg} : (NOp.pick x y z).makes = false := (rfl)
theorem q_mk_field {o n : Nat} {g : Bool} {x : Arg} : (NOp.field o n g x).makes = false := (rfl)
theorem q_mk_slice {s : Nat} {lo hi : Option Arg} {x : Arg} : (NOp.slice s lo hi x).makes = false := (rfl)
theorem q_mk_build {z : List AV} {ps : List (Nat × Nat × Arg)} : (NOp.build z ps).makes = false := (rfl)
theorem q_mk_minmax {m : Bool} {xs : List Arg} : (NOp.minmax m xs).makes = false := (rfl)
theorem q_mk_extract {i : Nat} {x : Arg} : (NOp.extract i x).makes = false := (rfl)
theorem q_mk_nilCheck {x : Arg} : (NOp.nilCheck x).makes = false := (rfl)
theorem q_mk_lit {s n : Nat} {z : AV} {ps : List (Nat × Arg)} {k : Bool} : (NOp.lit s z n ps k).makes = true := (rfl)
theorem q_mk_box {s : Nat} {x : Arg} : (NOp.box s x).makes = true := (rfl)
theorem q_mk_alloc {s : Nat} {z : AV} : (NOp.alloc s z).makes = true := (rfl)
theorem q_pd0 {k : IntKind} {n : Int} : partD (.int k n) 0 1 false = (.int k n) := (rfl)
theorem q_pdo0 {k : IntKind} {n : Int} : partDOb (.int k n) 0 1 false = True := by simp [partDOb, DV.cells]
theorem q_pdb {b : Bool} : partD (.bool b) 0 1 false = (.bool b) := (rfl)
theorem q_pdob {b : Bool} : partDOb (.bool b) 0 1 false = True := by simp [partDOb, DV.cells]
theorem q_pdv {xs : List DV} : partD (.vs xs) 0 1 false = (.vs xs) := (rfl)
theorem q_pdov {xs : List DV} : partDOb (.vs xs) 0 1 false = True := by simp [partDOb, DV.cells]
theorem q_pda {o n : Nat} {cs : List DV} : partD (.agg cs) o n false = cs.getD o default := (rfl)
theorem q_pdoa {o n : Nat} {cs : List DV} : partDOb (.agg cs) o n false = (o + n ≤ cs.length) := by simp [partDOb, DV.cells]
theorem q_pad {o n : Nat} {g : Bool} {x : DV} : partA (.d x) o n g = (.d (partD x o n g)) := (rfl)
theorem q_paod {o n : Nat} {g : Bool} {x : DV} : partAOb (.d x) o n g = (partDOb x o n g) := (rfl)
theorem q_paa {o n : Nat} {cs : List AV} : partA (.agg cs) o n false = (cs.getD o .undef) := (rfl)
theorem q_paoa {o n : Nat} {cs : List AV} : partAOb (.agg cs) o n false = (o + n ≤ cs.length) := by simp [partAOb, AV.cells]
theorem q_pdT {o n : Nat} {cs : List DV} : partD (.agg cs) o n true = if o = 0 ∧ n = cs.length then .agg cs else .agg ((cs.drop o).take n) := (rfl)
theorem q_pdoT {o n : Nat} {cs : List DV} : partDOb (.agg cs) o n true = (o + n ≤ cs.length) := by simp [partDOb, DV.cells, DV.isAgg]
theorem q_obz {o : Option Ob} : Heap.ob (o :: H) 0 = o := by cases o <;> rfl
theorem q_obs {o : Option Ob} {n : Nat} : Heap.ob (o :: H) (n + 1) = Heap.ob H n := (rfl)
theorem q_eqk {a b : List DV} : DV.eqk (.agg a) (.agg b) = eqL a b := (rfl)
theorem q_eqL0 : eqL [] [] = true := (rfl)
theorem q_eqL1 {x y : DV} {a b : List DV} : eqL (x :: a) (y :: b) = (eq1 x y && eqL a b) := (rfl)
theorem q_eq1i {k k' : IntKind} {a b : Int} : eq1 (.int k a) (.int k' b) = (a == b) := (rfl)
theorem q_fitd {n : Nat} {x : DV} : AV.fits n (.d x) = DV.fits n x := (rfl)
end
end Go.Vm
/- The rules, one step at a time. -/
namespace Go.Vm
open Go
variable [Gl]
/-- The number in a variable. -/
def St.int (s : St) (i : Nat) : Int := match s.vars.getD i .undef with
  | .d (.int _ n) => n
  | _ => 0
theorem getD_map_lt {α : Type} (xs : List α) (f : α → DV) (i : Nat) (h : i < xs.length) : (xs.map f).getD i default = f xs[i] := by simp [List.getD_eq_getElem?_getD, h]
section
variable {P : Program} {vs vs' env : List AV} {H : Heap} {K : List AV → Heap → Prop} {r : List Ins} {op : NOp} {g : Arg} {want e : Bool} {Q : XE → St → Prop} {ob : Prop} {v x : AV} {n : New} {o : Ob} {outs : List (Nat × Nat)}
theorem st_n (h : op.evS (evalA vs env) H.ob H.length = ⟨ob, v, .none⟩) (ho : ob) (hk : wpL P vs r (v :: env) H K) : wpL P vs (.n none op :: r) env H K := by
  rw [wpL_n, h]; exact ⟨ho, hk⟩
theorem st_o (h : op.evS (evalA vs env) H.ob H.length = ⟨ob, v, .obj o⟩) (ho : ob) (hk : wpL P vs r (v :: env) (H ++ [some o]) K) : wpL P vs (.n none op :: r) env H K := by
  rw [wpL_n, h]; exact ⟨ho, hk⟩
theorem st_o' {H' : Heap} (h : op.evS (evalA vs env) H.ob H.length = ⟨ob, v, .obj o⟩) (ho : ob) (hH : H ++ [some o] = H') (hk : wpL P vs r (v :: env) H' K) : wpL P vs (.n none op :: r) env H K := by
  subst hH; rw [wpL_n, h]; exact ⟨ho, hk⟩
theorem st_f (h : op.evS (evalA vs env) H.ob H.length = ⟨ob, v, .frozen⟩) (ho : ob) (hk : wpL P vs r (v :: env) H K) : wpL P vs (.n none op :: r) env H K := by
  rw [wpL_n, h]; exact ⟨ho, hk⟩
theorem st_g (hf : flagOf want (evalA vs env g) = some e) (hm : op.makes = false) (h : op.evS (evalA vs env) H.ob H.length = ⟨ob, v, n⟩) (ho : e = true → ob) (hk : wpL P vs r (.when e v :: env) H K) : wpL P vs (.n (some (g, want)) op :: r) env H K := by
  rw [wpL_g, hf, h, onFlag_some, hm]; exact ⟨ho, v, fun _ => rfl, hk⟩
theorem st_gf (hf : flagOf want (evalA vs env g) = some false) (hk : wpL P vs r (.when false (.d (.bool false)) :: env) H K) : wpL P vs (.n (some (g, want)) op :: r) env H K := by
  rw [wpL_g, hf, onFlag_some, run_go]
  refine ⟨fun h => (by cases h), ?_⟩
  split
  · exact ⟨fun h => (by cases h), fun _ => hk⟩
  · exact ⟨_, fun h => (by cases h), hk⟩
theorem st_end (h : setOuts env outs vs = vs') (hk : Q .normal ⟨vs', H⟩) : wpL P vs [] env H (fun env H => Q .normal ⟨setOuts env outs vs, H⟩) := by
  rw [wpL_nil, h]; exact hk
theorem st_reg {ins : List Ins} (h : wpL P vs ins [] H fun env H => Q .normal ⟨setOuts env outs vs, H⟩) : wpC P (.reg ⟨ins, outs⟩) Q ⟨vs, H⟩ := h
theorem st_seq {a b : C} {s : St} (h : wpC P a (thenC (wpC P b Q) Q) s) : wpC P (.seq a b) Q s := ⟨_, h, fun _ h => h⟩
/-- What holds between two parts. -/
theorem st_mid {a b : C} {s : St} (M : St → Prop) (h : wpC P a (thenC M Q) s) (h2 : ∀ s', M s' → wpC P b Q s') : wpC P (.seq a b) Q s := ⟨M, h, h2⟩
theorem st_cond {c : Arg} {a b : C} {t : Bool} (hx : evalA vs [] c = x) (ht : boolOf x = some t) (hs : x.sob) (h1 : t = true → wpC P a Q ⟨vs, H⟩) (h2 : t = false → wpC P b Q ⟨vs, H⟩) : wpC P (.cond c a b) Q ⟨vs, H⟩ := by
  rw [wpC_cond, run_go, hx, ht]; exact ⟨hs, h1, h2⟩
theorem st_then {f : St → Prop} {s : St} (h : f s) : thenC f Q .normal s := ⟨s, Gh.refl s, h⟩
theorem st_theng {f : St → Prop} {s s' : St} (hg : Gh s s') (h : f s') : thenC f Q .normal s := ⟨s', hg, h⟩
theorem st_thenr {f : St → Prop} {s : St} (h : Q .ret s) : thenC f Q .ret s := h
theorem st_thene {f : St → Prop} {s : St} {id : Nat} (h : Q (.exit id) s) : thenC f Q (.exit id) s := h
theorem st_blk {s : St} {id : Nat} {c : C} (h : wpC P c (blockC id Q) s) : wpC P (.block id c) Q s := h
theorem st_blkn {s : St} {id : Nat} (h : Q .normal s) : blockC id Q .normal s := h
theorem st_blkr {s : St} {id : Nat} (h : Q .ret s) : blockC id Q .ret s := h
theorem st_blke {s : St} {id : Nat} (h : Q .normal s) : blockC id Q (.exit id) s := by rw [blockC_e, if_pos rfl]; exact h
theorem st_blke' {s : St} {id id' : Nat} (hne : id' ≠ id) (h : Q (.exit id') s) : blockC id Q (.exit id') s := by rw [blockC_e, if_neg hne]; exact h
theorem st_skip {s : St} (h : Q .normal s) : wpC P .skip Q s := h
theorem st_exit {s : St} {id : Nat} (h : Q (.exit id) s) : wpC P (.exit id) Q s := h
theorem st_ret {s : St} (h : Q .ret s) : wpC P .ret Q s := h
theorem st_lexit {I : St → Prop} {m : St → Nat} {s0 s : St} {id : Nat} (h : Q (.exit id) s) : loopC I m Q s0 (.exit id) s := ⟨s, Gh.refl s, h⟩
theorem st_lret {I : St → Prop} {m : St → Nat} {s0 s : St} (h : Q .ret s) : loopC I m Q s0 .ret s := ⟨s, Gh.refl s, h⟩
theorem st_lnorm {I : St → Prop} {m : St → Nat} {s0 s s' : St} (hg : Gh s s') (hI : I s') (hm : m s' < m s0) : loopC I m Q s0 .normal s := ⟨s', hg, hI, hm⟩
theorem st_lnormw {I : St → Prop} {m : St → Nat} {s0 : St} {ys : List AV} (hg : weak vs ys) (hI : I ⟨ys, H⟩) (hm : m ⟨ys, H⟩ < m s0) : loopC I m Q s0 .normal ⟨vs, H⟩ := ⟨_, Gh.weak hg, hI, hm⟩
theorem st_loop {c : C} (I : St → Prop) (m : St → Nat) {ys : List AV} (hg : weak vs ys) (h0 : I ⟨ys, H⟩) (h : ∀ s, I s → wpC P c (loopC I m Q s) s) : wpC P (.loop c) Q ⟨vs, H⟩ := ⟨I, m, ⟨_, Gh.weak hg, h0⟩, h⟩
theorem st_e {eop : EOp} {pend solid : List Arg} {fz : Bool} (h : wpEff P (evalA vs env) H eop pend solid fz fun v H' => wpL P vs r (v :: env) H' K) : wpL P vs (.e none eop pend solid fz :: r) env H K := h
theorem st_call {f : FuncId} {args : List Arg} {pend solid : List Arg} {fz : Bool} {K : AV → Heap → Prop} {xs ys : List AV} {d : DV} (ho : argsOb (evalA vs env) args ∧ solidOk (evalA vs env) solid) (hx : (args.map fun x => (evalA vs env x).strip) = xs)
    (hf : Pure P f ys (.d d)) (ha : argsM (renOf [] H.length) xs ys) (hp : pendOk (evalA vs env) H H pend) (hk : K (.d d) H) : wpEff P (evalA vs env) H (.call f args) pend solid fz K := by
  refine ⟨ho.1, ho.2, ?_⟩
  rw [wpE_call, run_go, hx]
  refine wpCall_pure hf ha ?_
  have : frz fz (.d d) H = (.d d, H) := by unfold frz; split <;> rfl
  rw [this]; exact ⟨hp, hk⟩

/-- A call with objects. -/
theorem st_callH {f : FuncId} {args : List Arg} {pend solid : List Arg} {fz : Bool} {K : AV → Heap → Prop} {xs ys : List AV} {Hc : Heap} {R : AV → Heap → Prop} (ns : List Nat) (ho : argsOb (evalA vs env) args ∧ solidOk (evalA vs env) solid) (hx : (args.map fun x => (evalA vs env x).strip) = xs)
    (hf : Fn P f ys Hc R) (ha : argsM (renOf ns H.length) xs ys) (hh : handM (renOf ns H.length) H ns Hc) (hn : ns.Nodup)
    (hk : ∀ r Hc', R r Hc' → Hc.length ≤ Hc'.length → pendOk (evalA vs env) H (frz fz (r.ren (renOf ns H.length)) (putBack ns H Hc')).2 pend ∧ K (frz fz (r.ren (renOf ns H.length)) (putBack ns H Hc')).1 (frz fz (r.ren (renOf ns H.length)) (putBack ns H Hc')).2) : wpEff P (evalA vs env) H (.call f args) pend solid fz K := by
  refine ⟨ho.1, ho.2, ?_⟩
  rw [wpE_call, run_go, hx]
  exact ⟨ys, Hc, ns, R, hf, ha, hh, hn, hk⟩

/-- A store through a pointer to an object. -/
theorem st_store {n sz id ix o : Nat} {agg : Bool} {x y : Arg} {pend solid : List Arg} {es : List AV} {v e' : AV} {K : AV → Heap → Prop} (ho : argsOb (evalA vs env) [x, y] ∧ solidOk (evalA vs env) solid) (hx : (evalA vs env x).strip = .ptr id ix o) (hy : (evalA vs env y).strip = v)
    (ha : arrOf H id = some (sz, es)) (hl : ix < es.length ∧ o + n ≤ sz) (hv : v.fits n = true) (hu : updA sz (es.getD ix .undef) o n v = e') (hf : e'.fits sz = true)
    (hk : pendOk (evalA vs env) H (H.set id (some (.arr sz (es.set ix e')))) pend ∧ K .undef (H.set id (some (.arr sz (es.set ix e'))))) : wpEff P (evalA vs env) H (.store n agg x y) pend solid false K := by
  refine ⟨ho.1, ho.2, ?_⟩
  rw [wpE_store, run_go, run_go, hx, hy]
  unfold wpStore
  simp only [ha, hu]
  exact ⟨hl.1, hl.2, hv, hf, by simpa [frz] using hk⟩

/-- A map's entry laid. -/
theorem st_mapUpd {ks : KS} {m k v : Arg} {id : Nat} {es : List (DV × AV)} {kd : DV} {vv : AV} {K : AV → Heap → Prop} (ho : argsOb (evalA vs env) [m, k, v]) (hm : (evalA vs env m).strip = .mp id) (hkk : (evalA vs env k).strip = .d kd) (hv : (evalA vs env v).strip = vv)
    (ha : mapOf H id = some (ks, es)) (hc : kd.conf ks = true) (hk : K .undef (H.set id (some (.map ks (assocSet es kd vv))))) : wpEff P (evalA vs env) H (.mapUpd ks m k v) [] [] false K := by
  refine ⟨ho, trivial, ?_⟩
  rw [wpE_mapUpd, run_go, run_go, run_go, hm, hkk, hv]
  unfold wpMapUpd
  simp only [ha]
  exact ⟨trivial, hc, trivial, by simpa [frz] using hk⟩

/-- An append to a slice that is nil. -/
theorem st_app0 {sz b : Nat} {x y : Arg} {ds : List DV} {K : AV → Heap → Prop} (ho : argsOb (evalA vs env) [x, y]) (hx : (evalA vs env x).strip = .nils) (hy : (evalA vs env y).strip = .d (.vs ds))
    (hf : ∀ d ∈ ds, d.fits sz = true) (hb : ds.length * b ≤ 140737488355328 ∧ ds.length ≤ 4611686018427387904)
    (hk : K (.hs H.length 0 ds.length sz) (H ++ [some (.arr sz (ds.map .d))])) : wpEff P (evalA vs env) H (.append sz b x y) [] [] false K := by
  refine ⟨ho, trivial, ?_⟩
  rw [wpE_append, run_go, run_go, hx, hy]
  unfold wpAppend srcE
  simp only [List.length_map]
  exact ⟨hf, hb, trivial, by simpa [frz] using hk⟩

/-- An append to a slice of an object, of data. -/
theorem st_app {sz b : Nat} {x y : Arg} {id off len : Nat} {es : List AV} {ds : List DV} {K : AV → Heap → Prop} (ho : argsOb (evalA vs env) [x, y]) (hx : (evalA vs env x).strip = .hs id off len sz) (hy : (evalA vs env y).strip = .d (.vs ds))
    (ha : arrOf H id = some (sz, es)) (hl : off + len = es.length) (hf : ∀ d ∈ ds, d.fits sz = true) (hb : (len + ds.length) * b ≤ 140737488355328 ∧ len + ds.length ≤ 4611686018427387904)
    (hk : K (.hs H.length 0 (len + ds.length) sz) (H.set id none ++ [some (.arr sz (es.drop off ++ ds.map .d))])) : wpEff P (evalA vs env) H (.append sz b x y) [] [] false K := by
  refine ⟨ho, trivial, ?_⟩
  rw [wpE_append, run_go, run_go, hx, hy]
  unfold wpAppend srcE
  simp only [ha, List.length_map, true_and]
  exact ⟨hf, hl, hb, trivial, by simpa [frz] using hk⟩

/-- A range over a map that nobody writes any more. -/
theorem st_range {x : Arg} {as bs : List DV} {K : AV → Heap → Prop} (ho : argsOb (evalA vs env) [x]) (hx : (evalA vs env x).strip = .d (.fm as bs)) (hk : K (.it H.length) (H ++ [some (.iter none (as.zip bs))])) :
    wpEff P (evalA vs env) H (.range x) [] [] false K := by
  refine ⟨ho, trivial, ?_⟩
  rw [wpE_range, hx]
  exact ⟨trivial, by simpa [frz] using hk⟩
theorem st_next {x : Arg} {id : Nat} {left : List (DV × DV)} {K : AV → Heap → Prop} (ho : argsOb (evalA vs env) [x]) (hx : (evalA vs env x).strip = .it id) {cur : Option (DV × DV)} (ha : H.ob id = some (.iter cur left))
    (h0 : left = [] → K (.tup [.d (.bool false)]) H) (h1 : ∀ (j : Nat) (k v : DV), left[j]? = some (k, v) → K (.tup [.d (.bool true), .d k, .d v]) (H.set id (some (.iter (some (k, v)) (left.eraseIdx j))))) :
    wpEff P (evalA vs env) H (.next x) [] [] false K := by
  refine ⟨ho, trivial, ?_⟩
  rw [wpE_next, hx]
  simp only [wpNext, ha]
  exact ⟨fun h => ⟨trivial, by simpa [frz] using h0 h⟩, fun j k v h => ⟨trivial, by simpa [frz] using h1 j k v h⟩⟩

theorem st_entry {x : Arg} {id : Nat} {k v : DV} {left : List (DV × DV)} {K : AV → Heap → Prop} (ho : argsOb (evalA vs env) [x]) (hx : (evalA vs env x).strip = .it id) (ha : H.ob id = some (.iter (some (k, v)) left))
    (hk : K (.tup [.d k, .d v]) H) : wpEff P (evalA vs env) H (.entry x) [] [] false K := by
  refine ⟨ho, trivial, ?_⟩
  rw [wpE_entry, hx]
  simp only [wpEntry, ha]
  exact ⟨trivial, by simpa [frz] using hk⟩

theorem st_copy {sz : Nat} {x y : Arg} {id off len m : Nat} {es news : List AV} {p : Prop} {K : AV → Heap → Prop} (ho : argsOb (evalA vs env) [x, y]) (hx : (evalA vs env x).strip = .hs id off len sz) (hy : srcE H sz (evalA vs env y).strip = some (p, news)) (hp : p)
    (ha : arrOf H id = some (sz, es)) (hl : off + len ≤ es.length) (hm : min news.length len = m)
    (hk : K (.d (.int .i64 m)) (H.set id (some (.arr sz (es.take off ++ news.take m ++ es.drop (off + m)))))) : wpEff P (evalA vs env) H (.copy sz x y) [] [] false K := by
  refine ⟨ho, trivial, ?_⟩
  rw [wpE_copy]
  unfold wpCopy
  simp only [hx, hy, ha, hm]
  exact ⟨hp, trivial, trivial, hl, trivial, by simpa [frz] using hk⟩

theorem st_ge {eop : EOp} {pend solid : List Arg} {fz : Bool} (hf : flagOf want (evalA vs env g) = some e) (h1 : e = true → wpEff P (evalA vs env) H eop pend solid fz fun v H' => wpL P vs r (.when true v :: env) H' K)
    (h2 : e = false → solidOk (evalA vs env) solid ∧ wpL P vs r (.when false (.d (.bool false)) :: env) H K) : wpL P vs (.e (some (g, want)) eop pend solid fz :: r) env H K := by
  rw [wpL_eg, hf, onFlag_some]; exact ⟨h1, h2⟩
theorem st_gef {eop : EOp} {pend solid : List Arg} {fz : Bool} (hf : flagOf want (evalA vs env g) = some false) (hs : solidOk (evalA vs env) solid) (hk : wpL P vs r (.when false (.d (.bool false)) :: env) H K) : wpL P vs (.e (some (g, want)) eop pend solid fz :: r) env H K :=
  st_ge hf (fun h => by cases h) fun _ => ⟨hs, hk⟩
theorem st_gef0 {eop : EOp} {pend : List Arg} {fz : Bool} (hf : flagOf want (evalA vs env g) = some false) (hk : wpL P vs r (.when false (.d (.bool false)) :: env) H K) : wpL P vs (.e (some (g, want)) eop pend [] fz :: r) env H K :=
  st_gef hf trivial hk
theorem st_get {eop : EOp} {pend solid : List Arg} {fz : Bool} (hf : flagOf want (evalA vs env g) = some true) (h1 : wpEff P (evalA vs env) H eop pend solid fz fun v H' => wpL P vs r (.when true v :: env) H' K) : wpL P vs (.e (some (g, want)) eop pend solid fz :: r) env H K :=
  st_ge hf (fun _ => h1) fun h => by cases h
end

theorem ob_app_new {H : Heap} {id : Nat} {o : Ob} : Heap.ob (H.set id none ++ [some o]) H.length = some o := by simp [Heap.ob]
theorem ob_app_new' {H : Heap} {id n : Nat} {o : Ob} (h : n = H.length) : Heap.ob (H.set id none ++ [some o]) n = some o := by subst h; exact ob_app_new
theorem ob_app_old {H : Heap} {id j : Nat} {o o' : Ob} (hj : H.ob j = some o') (hne : j ≠ id) : Heap.ob (H.set id none ++ [some o]) j = some o' := by
  have h := Heap.ob_some hj
  have hl := (List.getElem?_eq_some_iff.1 h).1
  simp only [Heap.ob]
  rw [List.getElem?_append_left (by simpa using hl), List.getElem?_set_ne (fun e => hne e.symm), h]; rfl
theorem arrOf_ob {H : Heap} {id sz : Nat} {es : List AV} (h : H.ob id = some (.arr sz es)) : arrOf H id = some (sz, es) := by unfold arrOf; rw [h]
theorem ob_new {H : Heap} {o : Ob} : Heap.ob (H ++ [some o]) H.length = some o := by simp [Heap.ob]
theorem ob_old {H : Heap} {j : Nat} {o o' : Ob} (hj : H.ob j = some o') : Heap.ob (H ++ [some o]) j = some o' := by
  have h := Heap.ob_some hj
  have hl := (List.getElem?_eq_some_iff.1 h).1
  simp only [Heap.ob]
  rw [List.getElem?_append_left hl, h]; rfl
theorem ob_lt {H : Heap} {j : Nat} {o : Ob} (hj : H.ob j = some o) : j < H.length := (List.getElem?_eq_some_iff.1 (Heap.ob_some hj)).1
/-- At the end, the result frozen. -/
theorem atEnd_frz {v id off len sz sz' : Nat} {vs : List AV} {H : Heap} {es : List AV} {ds : List DV} {x : AV} (hi : vs[v]? = some (.hs id off len sz)) (ha : arrOf H id = some (sz', es)) (hl : off + len ≤ es.length) (hd : toDL ((es.drop off).take len) = some ds)
    (hx : AV.d (.vs ds) = x) : AtEnd [.tmp v] [] (fun r H' => r = x ∧ H' = []) ⟨vs, H⟩ := by
  subst hx
  have hv := (List.getElem?_eq_some_iff.1 hi).1
  have e : (vs.set v (.d (.vs ds))).getD v .undef = .d (.vs ds) := by simp [List.getD_eq_getElem?_getD, hv]
  refine ⟨_, Gh.freeze hi ha hl hd, ⟨trivial, trivial⟩, 0, Nat.le_refl _, Nat.zero_le _, fun i o h => absurd h (Nat.not_lt_zero _), ?_, ?_, by simp⟩
  · show ((vs.set v (.d (.vs ds))).getD v .undef).und 0 = true
    rw [e]; rfl
  · exact e
theorem toDL_map (ds : List DV) : toDL (ds.map .d) = some ds := by
  induction ds with
  | nil => rfl
  | cons d r ih => simp only [List.map_cons, toDL, ih]; rfl

/-- The steps that lead from a goal to one other goal. -/
class Nx (p : Prop) (q : outParam Prop) : Prop where
  go : q → p
section
variable {P : Program} {Q : XE → St → Prop} {f : St → Prop} {I : St → Prop} {m : St → Nat} {s0 s : St} {id : Nat}
instance : Nx (thenC f Q .normal s) (f s) := ⟨st_then⟩
instance : Nx (thenC f Q .ret s) (Q .ret s) := ⟨st_thenr⟩
instance : Nx (thenC f Q (.exit id) s) (Q (.exit id) s) := ⟨st_thene⟩
instance : Nx (blockC id Q .normal s) (Q .normal s) := ⟨st_blkn⟩
instance : Nx (blockC id Q .ret s) (Q .ret s) := ⟨st_blkr⟩
instance : Nx (blockC id Q (.exit id) s) (Q .normal s) := ⟨st_blke⟩
instance : Nx (loopC I m Q s0 .ret s) (Q .ret s) := ⟨st_lret⟩
instance : Nx (wpC P .skip Q s) (Q .normal s) := ⟨st_skip⟩
instance : Nx (wpC P (.exit id) Q s) (Q (.exit id) s) := ⟨st_exit⟩
instance : Nx (wpC P .ret Q s) (Q .ret s) := ⟨st_ret⟩
end
theorem y1 (a b : Bool) : ((a || b) = true) = (a = true ∨ b = true) := Bool.or_eq_true a b
theorem y2 (a b : Bool) : ((a && b) = true) = (a = true ∧ b = true) := Bool.and_eq_true a b
theorem y3 {p : Prop} [Decidable p] : (decide p = true) = p := decide_eq_true_eq
theorem y4 (b : Bool) : ((!b) = true) = (b = false) := Bool.not_eq_true' b
theorem y5 {p : Prop} {x : Decidable p} : decide p = false ↔ ¬p := decide_eq_false_iff_not
theorem y6 {x y : Bool} : (x || y) = false ↔ x = false ∧ y = false := Bool.or_eq_false_iff
theorem y7 {α : Type _} [BEq α] [LawfulBEq α] {a b : α} : (a != b) = true ↔ a ≠ b := bne_iff_ne
theorem y8 {α : Type _} [BEq α] [LawfulBEq α] {a b : α} : (a == b) = true ↔ a = b := beq_iff_eq
theorem y9 {α : Type _} [BEq α] [LawfulBEq α] {a b : α} : (a != b) = false ↔ a = b := bne_eq_false_iff_eq
theorem z1 {α : Type _} [BEq α] [LawfulBEq α] {a b : α} : (a == b) = false ↔ a ≠ b := beq_eq_false_iff_ne
theorem z2 {a b : Bool} : (!a) = b ↔ a = !b := Bool.not_eq_eq_eq_not
theorem z3 : (!true) = false := Bool.not_true
theorem z4 : (!false) = true := Bool.not_false
theorem z5 {n m : Nat} : (n : Int) < (m : Int) ↔ n < m := Int.ofNat_lt
theorem z6 {m n : Nat} : (m : Int) = (n : Int) ↔ m = n := Int.ofNat_inj
theorem z7 {a b : Nat} : ¬a < b ↔ b ≤ a := Nat.not_lt
end Go.Vm
/- The rules with one evaluation for each step. -/
namespace Go.Vm
open Go
variable [Gl]
section
variable {P : Program} {vs env : List AV} {H H' : Heap} {K : List AV → Heap → Prop} {rest : List Ins} {op : NOp} {g : Arg} {want e : Bool} {ob : Prop} {v : AV} {o : Ob} {r : NR} {n : New}
/-- What is left when an operation has come to r. -/
def wpR (P : Program) (vs : List AV) (rest : List Ins) (env : List AV) (H : Heap) (K : List AV → Heap → Prop) (r : NR) : Prop := r.ob ∧ wpL P vs rest (r.v :: env) (r.new.add H) K
/-- What is left when an operation's flag is known. -/
def wpG (P : Program) (vs : List AV) (op : NOp) (rest : List Ins) (env : List AV) (H : Heap) (K : List AV → Heap → Prop) (e : Bool) : Prop :=
  run (op.evS (evalA vs env) H.ob H.length) fun x => (e = true → x.ob) ∧
    if op.makes then (e = true → wpL P vs rest (.when true x.v :: env) (x.new.add H) K) ∧ (e = false → wpL P vs rest (.when false (.d (.bool false)) :: env) H K)
      else ∃ v, (e = true → v = x.v) ∧ wpL P vs rest (.when e v :: env) H K
theorem sN (h : op.evS (evalA vs env) H.ob H.length = r) (hk : wpR P vs rest env H K r) : wpL P vs (.n none op :: rest) env H K := by
  rw [wpL_n, h]; exact hk
theorem rN (ho : ob) (hk : wpL P vs rest (v :: env) H K) : wpR P vs rest env H K ⟨ob, v, .none⟩ := ⟨ho, hk⟩
theorem rF (ho : ob) (hk : wpL P vs rest (v :: env) H K) : wpR P vs rest env H K ⟨ob, v, .frozen⟩ := ⟨ho, hk⟩
/-- The heap with one object more. -/
class App (H : Heap) (o : Ob) (H' : outParam Heap) : Prop where
  eq : H ++ [some o] = H'
instance {o : Ob} : App [] o [some o] := ⟨rfl⟩
instance {a : Option Ob} {H H' : Heap} {o : Ob} [h : App H o H'] : App (a :: H) o (a :: H') := ⟨by rw [List.cons_append, h.eq]⟩
instance (priority := low) {H : Heap} {o : Ob} : App H o (H ++ [some o]) := ⟨rfl⟩
theorem rO [h : App H o H'] (ho : ob) (hk : wpL P vs rest (v :: env) H' K) : wpR P vs rest env H K ⟨ob, v, .obj o⟩ := by
  refine ⟨ho, ?_⟩
  show wpL P vs rest (v :: env) (H ++ [some o]) K
  rw [h.eq]; exact hk
theorem sG (hf : flagOf want (evalA vs env g) = some e) (hk : wpG P vs op rest env H K e) : wpL P vs (.n (some (g, want)) op :: rest) env H K := by
  rw [wpL_g, hf, onFlag_some]; exact hk
theorem gF (hk : wpL P vs rest (.when false (.d (.bool false)) :: env) H K) : wpG P vs op rest env H K false := by
  unfold wpG
  rw [run_go]
  refine ⟨fun h => (by cases h), ?_⟩
  split
  · exact ⟨fun h => (by cases h), fun _ => hk⟩
  · exact ⟨_, fun h => (by cases h), hk⟩
theorem gS (hm : op.makes = false) (h : op.evS (evalA vs env) H.ob H.length = ⟨ob, v, n⟩) (ho : e = true → ob) (hk : wpL P vs rest (.when e v :: env) H K) : wpG P vs op rest env H K e := by
  unfold wpG
  rw [run_go, h, hm]; exact ⟨ho, v, fun _ => rfl, hk⟩
theorem sE {vs' : List AV} {Q : XE → St → Prop} {outs : List (Nat × Nat)} (h : setOuts env outs vs = vs') (hk : Q .normal ⟨vs', H⟩) : wpL P vs [] env H (fun env H => Q .normal ⟨setOuts env outs vs, H⟩) := st_end h hk
end
end Go.Vm
/- Rules that leave the heap unsaid but for what it holds. -/
namespace Go.Vm
open Go
variable [Gl]

theorem ob_set_self {H : Heap} {id : Nat} {o : Ob} (h : id < H.length) : Heap.ob (H.set id (some o)) id = some o := by simp [Heap.ob, h]
theorem ob_set_ne {H : Heap} {id j : Nat} {x : Option Ob} (h : j ≠ id) : Heap.ob (H.set id x) j = H.ob j := by
  simp only [Heap.ob]; rw [List.getElem?_set_ne (fun e => h e.symm)]
theorem ob_left {H L : Heap} {j : Nat} (h : j < H.length) : Heap.ob (H ++ L) j = H.ob j := by simp only [Heap.ob]; rw [List.getElem?_append_left h]
theorem arrOf_lt {H : Heap} {id sz : Nat} {es : List AV} (h : arrOf H id = some (sz, es)) : id < H.length := (List.getElem?_eq_some_iff.1 (arrOf_some h)).1
theorem mapOf_lt {H : Heap} {id : Nat} {ks : KS} {es : List (DV × AV)} (h : mapOf H id = some (ks, es)) : id < H.length := (List.getElem?_eq_some_iff.1 (mapOf_some h)).1
theorem mapOf_ob {H : Heap} {id : Nat} {ks : KS} {es : List (DV × AV)} (h : H.ob id = some (.map ks es)) : mapOf H id = some (ks, es) := by unfold mapOf; rw [h]
theorem ob_get {H : Heap} {id : Nat} {o : Ob} (h : H.ob id = some o) : H[id]? = some (some o) := Heap.ob_some h

/-- The heap behind a step: one object written. -/
structure Wrote (H : Heap) (id : Nat) (o : Ob) (H' : Heap) : Prop where
  len : H'.length = H.length
  self : H'.ob id = some o
  get : ∀ j, j ≠ id → H'[j]? = H[j]?
theorem Wrote.ob {H H' : Heap} {id : Nat} {o : Ob} (h : Wrote H id o H') {j : Nat} (hj : j ≠ id) : H'.ob j = H.ob j := by simp only [Heap.ob, h.get j hj]
/-- One object moved to the end. -/
structure Moved (H : Heap) (id : Nat) (o : Ob) (H' : Heap) : Prop where
  len : H'.length = H.length + 1
  self : H'.ob H.length = some o
  get : ∀ j, j ≠ id → j < H.length → H'[j]? = H[j]?
theorem Moved.ob {H H' : Heap} {id : Nat} {o : Ob} (h : Moved H id o H') {j : Nat} (hj : j ≠ id) (hl : j < H.length) : H'.ob j = H.ob j := by simp only [Heap.ob, h.get j hj hl]
theorem Moved.ob' {H H' : Heap} {id : Nat} {o o' : Ob} (h : Moved H id o H') {j : Nat} (hj : j ≠ id) (ho : H.ob j = some o') : H'.ob j = some o' := by rw [h.ob hj (ob_lt ho), ho]
theorem Wrote.ob' {H H' : Heap} {id : Nat} {o o' : Ob} (h : Wrote H id o H') {j : Nat} (hj : j ≠ id) (ho : H.ob j = some o') : H'.ob j = some o' := by rw [h.ob hj, ho]
/-- One object let go, another number used up. -/
structure Gone (H : Heap) (id : Nat) (H' : Heap) : Prop where
  len : H'.length = H.length + 1
  get : ∀ j, j ≠ id → j < H.length → H'[j]? = H[j]?
theorem Gone.ob {H H' : Heap} {id : Nat} (h : Gone H id H') {j : Nat} (hj : j ≠ id) (hl : j < H.length) : H'.ob j = H.ob j := by simp only [Heap.ob, h.get j hj hl]
theorem Gone.ob' {H H' : Heap} {id : Nat} {o' : Ob} (h : Gone H id H') {j : Nat} (hj : j ≠ id) (ho : H.ob j = some o') : H'.ob j = some o' := by rw [h.ob hj (ob_lt ho), ho]
/-- The heap behind a call. -/
structure CallH (ns : List Nat) (H Hc' H' : Heap) : Prop where
  len : H'.length = H.length + (Hc'.length - ns.length)
  inn : ∀ (i id : Nat) (o : Ob), ns[i]? = some id → Hc'[i]? = some (some o) → H'.ob id = some (o.ren (renOf ns H.length))
  get : ∀ j, j ∉ ns → j < H.length → H'[j]? = H[j]?
  new : ∀ (i : Nat) (o : Ob), Hc'[ns.length + i]? = some (some o) → H'.ob (H.length + i) = some (o.ren (renOf ns H.length))
theorem CallH.ob {ns : List Nat} {H Hc' H' : Heap} (h : CallH ns H Hc' H') {j : Nat} (hj : j ∉ ns) (hl : j < H.length) : H'.ob j = H.ob j := by simp only [Heap.ob, h.get j hj hl]
theorem CallH.ob' {ns : List Nat} {H Hc' H' : Heap} {o' : Ob} (h : CallH ns H Hc' H') {j : Nat} (hj : j ∉ ns) (ho : H.ob j = some o') : H'.ob j = some o' := by rw [h.ob hj (ob_lt ho), ho]

theorem pos_none : ∀ {ns : List Nat} {k : Nat}, k ∉ ns → pos ns k = none
  | [], _, _ => rfl
  | x :: r, k, h => by
    simp only [List.mem_cons, not_or] at h
    simp [pos, Ne.symm h.1, pos_none h.2]

theorem putBack_callH {ns : List Nat} {H Hc' : Heap} (hn : ns.Nodup) (hl : ∀ n ∈ ns, n < H.length) (hc : ns.length ≤ Hc'.length) : CallH ns H Hc' (putBack ns H Hc') := by
  refine ⟨by simp [putBack, putB_length], fun i id o hi ho => ?_, fun j hj hjl => ?_, fun i o ho => ?_⟩
  · have hid := hl id (List.mem_of_getElem? hi)
    simp only [Heap.ob, putBack]
    rw [List.getElem?_append_left (by rw [putB_length]; exact hid), putB_get]
    simp only [Nat.zero_add, pos_of hn hi]
    rw [List.getD_eq_getElem?_getD, ho]
    simp [hid]
  · simp only [putBack]
    rw [List.getElem?_append_left (by rw [putB_length]; exact hjl), putB_get]
    simp only [Nat.zero_add, pos_none hj]
    cases H[j]? <;> rfl
  · simp only [Heap.ob, putBack]
    rw [List.getElem?_append_right (by rw [putB_length]; omega), putB_length, Nat.add_sub_cancel_left, List.getElem?_map, List.getElem?_drop, ho]
    rfl

section
variable {P : Program} {vs env : List AV} {H : Heap} {K : AV → Heap → Prop}

theorem stA_store {n sz id ix o : Nat} {agg : Bool} {x y : Arg} {pend solid : List Arg} {es : List AV} {v e' : AV} (ho : argsOb (evalA vs env) [x, y] ∧ solidOk (evalA vs env) solid) (hx : (evalA vs env x).strip = .ptr id ix o) (hy : (evalA vs env y).strip = v)
    (ha : arrOf H id = some (sz, es)) (hl : ix < es.length ∧ o + n ≤ sz) (hv : v.fits n = true) (hu : updA sz (es.getD ix .undef) o n v = e') (hf : e'.fits sz = true)
    (hk : ∀ H', Wrote H id (.arr sz (es.set ix e')) H' → pendOk (evalA vs env) H H' pend ∧ K .undef H') : wpEff P (evalA vs env) H (.store n agg x y) pend solid false K :=
  st_store ho hx hy ha hl hv hu hf (hk _ ⟨by simp, ob_set_self (arrOf_lt ha), fun j hj => List.getElem?_set_ne (fun e => hj e.symm)⟩)

theorem stA_app {sz b : Nat} {x y : Arg} {id off len : Nat} {es : List AV} {ds : List DV} (ho : argsOb (evalA vs env) [x, y]) (hx : (evalA vs env x).strip = .hs id off len sz) (hy : (evalA vs env y).strip = .d (.vs ds))
    (ha : arrOf H id = some (sz, es)) (hl : off + len = es.length) (hf : ∀ d ∈ ds, d.fits sz = true) (hb : (len + ds.length) * b ≤ 140737488355328 ∧ len + ds.length ≤ 4611686018427387904)
    (hk : ∀ H', Moved H id (.arr sz (es.drop off ++ ds.map .d)) H' → K (.hs H.length 0 (len + ds.length) sz) H') : wpEff P (evalA vs env) H (.append sz b x y) [] [] false K :=
  st_app ho hx hy ha hl hf hb (hk _ ⟨by simp, ob_app_new, fun j hj hjl => by rw [List.getElem?_append_left (by simpa using hjl), List.getElem?_set_ne (fun e => hj e.symm)]⟩)

/-- An append whose result nobody writes any more. -/
theorem stA_appF {sz b : Nat} {x y : Arg} {pend solid : List Arg} {id off len : Nat} {es : List AV} {olds ds : List DV} (ho : argsOb (evalA vs env) [x, y] ∧ solidOk (evalA vs env) solid) (hx : (evalA vs env x).strip = .hs id off len sz) (hy : (evalA vs env y).strip = .d (.vs ds))
    (ha : arrOf H id = some (sz, es)) (he : es.drop off = olds.map .d) (hl : off + len = es.length) (hf : ∀ d ∈ ds, d.fits sz = true) (hb : (len + ds.length) * b ≤ 140737488355328 ∧ len + ds.length ≤ 4611686018427387904)
    (hk : ∀ H', Gone H id H' → pendOk (evalA vs env) H H' pend ∧ K (.d (.vs (olds ++ ds))) H') : wpEff P (evalA vs env) H (.append sz b x y) pend solid true K := by
  refine ⟨ho.1, ho.2, ?_⟩
  rw [wpE_append, run_go, run_go, hx, hy]
  unfold wpAppend srcE
  simp only [ha, List.length_map, true_and]
  refine ⟨hf, hl, hb, ?_⟩
  have hol : olds.length = len := by have := congrArg List.length he; simp at this; omega
  have hfr : frz true (.hs H.length 0 (len + ds.length) sz) (H.set id none ++ [some (Ob.arr sz (es.drop off ++ ds.map AV.d))]) = (.d (.vs (olds ++ ds)), (H.set id none ++ [some (Ob.arr sz (es.drop off ++ ds.map AV.d))] : Heap).set H.length none) := by
    unfold frz
    have h1 : arrOf (H.set id none ++ [some (Ob.arr sz (es.drop off ++ ds.map AV.d))]) H.length = some (sz, es.drop off ++ ds.map .d) := arrOf_ob ob_app_new
    have h2 : toDL (((es.drop off ++ ds.map AV.d).drop 0).take (len + ds.length)) = some (olds ++ ds) := by
      rw [List.drop_zero, he, ← List.map_append, List.take_of_length_le (by simp; omega), toDL_map]
    simp only [if_true, h1, h2]
    rw [if_pos (by rw [he]; simp; omega)]
  rw [hfr]
  refine hk _ ⟨by simp, fun j hj hjl => ?_⟩
  rw [List.getElem?_set_ne (by omega), List.getElem?_append_left (by simpa using hjl), List.getElem?_set_ne (fun e => hj e.symm)]

theorem stA_mapUpd {ks : KS} {m k v : Arg} {id : Nat} {es : List (DV × AV)} {kd : DV} {vv : AV} (ho : argsOb (evalA vs env) [m, k, v]) (hm : (evalA vs env m).strip = .mp id) (hkk : (evalA vs env k).strip = .d kd) (hv : (evalA vs env v).strip = vv)
    (ha : mapOf H id = some (ks, es)) (hc : kd.conf ks = true) (hk : ∀ H', Wrote H id (.map ks (assocSet es kd vv)) H' → K .undef H') : wpEff P (evalA vs env) H (.mapUpd ks m k v) [] [] false K :=
  st_mapUpd ho hm hkk hv ha hc (hk _ ⟨by simp, ob_set_self (mapOf_lt ha), fun j hj => List.getElem?_set_ne (fun e => hj e.symm)⟩)

theorem stA_call {f : FuncId} {args : List Arg} {pend solid : List Arg} {xs ys : List AV} {Hc : Heap} {R : AV → Heap → Prop} (ns : List Nat) (ho : argsOb (evalA vs env) args ∧ solidOk (evalA vs env) solid) (hx : (args.map fun x => (evalA vs env x).strip) = xs)
    (hf : Fn P f ys Hc R) (ha : argsM (renOf ns H.length) xs ys) (hh : handM (renOf ns H.length) H ns Hc) (hn : ns.Nodup)
    (hk : ∀ r Hc' H', R r Hc' → CallH ns H Hc' H' → pendOk (evalA vs env) H H' pend ∧ K (r.ren (renOf ns H.length)) H') : wpEff P (evalA vs env) H (.call f args) pend solid false K := by
  refine st_callH ns ho hx hf ha hh hn (fun r Hc' hr hl => ?_)
  obtain ⟨h1, h2, _⟩ := handM_get hh
  have := hk r Hc' _ hr (putBack_callH hn h2 (by omega))
  simpa [frz] using this
theorem st_isNil {ng : Bool} {x : Arg} {xs : List DV} (ho : argsOb (evalA vs env) [x]) (hx : (evalA vs env x).strip = .d (.vs xs)) (hk : ∀ b : Bool, (xs ≠ [] → b = false) → K (.d (.bool (if ng then !b else b))) H) :
    wpEff P (evalA vs env) H (.isNil ng x) [] [] false K := by
  refine ⟨ho, trivial, ?_⟩
  rw [wpE_isNil, run_go, hx]
  exact fun b hb => ⟨trivial, by simpa [frz] using hk b hb⟩
theorem st_callv {f : FuncId} {fv : Arg} {args pend solid : List Arg} {fz : Bool} (ho : argsOb (evalA vs env) (fv :: args) ∧ solidOk (evalA vs env) solid) (hfv : (evalA vs env fv).strip = .d (.fn f)) (hc : callable P f = true)
    (h : wpEff P (evalA vs env) H (.call f args) pend solid fz K) : wpEff P (evalA vs env) H (.callv fv args) pend solid fz K := by
  refine ⟨ho.1, ho.2, ?_⟩
  have := h.2.2
  simp only [wpE, hfv]
  exact ⟨hc, this⟩
end

theorem updA_whole {n : Nat} {e v : AV} : updA n e 0 n v = v := by simp [updA]
theorem undL_data {n : Nat} : ∀ ds : List DV, undL n (ds.map .d) = true
  | [] => rfl
  | d :: r => by simp [undL, AV.und, undL_data r]
theorem take2 {H : Heap} {a b : Ob} (h0 : H.ob 0 = some a) (h1 : H.ob 1 = some b) : H.take 2 = [some a, some b] := by
  have h0 := ob_get h0
  have h1 := ob_get h1
  match H, h0, h1 with
  | [], h0, _ => simp at h0
  | [x], _, h1 => simp at h1
  | x :: y :: r, h0, h1 => simp at h0 h1; simp [h0, h1]
theorem atEnd_H {xs : List RV} {H : Heap} {R : AV → Heap → Prop} {s s' : St} (n : Nat) (hg : Gh s s') (ho : evRs s' xs) (h1 : H.length ≤ n) (h2 : n ≤ s'.heap.length) (hu : ∀ (i : Nat) (o : Ob), i < n → s'.heap[i]? = some (some o) → o.und n = true)
    (hr : (resV s' xs).und n = true) (hR : R (resV s' xs) (s'.heap.take n)) : AtEnd xs H R s := ⟨s', hg, ho, n, h1, h2, hu, hr, hR⟩
theorem atEnd_Hr {xs : List RV} {H : Heap} {R : AV → Heap → Prop} {s s' : St} (n : Nat) (hg : Gh s s') (ho : evRs s' xs) (h1 : H.length ≤ n) (h2 : n ≤ s'.heap.length) (hu : ∀ (i : Nat) (o : Ob), i < n → s'.heap[i]? = some (some o) → o.und n = true)
    (hr : (resV s' xs).und n = true) (hR : R (resV s' xs) (s'.heap.take n)) : atEnd xs H R .ret s := ⟨s', hg, ho, n, h1, h2, hu, hr, hR⟩
theorem atEnd_Hn {xs : List RV} {H : Heap} {R : AV → Heap → Prop} {s s' : St} (n : Nat) (hg : Gh s s') (ho : evRs s' xs) (h1 : H.length ≤ n) (h2 : n ≤ s'.heap.length) (hu : ∀ (i : Nat) (o : Ob), i < n → s'.heap[i]? = some (some o) → o.und n = true)
    (hr : (resV s' xs).und n = true) (hR : R (resV s' xs) (s'.heap.take n)) : atEnd xs H R .normal s := ⟨s', hg, ho, n, h1, h2, hu, hr, hR⟩
end Go.Vm
/- Slices that grow. -/
namespace Go.Vm
open Go
variable [Gl]

/-- A slice that nobody else holds, with the data in it. -/
def OwnS (H : Heap) (v : AV) (sz : Nat) (ds : List DV) : Prop := (v = .nils ∧ ds = []) ∨ ∃ id, v = .hs id 0 ds.length sz ∧ H.ob id = some (.arr sz (ds.map .d))
theorem OwnS.nils (H : Heap) (sz : Nat) : OwnS H .nils sz [] := .inl ⟨rfl, rfl⟩
theorem OwnS.sob {H : Heap} {v : AV} {sz : Nat} {ds : List DV} (h : OwnS H v sz ds) : v.sob ∧ v.strip = v ∧ v.cells = [v] ∧ v.one = true := by
  rcases h with ⟨rfl, _⟩ | ⟨id, rfl, _⟩ <;> exact ⟨trivial, rfl, rfl, rfl⟩
theorem OwnS.frame {H H' : Heap} {v : AV} {sz : Nat} {ds : List DV} (h : OwnS H v sz ds) (hf : ∀ id, v.rid = some id → H'.ob id = H.ob id) : OwnS H' v sz ds := by
  rcases h with h | ⟨id, rfl, ho⟩
  · exact .inl h
  · exact .inr ⟨id, rfl, by rw [hf id rfl]; exact ho⟩
theorem OwnS.lt {H : Heap} {v : AV} {sz : Nat} {ds : List DV} (h : OwnS H v sz ds) {id : Nat} (hr : v.rid = some id) : id < H.length := by
  rcases h with ⟨rfl, _⟩ | ⟨i, rfl, ho⟩
  · cases hr
  · cases hr; exact ob_lt ho
theorem OwnS.len {H : Heap} {v : AV} {sz : Nat} {ds : List DV} {G : Nat → Option Ob} (h : OwnS H v sz ds) : lenV G 0 v = ⟨True, .d (.int .i64 ds.length), .none⟩ := by
  rcases h with ⟨rfl, rfl⟩ | ⟨id, rfl, ho⟩ <;> rfl

section
variable {P : Program} {vs env : List AV} {H : Heap} {K : AV → Heap → Prop}
theorem stA_appO {sz b : Nat} {x y : Arg} {v : AV} {olds ds : List DV} (ho : argsOb (evalA vs env) [x, y]) (hx : (evalA vs env x).strip = v) (hy : (evalA vs env y).strip = .d (.vs ds))
    (ha : OwnS H v sz olds) (hf : ∀ d ∈ ds, d.fits sz = true) (hb : (olds.length + ds.length) * b ≤ 140737488355328 ∧ olds.length + ds.length ≤ 4611686018427387904)
    (hk : ∀ v' H', OwnS H' v' sz (olds ++ ds) → v'.rid = some H.length → H'.length = H.length + 1 → (∀ j, j < H.length → v.rid ≠ some j → H'[j]? = H[j]?) → K v' H') : wpEff P (evalA vs env) H (.append sz b x y) [] [] false K := by
  rcases ha with ⟨rfl, rfl⟩ | ⟨id, rfl, ho2⟩
  · refine st_app0 ho hx hy hf (by simpa using hb) (hk _ _ (.inr ⟨H.length, by simp, ob_new⟩) rfl (by simp) fun j hj _ => ?_)
    rw [List.getElem?_append_left hj]
  · refine stA_app (id := id) (off := 0) (len := olds.length) ho hx hy (arrOf_ob ho2) (by simp) hf hb (fun H' hM => hk _ _ (.inr ⟨H.length, by simp, ?_⟩) rfl hM.len fun j hj hne => hM.get j (fun e => hne (by simp [AV.rid, e])) hj)
    rw [hM.self]; simp
/-- An append of whatever data a slice holds. -/
theorem stA_appO2 {sz b : Nat} {x y : Arg} {v : AV} {olds ds : List DV} (ho : argsOb (evalA vs env) [x, y]) (hx : (evalA vs env x).strip = v) (hy : (evalA vs env y).strip = .d (.vs ds))
    (ha : OwnS H v sz olds) (hf : ∀ d ∈ ds, d.fits sz = true) (hb : (olds.length + ds.length) * b ≤ 140737488355328 ∧ olds.length + ds.length ≤ 4611686018427387904)
    (hk : ∀ v' H', OwnS H' v' sz (olds ++ ds) → v'.rid = some H.length → H'.length = H.length + 1 → (∀ j, j < H.length → v.rid ≠ some j → H'.ob j = H.ob j) → K v' H') : wpEff P (evalA vs env) H (.append sz b x y) [] [] false K :=
  stA_appO ho hx hy ha hf hb fun v' H' h1 h2 h3 h4 => hk v' H' h1 h2 h3 fun j hj hne => by simp only [Heap.ob, h4 j hj hne]
end

/-- A growing slice at the end: data. -/
theorem Gh.own {xs : List AV} {H : Heap} {i sz : Nat} {v : AV} {ds : List DV} (hi : xs[i]? = some v) (h : OwnS H v sz ds) : ∃ H', Gh ⟨xs, H⟩ ⟨xs.set i (.d (.vs ds)), H'⟩ ∧ H'.length = H.length ∧ ∀ j, v.rid ≠ some j → H'.ob j = H.ob j := by
  rcases h with ⟨rfl, rfl⟩ | ⟨id, rfl, ho⟩
  · refine ⟨H, fun μ F w hR => ⟨μ, F, Post.refl hR, fun j x' hx => ?_⟩, rfl, fun _ _ => rfl⟩
    rw [List.getElem?_set] at hx
    split at hx
    · rename_i e; subst e
      split at hx
      · cases hx; exact ⟨_, hi, fun u hu => norm_rep hu⟩
      · cases hx
    · exact ⟨x', hx, fun u hu => hu⟩
  · refine ⟨_, Gh.freeze hi (arrOf_ob ho) (by simp) ?_, by simp, fun j hj => ob_set_ne fun e => hj (by simp [AV.rid, e])⟩
    rw [List.drop_zero, List.take_of_length_le (by simp), toDL_map]
theorem atEnd_own {v sz : Nat} {vs : List AV} {H : Heap} {a x : AV} {ds : List DV} (hi : vs[v]? = some a) (ho : OwnS H a sz ds) (hx : AV.d (.vs ds) = x) : AtEnd [.tmp v] [] (fun r H' => r = x ∧ H' = []) ⟨vs, H⟩ := by
  subst hx
  have hv := (List.getElem?_eq_some_iff.1 hi).1
  obtain ⟨H', hg, _, _⟩ := Gh.own hi ho
  have e : (vs.set v (.d (.vs ds))).getD v .undef = .d (.vs ds) := by simp [List.getD_eq_getElem?_getD, hv]
  refine ⟨_, hg, ⟨trivial, trivial⟩, 0, Nat.le_refl _, Nat.zero_le _, fun i o h => absurd h (Nat.not_lt_zero _), ?_, ?_, by simp⟩
  · show ((vs.set v (.d (.vs ds))).getD v .undef).und 0 = true
    rw [e]; rfl
  · exact e

theorem subm_ob {g : AV → AV} {H : Heap} {j : Nat} : (Heap.subm g H).ob j = (H.ob j).map (Ob.subm g) := by
  simp only [Heap.ob, Heap.subm, List.getElem?_map]
  cases H[j]? with
  | none => rfl
  | some o => cases o <;> rfl
theorem subm_data {g : AV → AV} {sz : Nat} (ds : List DV) : (Ob.arr sz (ds.map .d)).subm g = .arr sz (ds.map .d) := by
  simp only [Ob.subm, submL_map, List.map_map]
  congr 1
end Go.Vm
