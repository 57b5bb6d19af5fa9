/- Regions and code: what they ask. -/
import Derived.Test.YtibpfnjbgojfoaaDoorV5
import Derived.Orders
set_option linter.all false
namespace Go.Vm
open Go
variable [Gl]

def AV.isD : AV → Bool
  | .d _ => true
  | _ => false

def pendOk (ρ : Arg → AV) (H H' : Heap) : List Arg → Prop
  | [] => True
  | x :: r => (match (ρ x).strip.rid with
    | some id => H[id]? = H'[id]?
    | none => True) ∧ pendOk ρ H H' r
def solidOk (ρ : Arg → AV) : List Arg → Prop
  | [] => True
  | x :: r => (ρ x).strip.isD = true ∧ solidOk ρ r

/-- A slice that nobody writes any more is data. -/
def frz (fz : Bool) (v : AV) (H : Heap) : AV × Heap := if fz then match v with
    | .hs id off len _ => match arrOf H id with
      | some (_, es) => if off + len ≤ es.length then match toDL ((es.drop off).take len) with
          | some ds => (.d (.vs ds), H.set id none)
          | none => (v, H)
        else (v, H)
      | none => (v, H)
    | .nils => (.d (.vs []), H)
    | _ => (v, H)
  else (v, H)

def wpEff (P : Program) (ρ : Arg → AV) (H : Heap) (op : EOp) (pend solid : List Arg) (fz : Bool) (K : AV → Heap → Prop) : Prop :=
  argsOb ρ op.args ∧ solidOk ρ solid ∧ wpE P H (fun x => (ρ x).strip) op fun v H' => pendOk ρ H (frz fz v H').2 pend ∧ K (frz fz v H').1 (frz fz v H').2

/-- A region, its results in the order of the machine, the latest first. -/
def wpL (P : Program) (vs : List AV) : List Ins → List AV → Heap → (List AV → Heap → Prop) → Prop
  | [], env, H, K => K env H
  | .n none op :: r, env, H, K => (op.evS (evalA vs env) H.ob H.length).ob ∧ wpL P vs r ((op.evS (evalA vs env) H.ob H.length).v :: env) ((op.evS (evalA vs env) H.ob H.length).new.add H) K
  | .n (some (g, want)) op :: r, env, H, K => match flagOf want (evalA vs env g) with
    | none => False
    | some e => (e = true → (op.evS (evalA vs env) H.ob H.length).ob) ∧
      if op.makes then (e = true → wpL P vs r (.when true (op.evS (evalA vs env) H.ob H.length).v :: env) ((op.evS (evalA vs env) H.ob H.length).new.add H) K) ∧ (e = false → wpL P vs r (.when false (.d (.bool false)) :: env) H K)
      else ∃ v, (e = true → v = (op.evS (evalA vs env) H.ob H.length).v) ∧ wpL P vs r (.when e v :: env) H K
  | .e none op pend solid fz :: r, env, H, K => wpEff P (evalA vs env) H op pend solid fz fun v H' => wpL P vs r (v :: env) H' K
  | .e (some (g, want)) op pend solid fz :: r, env, H, K => match flagOf want (evalA vs env g) with
    | none => False
    | some e => (e = true → wpEff P (evalA vs env) H op pend solid fz fun v H' => wpL P vs r (.when true v :: env) H' K) ∧
      (e = false → solidOk (evalA vs env) solid ∧ wpL P vs r (.when false (.d (.bool false)) :: env) H K)

def setOuts (env : List AV) : List (Nat × Nat) → List AV → List AV
  | [], vs => vs
  | (v, k) :: r, vs => setOuts env r (vs.set v (env.getD k .undef))

def wpReg (P : Program) (r : Reg) (st : St) (K : St → Prop) : Prop :=
  wpL P st.vars r.ins [] st.heap fun env H => K ⟨setOuts env r.outs st.vars, H⟩

/-- What stands for an operation that may still wait for its turn. -/
def NFact (ρ : Arg → AV) (G : Nat → Option Ob) (fresh : Nat) (g : Option (Arg × Bool)) (op : NOp) (v : AV) (new : New) : Prop := match g with
  | none => (op.evS ρ G fresh).ob ∧ v = (op.evS ρ G fresh).v ∧ new = (op.evS ρ G fresh).new
  | some (x, want) => ∃ e, flagOf want (ρ x) = some e ∧ (e = true → (op.evS ρ G fresh).ob ∧ v = .when true (op.evS ρ G fresh).v ∧ new = (op.evS ρ G fresh).new) ∧ (e = false → (∃ y, v = .when false y) ∧ new = .none)

section
variable {ρ : Arg → AV} {G G' : Nat → Option Ob} {fresh : Nat}

theorem loadV_congr {n : Nat} {agg : Bool} {x : AV} (h : ∀ id ob, x.rid = some id → G id = some ob → G' id = some ob) (hob : (loadV G n agg x).ob) : loadV G' n agg x = loadV G n agg x := by
  cases x <;> try rfl
  rename_i id ix o
  simp only [loadV] at hob ⊢
  cases hG : G id with
  | none => rw [hG] at hob; exact hob.elim
  | some ob => rw [h id ob rfl hG]

theorem lookupV_congr {ok : Bool} {ks : KS} {z x k : AV} (h : ∀ id ob, x.rid = some id → G id = some ob → G' id = some ob) (hob : (lookupV G ok ks z x k).ob) : lookupV G' ok ks z x k = lookupV G ok ks z x k := by
  cases x with
  | mp id =>
    cases k with
    | d k =>
      simp only [lookupV] at hob ⊢
      cases hG : G id with
      | none => rw [hG] at hob; exact hob.elim
      | some ob => rw [h id ob rfl hG]
    | _ => rfl
  | d x => cases x <;> cases k <;> rfl
  | _ => rfl

theorem lenV_congr {k : Nat} {x : AV} (h : k = 2 → ∀ id ob, x.rid = some id → G id = some ob → G' id = some ob) (hob : (lenV G k x).ob) : lenV G' k x = lenV G k x := by
  match k, x with
  | 2, .mp id =>
    simp only [lenV] at hob ⊢
    cases hG : G id with
    | none => rw [hG] at hob; exact hob.elim
    | some ob => rw [h rfl id ob rfl hG]
  | 0, x => cases x <;> first | rfl | (rename_i x; cases x <;> rfl)
  | 1, x => cases x <;> first | rfl | (rename_i x; cases x <;> rfl)
  | 2, .d x => cases x <;> rfl
  | 2, .undef => rfl
  | 2, .nils => rfl
  | 2, .ptr _ _ _ => rfl
  | 2, .hs _ _ _ _ => rfl
  | 2, .it _ => rfl
  | 2, .fp _ _ => rfl
  | 2, .clo _ _ => rfl
  | 2, .ifc _ _ => rfl
  | 2, .agg _ => rfl
  | 2, .tup _ => rfl
  | 2, .when _ _ => rfl
  | n + 3, x => cases x <;> first | rfl | (rename_i x; cases x <;> rfl)

theorem evS_congr {op : NOp} (h : ∀ x, op.reads = some x → ∀ id ob, (ρ x).strip.rid = some id → G id = some ob → G' id = some ob) (hob : (op.evS ρ G fresh).ob) : op.evS ρ G' fresh = op.evS ρ G fresh := by
  cases op with
  | load n agg x =>
    have := loadV_congr (n := n) (agg := agg) (h x rfl) hob.2
    simp only [NOp.evS, NOp.ev, this]
  | lookup ok ks z x k =>
    have := lookupV_congr (ok := ok) (ks := ks) (z := z) (k := (ρ k).strip) (h x rfl) hob.2
    simp only [NOp.evS, NOp.ev, this]
  | len k x =>
    have := lenV_congr (k := k) (x := (ρ x).strip) (fun hk => by subst hk; exact h x rfl) hob.2
    simp only [NOp.evS, NOp.ev, this]
  | _ => rfl

theorem evS_new {op : NOp} (h : op.makes = false) : (op.evS ρ G fresh).new = .none := by
  have no : NR.no.new = .none := rfl
  cases op <;> simp only [NOp.makes, Bool.true_eq_false] at h <;> simp only [NOp.evS, NOp.ev]
  all_goals first
    | rfl
    | (unfold pickV; repeat' split) <;> rfl
    | (split <;> first | rfl | (unfold pickV; repeat' split) <;> rfl)
    | (unfold binV; repeat' split) <;> first | rfl | (unfold binInt; split <;> rfl)
    | (unfold eqsV; repeat' split) <;> rfl
    | (unfold notV; repeat' split) <;> rfl
    | (unfold negV; repeat' split) <;> rfl
    | (unfold convV; repeat' split) <;> rfl
    | (unfold fieldAddrV; repeat' split) <;> rfl
    | (unfold loadV; repeat' split) <;> rfl
    | (unfold sliceV; repeat' split) <;> rfl
    | (unfold idxAddrV; repeat' split) <;> rfl
    | (unfold idxArrV; repeat' split) <;> rfl
    | (unfold lookupV; repeat' split) <;> rfl
    | (unfold extractV; repeat' split) <;> rfl
    | (unfold lenV; repeat' split) <;> rfl
    | (unfold minmaxV; repeat' split) <;> rfl
    | (unfold nilCheckV; repeat' split) <;> rfl
    | (unfold mkIfaceV; repeat' split) <;> rfl
    | (unfold mkFuncV; repeat' split) <;> rfl

/-- Where an object is made, the value leads to it. -/
theorem evS_obj {op : NOp} {ob : Ob} (h : (op.evS ρ G fresh).new = .obj ob) : (op.evS ρ G fresh).v.rid = some fresh := by
  have hm : op.makes = true := by
    cases hm : op.makes with
    | true => rfl
    | false => rw [evS_new hm] at h; cases h
  cases op <;> simp only [NOp.makes, Bool.false_eq_true] at hm <;> simp only [NOp.evS, NOp.ev] at h ⊢
  · rfl
  · rfl
  · unfold litV at h ⊢; repeat' split <;> first | rfl | (rename_i a b; simp [a, b] at h) | skip
    all_goals simp_all [AV.rid]
  · rfl
  · unfold mkSliceV at h ⊢; split <;> first | rfl | (rename_i a b; simp_all [NR.no])

theorem NFact.congr {g : Option (Arg × Bool)} {op : NOp} {v : AV} {new : New} (h : ∀ x, op.reads = some x → ∀ id ob, (ρ x).strip.rid = some id → G id = some ob → G' id = some ob)
    (hf : NFact ρ G fresh g op v new) : NFact ρ G' fresh g op v new := by
  cases g with
  | none =>
    obtain ⟨h1, h2, h3⟩ := hf
    have := evS_congr (fresh := fresh) h h1
    exact ⟨by rw [this]; exact h1, by rw [this]; exact h2, by rw [this]; exact h3⟩
  | some g =>
    obtain ⟨x, want⟩ := g
    obtain ⟨e, h1, h2, h3⟩ := hf
    refine ⟨e, h1, fun he => ?_, h3⟩
    obtain ⟨h4, h5, h6⟩ := h2 he
    have := evS_congr (fresh := fresh) h h4
    exact ⟨by rw [this]; exact h4, by rw [this]; exact h5, by rw [this]; exact h6⟩

/-- Where an object is made, the value is no data. -/
theorem NFact.obj {g : Option (Arg × Bool)} {op : NOp} {v : AV} {ob : Ob} (hf : NFact ρ G fresh g op v (.obj ob)) : v.strip.isD = false ∧ op.makes = true := by
  have key : ∀ v, v = (op.evS ρ G fresh).v → (New.obj ob) = (op.evS ρ G fresh).new → v.isD = false ∧ op.makes = true := by
    intro v hv hn
    refine ⟨?_, ?_⟩
    · have := evS_obj hn.symm
      rw [← hv] at this
      cases v <;> first | rfl | (simp [AV.rid] at this)
    · cases hm : op.makes with
      | true => rfl
      | false => rw [evS_new hm] at hn; cases hn
  have st : ∀ v : AV, v.rid.isSome = true → v.strip = v := by intro v hv; cases v <;> first | rfl | (simp [AV.rid] at hv)
  cases g with
  | none =>
    obtain ⟨_, h2, h3⟩ := hf
    have := key v h2 h3
    have hr := evS_obj h3.symm
    rw [← h2] at hr
    rw [st v (by rw [hr]; rfl)]; exact this
  | some g =>
    obtain ⟨x, want⟩ := g
    obtain ⟨e, _, h2, h3⟩ := hf
    cases e with
    | true =>
      obtain ⟨_, h5, h6⟩ := h2 rfl
      subst h5
      exact key _ rfl h6
    | false => exact absurd (h3 rfl).2 (by simp)
end


section
variable {μ : Locs} {F : Nat → Prop} {w : World} {H : Heap}

theorem Rel.freeze (hR : Rel μ F w H) {id : Nat} {l : Loc} {o : Ob} (hm : μ id = some l) (ho : H[id]? = some (some o)) : Post μ F w H μ (fun b => F b ∨ b = l.blk) w (H.set id none) := by
  have old : ∀ i o, (H.set id none)[i]? = some (some o) → i ≠ id ∧ H[i]? = some (some o) := fun i o h => by
    have ⟨hne, _⟩ := alive_set_none ⟨o, h⟩
    exact ⟨hne, by rwa [List.getElem?_set_ne (fun h => hne h.symm)] at h⟩
  refine ⟨⟨fun i l' o' hm' h => ?_, fun i j l1 l2 o1 o2 h1 h2 h3 h4 h5 => hR.inj i j l1 l2 o1 o2 h1 h2 (old i o1 h3).2 (old j o2 h4).2 h5, fun i l' o' hm' h hF => ?_, hR.lt, fun b hb => ?_, fun i l' h => by simpa using hR.idlt i l' h, hR.gl.mono (fun _ h => .inl h) (fun _ _ => rfl)⟩, ?_, by simp, fun i _ ⟨o, h⟩ => ⟨o, (old i o h).2⟩⟩
  · exact (hR.ob i l' o' hm' (old i o' h).2).mono (fun _ _ h => h) (fun _ h => .inl h) (fun _ _ => rfl) rfl
  · obtain ⟨hne, h'⟩ := old i o' h
    rcases hF with hF | hF
    · exact hR.nF i l' o' hm' h' hF
    · exact hne (hR.inj i id l' l o' o hm' hm h' ho hF)
  · rcases hb with hb | rfl
    · exact hR.Flt b hb
    · exact hR.lt id l hm
  · refine ⟨fun _ _ h => h, fun _ h => .inl h, Nat.le_refl _, rfl, rfl, ⟨rfl, Nat.le_refl _⟩, fun _ _ _ => rfl, fun _ _ h => .inl h, fun b hb => ?_⟩
    rcases hb with hb | hb
    · exact .inl hb
    · exact .inr (.inr ⟨id, l, ⟨o, ho⟩, hm, hb.symm⟩)

theorem frz_hs {id off len sz sz' : Nat} {es : List AV} {ds : List DV} (hR : Rel μ F w H) (ha : arrOf H id = some (sz', es)) (hl : off + len ≤ es.length) (hd : toDL ((es.drop off).take len) = some ds) :
    ∃ F', Post μ F w H μ F' w (H.set id none) ∧ (∀ b, F b → F' b) ∧ ∀ u, RepA μ F w (.hs id off len sz) u → RepA μ F' w (.d (.vs ds)) u := by
  have hH := arrOf_some ha
  have hlen : ((es.drop off).take len).length = len := by simp; omega
  cases hm : μ id with
  | none =>
    refine ⟨F, hR.kill id, fun _ h => h, fun u hu => ?_⟩
    cases hu with
    | hs _ _ _ _ l c h => rw [hm] at h; cases h
    | hs0 _ _ _ a =>
      have : ds = [] := by
        have := (toDL_some hd).1
        rw [hlen] at this
        exact List.length_eq_zero_iff.1 this
      subst this
      exact .d _ _ (.vs [] a 0 0 sz (fun _ _ => default) rfl (Nat.le_refl _) (by simp) (by simp) (by simp) (by simp))
  | some l =>
    refine ⟨_, hR.freeze hm hH, fun _ h => .inl h, fun u hu => ?_⟩
    cases hu with
    | hs _ _ _ _ l' c h hsz hlc hc =>
      rw [hm] at h; cases h
      obtain ⟨h1, h2, h3, h4, h5⟩ := hR.ob id l _ hm hH
      refine .d _ _ (frozen_row (μ := μ) (F' := fun b => F b ∨ b = l.blk) (w := w) (sz := sz) (.inr rfl) hd hlen.symm hlc (fun x hx => ?_) (fun i j x y hx hy => ?_))
      · rw [← hsz, h1]; exact h3 x (List.mem_of_mem_drop (List.mem_of_mem_take hx))
      · rw [List.getElem?_take] at hx
        split at hx
        · rw [List.getElem?_drop] at hx
          obtain ⟨u, h6, _, h8⟩ := h5 (off + i) j x y hx hy
          refine ⟨u, ?_, h8.mono (fun _ _ h => h) (fun _ h => .inl h) (fun _ _ => rfl)⟩
          rw [← h6]
          congr 2
          rw [← h1, hsz, Nat.add_mul]; omega
        · cases hx
    | hs0 _ _ _ a =>
      have : ds = [] := by
        have := (toDL_some hd).1
        rw [hlen] at this
        exact List.length_eq_zero_iff.1 this
      subst this
      exact .d _ _ (.vs [] a 0 0 sz (fun _ _ => default) rfl (Nat.le_refl _) (by simp) (by simp) (by simp) (by simp))

theorem frz_sound {fz : Bool} {v : AV} {u : Value} (hR : Rel μ F w H) (hu : RepA μ F w v u) : ∃ F', Post μ F w H μ F' w (frz fz v H).2 ∧ RepA μ F' w (frz fz v H).1 u := by
  have same : ∃ F', Post μ F w H μ F' w H ∧ RepA μ F' w v u := ⟨F, Post.refl hR, hu⟩
  unfold frz
  split
  · split
    · rename_i id off len sz
      split
      · rename_i sz' es ha
        split
        · rename_i hl
          split
          · rename_i ds hd
            obtain ⟨F', h1, _, h2⟩ := frz_hs (sz := sz) hR ha hl hd
            exact ⟨F', h1, h2 u hu⟩
          · exact same
        · exact same
      · exact same
    · exact ⟨F, Post.refl hR, norm_rep hu⟩
    · exact same
  · exact same
end

end Go.Vm
/- Regions: whatever the order, the machine's. -/
namespace Go.Vm
open Go
variable [Gl]

structure One (P : Program) (vars keeps : List Tmp) (ops : List Oper) (bef : Nat → Nat → Bool) (order : List Nat) (ins : List Ins) (p j : Nat) (o : Oper) (x : Ins) (g : Option (Arg × Bool)) : Prop where
  guard : compGuard ops bef order p j o.guard = some g
  op : (∃ op, x = .n g op ∧ compOp P (resAt vars ops bef order p j) (o.dst.any keeps.contains) o = some (.inl op)) ∨
    (∃ op pend solid fz, x = .e g op pend solid fz ∧ compOp P (resAt vars ops bef order p j) (o.dst.any keeps.contains) o = some (.inr op) ∧
      ∀ q i g' op', q < p → order[q]? = some i → bef i j = false → ins[q]? = some (.n g' op') → (∀ y, op'.reads = some y → y.shift (p - q) ∈ pend) ∧ (op'.makes = true → .loc (p - 1 - q) ∈ solid))

structure Plan (P : Program) (vars keeps : List Tmp) (nt : Nat) (ops : List Oper) (bef : Nat → Nat → Bool) (order : List Nat) (ins : List Ins) : Prop where
  olen : order.length = ops.length
  ilen : ins.length = order.length
  has : ∀ j, j < ops.length → order[order.idxOf j]? = some j
  idx : ∀ p j, order[p]? = some j → order.idxOf j = p ∧ j < ops.length
  dst : ∀ j o d, ops[j]? = some o → o.dst = some d → d < nt ∧ writerOf ops d = some j
  one : ∀ p j o x, order[p]? = some j → ops[j]? = some o → ins[p]? = some x → ∃ g, One P vars keeps ops bef order ins p j o x g
  eff : ∀ (q p i j : Nat) (x : Ins), ins[q]? = some x → x.isE = true → order[q]? = some i → order[p]? = some j → i ≠ j → bef i j = decide (q < p)

section
variable {P : Program} {vars keeps : List Tmp} {nt : Nat} {ops : List Oper} {bef : Nat → Nat → Bool} {order : List Nat}

theorem compAll_some {f : Nat → Nat → Option Ins} : ∀ {l : List Nat} {p : Nat} {ins : List Ins}, compAll f p l = some ins → ins.length = l.length ∧ ∀ q j x, l[q]? = some j → ins[q]? = some x → f (p + q) j = some x
  | [], p, ins, h => by cases h; simp
  | j :: r, p, ins, h => by
    simp only [compAll] at h
    split at h
    · rename_i x xs h1 h2
      cases h
      obtain ⟨h3, h4⟩ := compAll_some h2
      refine ⟨by simp [h3], fun q j' x' hj hx => ?_⟩
      cases q with
      | zero => simp at hj hx; subst hj; subst hx; simpa using h1
      | succ q =>
        simp at hj hx
        have := h4 q j' x' hj hx
        rwa [show p + 1 + q = p + (q + 1) from by omega] at this
    · cases h

theorem pendAll_get (ins : List Ins) : ∀ (l : List Nat) (p : Nat) (xs : List Ins), xs.length = l.length → (pendAll bef order ins p l xs).length = l.length ∧
    ∀ q y, (pendAll bef order ins p l xs)[q]? = some y → ∃ j x, l[q]? = some j ∧ xs[q]? = some x ∧ y = addPend bef order ins (p + q) j x
  | [], p, xs, h => by cases xs <;> simp [pendAll] at h ⊢
  | j :: r, p, [], h => by simp at h
  | j :: r, p, x :: xs, h => by
    obtain ⟨h1, h2⟩ := pendAll_get ins r (p + 1) xs (by simpa using h)
    refine ⟨by simp [pendAll, h1], fun q y hy => ?_⟩
    cases q with
    | zero => simp [pendAll] at hy; exact ⟨j, x, rfl, rfl, by simpa using hy.symm⟩
    | succ q =>
      simp [pendAll] at hy
      obtain ⟨j', x', h3, h4, h5⟩ := h2 q y hy
      exact ⟨j', x', by simpa using h3, by simpa using h4, by rw [h5, show p + 1 + q = p + (q + 1) from by omega]⟩

theorem zipIdx_all {α : Type} {l : List α} {f : α × Nat → Bool} (h : l.zipIdx.all f = true) (i : Nat) (x : α) (hx : l[i]? = some x) : f (x, i) = true := by
  rw [List.all_eq_true] at h
  exact h (x, i) (by rw [List.mem_zipIdx_iff_getElem?]; exact hx)

theorem writerOf_some {t : Tmp} {i : Nat} (h : writerOf ops t = some i) : ∃ o, ops[i]? = some o ∧ o.dst = some t := by
  unfold writerOf at h
  rw [List.findIdx?_eq_some_iff_getElem] at h
  obtain ⟨hi, h1, _⟩ := h
  exact ⟨ops[i], by simp [hi], by simpa using h1⟩

theorem plan_of {r : Reg} (h : compBy P vars keeps nt ops bef order = some r) : Plan P vars keeps nt ops bef order r.ins ∧
    r.outs = vars.zipIdx.filterMap fun (t, v) => (writerOf ops t).bind fun i => if order.idxOf i < order.length then some (v, order.length - 1 - order.idxOf i) else none := by
  unfold compBy at h
  split at h
  case isFalse => cases h
  rename_i hc
  split at h
  case h_2 => cases h
  rename_i ins hins
  split at h
  case isFalse => cases h
  rename_i he
  cases h
  simp only [Bool.and_eq_true] at hc
  obtain ⟨hp, hd⟩ := hc
  simp only [permOk, Bool.and_eq_true, beq_iff_eq] at hp
  obtain ⟨⟨hp1, hp2⟩, hp3⟩ := hp
  obtain ⟨hl, hget⟩ := compAll_some hins
  obtain ⟨hl2, hpend⟩ := pendAll_get (bef := bef) (order := order) ins order 0 ins hl
  refine ⟨⟨hp1, by rw [hl2], fun j hj => ?_, fun p j hj => ?_, fun j o d ho hd' => ?_, fun p j o x hj ho hx => ?_, fun q p i j x hx hxe hi hj hij => ?_⟩, rfl⟩
  · rw [List.all_eq_true] at hp2
    simpa using hp2 j (by simpa using hj)
  · have := zipIdx_all hp3 p j hj
    simpa using this
  · have := zipIdx_all hd j o ho
    simpa [hd'] using this
  · obtain ⟨j', x0, h1, h2, h3⟩ := hpend p x hx
    rw [hj] at h1; cases h1
    have h4 := hget p j x0 hj h2
    simp only [Nat.zero_add] at h4 h3
    simp only [compIns, ho] at h4
    split at h4
    · rename_i g op hg hop
      cases h4
      exact ⟨g, hg, .inl ⟨op, h3, hop⟩⟩
    · rename_i g op hg hop
      cases h4
      refine ⟨g, hg, .inr ⟨op, _, _, _, h3, hop, fun q i g' op' hq hi hb hq' => ?_⟩⟩
      obtain ⟨i', x1, h5, h6, h7⟩ := hpend q _ hq'
      have hx1 : x1 = .n g' op' := by cases x1 <;> simp [addPend] at h7; exact by rw [h7.1, h7.2]
      subst hx1
      refine ⟨fun y hy => ?_, fun hm => ?_⟩
      · unfold pendAt
        rw [List.mem_filterMap]
        exact ⟨q, by simpa using hq, by simp [hi, h6, hb, hy]⟩
      · unfold solidAt
        rw [List.mem_filterMap]
        exact ⟨q, by simpa using hq, by simp [hi, h6, hb, hm]⟩
    · cases h4
  · obtain ⟨i', x0, h1, h2, h3⟩ := hpend q x hx
    rw [hi] at h1; cases h1
    have hx0 : x0.isE = true := by cases x0 <;> simp [addPend] at h3 <;> subst h3 <;> simp_all [Ins.isE]
    have h4 := zipIdx_all he q (x0, i) (by rw [List.getElem?_zip_eq_some]; exact ⟨h2, hi⟩)
    simp only [hx0, Bool.not_true, Bool.false_or] at h4
    have h5 := zipIdx_all h4 p j hj
    simpa [hij] using h5

end

/-- The result at a position. -/
def nth (env : List AV) (p : Nat) : AV := env.getD (env.length - 1 - p) .undef
theorem nth_cons {v : AV} {env : List AV} {p : Nat} (h : p < env.length) : nth (v :: env) p = nth env p := by
  unfold nth
  simp only [List.length_cons, List.getD_eq_getElem?_getD]
  rw [show env.length + 1 - 1 - p = (env.length - 1 - p) + 1 from by omega, List.getElem?_cons_succ]
theorem nth_top {v : AV} {env : List AV} : nth (v :: env) env.length = v := by simp [nth]
theorem drop_cons {v : AV} {env : List AV} {p : Nat} (h : p ≤ env.length) : (v :: env).drop ((v :: env).length - p) = env.drop (env.length - p) := by
  rw [List.length_cons, show env.length + 1 - p = (env.length - p) + 1 from by omega, List.drop_succ_cons]
theorem evalA_drop {vs env : List AV} {p q : Nat} (hq : q < p) (hp : p ≤ env.length) : evalA vs (env.drop (env.length - p)) (.loc (p - 1 - q)) = nth env q := by
  simp only [evalA, nth, List.getD_eq_getElem?_getD, List.getElem?_drop]
  rw [show env.length - p + (p - 1 - q) = env.length - 1 - q from by omega]
theorem evalA_shift {vs env : List AV} {k : Nat} (x : Arg) : evalA vs (env.drop k) x = evalA vs env (x.shift k) := by
  cases x <;> simp [evalA, Arg.shift, List.getD_eq_getElem?_getD, List.getElem?_drop, Nat.add_comm]

theorem pendOk_mem {ρ : Arg → AV} {H H' : Heap} : ∀ {l : List Arg}, pendOk ρ H H' l → ∀ x ∈ l, ∀ id, (ρ x).strip.rid = some id → H[id]? = H'[id]?
  | [], _, x, hx => by simp at hx
  | y :: r, h, x, hx => by
    rcases List.mem_cons.1 hx with rfl | hx
    · intro id hid
      have := h.1
      rw [hid] at this; exact this
    · exact pendOk_mem h.2 x hx
theorem solidOk_mem {ρ : Arg → AV} : ∀ {l : List Arg}, solidOk ρ l → ∀ x ∈ l, (ρ x).strip.isD = true
  | [], _, x, hx => by simp at hx
  | y :: r, h, x, hx => by
    rcases List.mem_cons.1 hx with rfl | hx
    · exact h.1
    · exact solidOk_mem h.2 x hx

section
variable {μ : Locs} {F : Nat → Prop} {w : World} {H : Heap}

/-- An object that was a number alone gets its place. -/
theorem Rel.real {id : Nat} {l : Loc} {ob : Ob} {oc : Obj} (hR : Rel μ F w H) (hn : μ id = none) (hi : H[id]? = some (some ob)) (hl : l.blk = w.heap.size) (ho : ObAt (upd μ id l) F (w.alloc oc) l ob) :
    Post μ F w H (upd μ id l) F (w.alloc oc) H := by
  have hold := upd_old hn l
  have hk : ∀ b, b < w.heap.size → (w.alloc oc).heap[b]? = w.heap[b]? := fun b hb => RowKit.Below.heap_alloc w oc b hb
  have inv : ∀ i l', upd μ id l i = some l' → (i = id ∧ l' = l) ∨ (i ≠ id ∧ μ i = some l') := by
    intro i l' h
    unfold upd at h
    split at h
    · rename_i e; cases h; exact .inl ⟨e, rfl⟩
    · rename_i e; exact .inr ⟨e, h⟩
  refine ⟨⟨fun i l' o hm' h => ?_, fun i j l1 l2 o o' h1 h2 h3 h4 h5 => ?_, fun i l' o hm' h => ?_, fun i l' h => ?_, fun b hb => by simp; have := hR.Flt b hb; omega, fun i l' h => ?_, hR.gl.mono (fun _ h => h) (fun b hb => hk b (hR.Flt b hb))⟩, ?_, Nat.le_refl _, fun i _ h => h⟩
  · rcases inv i l' hm' with ⟨rfl, rfl⟩ | ⟨_, hm⟩
    · rw [hi] at h; cases h; exact ho
    · exact (hR.ob i l' o hm h).mono hold (fun _ h => h) (fun b hb => hk b (hR.Flt b hb)) (hk _ (hR.lt i l' hm))
  · rcases inv i l1 h1 with ⟨rfl, rfl⟩ | ⟨_, hm⟩ <;> rcases inv j l2 h2 with ⟨rfl, rfl⟩ | ⟨_, hm2⟩
    · rfl
    · have := hR.lt j l2 hm2; omega
    · have := hR.lt i l1 hm; omega
    · exact hR.inj i j l1 l2 o o' hm hm2 h3 h4 h5
  · rcases inv i l' hm' with ⟨rfl, rfl⟩ | ⟨_, hm⟩
    · intro hb; have := hR.Flt _ hb; omega
    · exact hR.nF i l' o hm h
  · rcases inv i l' h with ⟨rfl, rfl⟩ | ⟨_, hm⟩
    · simp; omega
    · have := hR.lt i l' hm; simp; omega
  · rcases inv i l' h with ⟨rfl, rfl⟩ | ⟨_, hm⟩
    · exact (List.getElem?_eq_some_iff.1 hi).1
    · exact hR.idlt i l' hm
  · refine ⟨hold, fun _ h => h, by simp, rfl, rfl, ⟨rfl, Nat.le_refl _⟩, fun b hb _ => hk b hb, fun i l' h => ?_, fun _ h => .inl h⟩
    rcases inv i l' h with ⟨rfl, rfl⟩ | ⟨_, hm⟩
    · exact .inr ⟨hn, .inl (by omega)⟩
    · exact .inl hm

theorem ob_of_get {H : Heap} {id : Nat} {o : Ob} (h : H[id]? = some (some o)) : H.ob id = some o := by simp [Heap.ob, h]
theorem add_get {new : New} {id : Nat} {o : Ob} (h : H[id]? = some (some o)) : (new.add H)[id]? = some (some o) := by
  cases new <;> simp [New.add] <;> try exact h
  rw [List.getElem?_append_left (List.getElem?_eq_some_iff.1 h).1]; exact h
end

end Go.Vm
/- Regions: one operation, then all. -/
namespace Go.Vm
open Go
variable [Gl]

/-- What is so of a call's act, between two regions. -/
structure Start where
  vs : List AV
  a0 : Act
  w0 : World
  μ0 : Locs
  F0 : Nat → Prop
  H0 : Heap

structure Inv (P : Program) (vars keeps : List Tmp) (nt : Nat) (ops : List Oper) (bef : Nat → Nat → Bool) (order : List Nat) (ins : List Ins) (S : Start) (K : List AV → Heap → Prop)
    (fr : Nat → Nat) (nw : Nat → New) (L : Nat → Prop) (a : Act) (w : World) (μ : Locs) (F : Nat → Prop) (env : List AV) (H : Heap) : Prop where
  post : Post S.μ0 S.F0 S.w0 S.H0 μ F w H
  rest : wpL P S.vs (ins.drop env.length) env H K
  le : env.length ≤ ins.length
  lpos : ∀ j, L j → j < ops.length ∧ order.idxOf j < env.length
  clos : ∀ i j, i < ops.length → L j → bef i j = true → L i
  val : ∀ (j : Nat) (o : Oper) (d : Tmp), L j → ops[j]? = some o → o.dst = some d → RepA μ F w (nth env (order.idxOf j)) (a.tmps.getD d undef)
  old : ∀ t : Tmp, (∀ (j : Nat) (o : Oper), L j → ops[j]? = some o → o.dst ≠ some t) → a.tmps.getD t undef = S.a0.tmps.getD t undef
  size : a.tmps.size = S.a0.tmps.size
  dfr : a.defers = S.a0.defers
  wait : ∀ p j, order[p]? = some j → p < env.length → ¬ L j → ∃ g op, ins[p]? = some (.n g op) ∧ NFact (evalA S.vs (env.drop (env.length - p))) H.ob (fr p) g op (nth env p) (nw p) ∧
    ∀ ob, nw p = .obj ob → H[fr p]? = some (some ob) ∧ μ (fr p) = none
  inj : ∀ p p' j j', order[p]? = some j → order[p']? = some j' → p < env.length → p' < env.length → ¬ L j → ¬ L j' → p ≠ p' → (∃ ob, nw p = .obj ob) → (∃ ob, nw p' = .obj ob) → fr p ≠ fr p'

section
variable {P : Program} {vars keeps : List Tmp} {nt : Nat} {ops : List Oper} {bef : Nat → Nat → Bool} {order : List Nat} {ins : List Ins} {S : Start} {K : List AV → Heap → Prop}
  {fr : Nat → Nat} {nw : Nat → New} {L : Nat → Prop} {a : Act} {w : World} {μ : Locs} {F : Nat → Prop} {env : List AV} {H : Heap}

/-- One more result, before its turn. -/
theorem Inv.ext1 (hR0 : Rel S.μ0 S.F0 S.w0 S.H0) (I : Inv P vars keeps nt ops bef order ins S K fr nw L a w μ F env H) (hpl : Plan P vars keeps nt ops bef order ins) {g : Option (Arg × Bool)} {op : NOp} (hx : ins[env.length]? = some (.n g op))
    {v : AV} {new : New} (hf : NFact (evalA S.vs env) H.ob H.length g op v new) (hrest : wpL P S.vs (ins.drop (env.length + 1)) (v :: env) (new.add H) K) :
    ∃ fr' nw', Inv P vars keeps nt ops bef order ins S K fr' nw' L a w μ F (v :: env) (new.add H) := by
  have hlt : env.length < ins.length := (List.getElem?_eq_some_iff.1 hx).1
  have hpost : Post μ F w H μ F w (new.add H) := by
    cases new with
    | obj ob => exact I.post.rel.virt ob
    | none => exact Post.refl I.post.rel
    | frozen => exact Post.refl I.post.rel
  have hG : ∀ id ob, H.ob id = some ob → Heap.ob (new.add H) id = some ob := fun id ob h => ob_of_get (add_get (Heap.ob_some h))
  refine ⟨fun p => if p = env.length then H.length else fr p, fun p => if p = env.length then new else nw p,
    ⟨I.post.trans hR0 hpost, by simpa using hrest, by simp; omega, fun j hj => ⟨(I.lpos j hj).1, by have := (I.lpos j hj).2; simp; omega⟩, I.clos, fun j o d hj ho hd => ?_, I.old, I.size, I.dfr, fun p j hj hp hn => ?_, ?_⟩⟩
  · rw [nth_cons (I.lpos j hj).2]; exact I.val j o d hj ho hd
  · simp only [List.length_cons] at hp
    by_cases e : p = env.length
    · subst e
      refine ⟨g, op, hx, ?_, fun ob hob => ?_⟩
      · simp only [if_pos, nth_top]
        rw [drop_cons (Nat.le_refl _)]
        simpa using hf.congr (fun x _ id ob _ h => hG id ob h)
      · simp only [if_pos] at hob ⊢
        subst hob
        exact ⟨by simp [New.add], I.post.rel.fresh (Nat.le_refl _)⟩
    · have hp' : p < env.length := by omega
      obtain ⟨g', op', h1, h2, h3⟩ := I.wait p j hj hp' hn
      refine ⟨g', op', h1, ?_, fun ob hob => ?_⟩
      · simp only [if_neg e]
        rw [drop_cons (by omega), nth_cons hp']
        exact h2.congr (fun x _ id ob _ h => hG id ob h)
      · simp only [if_neg e] at hob ⊢
        obtain ⟨h4, h5⟩ := h3 ob hob
        exact ⟨add_get h4, h5⟩
  · have lt : ∀ p j, order[p]? = some j → p < env.length → ¬ L j → (∃ ob, nw p = .obj ob) → fr p < H.length := fun p j hj hp hn ⟨ob, hob⟩ => by
      obtain ⟨_, _, _, _, h3⟩ := I.wait p j hj hp hn
      exact (List.getElem?_eq_some_iff.1 (h3 ob hob).1).1
    intro p p' j j' hj hj' hp hp' hn hn' hne hob hob'
    simp only [List.length_cons] at hp hp'
    by_cases e : p = env.length <;> by_cases e' : p' = env.length
    · omega
    · simp only [if_pos e, if_neg e'] at hob hob' ⊢
      have := lt p' j' hj' (by omega) hn' hob'; omega
    · simp only [if_neg e, if_pos e'] at hob hob' ⊢
      have := lt p j hj (by omega) hn hob; omega
    · simp only [if_neg e, if_neg e'] at hob hob' ⊢
      exact I.inj p p' j j' hj hj' (by omega) (by omega) hn hn' hne hob hob'

/-- On to the next effect. -/
theorem Inv.adv (hR0 : Rel S.μ0 S.F0 S.w0 S.H0) (hpl : Plan P vars keeps nt ops bef order ins) : ∀ (n : Nat) (fr : Nat → Nat) (nw : Nat → New) (env : List AV) (H : Heap), ins.length - env.length = n →
    Inv P vars keeps nt ops bef order ins S K fr nw L a w μ F env H →
    ∃ fr nw env H, Inv P vars keeps nt ops bef order ins S K fr nw L a w μ F env H ∧ ∀ x : Ins, ins[env.length]? = some x → x.isE = true
  | 0, fr, nw, env, H, hn, I => ⟨fr, nw, env, H, I, fun x hx => by have := (List.getElem?_eq_some_iff.1 hx).1; omega⟩
  | n + 1, fr, nw, env, H, hn, I => by
    have hlt : env.length < ins.length := by omega
    obtain ⟨x, hx⟩ : ∃ x, ins[env.length]? = some x := ⟨ins[env.length], by simp [hlt]⟩
    have hd : ins.drop env.length = x :: ins.drop (env.length + 1) := by
      rw [List.drop_eq_getElem_cons hlt]
      rw [List.getElem?_eq_getElem hlt] at hx
      rw [Option.some.inj hx]
    cases x with
    | e g op pend solid fz => exact ⟨fr, nw, env, H, I, fun x h => by rw [hx] at h; cases h; rfl⟩
    | n g op =>
      have hr := I.rest
      rw [hd] at hr
      obtain ⟨v, new, hf, hrest⟩ : ∃ v new, NFact (evalA S.vs env) H.ob H.length g op v new ∧ wpL P S.vs (ins.drop (env.length + 1)) (v :: env) (new.add H) K := by
        cases g with
        | none =>
          simp only [wpL] at hr
          exact ⟨_, _, ⟨hr.1, rfl, rfl⟩, hr.2⟩
        | some g =>
          obtain ⟨g, want⟩ := g
          simp only [wpL] at hr
          cases hfl : flagOf want (evalA S.vs env g) with
          | none => rw [hfl] at hr; exact hr.elim
          | some e =>
            rw [hfl] at hr
            obtain ⟨h1, h2⟩ := hr
            cases hm : op.makes with
            | true =>
              rw [hm] at h2
              simp only [if_true] at h2
              cases e with
              | true => exact ⟨_, _, ⟨true, hfl, fun _ => ⟨h1 rfl, rfl, rfl⟩, fun h => by cases h⟩, h2.1 rfl⟩
              | false => exact ⟨_, .none, ⟨false, hfl, (fun h => by cases h), fun _ => ⟨⟨_, rfl⟩, rfl⟩⟩, h2.2 rfl⟩
            | false =>
              rw [hm] at h2
              simp only [if_false, Bool.false_eq_true] at h2
              obtain ⟨v, hv, h2⟩ := h2
              refine ⟨_, .none, ⟨e, hfl, fun he => ⟨h1 he, ?_, (evS_new hm).symm⟩, fun he => ⟨?_, rfl⟩⟩, h2⟩
              · rw [he, hv he]
              · rw [he]; exact ⟨_, rfl⟩
      obtain ⟨fr', nw', I'⟩ := I.ext1 hR0 hpl hx hf hrest
      exact Inv.adv hR0 hpl n fr' nw' _ _ (by simp; omega) I'

/-- An operand's word. -/
theorem Inv.res (hpl : Plan P vars keeps nt ops bef order ins) (I : Inv P vars keeps nt ops bef order ins S K fr nw L a w μ F env H)
    (hv : ∀ (v : Nat) (t : Tmp) (x : AV), vars[v]? = some t → S.vs[v]? = some x → RepA S.μ0 S.F0 S.w0 x (S.a0.tmps.getD t undef)) (hR0 : Rel S.μ0 S.F0 S.w0 S.H0)
    {p j : Nat} (hp : order[p]? = some j) (hpe : p ≤ env.length) (hn : ¬ L j) (hb : ∀ i, i < ops.length → bef i j = true → L i) :
    ∀ x b, resAt vars ops bef order p j x = some b → RepA μ F w (evalA S.vs (env.drop (env.length - p)) b) (a.eval x) := by
  intro x b hx
  have hvar : ∀ t : Tmp, (∀ (i : Nat) (o : Oper), L i → ops[i]? = some o → o.dst ≠ some t) → ∀ b, (vars.findIdx? (· == t)).map Arg.var = some b → RepA μ F w (evalA S.vs (env.drop (env.length - p)) b) (a.eval (.tmp t)) := by
    intro t ht b hb
    simp only [Option.map_eq_some_iff] at hb
    obtain ⟨v, hv1, rfl⟩ := hb
    rw [List.findIdx?_eq_some_iff_getElem] at hv1
    obtain ⟨hvl, hv2, _⟩ := hv1
    simp only [evalA, Act.eval]
    rw [I.old t ht]
    cases hs : S.vs[v]? with
    | none => rw [List.getD_eq_getElem?_getD, hs]; exact .undef _
    | some x =>
      rw [List.getD_eq_getElem?_getD, hs]
      exact I.post.keep hR0 (hv v t x (by simp [hvl]; simpa using hv2) hs)
  unfold resAt resolve1 at hx
  split at hx
  · rename_i t
    split at hx
    · rename_i i hi
      obtain ⟨o, ho, hd⟩ := writerOf_some hi
      have hil : i < ops.length := (List.getElem?_eq_some_iff.1 ho).1
      split at hx
      · rename_i hbi
        have hL := hb i hil hbi
        unfold atPos at hx
        split at hx
        · rename_i hlt
          simp at hx; subst hx
          rw [evalA_drop hlt hpe]
          exact I.val i o t hL ho hd
        · simp at hx
      · split at hx
        · rename_i hbi haf
          refine hvar t (fun i' o' hL ho' hd' => ?_) b hx
          have e := (hpl.dst i' o' t ho' hd').2
          rw [hi] at e; cases e
          simp only [Bool.or_eq_true, beq_iff_eq] at haf
          rcases haf with h | h
          · have hjl := (hpl.idx p j hp).2
            exact hn (I.clos j i hjl hL h)
          · exact hn (h ▸ hL)
        · cases hx
    · rename_i hi
      refine hvar t (fun i' o' hL ho' hd' => ?_) b hx
      have e := (hpl.dst i' o' t ho' hd').2
      rw [hi] at e; cases e
  · rename_i v
    simp only [Option.map_eq_some_iff] at hx
    obtain ⟨y, hy, rfl⟩ := hx
    exact kVal_rep hy
  · cases hx
    exact .d _ _ (.fn _)
  · rename_i g
    simp only [Option.map_eq_some_iff] at hx
    obtain ⟨⟨g', x⟩, hf, rfl⟩ := hx
    have hg : g' = g := by simpa using List.find?_some hf
    subst hg
    exact I.post.rel.gl.rep (List.mem_of_find?_eq_some hf)

def vBool : Value → Option Bool
  | .bool b => some b
  | _ => none
theorem flag_sound {want e : Bool} {x : AV} {u : Value} (h : flagOf want x = some e) (hr : RepA μ F w x u) : (vBool u == some want) = e := by
  unfold flagOf at h
  split at h
  · rename_i b
    cases h
    have hu := hr.inv_d.inv_bool
    subst hu
    cases b <;> cases want <;> rfl
  · rename_i c b
    cases h
    cases hr
    rename_i h2 h1
    cases c with
    | true =>
      have hu := (h1 rfl).inv_d.inv_bool
      subst hu
      cases b <;> cases want <;> rfl
    | false =>
      have hu := h2 rfl
      subst hu
      rfl
  · cases h

/-- Is the operation carried out? -/
theorem Inv.flag (hpl : Plan P vars keeps nt ops bef order ins) (I : Inv P vars keeps nt ops bef order ins S K fr nw L a w μ F env H) (hnt : nt ≤ S.a0.tmps.size) {arr : Array Oper} (harr : arr.toList = ops)
    {p j : Nat} {o : Oper} (hp : order[p]? = some j) (hpe : p ≤ env.length) (hb : ∀ i, i < ops.length → bef i j = true → L i) {g : Option (Arg × Bool)} (hg : compGuard ops bef order p j o.guard = some g) :
    match g with
    | none => Region.wanted o (yielded arr a.tmps) = true
    | some (x, want) => ∀ e, flagOf want (evalA S.vs (env.drop (env.length - p)) x) = some e → Region.wanted o (yielded arr a.tmps) = e := by
  unfold compGuard at hg
  split at hg
  · rename_i hgu
    cases hg
    simp [Region.wanted, hgu]
  · rename_i i want hgu
    split at hg
    · rename_i hc
      simp only [Bool.and_eq_true] at hc
      simp only [Option.map_eq_some_iff] at hg
      obtain ⟨k, hk, rfl⟩ := hg
      intro e he
      unfold atPos at hk
      split at hk
      · rename_i hlt
        cases hk
        rw [evalA_drop hlt hpe] at he
        obtain ⟨hc1, hc2⟩ := hc
        cases hoi : ops[i]? with
        | none => simp [hoi] at hc2
        | some oi =>
          cases hdi : oi.dst with
          | none => simp [hoi, hdi] at hc2
          | some d =>
            have hil : i < ops.length := (List.getElem?_eq_some_iff.1 hoi).1
            have hr := I.val i oi d (hb i hil hc1) hoi hdi
            have hdl : d < a.tmps.size := by rw [I.size]; exact Nat.lt_of_lt_of_le (hpl.dst i oi d hoi hdi).1 hnt
            have hs := flag_sound he hr
            rw [← hs]
            have ha : arr[i]? = some oi := by rw [← Array.getElem?_toList, harr]; exact hoi
            simp only [Region.wanted, hgu, yielded, ha, Option.bind_some, hdi]
            have hu : a.tmps[d]? = some (a.tmps.getD d undef) := by simp [Array.getElem?_eq_getElem hdl]
            rw [hu]
            show ((match some (a.tmps.getD d undef) with | some (.bool b) => some b | _ => none) == some want) = _
            cases a.tmps.getD d undef <;> rfl
      · cases hk
    · cases hg

theorem put_getD (a : Act) (dst : Option Tmp) (u : Value) (t : Tmp) : (a.put dst u).tmps.getD t undef = if dst = some t ∧ t < a.tmps.size then u else a.tmps.getD t undef := by
  cases dst with
  | none => simp [Act.put]
  | some d =>
    have hg : ∀ (xs : Array Value) (t : Nat), xs.getD t undef = (xs[t]?).getD undef := fun xs t => by simp
    simp only [Act.put, hg, Array.getElem?_setIfInBounds, Option.some.injEq]
    by_cases e : d = t
    · subst e
      by_cases hd : d < a.tmps.size
      · simp [hd]
      · simp [hd]
    · simp [e]

/-- One operation has had its turn. -/
theorem Inv.list (hR0 : Rel S.μ0 S.F0 S.w0 S.H0) (hpl : Plan P vars keeps nt ops bef order ins) (I : Inv P vars keeps nt ops bef order ins S K fr nw L a w μ F env H) (hnt : nt ≤ S.a0.tmps.size)
    {p j : Nat} {o : Oper} (hp : order[p]? = some j) (hpe : p < env.length) (ho : ops[j]? = some o) (hn : ¬ L j) (hb : ∀ i, i < ops.length → bef i j = true → L i)
    {μ' : Locs} {F' : Nat → Prop} {w' : World} {u : Value} (hpo : Post μ F w H μ' F' w' H) (hu : RepA μ' F' w' (nth env p) u)
    (hμ : ∀ p' j', order[p']? = some j' → p' < env.length → ¬ L j' → p' ≠ p → (∃ ob, nw p' = .obj ob) → μ' (fr p') = none) :
    Inv P vars keeps nt ops bef order ins S K fr nw (fun i => L i ∨ i = j) (a.put o.dst u) w' μ' F' env H := by
  have hix := hpl.idx p j hp
  have hps : (a.put o.dst u).tmps.size = a.tmps.size := by cases o.dst <;> simp [Act.put]
  refine ⟨I.post.trans hR0 hpo, I.rest, I.le, fun i hi => ?_, fun i i' hil hi hbi => ?_, fun i oi d hi hoi hd => ?_, fun t ht => ?_, by rw [hps]; exact I.size, ?_, fun p' j' hj' hp' hn' => ?_, fun p1 p2 j1 j2 h1 h2 h3 h4 h5 h6 => ?_⟩
  · rcases hi with hi | rfl
    · exact I.lpos i hi
    · rw [hix.1]; exact ⟨hix.2, hpe⟩
  · rcases hi with hi | rfl
    · exact .inl (I.clos i i' hil hi hbi)
    · exact .inl (hb i hil hbi)
  · have hdi := hpl.dst i oi d hoi hd
    rw [put_getD]
    by_cases e : i = j
    · subst e
      rw [ho] at hoi; cases hoi
      rw [if_pos ⟨hd, by rw [I.size]; exact Nat.lt_of_lt_of_le hdi.1 hnt⟩, hix.1]
      exact hu
    · have hL : L i := hi.resolve_right e
      have : o.dst ≠ some d := fun hd' => by
        have := (hpl.dst j o d ho hd').2
        rw [hdi.2] at this; exact e (Option.some.inj this)
      rw [if_neg (fun h => this h.1)]
      exact hpo.keep I.post.rel (I.val i oi d hL hoi hd)
  · rw [put_getD, if_neg (fun h => ht j o (.inr rfl) ho h.1)]
    exact I.old t fun i oi hi hoi => ht i oi (.inl hi) hoi
  · cases hd : o.dst <;> simp [Act.put] <;> exact I.dfr
  · have hn1 : ¬ L j' := fun h => hn' (.inl h)
    have hne : j' ≠ j := fun h => hn' (.inr h)
    have hpp : p' ≠ p := fun e => by subst e; rw [hp] at hj'; exact hne (Option.some.inj hj').symm
    obtain ⟨g, op, h1, h2, h3⟩ := I.wait p' j' hj' hp' hn1
    exact ⟨g, op, h1, h2, fun ob hob => ⟨(h3 ob hob).1, hμ p' j' hj' hp' hn1 hpp ⟨ob, hob⟩⟩⟩
  · exact I.inj p1 p2 j1 j2 h1 h2 h3 h4 (fun h => h5 (.inl h)) (fun h => h6 (.inl h))

end
end Go.Vm
/- A region, whole. -/
namespace Go.Vm
open Go
variable [Gl]

section
variable {P : Program} {vars keeps : List Tmp} {nt : Nat} {ops : List Oper} {bef : Nat → Nat → Bool} {order : List Nat} {ins : List Ins} {S : Start} {K : List AV → Heap → Prop}
  {L : Nat → Prop} {a : Act} {w : World}

def Inv2 (P : Program) (vars keeps : List Tmp) (nt : Nat) (ops : List Oper) (bef : Nat → Nat → Bool) (order : List Nat) (ins : List Ins) (S : Start) (K : List AV → Heap → Prop) (L : Nat → Prop) (a : Act) (w : World) : Prop :=
  ∃ μ F fr nw env H, Inv P vars keeps nt ops bef order ins S K fr nw L a w μ F env H ∧ ∀ x : Ins, ins[env.length]? = some x → x.isE = true

structure Begin (vars : List Tmp) (nt : Nat) (S : Start) : Prop where
  rel : Rel S.μ0 S.F0 S.w0 S.H0
  nt : nt ≤ S.a0.tmps.size
  vars : ∀ (v : Nat) (t : Tmp) (x : AV), vars[v]? = some t → S.vs[v]? = some x → RepA S.μ0 S.F0 S.w0 x (S.a0.tmps.getD t undef)

theorem wp_of_value {o : Oper} {u : Value} {w' : World} {next : Act → World → Prop} {Q : Exit → Act → World → Prop} (h : (execOp a.eval o).run P w = .ok (.value u) w') (hn : next (a.put o.dst u) w') : o.wp P a w next Q := by
  unfold Oper.wp; rw [h]; exact hn

theorem pendOk_refl {ρ : Arg → AV} {H : Heap} : ∀ l : List Arg, pendOk ρ H H l
  | [] => trivial
  | x :: r => ⟨by split <;> trivial, pendOk_refl r⟩

/-- An effect has had its turn. -/
theorem Inv.eff (hS : Begin vars nt S) (hpl : Plan P vars keeps nt ops bef order ins) {fr : Nat → Nat} {nw : Nat → New} {μ : Locs} {F : Nat → Prop} {env : List AV} {H : Heap} (I : Inv P vars keeps nt ops bef order ins S K fr nw L a w μ F env H)
    {j : Nat} {o : Oper} (hp : order[env.length]? = some j) (ho : ops[j]? = some o) (hn : ¬ L j) (hb : ∀ i, i < ops.length → bef i j = true → L i)
    {pend solid : List Arg} (hps : ∀ q i g' op', q < env.length → order[q]? = some i → bef i j = false → ins[q]? = some (.n g' op') → (∀ y, op'.reads = some y → y.shift (env.length - q) ∈ pend) ∧ (op'.makes = true → .loc (env.length - 1 - q) ∈ solid))
    {v : AV} {H' : Heap} {μ' : Locs} {F' : Nat → Prop} {w' : World} {u : Value} (hsolid : solidOk (evalA S.vs env) solid) (hpend : pendOk (evalA S.vs env) H H' pend)
    (hrest : wpL P S.vs (ins.drop (env.length + 1)) (v :: env) H' K) (hpo : Post μ F w H μ' F' w' H') (hu : RepA μ' F' w' v u) :
    Inv P vars keeps nt ops bef order ins S K fr nw (fun i => L i ∨ i = j) (a.put o.dst u) w' μ' F' (v :: env) H' := by
  have hix := hpl.idx _ j hp
  have hpsz : (a.put o.dst u).tmps.size = a.tmps.size := by cases o.dst <;> simp [Act.put]
  have hlt : env.length < ins.length := by rw [hpl.ilen]; exact (List.getElem?_eq_some_iff.1 hp).1
  have hwait : ∀ p' j', order[p']? = some j' → p' < env.length → ¬ L j' → ∃ g op, ins[p']? = some (.n g op) ∧ NFact (evalA S.vs (env.drop (env.length - p'))) H'.ob (fr p') g op (nth env p') (nw p') ∧ ∀ ob, nw p' ≠ .obj ob := by
    intro p' j' hj' hp' hn'
    obtain ⟨g, op, h1, h2, h3⟩ := I.wait p' j' hj' hp' hn'
    have hbf : bef j' j = false := by
      cases hbb : bef j' j with
      | false => rfl
      | true => exact absurd (hb j' (hpl.idx p' j' hj').2 hbb) hn'
    obtain ⟨h4, h5⟩ := hps p' j' g op hp' hj' hbf h1
    refine ⟨g, op, h1, h2.congr (fun y hy id ob hid hob => ?_), fun ob hob => ?_⟩
    · rw [evalA_shift] at hid
      have := pendOk_mem hpend _ (h4 y hy) id hid
      exact ob_of_get (by rw [← this]; exact Heap.ob_some hob)
    · rw [hob] at h2
      obtain ⟨h6, h7⟩ := h2.obj
      have h8 := solidOk_mem hsolid _ (h5 h7)
      have : evalA S.vs env (.loc (env.length - 1 - p')) = nth env p' := rfl
      rw [this, h6] at h8; cases h8
  refine ⟨I.post.trans hS.rel hpo, by simpa using hrest, by simp; omega, fun i hi => ?_, fun i i' hil hi hbi => ?_, fun i oi d hi hoi hd => ?_, fun t ht => ?_, by rw [hpsz]; exact I.size, ?_, fun p' j' hj' hp' hn' => ?_, fun p1 p2 j1 j2 h1 h2 h3 h4 h5 h6 hne h7 h8 => ?_⟩
  · rcases hi with hi | rfl
    · exact ⟨(I.lpos i hi).1, by have := (I.lpos i hi).2; simp; omega⟩
    · rw [hix.1]; exact ⟨hix.2, by simp⟩
  · rcases hi with hi | rfl
    · exact .inl (I.clos i i' hil hi hbi)
    · exact .inl (hb i hil hbi)
  · have hdi := hpl.dst i oi d hoi hd
    rw [put_getD]
    by_cases e : i = j
    · subst e
      rw [ho] at hoi; cases hoi
      rw [if_pos ⟨hd, by rw [I.size]; exact Nat.lt_of_lt_of_le hdi.1 hS.nt⟩, hix.1, nth_top]
      exact hu
    · have hL : L i := hi.resolve_right e
      have : o.dst ≠ some d := fun hd' => by
        have := (hpl.dst j o d ho hd').2
        rw [hdi.2] at this; exact e (Option.some.inj this)
      rw [if_neg (fun h => this h.1), nth_cons (I.lpos i hL).2]
      exact hpo.keep I.post.rel (I.val i oi d hL hoi hd)
  · rw [put_getD, if_neg (fun h => ht j o (.inr rfl) ho h.1)]
    exact I.old t fun i oi hi hoi => ht i oi (.inl hi) hoi
  · cases hd : o.dst <;> simp [Act.put] <;> exact I.dfr
  · have hn1 : ¬ L j' := fun h => hn' (.inl h)
    have hne : j' ≠ j := fun h => hn' (.inr h)
    have hp2 : p' < env.length := by
      simp only [List.length_cons] at hp'
      rcases Nat.lt_or_ge p' env.length with h | h
      · exact h
      · have : p' = env.length := by omega
        subst this; rw [hp] at hj'; exact absurd (Option.some.inj hj').symm hne
    obtain ⟨g, op, h1, h2, h3⟩ := hwait p' j' hj' hp2 hn1
    exact ⟨g, op, h1, by rw [drop_cons (Nat.le_of_lt hp2), nth_cons hp2]; exact h2, fun ob hob => absurd hob (h3 ob)⟩
  · have hn1 : ¬ L j1 := fun h => h5 (.inl h)
    have hne1 : j1 ≠ j := fun h => h5 (.inr h)
    obtain ⟨ob, hob⟩ := h7
    have hp2 : p1 < env.length := by
      simp only [List.length_cons] at h3
      rcases Nat.lt_or_ge p1 env.length with h | h
      · exact h
      · have : p1 = env.length := by omega
        subst this; rw [hp] at h1; exact absurd (Option.some.inj h1).symm hne1
    obtain ⟨_, _, _, _, h9⟩ := hwait p1 j1 h1 hp2 hn1
    exact absurd hob (h9 ob)

theorem Inv2.step (hS : Begin vars nt S) (hpl : Plan P vars keeps nt ops bef order ins) {arr : Array Oper} (harr : arr.toList = ops) {Q : Exit → Act → World → Prop}
    (I2 : Inv2 P vars keeps nt ops bef order ins S K L a w) {j : Nat} (hj : j < ops.length) (hn : ¬ L j) (hb : ∀ i, i < ops.length → bef i j = true → L i) :
    wpOp P arr Q j (fun a' w' => Inv2 P vars keeps nt ops bef order ins S K (fun i => L i ∨ i = j) a' w') a w := by
  obtain ⟨μ, F, fr, nw, env, H, I, hE⟩ := I2
  have hR := I.post.rel
  have hp := hpl.has j hj
  generalize hpe : order.idxOf j = p at hp
  obtain ⟨o, ho⟩ : ∃ o, ops[j]? = some o := ⟨ops[j], by simp [hj]⟩
  have hpl' : p < ins.length := by rw [hpl.ilen]; exact (List.getElem?_eq_some_iff.1 hp).1
  have harrj : arr[j]? = some o := by rw [← Array.getElem?_toList, harr]; exact ho
  unfold wpOp
  rw [harrj]
  simp only
  rcases Nat.lt_trichotomy p env.length with hlt | heq | hgt
  · -- it has waited
    obtain ⟨g, op, hx, hf, hob⟩ := I.wait p j hp hlt hn
    obtain ⟨g', hone⟩ := hpl.one p j o _ hp ho hx
    have hop : g = g' ∧ compOp P (resAt vars ops bef order p j) (o.dst.any keeps.contains) o = some (.inl op) := by
      rcases hone.op with ⟨op', h1, h2⟩ | ⟨op', _, _, _, h1, _⟩
      · cases h1; exact ⟨rfl, h2⟩
      · cases h1
    obtain ⟨rfl, hop⟩ := hop
    have hfl := I.flag hpl hS.nt harr hp (Nat.le_of_lt hlt) hb hone.guard
    -- what is done where it is carried out
    have doit : ∀ wrap : AV → AV, (∀ (μ' : Locs) (F' : Nat → Prop) (w' : World) (x : AV) (u : Value), RepA μ' F' w' x u → RepA μ' F' w' (wrap x) u) → (op.evS (evalA S.vs (env.drop (env.length - p))) H.ob (fr p)).ob →
        nth env p = wrap (op.evS (evalA S.vs (env.drop (env.length - p))) H.ob (fr p)).v → nw p = (op.evS (evalA S.vs (env.drop (env.length - p))) H.ob (fr p)).new →
        o.wp P a w (fun a' w' => Inv2 P vars keeps nt ops bef order ins S K (fun i => L i ∨ i = j) a' w') Q := by
      intro wrap hwrap hobl hv hnw
      have hno := nop_sound (fresh := fr p) hop hR (I.res hpl hS.vars hS.rel hp (Nat.le_of_lt hlt) hn hb) hobl
      unfold NOut at hno
      rw [← hnw] at hno
      cases hnew : nw p with
      | none =>
        rw [hnew] at hno
        obtain ⟨u, hr, hu⟩ := hno
        refine wp_of_value hr ⟨μ, F, fr, nw, env, H, I.list hS.rel hpl hS.nt hp hlt ho hn hb (Post.refl hR) (by rw [hv]; exact hwrap _ _ _ _ _ hu) (fun p' j' h1 h2 h3 h4 ⟨ob, h5⟩ => ?_), hE⟩
        obtain ⟨_, _, _, _, h6⟩ := I.wait p' j' h1 h2 h3
        exact (h6 ob h5).2
      | frozen =>
        rw [hnew] at hno
        obtain ⟨u, oc, hr, hu⟩ := hno
        refine wp_of_value hr ⟨μ, _, fr, nw, env, H, I.list hS.rel hpl hS.nt hp hlt ho hn hb (hR.newF (oc := oc)) (by rw [hv]; exact hwrap _ _ _ _ _ hu) (fun p' j' h1 h2 h3 h4 ⟨ob, h5⟩ => ?_), hE⟩
        obtain ⟨_, _, _, _, h6⟩ := I.wait p' j' h1 h2 h3
        exact (h6 ob h5).2
      | obj ob =>
        rw [hnew] at hno
        obtain ⟨u, oc, l, hr, hl, hall⟩ := hno
        obtain ⟨h1, h2⟩ := hob ob hnew
        obtain ⟨hu, hoa⟩ := hall (upd μ (fr p) l) (upd_old h2 l) (upd_same _ _ _)
        refine wp_of_value hr ⟨upd μ (fr p) l, F, fr, nw, env, H, I.list hS.rel hpl hS.nt hp hlt ho hn hb (hR.real h2 h1 hl hoa) (by rw [hv]; exact hwrap _ _ _ _ _ hu) (fun p' j' h3 h4 h5 h6 h7 => ?_), hE⟩
        obtain ⟨_, _, _, _, h8⟩ := I.wait p' j' h3 h4 h5
        have hne := I.inj p' p j' j h3 hp h4 hlt h5 hn h6 h7 ⟨ob, hnew⟩
        unfold upd
        rw [if_neg hne]
        obtain ⟨ob', h9⟩ := h7
        exact (h8 ob' h9).2
    cases g with
    | none =>
      rw [if_pos hfl]
      exact .inl (doit id (fun _ _ _ _ _ h => h) hf.1 hf.2.1 hf.2.2)
    | some g =>
      obtain ⟨x, want⟩ := g
      obtain ⟨e, h1, h2, h3⟩ := hf
      have hw := hfl e h1
      cases e with
      | true =>
        rw [if_pos hw]
        exact .inl (doit (.when true) (fun _ _ _ _ _ h => .when true _ _ (fun _ => h) (fun h => by cases h)) (h2 rfl).1 (h2 rfl).2.1 (h2 rfl).2.2)
      | false =>
        rw [if_neg (by rw [hw]; simp)]
        obtain ⟨⟨y, hy⟩, hnw⟩ := h3 rfl
        refine ⟨μ, F, fr, nw, env, H, I.list hS.rel hpl hS.nt hp hlt ho hn hb (Post.refl hR) (by rw [hy]; exact .when false _ _ (fun h => by cases h) (fun _ => rfl)) (fun p' j' h1 h2 h3 h4 ⟨ob, h5⟩ => ?_), hE⟩
        obtain ⟨_, _, _, _, h6⟩ := I.wait p' j' h1 h2 h3
        exact (h6 ob h5).2
  · -- an effect
    subst heq
    obtain ⟨x, hx⟩ : ∃ x, ins[env.length]? = some x := ⟨ins[env.length], by simp⟩
    have hxe := hE x hx
    obtain ⟨g', hone⟩ := hpl.one _ j o _ hp ho hx
    cases x with
    | n g op => cases hxe
    | e g op pend solid fz =>
      have hop : g = g' ∧ compOp P (resAt vars ops bef order env.length j) (o.dst.any keeps.contains) o = some (.inr op) ∧
          ∀ q i g' op', q < env.length → order[q]? = some i → bef i j = false → ins[q]? = some (.n g' op') → (∀ y, op'.reads = some y → y.shift (env.length - q) ∈ pend) ∧ (op'.makes = true → .loc (env.length - 1 - q) ∈ solid) := by
        rcases hone.op with ⟨op', h1, h2⟩ | ⟨op', _, _, _, h1, h2, h3⟩
        · cases h1
        · cases h1; exact ⟨rfl, h2, h3⟩
      obtain ⟨rfl, hop, hps⟩ := hop
      have hfl := I.flag hpl hS.nt harr hp (Nat.le_refl _) hb hone.guard
      have hres := I.res hpl hS.vars hS.rel hp (Nat.le_refl _) hn hb
      rw [show env.length - env.length = 0 from by omega, List.drop_zero] at hres
      have hr := I.rest
      rw [show ins.drop env.length = .e g op pend solid fz :: ins.drop (env.length + 1) from by
        rw [List.drop_eq_getElem_cons hpl']
        rw [List.getElem?_eq_getElem hpl'] at hx
        rw [Option.some.inj hx]] at hr
      have doit : ∀ wrap : AV → AV, (∀ (μ' : Locs) (F' : Nat → Prop) (w' : World) (x : AV) (u : Value), RepA μ' F' w' x u → RepA μ' F' w' (wrap x) u) →
          wpEff P (evalA S.vs env) H op pend solid fz (fun v H' => wpL P S.vs (ins.drop (env.length + 1)) (wrap v :: env) H' K) →
          o.wp P a w (fun a' w' => Inv2 P vars keeps nt ops bef order ins S K (fun i => L i ∨ i = j) a' w') Q := by
        intro wrap hwrap ⟨h1, h2, h3⟩
        refine eop_sound hop hR hres h1 h3 _ Q ?_
        rintro v H' u μ' F' w' ⟨h4, h5⟩ hu hpo
        obtain ⟨F'', hpo2, hu2⟩ := frz_sound (fz := fz) hpo.rel hu
        have I' := I.eff hS hpl hp ho hn hb hps h2 h4 h5 (hpo.trans hR hpo2) (hwrap _ _ _ _ _ hu2)
        obtain ⟨fr', nw', env', H'', I'', hE'⟩ := Inv.adv hS.rel hpl _ fr nw _ _ rfl I'
        exact ⟨_, _, _, _, _, _, I'', hE'⟩
      cases g with
      | none =>
        rw [if_pos hfl]
        simp only [wpL] at hr
        exact .inl (doit id (fun _ _ _ _ _ h => h) hr)
      | some g =>
        obtain ⟨x, want⟩ := g
        simp only [wpL] at hr
        rw [show env.length - env.length = 0 from by omega, List.drop_zero] at hfl
        cases hf : flagOf want (evalA S.vs env x) with
        | none => rw [hf] at hr; exact hr.elim
        | some e =>
          rw [hf] at hr
          have hw := hfl e hf
          cases e with
          | true =>
            rw [if_pos hw]
            exact .inl (doit (.when true) (fun _ _ _ _ _ h => .when true _ _ (fun _ => h) (fun h => by cases h)) (hr.1 rfl))
          | false =>
            rw [if_neg (by rw [hw]; simp)]
            obtain ⟨h1, h2⟩ := hr.2 rfl
            have I' := I.eff hS hpl hp ho hn hb hps h1 (pendOk_refl pend) h2 (Post.refl hR) (u := undef) (.when false _ _ (fun h => by cases h) (fun _ => rfl))
            obtain ⟨fr', nw', env', H'', I'', hE'⟩ := Inv.adv hS.rel hpl _ fr nw _ _ rfl I'
            exact ⟨_, _, _, _, _, _, I'', hE'⟩
  · -- not yet
    exfalso
    have hl : env.length < ins.length := by omega
    obtain ⟨x, hx⟩ : ∃ x, ins[env.length]? = some x := ⟨ins[env.length], by simp [hl]⟩
    obtain ⟨i, hi⟩ : ∃ i, order[env.length]? = some i := ⟨order[env.length]'(by rw [← hpl.ilen]; exact hl), by simp⟩
    have hix := hpl.idx _ i hi
    have hij : i ≠ j := fun e => by rw [e, hpe] at hix; omega
    have h1 := hpl.eff env.length p i j x hx (hE x hx) hi hp hij
    have h2 := hb i hix.2 (by rw [h1]; simpa using hgt)
    have := (I.lpos i h2).2
    omega

end
end Go.Vm
/- Regions: sound. -/
namespace Go.Vm
open Go
variable [Gl]

/-- A state of the machine stands in a call's act. -/
structure Sim (vars : List Tmp) (nt : Nat) (st : St) (a : Act) (w : World) (μ : Locs) (F : Nat → Prop) : Prop where
  rel : Rel μ F w st.heap
  nt : nt ≤ a.tmps.size
  vars : ∀ (v : Nat) (t : Tmp) (x : AV), vars[v]? = some t → st.vars[v]? = some x → RepA μ F w x (a.tmps.getD t undef)

/-- What has come of a state. -/
def Leads (vars : List Tmp) (nt : Nat) (μ : Locs) (F : Nat → Prop) (w : World) (H : Heap) (a0 : Act) (st : St) (a' : Act) (w' : World) : Prop :=
  ∃ μ' F', Sim vars nt st a' w' μ' F' ∧ Post μ F w H μ' F' w' st.heap ∧ a'.defers = a0.defers

section
variable {P : Program} {vars keeps : List Tmp} {nt : Nat} {ops : List Oper} {bef : Nat → Nat → Bool} {order : List Nat} {ins : List Ins} {S : Start} {K : List AV → Heap → Prop}
  {L : Nat → Prop} {a : Act} {w : World}

theorem Inv2.start (hS : Begin vars nt S) (hpl : Plan P vars keeps nt ops bef order ins) (h : wpL P S.vs ins [] S.H0 K) : Inv2 P vars keeps nt ops bef order ins S K (fun _ => False) S.a0 S.w0 := by
  have I : Inv P vars keeps nt ops bef order ins S K (fun _ => 0) (fun _ => .none) (fun _ => False) S.a0 S.w0 S.μ0 S.F0 [] S.H0 :=
    ⟨Post.refl hS.rel, by simpa using h, by simp, fun _ h => h.elim, fun _ _ _ h => h.elim, fun _ _ _ h => h.elim, fun _ _ => rfl, rfl, rfl, fun p j _ h => by simp at h, fun p p' j j' _ _ h => by simp at h⟩
  obtain ⟨fr', nw', env', H'', I'', hE'⟩ := Inv.adv hS.rel hpl _ _ _ _ _ rfl I
  exact ⟨_, _, _, _, _, _, I'', hE'⟩

theorem setOuts_get {env : List AV} : ∀ (l : List (Nat × Nat)) (vs : List AV) (v : Nat) (x : AV), (setOuts env l vs)[v]? = some x → (∃ k, (v, k) ∈ l ∧ x = env.getD k .undef) ∨ ((∀ k, (v, k) ∉ l) ∧ vs[v]? = some x)
  | [], vs, v, x, h => .inr ⟨by simp, h⟩
  | (u, k) :: r, vs, v, x, h => by
    rcases setOuts_get r _ v x h with ⟨k', h1, h2⟩ | ⟨h1, h2⟩
    · exact .inl ⟨k', List.mem_cons_of_mem _ h1, h2⟩
    · by_cases e : u = v
      · subst e
        rw [List.getElem?_set] at h2
        split at h2
        · split at h2
          · cases h2; exact .inl ⟨k, by simp, rfl⟩
          · cases h2
        · exact absurd rfl ‹_›
      · rw [List.getElem?_set_ne e] at h2
        refine .inr ⟨fun k' hk => ?_, h2⟩
        rcases List.mem_cons.1 hk with h3 | h3
        · cases h3; exact e rfl
        · exact h1 k' h3

theorem Inv2.done (hS : Begin vars nt S) (hpl : Plan P vars keeps nt ops bef order ins) {outs : List (Nat × Nat)} (houts : outs = vars.zipIdx.filterMap fun (t, v) => (writerOf ops t).bind fun i => if order.idxOf i < order.length then some (v, order.length - 1 - order.idxOf i) else none)
    (I2 : Inv2 P vars keeps nt ops bef order ins S K L a w) (hall : ∀ j, j < ops.length → L j) :
    ∃ env H, K env H ∧ Leads vars nt S.μ0 S.F0 S.w0 S.H0 S.a0 ⟨setOuts env outs S.vs, H⟩ a w := by
  obtain ⟨μ, F, fr, nw, env, H, I, hE⟩ := I2
  have hlen : env.length = ins.length := by
    rcases Nat.lt_or_ge env.length ins.length with hl | hl
    · exfalso
      obtain ⟨i, hi⟩ : ∃ i, order[env.length]? = some i := ⟨order[env.length]'(by rw [← hpl.ilen]; exact hl), by simp⟩
      have hix := hpl.idx _ i hi
      have := (I.lpos i (hall i hix.2)).2
      omega
    · exact Nat.le_antisymm I.le hl
  have hr := I.rest
  rw [hlen, List.drop_length] at hr
  refine ⟨env, H, hr, μ, F, ⟨I.post.rel, by rw [I.size]; exact hS.nt, fun v t x hv hx => ?_⟩, I.post, I.dfr⟩
  rcases setOuts_get _ _ _ _ hx with ⟨k, hk, rfl⟩ | ⟨hk, hx'⟩
  · rw [houts, List.mem_filterMap] at hk
    obtain ⟨⟨t', v'⟩, h1, h2⟩ := hk
    rw [List.mem_zipIdx_iff_getElem?] at h1
    simp only [Option.bind_eq_some_iff] at h2
    obtain ⟨i, hi, h3⟩ := h2
    split at h3
    · rename_i hlt
      simp only [Option.some.injEq, Prod.mk.injEq] at h3
      obtain ⟨rfl, rfl⟩ := h3
      simp only at h1
      rw [hv] at h1
      obtain rfl := Option.some.inj h1
      obtain ⟨o, ho, hd⟩ := writerOf_some hi
      have hv := I.val i o t (hall i (List.getElem?_eq_some_iff.1 ho).1) ho hd
      have : nth env (order.idxOf i) = env.getD (order.length - 1 - order.idxOf i) .undef := by unfold nth; rw [hlen, hpl.ilen]
      rw [← this]; exact hv
    · cases h3
  · rw [I.old t (fun j o hj ho hd => ?_)]
    · exact I.post.keep hS.rel (hS.vars v t x hv hx')
    · have hw := (hpl.dst j o t ho hd).2
      have hjl := (List.getElem?_eq_some_iff.1 ho).1
      refine hk (order.length - 1 - order.idxOf j) ?_
      rw [houts, List.mem_filterMap]
      refine ⟨(t, v), by rw [List.mem_zipIdx_iff_getElem?]; exact hv, ?_⟩
      have hl : order.idxOf j < order.length := (List.getElem?_eq_some_iff.1 (hpl.has j hjl)).1
      simp [hw, hl]

/-- In turn. -/
theorem seq_sound (hS : Begin vars nt S) (hpl : Plan P vars keeps nt ops seqBef order ins) {arr : Array Oper} (harr : arr.toList = ops) {Q : Exit → Act → World → Prop}
    (hQ : ∀ a w, Inv2 P vars keeps nt ops seqBef order ins S K (fun j => j < ops.length) a w → Q .normal a w) :
    ∀ (m k : Nat) (a : Act) (w : World), k + m = ops.length → Inv2 P vars keeps nt ops seqBef order ins S K (fun j => j < k) a w → wpOps P arr Q (List.range' k m) a w
  | 0, k, a, w, hk, I => by
    have : k = ops.length := by omega
    subst this
    exact hQ a w I
  | m + 1, k, a, w, hk, I => by
    rw [List.range'_succ, wpOps_cons]
    refine wpOp_mono (fun a' w' h => ?_) (Inv2.step hS hpl harr I (j := k) (by omega) (by omega) (fun i _ hi => by simpa [seqBef] using hi))
    refine seq_sound hS hpl harr hQ m (k + 1) a' w' (by omega) ?_
    have e : (fun i => i < k ∨ i = k) = (fun j => j < k + 1) := by funext i; exact propext (by omega)
    rw [e] at h
    exact h

theorem bitsOk_some {bits : List Nat} (h : bitsOk ops bits = true) {j : Nat} {o : Oper} (ho : ops[j]? = some o) :
    (∀ m ∈ (o.after.toList.filter (Region.binds .any ·)).map (·.on), m < j) ∧
    ∀ i, i < ops.length → bitBef bits i j = true → i ∈ (o.after.toList.filter (Region.binds .any ·)).map (·.on) ∨ ∃ m ∈ (o.after.toList.filter (Region.binds .any ·)).map (·.on), bitBef bits i m = true := by
  unfold bitsOk at h
  rw [List.all_eq_true] at h
  have := h j (by simpa using (List.getElem?_eq_some_iff.1 ho).1)
  rw [ho] at this
  simp only [Bool.and_eq_true, List.all_eq_true, decide_eq_true_eq] at this
  refine ⟨this.1, fun i hi hb => ?_⟩
  have h2 := this.2 i (by simpa using hi)
  simp only [Bool.or_eq_true, Bool.not_eq_true', List.any_eq_true] at h2
  rcases h2 with (h2 | h2) | ⟨m, hm, h2⟩
  · unfold bitBef at hb; rw [hb] at h2; cases h2
  · exact .inl (by simpa using h2)
  · exact .inr ⟨m, hm, h2⟩

/-- In any order. -/
theorem any_sound {bits : List Nat} (hbits : bitsOk ops bits = true) (hS : Begin vars nt S) (hpl : Plan P vars keeps nt ops (bitBef bits) order ins) {arr : Array Oper} (harr : arr.toList = ops) {Q : Exit → Act → World → Prop}
    (hQ : ∀ a w L, (∀ j, j < ops.length → L j) → Inv2 P vars keeps nt ops (bitBef bits) order ins S K L a w → Q .normal a w) :
    ∀ (fuel : Nat) (listed : Array Bool) (a : Act) (w : World), listed.size = ops.length → (listed.toList.filter (!·)).length = fuel →
      (∀ i j, i < ops.length → listed[j]? = some true → bitBef bits i j = true → listed[i]? = some true) →
      Inv2 P vars keeps nt ops (bitBef bits) order ins S K (fun j => listed[j]? = some true) a w → wpAny P .any arr Q fuel listed a w := by
  have hasz : arr.size = ops.length := by rw [← harr]; simp
  -- what is ready
  have ready_of : ∀ (listed : Array Bool) i, i ∈ Region.ready .any arr listed ↔ ∃ o, ops[i]? = some o ∧ listed.getD i true = false ∧ ∀ m ∈ (o.after.toList.filter (Region.binds .any ·)).map (·.on), listed.getD m false = true := by
    intro listed i
    unfold Region.ready
    rw [List.mem_filter]
    have ha : arr[i]? = ops[i]? := by rw [← harr]; simp
    constructor
    · rintro ⟨h1, h2⟩
      simp only [Bool.and_eq_true, Bool.not_eq_true'] at h2
      rw [ha] at h2
      cases ho : ops[i]? with
      | none => rw [ho] at h2; simp at h2
      | some o =>
        rw [ho] at h2
        refine ⟨o, rfl, h2.1, fun m hm => ?_⟩
        obtain ⟨e, he, rfl⟩ := List.mem_map.1 hm
        have he' := List.mem_filter.1 he
        have h3 := h2.2
        simp only [Option.map_some, Option.getD_some, Array.all_eq_true_iff_forall_mem] at h3
        have := h3 e (Array.mem_toList_iff.1 he'.1)
        simpa [he'.2] using this
    · rintro ⟨o, ho, h1, h2⟩
      refine ⟨by rw [List.mem_range, hasz]; exact (List.getElem?_eq_some_iff.1 ho).1, ?_⟩
      rw [ha, ho]
      simp only [h1, Bool.not_false, Bool.true_and, Option.map_some, Option.getD_some, Array.all_eq_true_iff_forall_mem]
      intro e he
      cases hb : Region.binds .any e with
      | false => rfl
      | true => simpa using h2 e.on (List.mem_map.2 ⟨e, List.mem_filter.2 ⟨Array.mem_toList_iff.2 he, hb⟩, rfl⟩)
  have fin : ∀ (listed : Array Bool) (a : Act) (w : World), listed.size = ops.length → Inv2 P vars keeps nt ops (bitBef bits) order ins S K (fun j => listed[j]? = some true) a w → Region.ready .any arr listed = [] → Q .normal a w := by
    intro listed a w hsz I hr
    refine hQ a w _ (fun j => ?_) I
    induction j using Nat.strongRecOn with
    | _ j ih =>
      intro hj
      cases hl : listed[j]? with
      | none => rw [Array.getElem?_eq_none_iff] at hl; omega
      | some b =>
        cases b with
        | true => rfl
        | false =>
          exfalso
          obtain ⟨o, ho⟩ : ∃ o, ops[j]? = some o := ⟨ops[j], by simp [hj]⟩
          have : j ∈ Region.ready .any arr listed := (ready_of listed j).2 ⟨o, ho, by simp [hl], fun m hm => by
            have hmj := (bitsOk_some hbits ho).1 m hm
            have := ih m hmj (by omega)
            simp [this]⟩
          rw [hr] at this; simp at this
  intro fuel
  induction fuel with
  | zero =>
    intro listed a w hsz hf hcl I
    have hnil : Region.ready .any arr listed = [] := by
      rw [List.eq_nil_iff_forall_not_mem]
      intro i hi
      obtain ⟨o, ho, h1, _⟩ := (ready_of listed i).1 hi
      have hil : i < listed.size := by rw [hsz]; exact (List.getElem?_eq_some_iff.1 ho).1
      have h2 : listed[i] = false := by simpa [hil] using h1
      have hmem : false ∈ listed.toList.filter (!·) := List.mem_filter.2 ⟨by rw [← h2]; simp, rfl⟩
      have := List.length_pos_of_mem hmem
      omega
    exact ⟨hnil, fin listed a w hsz I hnil⟩
  | succ fuel ih =>
    intro listed a w hsz hf hcl I
    refine ⟨fin listed a w hsz I, fun i hi => ?_⟩
    obtain ⟨o, ho, h1, h2⟩ := (ready_of listed i).1 hi
    have hil : i < ops.length := (List.getElem?_eq_some_iff.1 ho).1
    have hil' : i < listed.size := by rw [hsz]; exact hil
    have hi0 : listed[i] = false := by simpa [hil'] using h1
    have hbi : ∀ k, k < ops.length → bitBef bits k i = true → listed[k]? = some true := by
      intro k hk hb
      have onL : ∀ m ∈ (o.after.toList.filter (Region.binds .any ·)).map (·.on), listed[m]? = some true := fun m hm => by
        have := h2 m hm
        have hml : m < listed.size := by have := (bitsOk_some hbits ho).1 m hm; omega
        simpa [hml] using this
      rcases (bitsOk_some hbits ho).2 k hk hb with h | ⟨m, hm, h⟩
      · exact onL k h
      · exact hcl k m hk (onL m hm) h
    have e : ∀ j, (listed.setIfInBounds i true)[j]? = some true ↔ (listed[j]? = some true ∨ j = i) := by
      intro j
      rw [Array.getElem?_setIfInBounds]
      by_cases e : i = j
      · subst e; simp [hil']
      · have e' : ¬ j = i := fun h => e h.symm
        simp [e, e']
    refine wpOp_mono (fun a' w' h => ?_) (Inv2.step hS hpl harr I hil (by simp [hil', hi0]) hbi)
    refine ih _ a' w' (by simpa using hsz) ?_ ?_ ?_
    · have : (listed.setIfInBounds i true).toList = listed.toList.set i true := by simp
      rw [this]
      have hcount : ∀ (l : List Bool) (i : Nat) (h : i < l.length), l[i] = false → ((l.set i true).filter (!·)).length + 1 = (l.filter (!·)).length := by
        intro l
        induction l with
        | nil => intro i h; simp at h
        | cons b l ih =>
          intro i h hb
          cases i with
          | zero => simp at hb; subst hb; simp
          | succ i =>
            simp at h hb
            have := ih i h hb
            cases b <;> simp [List.filter_cons] <;> omega
      have := hcount listed.toList i (by simpa using hil') (by simpa using hi0)
      omega
    · intro k j hk hj hb
      rw [e] at hj ⊢
      rcases hj with hj | rfl
      · exact .inl (hcl k j hk hj hb)
      · exact .inl (hbi k hk hb)
    · have : (fun j => (listed.setIfInBounds i true)[j]? = some true) = (fun j => listed[j]? = some true ∨ j = i) := by funext j; exact propext (e j)
      rw [this]; exact h

/-- A region of the program's. -/
theorem reg_sound {arr : Array Oper} {draw : Bool} {id : Nat} {r : Reg} (hc : compReg P vars keeps nt arr.toList draw = some r) (hm : P.follows .mixedOrders = true)
    {st : St} {μ : Locs} {F : Nat → Prop} {Kst : St → Prop} (hS : Sim vars nt st a w μ F) (h : wpReg P r st Kst) {Q : Exit → Act → World → Prop}
    (hQ : ∀ st' a' w', Kst st' → Leads vars nt μ F w st.heap a st' a' w' → Q .normal a' w') : (Code.region id arr draw).wp P Q a w := by
  unfold wpReg at h
  cases draw with
  | false =>
    obtain ⟨hpl, houts⟩ := plan_of (show compBy P vars keeps nt arr.toList seqBef (List.range arr.toList.length) = some r from by simpa [compReg] using hc)
    have hB : Begin vars nt { vs := st.vars, a0 := a, w0 := w, μ0 := μ, F0 := F, H0 := st.heap } := ⟨hS.rel, hS.nt, hS.vars⟩
    refine wp_region ?_
    rw [List.range_eq_range']
    have I0 := Inv2.start hB hpl h
    refine seq_sound (keeps := keeps) (K := fun env H => Kst ⟨setOuts env r.outs st.vars, H⟩) hB hpl rfl (fun a' w' I => ?_) arr.size 0 a w (by simp) ?_
    · obtain ⟨env, H, h1, h2⟩ := I.done hB hpl houts (fun _ h => h)
      exact hQ _ a' w' h1 h2
    · have e : (fun j => j < 0) = (fun _ : Nat => False) := by funext j; simp
      rw [e]; exact I0
  | true =>
    simp only [compReg, if_true] at hc
    split at hc
    case isFalse => cases hc
    rename_i hbits
    obtain ⟨hpl, houts⟩ := plan_of hc
    refine wp_region_any hm ?_
    have hd := hS.rel.drew
    have hR' : Rel μ F { w with drawn := w.drawn + 1 } st.heap := hd.rel
    have hB : Begin vars nt { vs := st.vars, a0 := a, w0 := { w with drawn := w.drawn + 1 }, μ0 := μ, F0 := F, H0 := st.heap } := ⟨hR', hS.nt, fun v t x h1 h2 => hd.keep hS.rel (hS.vars v t x h1 h2)⟩
    have I0 := Inv2.start hB hpl h
    refine any_sound (keeps := keeps) (K := fun env H => Kst ⟨setOuts env r.outs st.vars, H⟩) hbits hB hpl rfl (fun a' w' L hall I => ?_) arr.size (Array.replicate arr.size false) a _ (by simp) ?_ ?_ ?_
    · obtain ⟨env, H, h1, μ', F', h2, h3, h4⟩ := I.done hB hpl houts hall
      exact hQ _ a' w' h1 ⟨μ', F', h2, hd.trans hS.rel h3, h4⟩
    · simp
    · intro i j _ hj
      rw [Array.getElem?_replicate] at hj
      split at hj <;> cases hj
    · have e : (fun j => (Array.replicate arr.size false)[j]? = some true) = (fun _ : Nat => False) := by
        funext j
        rw [Array.getElem?_replicate]
        split <;> simp
      rw [e]; exact I0
end
end Go.Vm
