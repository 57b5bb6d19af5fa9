/- Keys: '==' on them, and what a map asks of them. -/
import Derived.Test.YtibpfnjbgojfoaaDoorV2
import Derived.Laws.StructEq
set_option linter.all false
namespace Go.Vm
open Go
variable [Gl]

section
variable {P : Program} {F : Nat → Prop} {w : World} {t : TypeId}

theorem ktT_agg {k : KT} (h : ktT P t = some k) : (isAgg t).run P w = .ok false w := by
  unfold ktT at h
  split at h <;> first | (cases h; done) | skip
  all_goals (rename_i hu; simp [isAgg, run_underlying hu])

/-- One cell. -/
theorem eq1_run {k : KT} (h : ktT P t = some k) {x y : DV} {u v : Value} (hx : RepD F w x u) (hy : RepD F w y v) (cx : x.conf1 k = true) (cy : y.conf1 k = true) (d : Nat) :
    (Op.equalIn (d + 1) t u v).run P w = .ok (eq1 x y) w := by
  unfold ktT at h
  split at h <;> first | (cases h; done) | skip
  all_goals obtain rfl := Option.some.inj h
  all_goals rename_i hu
  · cases x <;> simp [DV.conf1] at cx
    cases y <;> simp [DV.conf1] at cy
    rw [hx.inv_bool, hy.inv_bool]
    simp [Op.equalIn, run_underlying hu, eq1]
  · cases x <;> simp [DV.conf1] at cx
    cases y <;> simp [DV.conf1] at cy
    subst cx; subst cy
    rw [hx.inv_int, hy.inv_int]
    simp [Op.equalIn, run_underlying hu, eq1]
  · cases x <;> simp [DV.conf1] at cx
    cases y <;> simp [DV.conf1] at cy
    rw [hx.inv_str, hy.inv_str]
    simp [Op.equalIn, run_underlying hu, eq1, beq_toListBytes, ByteArray.toList_eq]

theorem confL_length : ∀ {ts : List KT} {xs : List DV}, confL ts xs = true → xs.length = ts.length
  | [], [], _ => rfl
  | [], _ :: _, h => by cases h
  | _ :: _, [], h => by cases h
  | t :: ts, x :: xs, h => by
    simp only [confL, Bool.and_eq_true] at h
    simp [confL_length h.2]

theorem ktFields_some : ∀ {fs : List Field} {i : Nat} {ts : List KT}, ktFields P fs i = some ts → ts.length = fs.length
  | [], _, ts, h => by simp [ktFields] at h; subst h; rfl
  | f :: r, i, ts, h => by
    unfold ktFields at h
    split at h
    · split at h
      · rename_i t' ts' h1 h2
        obtain rfl := Option.some.inj h
        simp [ktFields_some h2]
      · cases h
    · cases h

/-- The fields, one behind the other. -/
theorem eqFields_run : ∀ (fs : List Field) (i : Nat) (ts : List KT), ktFields P fs i = some ts → ∀ (xs ys : List DV) (us vs : Array Value), confL ts (xs.drop i) = true → confL ts (ys.drop i) = true →
    us.size = xs.length → vs.size = ys.length → (∀ (j : Nat) (x : DV) (u : Value), xs[j]? = some x → us[j]? = some u → RepD F w x u) → (∀ (j : Nat) (x : DV) (u : Value), ys[j]? = some x → vs[j]? = some u → RepD F w x u) →
    ∀ d, (Op.eqFields (d + 1) us vs fs).run P w = .ok (eqL (xs.drop i) (ys.drop i)) w
  | [], i, ts, h, xs, ys, us, vs, cx, cy, _, _, _, _, d => by
    simp [ktFields] at h
    subst h
    have e1 : xs.drop i = [] := by
      have := confL_length cx; simp at this; simp; omega
    have e2 : ys.drop i = [] := by
      have := confL_length cy; simp at this; simp; omega
    simp [Op.eqFields, e1, e2, eqL]
  | f :: r, i, ts, h, xs, ys, us, vs, cx, cy, lx, ly, rx, ry, d => by
    unfold ktFields at h
    split at h
    · rename_i hc
      split at h
      · rename_i t' ts' h1 h2
        obtain rfl := Option.some.inj h
        have lxi := confL_length cx
        have lyi := confL_length cy
        have hix : i < xs.length := by simp at lxi; omega
        have hiy : i < ys.length := by simp at lyi; omega
        rw [List.drop_eq_getElem_cons hix] at cx ⊢
        rw [List.drop_eq_getElem_cons hiy] at cy ⊢
        simp only [confL, Bool.and_eq_true] at cx cy
        have hux : us[i]? = some us[i] := by simp
        have hvy : vs[i]? = some vs[i] := by simp
        have IH := eqFields_run r (i + 1) ts' h2 xs ys us vs cx.2 cy.2 lx ly rx ry d
        have p1 : (part f.type us f.offset).run P w = .ok us[i] w := by
          rw [hc.1]; simp [part, ktT_agg h1, hux]
        have p2 : (part f.type vs f.offset).run P w = .ok vs[i] w := by
          rw [hc.1]; simp [part, ktT_agg h1, hvy]
        have q := eq1_run (w := w) (F := F) h1 (rx i xs[i] us[i] (by simp) hux) (ry i ys[i] vs[i] (by simp) hvy) cx.1 cy.1 d
        simp only [Op.eqFields, if_pos hc.2.1, Sem.run_bind, p1, p2, Result.andThen_ok, q, Sem.run_ite, Sem.run_pure, IH, eqL]
        cases eq1 xs[i] ys[i] <;> simp
      · cases h
    · cases h

theorem ksT_many {ts : List KT} (h : ksT P t = some (.many ts)) : ∃ fs : Array Field, P.underlying t = some (.struct fs) ∧ P.stoodInHeld t = false ∧ P.eqGuardType P.depth t = false ∧ ktFields P fs.toList 0 = some ts := by
  unfold ksT at h
  split at h
  · rename_i fs hu
    split at h
    · rename_i hc
      simp only [Option.map_eq_some_iff] at h
      obtain ⟨ts', h1, h2⟩ := h
      cases h2
      exact ⟨fs, hu, hc.2.1, hc.2.2.1, h1⟩
    · cases h
  · simp only [Option.map_eq_some_iff] at h
    obtain ⟨ts', h1, h2⟩ := h
    cases h2
theorem ksT_one {k : KT} (h : ksT P t = some (.one k)) : ktT P t = some k := by
  unfold ksT at h
  split at h
  · split at h
    · simp only [Option.map_eq_some_iff] at h
      obtain ⟨ts', h1, h2⟩ := h
      cases h2
    · cases h
  · simp only [Option.map_eq_some_iff] at h
    obtain ⟨ts', h1, h2⟩ := h
    cases h2
    exact h1

theorem eqk_of_one {k : KT} {x y : DV} (hx : x.conf1 k = true) (hy : y.conf1 k = true) : x.eqk y = eq1 x y := by
  cases x <;> cases y <;> first | rfl | (cases k <;> simp [DV.conf1] at hx hy)

/-- '==' on keys. -/
theorem key_run {ks : KS} (h : ksT P t = some ks) {x y : DV} {u v : Value} (hx : RepD F w x u) (hy : RepD F w y v) (cx : x.conf ks = true) (cy : y.conf ks = true) (d : Nat) :
    (Op.equalIn (d + 2) t u v).run P w = .ok (x.eqk y) w := by
  cases ks with
  | one k => rw [eqk_of_one cx cy]; exact eq1_run (ksT_one h) hx hy cx cy (d + 1)
  | many ts =>
    obtain ⟨fs, hu, hst, _, hf⟩ := ksT_many h
    have hfo : P.fieldsOf t = fs := by unfold Program.fieldsOf; rw [hu]
    cases x <;> simp [DV.conf] at cx
    cases y <;> simp [DV.conf] at cy
    rename_i xs ys
    cases hx with
    | agg _ us hus rx =>
      cases hy with
      | agg _ vs hvs ry =>
        rw [run_equalIn_struct w (d + 1) t us vs (by rw [hfo]; exact hu) hst, hfo]
        exact eqFields_run fs.toList 0 ts hf xs ys us vs (by simpa using cx) (by simpa using cy) hus hvs rx ry d

theorem key_equal {ks : KS} (h : ksT P t = some ks) {x y : DV} {u v : Value} (hx : RepD F w x u) (hy : RepD F w y v) (cx : x.conf ks = true) (cy : y.conf ks = true) :
    (Op.equal t u v).run P w = .ok (x.eqk y) w := key_run h hx hy cx cy 9998

/-- A map takes such keys. -/
theorem check1 {k : KT} (h : ktT P t = some k) {x : DV} {u : Value} (hx : RepD F w x u) (cx : x.conf1 k = true) (em : Bool) (d : Nat) : (Instr.checkKey em (d + 1) t u).run P w = .ok () w := by
  unfold ktT at h
  split at h <;> first | (cases h; done) | skip
  all_goals obtain rfl := Option.some.inj h
  all_goals rename_i hu
  all_goals (cases x <;> simp [DV.conf1] at cx)
  · rw [hx.inv_bool]; simp [Instr.checkKey, run_underlying hu]
  · rw [hx.inv_int]; simp [Instr.checkKey, run_underlying hu]
  · rw [hx.inv_str]; simp [Instr.checkKey, run_underlying hu]

theorem checkFields (em : Bool) (d : Nat) : ∀ (fs : List Field) (i : Nat) (ts : List KT), ktFields P fs i = some ts → ∀ (xs : List DV) (us : Array Value), confL ts (xs.drop i) = true →
    us.size = xs.length → (∀ (j : Nat) (x : DV) (u : Value), xs[j]? = some x → us[j]? = some u → RepD F w x u) →
    (forIn fs PUnit.unit (fun f _ => (if f.name ≠ "_" then do
        let x ← part f.type us f.offset
        Instr.checkKey em (d + 1) f.type x
        pure (ForInStep.yield PUnit.unit)
      else pure (ForInStep.yield PUnit.unit) : Sem (ForInStep PUnit)))).run P w = .ok PUnit.unit w
  | [], _, _, _, _, _, _, _, _ => by simp
  | f :: r, i, ts, h, xs, us, cx, lx, rx => by
    unfold ktFields at h
    split at h
    · rename_i hc
      split at h
      · rename_i t' ts' h1 h2
        obtain rfl := Option.some.inj h
        have lxi := confL_length cx
        have hix : i < xs.length := by simp at lxi; omega
        rw [List.drop_eq_getElem_cons hix] at cx
        simp only [confL, Bool.and_eq_true] at cx
        have hux : us[i]? = some us[i] := by simp
        have p1 : (part f.type us f.offset).run P w = .ok us[i] w := by
          rw [hc.1]; simp [part, ktT_agg h1, hux]
        have q := check1 (w := w) (F := F) h1 (rx i xs[i] us[i] (by simp) hux) cx.1 em d
        have IH := checkFields em d r (i + 1) ts' h2 xs us cx.2 lx rx
        rw [List.forIn_cons]
        simp only [Sem.run_bind, if_pos hc.2.1, p1, q, Result.andThen_ok, Sem.run_pure]
        exact IH
      · cases h
    · cases h

theorem check_key {ks : KS} (h : ksT P t = some ks) {x : DV} {u : Value} (hx : RepD F w x u) (cx : x.conf ks = true) (em : Bool) (d : Nat) : (Instr.checkKey em (d + 2) t u).run P w = .ok () w := by
  cases ks with
  | one k => exact check1 (ksT_one h) hx cx em (d + 1)
  | many ts =>
    obtain ⟨fs, hu, hst, _, hf⟩ := ksT_many h
    cases x <;> simp [DV.conf] at cx
    rename_i xs
    cases hx with
    | agg _ us hus rx =>
      rw [show d + 2 = (d + 1) + 1 from rfl, Instr.checkKey]
      simp only [Sem.run_bind, run_underlying hu, Result.andThen_ok]
      have := checkFields em d fs.toList 0 ts hf xs us (by simpa using cx) hus rx
      rw [Array.forIn_toList] at this
      rw [this]; rfl

end
end Go.Vm
/- Look-ups, and the rest of the operations that write nothing. -/
namespace Go.Vm
open Go
variable [Gl]

section
variable {P : Program} {μ : Locs} {F : Nat → Prop} {w : World} {a : Act} {fresh : Nat} {t : TypeId}

/-- Where a key stands among a map's entries. -/
def findIx : List (DV × AV) → List MapEntry → DV → Nat → Option (Nat × Value)
  | (k', _) :: es, e :: ents, k, i => if k.eqk k' then some (i, e.val) else findIx es ents k (i + 1)
  | _, _, _, _ => none

theorem findAsking_run {ks : KS} (h : ksT P t = some ks) {k : DV} {u : Value} (hk : RepD F w k u) (ck : k.conf ks = true) :
    ∀ (es : List (DV × AV)) (ents : List MapEntry) (i : Nat), ents.length = es.length → (∀ x ∈ es, x.1.conf ks = true) →
    (∀ (j : Nat) (x : DV × AV) (e : MapEntry), es[j]? = some x → ents[j]? = some e → RepD F w x.1 e.key) →
    (Instr.findAsking t u ents i).run P w = .ok (findIx es ents k i) w
  | [], [], i, _, _, _ => by simp [Instr.findAsking, findIx]
  | [], _ :: _, _, h, _, _ => by cases h
  | _ :: _, [], _, h, _, _ => by cases h
  | x :: es, e :: ents, i, hl, hc, hr => by
    have q := key_equal (w := w) h hk (hr 0 x e rfl rfl) ck (hc x (by simp))
    have IH := findAsking_run h hk ck es ents (i + 1) (by simpa using hl) (fun y hy => hc y (by simp [hy])) (fun j y e' hy he => hr (j + 1) y e' (by simpa using hy) (by simpa using he))
    obtain ⟨k', v'⟩ := x
    simp only [Instr.findAsking, Sem.run_bind, q, Result.andThen_ok, Sem.run_ite, Sem.run_pure, IH, findIx]
    split <;> rfl

theorem sameNow_one {k : KT} (h : ktT P t = some k) {desc : TypeDesc} (hd : P.underlying t = some desc) {x y : DV} {u v : Value} (hx : RepD F w x u) (hy : RepD F w y v)
    (cx : x.conf1 k = true) (cy : y.conf1 k = true) : Instr.sameNow desc u v = some (eq1 x y) := by
  unfold ktT at h
  rw [hd] at h
  split at h <;> first | (cases h; done) | skip
  all_goals obtain rfl := Option.some.inj h
  all_goals rename_i hu
  all_goals obtain rfl := Option.some.inj hu
  all_goals (cases x <;> simp [DV.conf1] at cx)
  all_goals (cases y <;> simp [DV.conf1] at cy)
  · rw [hx.inv_bool, hy.inv_bool]; rfl
  · subst cx; subst cy; rw [hx.inv_int, hy.inv_int]; simp [Instr.sameNow, eq1]
  · rw [hx.inv_str, hy.inv_str]; simp [Instr.sameNow, eq1, beq_toListBytes, ByteArray.toList_eq]

theorem findNow_one {k : KT} (h : ktT P t = some k) {desc : TypeDesc} (hd : P.underlying t = some desc) {x : DV} {u : Value} (hx : RepD F w x u) (cx : x.conf1 k = true) :
    ∀ (es : List (DV × AV)) (ents : List MapEntry) (i : Nat), ents.length = es.length → (∀ x ∈ es, x.1.conf1 k = true) →
    (∀ (j : Nat) (x : DV × AV) (e : MapEntry), es[j]? = some x → ents[j]? = some e → RepD F w x.1 e.key) →
    Instr.findNow desc u ents i = some (findIx es ents x i)
  | [], [], i, _, _, _ => by simp [Instr.findNow, findIx]
  | [], _ :: _, _, h, _, _ => by cases h
  | _ :: _, [], _, h, _, _ => by cases h
  | y :: es, e :: ents, i, hl, hc, hr => by
    have q := sameNow_one h hd hx (hr 0 y e rfl rfl) cx (hc y (by simp))
    have IH := findNow_one h hd hx cx es ents (i + 1) (by simpa using hl) (fun y hy => hc y (by simp [hy])) (fun j y e' hy he => hr (j + 1) y e' (by simpa using hy) (by simpa using he))
    obtain ⟨k', v'⟩ := y
    have e1 : x.eqk k' = eq1 x k' := eqk_of_one cx (hc (k', v') (by simp))
    simp only [Instr.findNow, q, findIx, e1]
    cases eq1 x k'
    · simpa using IH
    · rfl

theorem findNow_struct {fs : Array Field} (u : Value) : ∀ (ents : List MapEntry) (i : Nat), Instr.findNow (.struct fs) u ents i = (match ents with | [] => some none | _ => none)
  | [], i => rfl
  | e :: ents, i => by
    have : Instr.sameNow (.struct fs) u e.key = none := by unfold Instr.sameNow; split <;> simp_all
    simp [Instr.findNow, this]

theorem findKey_run {ks : KS} (h : ksT P t = some ks) {k : DV} {u : Value} (hk : RepD F w k u) (ck : k.conf ks = true)
    {es : List (DV × AV)} {ents : List MapEntry} (hl : ents.length = es.length) (hc : ∀ x ∈ es, x.1.conf ks = true)
    (hr : ∀ (j : Nat) (x : DV × AV) (e : MapEntry), es[j]? = some x → ents[j]? = some e → RepD F w x.1 e.key) :
    (Instr.findKey t u ents).run P w = .ok (findIx es ents k 0) w := by
  cases ks with
  | one kt =>
    have h1 := ksT_one h
    obtain ⟨desc, hd⟩ : ∃ desc, P.underlying t = some desc := by
      unfold ktT at h1; split at h1 <;> first | (cases h1; done) | exact ⟨_, by assumption⟩
    have := findNow_one h1 hd hk ck es ents 0 hl hc hr
    simp only [Instr.findKey, Sem.run_bind, run_underlying hd, Result.andThen_ok, this, Sem.run_pure]
  | many ts =>
    obtain ⟨fs, hu, _⟩ := ksT_many h
    have := findAsking_run h hk ck es ents 0 hl hc hr
    simp only [Instr.findKey, Sem.run_bind, run_underlying hu, Result.andThen_ok, findNow_struct]
    cases ents with
    | nil =>
      have : es = [] := List.length_eq_zero_iff.1 (by simpa using hl.symm)
      subst this; rfl
    | cons e r => simpa using this

/-- What was found. -/
theorem findIx_get : ∀ (es : List (DV × AV)) (ents : List MapEntry) (k : DV) (i : Nat), ents.length = es.length →
    (findIx es ents k i = none ∧ assocGet es k = none) ∨
    ∃ (j : Nat) (x : DV × AV) (e : MapEntry), findIx es ents k i = some (i + j, e.val) ∧ es[j]? = some x ∧ ents[j]? = some e ∧ k.eqk x.1 = true ∧ assocGet es k = some x.2 ∧
      (∀ v, assocSet es k v = es.set j (k, v)) ∧ assocDel es k = es.eraseIdx j
  | [], [], k, i, _ => .inl ⟨rfl, rfl⟩
  | [], _ :: _, _, _, h => by cases h
  | _ :: _, [], _, _, h => by cases h
  | (k', v') :: es, e :: ents, k, i, hl => by
    by_cases hk : k.eqk k' = true
    · exact .inr ⟨0, (k', v'), e, by simp [findIx, hk], rfl, rfl, hk, by simp [assocGet, hk], fun v => by simp [assocSet, hk], by simp [assocDel, hk]⟩
    · rcases findIx_get es ents k (i + 1) (by simpa using hl) with ⟨h1, h2⟩ | ⟨j, x, e', h1, h2, h3, h4, h5, h6, h7⟩
      · exact .inl ⟨by simp [findIx, hk, h1], by simp [assocGet, hk, h2]⟩
      · refine .inr ⟨j + 1, x, e', by simp [findIx, hk, h1]; omega, by simpa using h2, by simpa using h3, h4, by simp [assocGet, hk, h5], fun v => by simp [assocSet, hk, h6], by simp [assocDel, hk, h7]⟩

theorem findIx_none : ∀ (es : List (DV × AV)) (ents : List MapEntry) (k : DV) (i : Nat), ents.length = es.length → findIx es ents k i = none → (∀ v, assocSet es k v = es ++ [(k, v)]) ∧ assocDel es k = es
  | [], [], k, i, _, _ => ⟨fun v => rfl, rfl⟩
  | [], _ :: _, _, _, h, _ => by cases h
  | _ :: _, [], _, _, h, _ => by cases h
  | (k', v') :: es, e :: ents, k, i, hl, hn => by
    by_cases hk : k.eqk k' = true
    · simp [findIx, hk] at hn
    · simp [findIx, hk] at hn
      obtain ⟨h1, h2⟩ := findIx_none es ents k (i + 1) (by simpa using hl) hn
      exact ⟨fun v => by simp [assocSet, hk, h1], by simp [assocDel, hk, h2]⟩

theorem Heap.ob_some {H : Heap} {id : Nat} {o : Ob} (h : H.ob id = some o) : H[id]? = some (some o) := by
  unfold Heap.ob at h
  cases hh : H[id]? with
  | none => simp [hh] at h
  | some oo => simp [hh] at h; rw [h]

theorem lookup_sound (o : Oper) (x y : Operand) (ok : Bool) (ho : o.op = .lookup t x y ok) {kt e : TypeId} (ht : P.underlying t = some (.map kt e)) {ks : KS} (hks : ksT P kt = some ks)
    {z : AV} (hz : zeroT P e = some z) {H : Heap} (hR : Rel μ F w H) {vx vy : AV} (hx : RepA μ F w vx (a.eval x)) (hy : RepA μ F w vy (a.eval y))
    (hob : (lookupV H.ob ok ks z vx vy).ob) : NOut P μ F w o a fresh (lookupV H.ob ok ks z vx vy) := by
  obtain ⟨i, zv, hi, hzv, hkz⟩ := zeroT_some hz
  have hzr : RepA μ F w z zv := kVal_rep hkz
  have two : ∀ (v : AV) (u : Value) (b : Bool), RepA μ F w v u → RepA μ F w (.tup [v, .d (.bool b)]) (.tuple #[u, .bool b]) := by
    intro v u b hv
    refine .tup _ _ rfl (fun i x u' hx hu => ?_)
    match i with
    | 0 => simp at hx hu; subst hx; subst hu; exact hv
    | 1 => simp at hx hu; subst hx; subst hu; exact .d _ _ (.bool _)
    | i + 2 => simp at hx
  unfold lookupV at hob ⊢
  split at hob
  · rename_i id k
    split at hob
    · rename_i ks' es hG
      obtain ⟨rfl, ck⟩ := hob
      have hkD := hy.inv_d
      generalize hu : a.eval x = u at hx
      cases hx with
      | mp _ l hm =>
        have hM : MapAt μ F w l ks' es := hR.ob id l _ hm (Heap.ob_some hG)
        obtain ⟨hconf, ents, clock, hb, hsz, hrep, hborn, hinj⟩ := hM
        have hg : (getObj l.blk).run P w = .ok (.map ents clock) w := by
          simp [getObj, Sem.run, hb]
        have hck : (Instr.checkKey ents.isEmpty 10000 kt (a.eval y)).run P w = .ok () w := check_key hks hkD ck _ 9998
        have hfk := findKey_run (ents := ents.toList) hks hkD ck (es := es) (by simpa using hsz) hconf (fun j x e hx he => (hrep j x e hx (by simpa using he)).1)
        rcases findIx_get es ents.toList k 0 (by simpa using hsz) with ⟨h1, h2⟩ | ⟨j, x', e', h1, h2, h3, h4, h5, _, _⟩
        · rw [h1] at hfk
          rw [h2]
          cases ok
          · exact NOut.none rfl (u := zv) (by simp [execOp, ho, hu, Instr.lookup, run_underlying ht, hg, hck, hfk, run_zeroV hi hzv]) hzr
          · exact NOut.none rfl (u := .tuple #[zv, .bool false]) (by simp [execOp, ho, hu, Instr.lookup, run_underlying ht, hg, hck, hfk, run_zeroV hi hzv]) (two _ _ _ hzr)
        · rw [h1] at hfk
          rw [h5]
          have hv := (hrep j x' e' h2 (by simpa using h3)).2
          cases ok
          · exact NOut.none rfl (u := e'.val) (by simp [execOp, ho, hu, Instr.lookup, run_underlying ht, hg, hck, hfk]) hv
          · exact NOut.none rfl (u := .tuple #[e'.val, .bool true]) (by simp [execOp, ho, hu, Instr.lookup, run_underlying ht, hg, hck, hfk]) (two _ _ _ hv)
    · exact hob.elim
  · rename_i k
    have hkD := hy.inv_d
    have hxD := hx.inv_d
    generalize hu : a.eval x = u at hxD
    cases hxD with
    | nilm =>
      have hck : (Instr.checkKey true 10000 kt (a.eval y)).run P w = .ok () w := check_key hks hkD hob _ 9998
      have hfk := findKey_run (ents := []) hks hkD hob (es := []) rfl (by simp) (by simp)
      cases ok
      · exact NOut.none rfl (u := zv) (by simp [execOp, ho, hu, Instr.lookup, run_underlying ht, hck, hfk, findIx, run_zeroV hi hzv]) hzr
      · exact NOut.none rfl (u := .tuple #[zv, .bool false]) (by simp [execOp, ho, hu, Instr.lookup, run_underlying ht, hck, hfk, findIx, run_zeroV hi hzv]) (two _ _ _ hzr)
  · rename_i as bs k
    obtain ⟨hconf, ck⟩ := hob
    have hkD := hy.inv_d
    have hxD := hx.inv_d
    generalize hu : a.eval x = u at hxD
    cases hxD with
    | fm _ _ b ents clock hF hb hsz hl hrk hrv hborn hinj =>
      have hg : (getObj b).run P w = .ok (.map ents clock) w := by
        simp [getObj, Sem.run, hb]
      have hck : (Instr.checkKey ents.isEmpty 10000 kt (a.eval y)).run P w = .ok () w := check_key hks hkD ck _ 9998
      have hzip : ∀ (i : Nat) (x : DV × AV), (as.zip (bs.map AV.d))[i]? = some x → as[i]? = some x.1 ∧ ∃ y, bs[i]? = some y ∧ x.2 = .d y := by
        intro i x hx
        rw [List.getElem?_zip_eq_some] at hx
        obtain ⟨h3, h4⟩ := hx
        simp only [List.getElem?_map, Option.map_eq_some_iff] at h4
        obtain ⟨y, h5, h6⟩ := h4
        exact ⟨h3, y, h5, h6.symm⟩
      have hszz : ents.toList.length = (as.zip (bs.map AV.d)).length := by simp; omega
      have hconfz : ∀ x ∈ as.zip (bs.map AV.d), x.1.conf ks = true := by
        intro x hx
        obtain ⟨i, hi⟩ := List.getElem?_of_mem hx
        exact hconf x.1 (List.mem_of_getElem? (hzip i x hi).1)
      have hfg : ∀ (as bs : List DV), assocGet (as.zip (bs.map AV.d)) k = (fmGet as bs k).map AV.d := by
        intro as
        induction as with
        | nil => intro bs; cases bs <;> rfl
        | cons x r ih =>
          intro bs
          cases bs with
          | nil => rfl
          | cons y s => simp only [List.map_cons, List.zip_cons_cons, assocGet, fmGet, ih]; split <;> rfl
      have hfk := findKey_run (ents := ents.toList) hks hkD ck (es := as.zip (bs.map AV.d)) hszz hconfz (fun j x e hx he => hrk j x.1 e (hzip j x hx).1 (by simpa using he))
      rcases findIx_get (as.zip (bs.map AV.d)) ents.toList k 0 hszz with ⟨h1, h2⟩ | ⟨j, x', e', h1, h2, h3, h4, h5, _, _⟩
      · rw [h1] at hfk
        rw [hfg] at h2
        have h2' : fmGet as bs k = none := by simpa using h2
        rw [h2']
        cases ok
        · exact NOut.none rfl (u := zv) (by simp [execOp, ho, hu, Instr.lookup, run_underlying ht, hg, hck, hfk, run_zeroV hi hzv]) hzr
        · exact NOut.none rfl (u := .tuple #[zv, .bool false]) (by simp [execOp, ho, hu, Instr.lookup, run_underlying ht, hg, hck, hfk, run_zeroV hi hzv]) (two _ _ _ hzr)
      · rw [h1] at hfk
        rw [hfg] at h5
        obtain ⟨h6, y, h7, h8⟩ := hzip j x' h2
        have h5' : fmGet as bs k = some y := by
          rw [h8] at h5
          cases hh : fmGet as bs k with
          | none => rw [hh] at h5; cases h5
          | some z' => rw [hh] at h5; simp at h5; rw [h5]
        rw [h5']
        have hv : RepA μ F w (.d y) e'.val := .d _ _ (hrv j y e' h7 (by simpa using h3))
        cases ok
        · exact NOut.none rfl (u := e'.val) (by simp [execOp, ho, hu, Instr.lookup, run_underlying ht, hg, hck, hfk]) hv
        · exact NOut.none rfl (u := .tuple #[e'.val, .bool true]) (by simp [execOp, ho, hu, Instr.lookup, run_underlying ht, hg, hck, hfk]) (two _ _ _ hv)
  · exact hob.elim

theorem eqs_sound (o : Oper) (b : BinOp) (x y : Operand) (yt : TypeId) (ho : o.op = .binOp b t x y yt) {ts : List KT} (hks : ksT P t = some (.many ts)) (hb : b = .eql ∨ b = .neq)
    {vx vy : AV} (hx : RepA μ F w vx (a.eval x)) (hy : RepA μ F w vy (a.eval y)) (hob : (eqsV (b == .neq) (.many ts) vx vy).ob) : NOut P μ F w o a fresh (eqsV (b == .neq) (.many ts) vx vy) := by
  unfold eqsV at hob ⊢
  split at hob
  · rename_i dx dy
    obtain ⟨cx, cy⟩ := hob
    obtain ⟨fs, hu, hst, hgd, hf⟩ := ksT_many hks
    have hxD := hx.inv_d
    have hyD := hy.inv_d
    have hq := key_run (w := w) hks hxD hyD cx cy 9998
    obtain ⟨us, hus⟩ : ∃ us, a.eval x = .agg us := by
      cases dx <;> simp [DV.conf] at cx
      generalize a.eval x = u at hxD
      cases hxD with
      | agg _ us _ _ => exact ⟨us, rfl⟩
    obtain ⟨vs, hvs⟩ : ∃ vs, a.eval y = .agg vs := by
      cases dy <;> simp [DV.conf] at cy
      generalize a.eval y = u at hyD
      cases hyD with
      | agg _ us _ _ => exact ⟨us, rfl⟩
    rw [hus, hvs] at hq
    have hg := run_eqGuard_agg (P := P) w b t x y us vs hgd
    rcases hb with rfl | rfl
    · refine NOut.none rfl (u := .bool (dx.eqk dy)) ?_ (.d _ _ (.bool _))
      simp only [execOp, ho, hus, hvs, Sem.run_bind, hg, Result.andThen_ok, run_eql_struct, hq, Sem.run_pure]
    · refine NOut.none rfl (u := .bool (!(dx.eqk dy))) ?_ (.d _ _ (.bool _))
      simp only [execOp, ho, hus, hvs, Sem.run_bind, hg, Result.andThen_ok, run_neq_struct, hq, Sem.run_pure]
  · exact hob.elim

end
end Go.Vm
/- Numbers' and values' small operations; all operations that write nothing, in one theorem. -/
namespace Go.Vm
open Go
variable [Gl]

section
variable {P : Program} {μ : Locs} {F : Nat → Prop} {w : World} {a : Act} {fresh : Nat} {t : TypeId}

theorem mov_sound (o : Oper) (x : Operand) (ho : o.op = .move x ∨ o.op = .assign x) {vx : AV} (hx : RepA μ F w vx (a.eval x)) (ob : Prop) : NOut P μ F w o a fresh ⟨ob, vx, .none⟩ :=
  NOut.none rfl (u := a.eval x) (by rcases ho with ho | ho <;> simp [execOp, ho]) hx

theorem not_sound (o : Oper) (x : Operand) (ho : o.op = .unOp .not t x) {vx : AV} (hx : RepA μ F w vx (a.eval x)) (hob : (notV vx).ob) : NOut P μ F w o a fresh (notV vx) := by
  unfold notV at hob ⊢
  split at hob
  · rename_i b
    exact NOut.none rfl (u := .bool !b) (by simp [execOp, ho, hx.inv_d.inv_bool, Op.unary]) (.d _ _ (.bool _))
  · exact hob.elim
theorem neg_sound (o : Oper) (x : Operand) (ho : o.op = .unOp .neg t x) {vx : AV} (hx : RepA μ F w vx (a.eval x)) (hob : (negV vx).ob) : NOut P μ F w o a fresh (negV vx) := by
  unfold negV at hob ⊢
  split at hob
  · rename_i k n
    exact NOut.none rfl (u := .int k (k.wrap (0 - n))) (by simp [execOp, ho, hx.inv_d.inv_int, Op.unary, Op.intArith]) (.d _ _ (.int _ _))
  · exact hob.elim
theorem conv_sound (o : Oper) (x : Operand) (src : TypeId) (ho : o.op = .convert src t x) {k : IntKind} (ht : P.underlying t = some (.int k)) {d : TypeDesc} (hs : P.underlying src = some d)
    {vx : AV} (hx : RepA μ F w vx (a.eval x)) (hob : (convV k vx).ob) : NOut P μ F w o a fresh (convV k vx) := by
  unfold convV at hob ⊢
  split at hob
  · rename_i k' n
    exact NOut.none rfl (u := .int k (k.wrap n)) (by simp [execOp, ho, hx.inv_d.inv_int, convert, run_underlying ht, run_underlying hs, Conv.intToInt]) (.d _ _ (.int _ _))
  · exact hob.elim

theorem fieldAddr_sound (o : Oper) (x : Operand) (i : Nat) (ho : o.op = .fieldAddr t x i) {f : Field} (hf : fieldT P t i = some f) (hs : (sizeT P f.type).getD 0 ≠ 0)
    {vx : AV} (hx : RepA μ F w vx (a.eval x)) (hob : (fieldAddrV f.offset vx).ob) : NOut P μ F w o a fresh (fieldAddrV f.offset vx) := by
  obtain ⟨n, hn⟩ : ∃ n, sizeT P f.type = some n := by
    cases h : sizeT P f.type with
    | none => simp [h] at hs
    | some n => exact ⟨n, rfl⟩
  have hn0 : n ≠ 0 := by simpa [hn] using hs
  obtain ⟨fs, hu, hfi⟩ : ∃ fs, P.underlying t = some (.struct fs) ∧ fs[i]? = some f := by
    unfold fieldT at hf; split at hf
    · exact ⟨_, by assumption, hf⟩
    · cases hf
  have hr : ∀ (b o0 : Nat), a.eval x = .pointer (some ⟨b, o0, none⟩) → (execOp a.eval o).run P w = .ok (.value (.pointer (some ⟨b, o0 + f.offset, none⟩))) w := by
    intro b o0 he
    simp [execOp, ho, he, Instr.fieldAt, run_underlying hu, hfi, Instr.sureAddr, fieldPlace, run_sizeT hn, hn0, addr_add]
  unfold fieldAddrV at hob ⊢
  split at hob
  · rename_i id ix off
    generalize hu' : a.eval x = u at hx
    cases hx with
    | ptr _ _ _ l hm =>
      refine NOut.none rfl (hr _ _ hu') ?_
      have := RepA.ptr (μ := μ) (F := F) (w := w) id ix (off + f.offset) l hm
      rwa [show l.off + (ix * l.sz + (off + f.offset)) = l.off + (ix * l.sz + off) + f.offset from by omega] at this
  · rename_i y off
    generalize hu' : a.eval x = u at hx
    cases hx with
    | fp _ _ b o0 g hF hcell hrep =>
      refine NOut.none rfl (hr _ _ hu') ?_
      have := RepA.fp (μ := μ) (F := F) (w := w) y (off + f.offset) b o0 g hF hcell hrep
      rwa [← Nat.add_assoc] at this
  · exact hob.elim

theorem idxArr_sound (o : Oper) (x y : Operand) (ho : o.op = .indexAddr t x y) {n : Nat} {e : TypeId} (ht : P.underlying t = some (.array n e)) {sz : Nat} (hs : sizeT P e = some sz)
    {vx vy : AV} (hx : RepA μ F w vx (a.eval x)) (hy : RepA μ F w vy (a.eval y)) (hob : (idxArrV n sz vx vy).ob) : NOut P μ F w o a fresh (idxArrV n sz vx vy) := by
  unfold idxArrV at hob ⊢
  split at hob
  · rename_i y0 off k i
    obtain ⟨h0, h1⟩ := hob
    have ey := hy.inv_d.inv_int
    generalize hu : a.eval x = u at hx
    cases hx with
    | fp _ _ b o0 g hF hcell hrep =>
      refine NOut.none rfl (u := .pointer (some ⟨b, o0 + off + i.toNat * sz, none⟩)) ?_ ?_
      · simp [execOp, ho, hu, ey, Instr.indexAt, Instr.sureAddr, asIntOf, run_underlying ht, h0, h1, run_sizeT hs, addr_add]
      · have := RepA.fp (μ := μ) (F := F) (w := w) y0 (off + i.toNat * sz) b o0 g hF hcell hrep
        rwa [← Nat.add_assoc] at this
  · rename_i id ix off k i
    obtain ⟨h0, h1⟩ := hob
    have ey := hy.inv_d.inv_int
    generalize hu : a.eval x = u at hx
    cases hx with
    | ptr _ _ _ l hm =>
      refine NOut.none rfl (u := .pointer (some ⟨l.blk, l.off + (ix * l.sz + off) + i.toNat * sz, none⟩)) ?_ ?_
      · simp [execOp, ho, hu, ey, Instr.indexAt, Instr.sureAddr, asIntOf, run_underlying ht, h0, h1, run_sizeT hs, addr_add]
      · have := RepA.ptr (μ := μ) (F := F) (w := w) id ix (off + i.toNat * sz) l hm
        rwa [show l.off + (ix * l.sz + (off + i.toNat * sz)) = l.off + (ix * l.sz + off) + i.toNat * sz from by omega] at this
  · exact hob.elim

theorem idxAddr_sound (o : Oper) (x y : Operand) (ho : o.op = .indexAddr t x y) {e : TypeId} (he : elemT P t = some e) {sz : Nat} (hs : sizeT P e = some sz)
    {vx vy : AV} (hx : RepA μ F w vx (a.eval x)) (hy : RepA μ F w vy (a.eval y)) (hob : (idxAddrV sz vx vy).ob) : NOut P μ F w o a fresh (idxAddrV sz vx vy) := by
  have ht := elemT_some he
  unfold idxAddrV at hob ⊢
  split at hob
  · rename_i xs k i
    obtain ⟨h0, h1, hf⟩ := hob
    have ey := hy.inv_d.inv_int
    have hd := hx.inv_d
    generalize hu : a.eval x = u at hd
    cases hd with
    | vs _ ad n c sz' f hn hc hsz ha hcell hrep =>
      have hil : i.toNat < xs.length := by omega
      have hne : xs ≠ [] := fun e => by simp [e] at hil
      obtain ⟨ad0, h3, h4, h5⟩ := ha hne
      subst h3
      rw [getD_lt _ _ _ hil] at hf ⊢
      have hszz : sz' = sz := by
        have := AV.fits_length (x := .d xs[i.toNat]) (by simpa [AV.fits] using hsz _ (List.getElem_mem hil))
        have h6 := AV.fits_length (x := .d xs[i.toNat]) (by simpa [AV.fits] using hf)
        omega
      obtain ⟨b0, o0, s0⟩ := ad0
      simp only at h4 h5
      subst h5
      refine NOut.none rfl (u := .pointer (some ⟨b0, o0 + i.toNat * sz, none⟩)) ?_ ?_
      · have hin : i < (n : Int) := by omega
        simp [execOp, ho, hu, ey, Instr.indexAt, asIntOf, run_underlying ht, h0, hin, run_sizeT hs, addr_add]
      · have := RepA.fp (μ := μ) (F := F) (w := w) xs[i.toNat] 0 b0 (o0 + i.toNat * sz) (f i.toNat) h4 (fun j y hy => by
          have := hcell ⟨b0, o0, none⟩ rfl i.toNat j xs[i.toNat] y (by simp [hil]) hy
          rw [hszz] at this
          rw [Nat.add_assoc]; exact this) (fun j y hy => hrep i.toNat j xs[i.toNat] y (by simp [hil]) hy)
        simpa using this
  · rename_i id off len sz' k i
    obtain ⟨rfl, h0, h1⟩ := hob
    have ey := hy.inv_d.inv_int
    generalize hu : a.eval x = u at hx
    cases hx with
    | hs _ _ _ _ l c hm hlsz hl hc =>
      refine NOut.none rfl (u := .pointer (some ⟨l.blk, l.off + off * sz' + i.toNat * sz', none⟩)) ?_ ?_
      · simp [execOp, ho, hu, ey, Instr.indexAt, asIntOf, run_underlying ht, h0, h1, run_sizeT hs, addr_add]
      · have := RepA.ptr (μ := μ) (F := F) (w := w) id (off + i.toNat) 0 l hm
        rw [hlsz, Nat.add_mul] at this
        rwa [show l.off + (off * sz' + i.toNat * sz' + 0) = l.off + off * sz' + i.toNat * sz' from by omega] at this
    | hs0 => omega
  · exact hob.elim

theorem extract_sound (o : Oper) (x : Operand) (i : Nat) (ho : o.op = .extract x i) {vx : AV} (hx : RepA μ F w vx (a.eval x)) (hob : (extractV i vx).ob) : NOut P μ F w o a fresh (extractV i vx) := by
  unfold extractV at hob ⊢
  split at hob
  · rename_i cs
    generalize hu : a.eval x = u at hx
    cases hx with
    | tup _ us hs h =>
      have hi : i < us.size := by rw [hs]; exact hob
      refine NOut.none rfl (u := us[i]) (by simp [execOp, ho, hu, Instr.extract, hi]) ?_
      rw [getD_lt _ _ _ hob]
      exact h i cs[i] us[i] (by simp [show i < cs.length from hob]) (by simp [hi])
  · exact hob.elim

/-- The cells of a struct value. -/
theorem agg_cells {x : AV} {cs : Array Value} (h : RepA μ F w x (.agg cs)) : x = .undef ∨ (∃ b v, x = .when b v) ∨ (cs.size = x.cells.length ∧ x.isAgg = true ∧
    ∀ (j : Nat) (y : AV) (u : Value), x.cells[j]? = some y → cs[j]? = some u → RepA μ F w y u) := by
  cases h with
  | undef => exact .inl rfl
  | when b v _ h _ => exact .inr (.inl ⟨b, v, rfl⟩)
  | agg xs us hs h => exact .inr (.inr ⟨hs, rfl, h⟩)
  | d x v h =>
    cases h with
    | agg xs us hs h =>
      refine .inr (.inr ⟨by simpa [AV.cells, DV.cells] using hs, rfl, fun j y u hy hu => ?_⟩)
      simp only [AV.cells, DV.cells, List.getElem?_map, Option.map_eq_some_iff] at hy
      obtain ⟨z, hz, rfl⟩ := hy
      exact .d _ _ (h j z u hz hu)

theorem field_sound (o : Oper) (x : Operand) (i : Nat) (ho : o.op = .field t x i) {f : Field} (hf : fieldT P t i = some f) {n : Nat} (hs : sizeT P f.type = some n) {g : Bool} (hg : aggT P f.type = some g)
    (h1 : g = true ∨ n = 1) {vx : AV} (hx : RepA μ F w vx (a.eval x)) (hagg : vx.isAgg = true) (hob : partAOb vx f.offset n g) (ob : Prop) : NOut P μ F w o a fresh ⟨ob, partA vx f.offset n g, .none⟩ := by
  obtain ⟨fs, hu, hfi⟩ : ∃ fs, P.underlying t = some (.struct fs) ∧ fs[i]? = some f := by
    unfold fieldT at hf; split at hf
    · exact ⟨_, by assumption, hf⟩
    · cases hf
  obtain ⟨cs, hcs⟩ : ∃ cs, a.eval x = .agg cs := by
    generalize a.eval x = u at hx
    cases hx with
    | agg _ us _ _ => exact ⟨us, rfl⟩
    | d x v h =>
      cases h with
      | agg _ us _ _ => exact ⟨us, rfl⟩
      | _ => cases hagg
    | _ => cases hagg
  rw [hcs] at hx
  rcases agg_cells hx with rfl | ⟨b, v, rfl⟩ | ⟨hsz, _, hrep⟩
  · cases hagg
  · cases hagg
  · have hlen : f.offset + n ≤ vx.cells.length := by
      cases vx with
      | d x => simpa [AV.cells] using hob.1
      | _ => exact hob.1
    cases g with
    | true =>
      refine NOut.none rfl (u := .agg (cs.extract f.offset (f.offset + n))) (by simp [execOp, ho, hcs, Instr.field, run_underlying hu, hfi, asAgg, part, run_isAggT hg, run_sizeT hs]) ?_
      refine partA_agg hob (by simp; omega) (fun j y u hy hu => ?_)
      rw [drop_take_get] at hy
      split at hy
      · rename_i hj
        rw [Array.getElem?_extract] at hu
        split at hu
        · exact hrep _ y u hy hu
        · cases hu
      · cases hy
    | false =>
      have hn : n = 1 := by simpa using h1
      subst hn
      have ho' : f.offset < cs.size := by omega
      refine NOut.none rfl (u := cs[f.offset]) (by simp [execOp, ho, hcs, Instr.field, run_underlying hu, hfi, asAgg, part, run_isAggT hg, ho']) ?_
      refine partA_one hob rfl ?_
      rw [getD_lt _ _ _ (by omega)]
      exact hrep f.offset _ _ (by simp) (by simp [ho'])

theorem len_run (o : Oper) (args : Array Operand) (argTypes : Array TypeId) (ho : o.op = .call { callee := .builtin .len, args, argTypes }) {x : Operand} (ha : args.toList = [x]) (htt : argTypes.toList = [t])
    {u : Value} (h : (Builtin.len_ #[t] o.type #[a.eval x]).run P w = .ok u w) : (execOp a.eval o).run P w = .ok (.value u) w := by
  have e1 : args = #[x] := by rw [← Array.toList_inj]; simpa using ha
  have e2 : argTypes = #[t] := by rw [← Array.toList_inj]; simpa using htt
  subst e1; subst e2
  simp only [execOp, ho, resolve, Sem.run_bind, Sem.run_pure, Result.andThen_ok, invoke, builtin]
  simp [h]

theorem len_sound (o : Oper) (args : Array Operand) (argTypes : Array TypeId) (ho : o.op = .call { callee := .builtin .len, args, argTypes }) {x : Operand} (ha : args.toList = [x]) (htt : argTypes.toList = [t])
    {k : Nat} (hu : (k = 0 ∧ ∃ e, P.underlying t = some (.slice e)) ∨ (k = 1 ∧ P.underlying t = some .string) ∨ (k = 2 ∧ ∃ kt e, P.underlying t = some (.map kt e))) {H : Heap} (hR : Rel μ F w H)
    {vx : AV} (hx : RepA μ F w vx (a.eval x)) (hob : (lenV H.ob k vx).ob) : NOut P μ F w o a fresh (lenV H.ob k vx) := by
  have fin : ∀ (n : Nat) (ob : Prop), (Builtin.len_ #[t] o.type #[a.eval x]).run P w = .ok (goInt n) w → NOut P μ F w o a fresh ⟨ob, .d (.int .i64 n), .none⟩ := fun n ob h =>
    NOut.none rfl (len_run o args argTypes ho ha htt h) (.d _ _ (.int _ _))
  unfold lenV at hob ⊢
  split at hob
  · rename_i xs
    obtain ⟨e, ht⟩ : ∃ e, P.underlying t = some (.slice e) := by rcases hu with h | h | h <;> simp at h; exact h
    have hd := hx.inv_d
    generalize hu' : a.eval x = u at hd fin
    cases hd with
    | vs _ ad n c sz' f hn => exact fin xs.length _ (by simp [Builtin.len_, run_underlying ht, hn])
  · obtain ⟨e, ht⟩ : ∃ e, P.underlying t = some (.slice e) := by rcases hu with h | h | h <;> simp at h; exact h
    generalize hu' : a.eval x = u at hx fin
    cases hx with
    | nils => exact fin 0 _ (by simp [Builtin.len_, run_underlying ht])
  · rename_i id off len sz
    obtain ⟨e, ht⟩ : ∃ e, P.underlying t = some (.slice e) := by rcases hu with h | h | h <;> simp at h; exact h
    generalize hu' : a.eval x = u at hx fin
    cases hx with
    | hs => exact fin _ _ (by simp [Builtin.len_, run_underlying ht])
    | hs0 => exact fin 0 _ (by simp [Builtin.len_, run_underlying ht])
  · rename_i s
    have ht : P.underlying t = some .string := by rcases hu with h | h | h <;> simp at h; exact h
    have e := hx.inv_d.inv_str
    exact fin s.length _ (by rw [e]; simp [Builtin.len_, run_underlying ht]; rfl)
  · obtain ⟨kt, e, ht⟩ : ∃ kt e, P.underlying t = some (.map kt e) := by rcases hu with h | h | h <;> simp at h; exact h
    have hd := hx.inv_d
    generalize hu' : a.eval x = u at hd fin
    cases hd with
    | nilm => exact fin 0 _ (by simp [Builtin.len_, run_underlying ht])
  · rename_i id
    split at hob
    · rename_i ks es hG
      obtain ⟨kt, e, ht⟩ : ∃ kt e, P.underlying t = some (.map kt e) := by rcases hu with h | h | h <;> simp at h; exact h
      generalize hu' : a.eval x = u at hx fin
      cases hx with
      | mp _ l hm =>
        obtain ⟨_, ents, clock, hb, hsz, _⟩ : MapAt μ F w l ks es := hR.ob id l _ hm (Heap.ob_some hG)
        have hg : (getObj l.blk).run P w = .ok (.map ents clock) w := by simp [getObj, Sem.run, hb]
        exact fin es.length _ (by simp [Builtin.len_, run_underlying ht, hg, hsz])
    · exact hob.elim
  · exact hob.elim

theorem minL_run (isMin : Bool) : ∀ (vs : List AV) (us : List Value) (x : AV) (u : Value) (v : AV), us.length = vs.length → RepA μ F w x u → (∀ (i : Nat) (x : AV) (u : Value), vs[i]? = some x → us[i]? = some u → RepA μ F w x u) →
    minL isMin x vs = some v → ∃ r, (us.foldlM (if isMin then Builtin.min2 else Builtin.max2) u).run P w = .ok r w ∧ RepA μ F w v r
  | [], [], x, u, v, _, hx, _, h => by simp [minL] at h; subst h; exact ⟨u, by simp, hx⟩
  | [], _ :: _, _, _, _, h, _, _, _ => by cases h
  | _ :: _, [], _, _, _, h, _, _, _ => by cases h
  | y :: vs, uy :: us, x, u, v, hl, hx, hr, h => by
    simp only [minL, Option.bind_eq_some_iff] at h
    obtain ⟨z, hz, h⟩ := h
    have hy := hr 0 y uy rfl rfl
    have : ∃ r, ((if isMin then Builtin.min2 else Builtin.max2) u uy).run P w = .ok r w ∧ RepA μ F w z r := by
      unfold min2V at hz
      split at hz
      · rename_i k n k' m
        obtain rfl := Option.some.inj hz
        rw [hx.inv_d.inv_int, hy.inv_d.inv_int]
        cases isMin
        · exact ⟨_, by simp [Builtin.max2], .d _ _ (.int _ _)⟩
        · exact ⟨_, by simp [Builtin.min2], .d _ _ (.int _ _)⟩
      · cases hz
    obtain ⟨r, h1, h2⟩ := this
    obtain ⟨r', h3, h4⟩ := minL_run isMin vs us z r v (by simpa using hl) h2 (fun i x u hx hu => hr (i + 1) x u (by simpa using hx) (by simpa using hu)) h
    exact ⟨r', by simp [List.foldlM_cons, h1, h3], h4⟩

theorem minmax_sound (o : Oper) (args : Array Operand) (argTypes : Array TypeId) (isMin : Bool) (ho : o.op = .call { callee := .builtin (if isMin then .min else .max), args, argTypes })
    {res : Operand → Option Arg} {ρ : Arg → AV} (hρ : ∀ x b, res x = some b → RepA μ F w (ρ b) (a.eval x)) {as : List Arg} (ha : resAll res args.toList = some as) (hob : (minmaxV isMin (as.map ρ)).ob) :
    NOut P μ F w o a fresh (minmaxV isMin (as.map ρ)) := by
  obtain ⟨h1, h2⟩ := resAll_some ha
  have hpt : ∀ (i : Nat) (x : AV) (u : Value), (as.map ρ)[i]? = some x → (args.toList.map a.eval)[i]? = some u → RepA μ F w x u := by
    intro i x u hx hu
    simp only [List.getElem?_map, Option.map_eq_some_iff] at hx hu
    obtain ⟨b, hb, rfl⟩ := hx
    obtain ⟨c, hc, rfl⟩ := hu
    exact hρ _ _ (h2 i c b hc hb)
  have hlen : (args.toList.map a.eval).length = (as.map ρ).length := by simp [h1]
  have hargs : (args.map a.eval).toList = args.toList.map a.eval := by simp
  generalize as.map ρ = vs at *
  generalize args.toList.map a.eval = us at *
  unfold minmaxV at hob ⊢
  split at hob
  · rename_i x r
    cases us with
    | nil => cases hlen
    | cons u us =>
      split at hob
      · rename_i v hv
        obtain ⟨q, hq, hr⟩ := minL_run (P := P) isMin r us x u v (by simpa using hlen) (hpt 0 x u rfl rfl) (fun i x u hx hu => hpt (i + 1) x u (by simpa using hx) (by simpa using hu)) hv
        refine NOut.none rfl (u := q) ?_ hr
        cases isMin
        · simp only [execOp, ho, resolve, Sem.run_bind, Sem.run_pure, Result.andThen_ok, invoke, builtin, Builtin.max_, hargs, Bool.false_eq_true, if_false]
          simp only [Bool.false_eq_true, if_false] at hq
          simp [hq]
        · simp only [execOp, ho, resolve, Sem.run_bind, Sem.run_pure, Result.andThen_ok, invoke, builtin, Builtin.min_, hargs, if_true]
          simp only [if_true] at hq
          simp [hq]
      · exact hob.elim
  · exact hob.elim

theorem nilCheck_sound (o : Oper) (x : Operand) (ho : o.op = .nilCheck x) {vx : AV} (hx : RepA μ F w vx (a.eval x)) (hob : (nilCheckV vx).ob) : NOut P μ F w o a fresh (nilCheckV vx) := by
  unfold nilCheckV at hob ⊢
  split at hob
  · generalize hu : a.eval x = u at hx
    cases hx with
    | ptr _ _ _ l hm => exact NOut.none rfl (by simp [execOp, ho, hu]) (.ptr _ _ _ l hm)
  · generalize hu : a.eval x = u at hx
    cases hx with
    | fp _ _ b o0 f h1 h2 h3 => exact NOut.none rfl (by simp [execOp, ho, hu]) (.fp _ _ b o0 f h1 h2 h3)
  · generalize hu : a.eval x = u at hx
    cases hx with
    | clo _ _ us hs h => exact NOut.none rfl (by simp [execOp, ho, hu]) (.clo _ _ us hs h)
  · have hd := hx.inv_d
    generalize hu : a.eval x = u at hd
    cases hd with
    | fn => exact NOut.none rfl (by simp [execOp, ho, hu]) (.d _ _ (.fn _))
  · exact hob.elim

theorem mkIface_sound (o : Oper) (x : Operand) (ho : o.op = .makeInterface t x) (ht : P.concrete t = true) {vx : AV} (hx : RepA μ F w vx (a.eval x)) : NOut P μ F w o a fresh (mkIfaceV t vx) := by
  have hr : (execOp a.eval o).run P w = .ok (.value (.iface t (a.eval x))) w := by simp [execOp, ho, run_makeInterface w t _ ht]
  unfold mkIfaceV
  split
  · exact NOut.none rfl hr (.d _ _ (.ifc _ _ _ hx.inv_d))
  · exact NOut.none rfl hr (.ifc _ _ _ hx)

theorem boolOf_rep {x : AV} {b : Bool} {u : Value} (h : boolOf x = some b) (hs : x.sob) (hx : RepA μ F w x u) : u = .bool b := by
  unfold boolOf at h
  split at h
  · cases h; exact hx.inv_d.inv_bool
  · cases h
    cases hx with
    | when _ _ _ h _ => exact (h hs).inv_d.inv_bool
  · cases h

theorem pick_sound (o : Oper) (c x y : Operand) (ho : o.op = .pick c x y) {cb : Bool} (hc : a.eval c = .bool cb) {vx vy : AV} (hx : RepA μ F w vx (a.eval x)) (hy : RepA μ F w vy (a.eval y))
    (hob : (pickV cb vx vy).ob) (ob : Prop) : NOut P μ F w o a fresh ⟨ob, (pickV cb vx vy).v, .none⟩ := by
  have hr : (execOp a.eval o).run P w = .ok (.value (if cb then a.eval x else a.eval y)) w := by
    simp only [execOp, ho, hc, asBool, Sem.run_bind, Sem.run_pure, Result.andThen_ok]
  refine NOut.none rfl hr ?_
  unfold pickV at hob ⊢
  split at hob
  · rename_i bx by' h1 h2
    cases cb
    · have := boolOf_rep h2 (hob.2 rfl) hy
      simp [this]; exact .d _ _ (.bool _)
    · have := boolOf_rep h1 (hob.1 rfl) hx
      simp [this]; exact .d _ _ (.bool _)
  · exact hob.elim

end
end Go.Vm
/- All operations that write nothing, in one theorem. -/
namespace Go.Vm
open Go
variable [Gl]

section
variable {P : Program} {μ : Locs} {F : Nat → Prop} {w : World} {a : Act} {fresh : Nat} {t : TypeId}

theorem argsOb_mem {ρ : Arg → AV} : ∀ {xs : List Arg}, argsOb ρ xs → ∀ b ∈ xs, (ρ b).sob
  | [], _, b, hb => by cases hb
  | x :: r, h, b, hb => by
    rcases List.mem_cons.1 hb with rfl | hb
    · exact h.1
    · exact argsOb_mem h.2 b hb

open Classical in
/-- The operands, their conditions met. -/
noncomputable def full (ρ : Arg → AV) (b : Arg) : AV := if (ρ b).sob then (ρ b).strip else .undef
theorem full_of {ρ : Arg → AV} {b : Arg} (h : (ρ b).sob) : full ρ b = (ρ b).strip := by unfold full; rw [if_pos h]
theorem full_rep {ρ : Arg → AV} {b : Arg} {u : Value} (h : RepA μ F w (ρ b) u) : RepA μ F w (full ρ b) u := by
  unfold full; split
  · rename_i hs; exact h.strip hs
  · exact .undef _

theorem resOpt_some {res : Operand → Option Arg} {x : Option Operand} {b : Option Arg} (h : resOpt res x = some b) : (x = none ∧ b = none) ∨ ∃ y c, x = some y ∧ b = some c ∧ res y = some c := by
  unfold resOpt at h
  split at h
  · cases h; exact .inl ⟨rfl, rfl⟩
  · rename_i y
    simp only [Option.map_eq_some_iff] at h
    obtain ⟨c, hc, rfl⟩ := h
    exact .inr ⟨y, c, rfl, rfl, hc⟩

theorem nop_sound {res : Operand → Option Arg} {keep : Bool} {o : Oper} {op : NOp} (h : compOp P res keep o = some (.inl op)) {ρ : Arg → AV} {H : Heap} (hR : Rel μ F w H)
    (hρ : ∀ x b, res x = some b → RepA μ F w (ρ b) (a.eval x)) (hob : (op.evS ρ H.ob fresh).ob) : NOut P μ F w o a fresh (op.evS ρ H.ob fresh) := by
  -- what an operand means, its condition met
  have arg : ∀ (bs : List Arg), argsOb ρ bs → ∀ x b, res x = some b → b ∈ bs → RepA μ F w (ρ b).strip (a.eval x) := fun bs ha x b hb hm => (hρ x b hb).strip (argsOb_mem ha b hm)
  have hfull : ∀ x b, res x = some b → RepA μ F w (full ρ b) (a.eval x) := fun x b hb => full_rep (hρ x b hb)
  -- the same, another condition
  have cond : ∀ {ob ob' : Prop} {v : AV} {n : New}, NOut P μ F w o a fresh ⟨ob, v, n⟩ → NOut P μ F w o a fresh ⟨ob', v, n⟩ := fun {ob ob' v n} hn => hn
  unfold compOp at h
  split at h
  case h_1 x ho =>
    simp only [Option.map_eq_some_iff] at h; obtain ⟨b, hb, e⟩ := h; cases e
    exact mov_sound o x (.inl ho) (arg _ hob.1 x b hb (by simp [NOp.args])) _
  case h_2 x ho =>
    simp only [Option.map_eq_some_iff] at h; obtain ⟨b, hb, e⟩ := h; cases e
    exact mov_sound o x (.inr ho) (arg _ hob.1 x b hb (by simp [NOp.args])) _
  case h_3 c x y ho =>
    split at h
    · rename_i bc bx by' hc hx hy
      cases h
      simp only [NOp.evS] at hob ⊢
      split at hob
      · rename_i c' hc'
        have hcv := (hρ _ _ hc).strip hob.1
        rw [hc'] at hcv
        exact pick_sound o c x y ho hcv.inv_d.inv_bool (hρ _ _ hx) (hρ _ _ hy) hob.2 _
      · exact hob.elim
    · cases h
  case h_4 b t x y yt ho =>
    split at h
    · split at h <;> (try split at h) <;> (try split at h) <;> first | cases h | skip
    · split at h
      · rename_i k bx by' hk hx hy
        split at h
        · cases h
          exact bin_sound o b t x y yt ho k (ksT_one hk) (arg _ hob.1 x _ hx (by simp [NOp.args])) (arg _ hob.1 y _ hy (by simp [NOp.args])) hob.2
        · cases h
      · rename_i ts bx by' hk hx hy
        split at h
        · rename_i hb
          cases h
          subst hb
          exact eqs_sound o .eql x y yt ho hk (.inl rfl) (arg _ hob.1 x _ hx (by simp [NOp.args])) (arg _ hob.1 y _ hy (by simp [NOp.args])) hob.2
        · split at h
          · rename_i hb
            cases h
            subst hb
            exact eqs_sound o .neq x y yt ho hk (.inr rfl) (arg _ hob.1 x _ hx (by simp [NOp.args])) (arg _ hob.1 y _ hy (by simp [NOp.args])) hob.2
          · cases h
      · cases h
  case h_6 t x ho =>
    simp only [Option.map_eq_some_iff] at h; obtain ⟨b, hb, e⟩ := h; cases e
    exact not_sound o x ho (arg _ hob.1 x b hb (by simp [NOp.args])) hob.2
  case h_7 t x ho =>
    simp only [Option.map_eq_some_iff] at h; obtain ⟨b, hb, e⟩ := h; cases e
    exact neg_sound o x ho (arg _ hob.1 x b hb (by simp [NOp.args])) hob.2
  case h_8 src dst x ho =>
    split at h
    · rename_i k b d hk hb hd
      cases h
      exact conv_sound o x src ho hk hd (arg _ hob.1 x b hb (by simp [NOp.args])) hob.2
    · cases h
  case h_9 t x f ho =>
    split at h
    · rename_i fd b n hf hb hn
      split at h
      · rename_i hc
        cases h
        exact fieldAddr_sound o x f ho hf hc.1 (arg _ hob.1 x b hb (by simp [NOp.args])) hob.2
      · cases h
    · cases h
  case h_10 t x ho =>
    split at h
    · rename_i n g b hn hg hb
      split at h
      · rename_i hc
        cases h
        exact load_sound o x ho hn hg hc hR (arg _ hob.1 x b hb (by simp [NOp.args])) hob.2
      · cases h
    · cases h
  case h_11 t ho =>
    split at h
    · rename_i n z hn hz
      cases h
      exact alloc_sound o ho hz hR hob.2 _
    · cases h
  case h_12 t x ho =>
    split at h
    · rename_i n b hn hb
      cases h
      exact box_sound o x ho hR (arg _ hob.1 x b hb (by simp [NOp.args])) hob.2 _
    · cases h
  case h_13 t ps ho =>
    split at h
    · rename_i cs parts hz hp
      split at h
      · rename_i fs hfs
        split at h
        · rename_i hall
          simp only [Option.map_eq_some_iff] at h
          obtain ⟨z, hk, e⟩ := h
          cases e
          simp only [Option.bind_eq_some_iff] at hz
          obtain ⟨i, hi, hz⟩ := hz
          have e2 : (parts.map fun p => (p.1, p.2.1, (ρ p.2.2).strip)) = (parts.map fun p => (p.1, p.2.1, full ρ p.2.2)) :=
            List.map_congr_left fun p hp' => by rw [full_of (argsOb_mem hob.1 _ (by simp only [NOp.args]; exact List.mem_map_of_mem hp'))]
          have := build_sound (P := P) (fresh := fresh) o ps ho hi hz hfs hall hk (ρ := full ρ) hfull hp rfl (by rw [← e2]; exact hob.2)
          simp only [NOp.evS, NOp.ev]
          rw [e2]
          exact this
        · cases h
      · cases h
    · cases h
  case h_14 t n ps ho =>
    split at h
    · rename_i e parts he hp
      split at h
      · rename_i s z hs hz
        split at h
        · rename_i hc
          cases h
          have e2 : (parts.map fun p => (p.1, (ρ p.2).strip)) = (parts.map fun p => (p.1, full ρ p.2)) :=
            List.map_congr_left fun p hp' => by rw [full_of (argsOb_mem hob.1 _ (by simp only [NOp.args]; exact List.mem_map_of_mem hp'))]
          have := lit_sound (P := P) (fresh := fresh) o n ps ho he hs hz hc (ρ := full ρ) hfull hp keep hR (by rw [← e2]; exact hob.2)
          simp only [NOp.evS, NOp.ev]
          rw [e2]
          exact this
        · cases h
      · cases h
    · cases h
  case h_15 f first caps ho =>
    split at h
    · rename_i hf
      simp only [Option.map_eq_some_iff] at h
      obtain ⟨as, ha, e⟩ := h
      cases e
      have e2 : (as.map fun b => (ρ b).strip) = as.map (full ρ) :=
        List.map_congr_left fun p hp' => by rw [full_of (argsOb_mem hob.1 _ hp')]
      have := mkFunc_sound (P := P) (fresh := fresh) o f first caps ho hf (ρ := full ρ) hfull ha
      simp only [NOp.evS, NOp.ev]
      rw [e2]
      exact this
    · cases h
  case h_16 t ho =>
    split at h
    · simp only [Option.map_eq_some_iff] at h
      obtain ⟨ks, hks, e⟩ := h
      cases e
      exact mkMap_sound o ho ks _
    · cases h
  case h_17 t n c ho =>
    split at h
    · rename_i e bn bc he hn hc
      split at h
      · rename_i s b z hs hb hz
        split at h
        · rename_i hs0
          cases h
          exact mkSlice_sound o n c ho he hs hb hz hs0 hR (arg _ hob.1 n bn hn (by simp [NOp.args])) (arg _ hob.1 c bc hc (by simp [NOp.args])) hob.2
        · cases h
      · cases h
    · cases h
  case h_18 t x lo hi mx ho =>
    split at h
    · cases h
    · rename_i hmx
      have hmx' : mx = none := by cases mx <;> simp at hmx ⊢
      subst hmx'
      have go : ∀ (b : Arg) (blo bhi : Option Arg) (s : Nat), res x = some b → resOpt res lo = some blo → resOpt res hi = some bhi → op = .slice s blo bhi b →
          ((∃ e, P.underlying t = some (.slice e) ∧ sizeT P e = some s ∧ s ≠ 0) ∨ (P.underlying t = some .string ∧ s = 0)) → NOut P μ F w o a fresh (op.evS ρ H.ob fresh) := by
        rintro b blo bhi s hb hlo hhi rfl ht
        refine slice_sound o x lo hi ho ht (arg _ hob.1 x b hb (by simp [NOp.args])) ?_ ?_ ?_ ?_ hob.2
        · intro v hv
          rcases resOpt_some hlo with ⟨rfl, rfl⟩ | ⟨y, c, rfl, rfl, hc⟩
          · cases hv
          · cases hv; exact ⟨y, rfl, arg _ hob.1 y c hc (by simp [NOp.args])⟩
        · intro v hv
          rcases resOpt_some hhi with ⟨rfl, rfl⟩ | ⟨y, c, rfl, rfl, hc⟩
          · cases hv
          · cases hv; exact ⟨y, rfl, arg _ hob.1 y c hc (by simp [NOp.args])⟩
        · intro hv
          rcases resOpt_some hlo with ⟨rfl, rfl⟩ | ⟨y, c, rfl, rfl, hc⟩
          · rfl
          · cases hv
        · intro hv
          rcases resOpt_some hhi with ⟨rfl, rfl⟩ | ⟨y, c, rfl, rfl, hc⟩
          · rfl
          · cases hv
      split at h
      · rename_i e b blo bhi ht hb hlo hhi
        simp only [Option.bind_eq_some_iff] at h
        obtain ⟨s, hs, h⟩ := h
        split at h
        · rename_i hs0
          cases h
          exact go b blo bhi s hb hlo hhi rfl (.inl ⟨e, ht, hs, hs0⟩)
        · cases h
      · rename_i b blo bhi ht hb hlo hhi
        cases h
        exact go b blo bhi 0 hb hlo hhi rfl (.inr ⟨ht, rfl⟩)
      · cases h
  case h_19 t x i ho =>
    split at h
    · rename_i e b bi he hb hi
      simp only [Option.bind_eq_some_iff] at h
      obtain ⟨s, hs, h⟩ := h
      split at h
      · cases h
        exact idxAddr_sound o x i ho he hs (arg _ hob.1 x b hb (by simp [NOp.args])) (arg _ hob.1 i bi hi (by simp [NOp.args])) hob.2
      · cases h
    · rename_i b bi he hb hi
      split at h
      · rename_i n e ht
        simp only [Option.map_eq_some_iff] at h
        obtain ⟨s, hs, h⟩ := h
        cases h
        exact idxArr_sound o x i ho ht hs (arg _ hob.1 x b hb (by simp [NOp.args])) (arg _ hob.1 i bi hi (by simp [NOp.args])) hob.2
      · cases h
    · cases h
  case h_20 t x k ok ho =>
    split at h
    · rename_i kt e b bk ht hb hk
      split at h
      · rename_i ks z hks hz
        cases h
        exact lookup_sound o x k ok ho ht hks hz hR (arg _ hob.1 x b hb (by simp [NOp.args])) (arg _ hob.1 k bk hk (by simp [NOp.args])) hob.2
      · cases h
    · cases h
  case h_21 x i ho =>
    simp only [Option.map_eq_some_iff] at h; obtain ⟨b, hb, e⟩ := h; cases e
    exact extract_sound o x i ho (arg _ hob.1 x b hb (by simp [NOp.args])) hob.2
  case h_22 t x f ho =>
    split at h
    · rename_i fd b hf hb
      split at h
      · rename_i n g hn hg
        split at h
        · rename_i hc
          cases h
          exact field_sound o x f ho hf hn hg hc (arg _ hob.1 x b hb (by simp [NOp.args])) hob.2.1 hob.2.2 _
        · cases h
      · cases h
    · cases h
  case h_23 x ho =>
    simp only [Option.map_eq_some_iff] at h; obtain ⟨b, hb, e⟩ := h; cases e
    exact nilCheck_sound o x ho (arg _ hob.1 x b hb (by simp [NOp.args])) hob.2
  case h_24 t x ho =>
    split at h
    · rename_i ht
      simp only [Option.map_eq_some_iff] at h; obtain ⟨b, hb, e⟩ := h; cases e
      exact mkIface_sound o x ho ht (arg _ hob.1 x b hb (by simp [NOp.args]))
    · cases h
  case h_33 args argTypes ho =>
    split at h
    · rename_i x tt ha htt
      have e1 : ∀ k b, res x = some b → op = .len k b → ((k = 0 ∧ ∃ e, P.underlying tt = some (.slice e)) ∨ (k = 1 ∧ P.underlying tt = some .string) ∨ (k = 2 ∧ ∃ kt e, P.underlying tt = some (.map kt e))) → NOut P μ F w o a fresh (op.evS ρ H.ob fresh) := by
        rintro k b hb rfl hu
        exact len_sound o args argTypes ho ha htt hu hR (arg _ hob.1 x b hb (by simp [NOp.args])) hob.2
      split at h
      · rename_i e he
        simp only [Option.map_eq_some_iff] at h; obtain ⟨b, hb, e⟩ := h; cases e
        exact e1 0 b hb rfl (.inl ⟨rfl, _, he⟩)
      · rename_i he
        simp only [Option.map_eq_some_iff] at h; obtain ⟨b, hb, e⟩ := h; cases e
        exact e1 1 b hb rfl (.inr (.inl ⟨rfl, he⟩))
      · rename_i e he
        simp only [Option.map_eq_some_iff] at h; obtain ⟨b, hb, e⟩ := h; cases e
        exact e1 2 b hb rfl (.inr (.inr ⟨rfl, _, _, he⟩))
      · cases h
    · cases h
  case h_34 args argTypes ho =>
    simp only [Option.map_eq_some_iff] at h
    obtain ⟨as, ha, e⟩ := h
    cases e
    have e2 : (as.map fun b => (ρ b).strip) = as.map (full ρ) :=
      List.map_congr_left fun p hp' => by rw [full_of (argsOb_mem hob.1 _ hp')]
    have := minmax_sound (P := P) (fresh := fresh) o args argTypes true ho (ρ := full ρ) hfull ha (by rw [← e2]; exact hob.2)
    simp only [NOp.evS, NOp.ev]
    rw [e2]
    exact this
  case h_35 args argTypes ho =>
    simp only [Option.map_eq_some_iff] at h
    obtain ⟨as, ha, e⟩ := h
    cases e
    have e2 : (as.map fun b => (ρ b).strip) = as.map (full ρ) :=
      List.map_congr_left fun p hp' => by rw [full_of (argsOb_mem hob.1 _ hp')]
    have := minmax_sound (P := P) (fresh := fresh) o args argTypes false ho (ρ := full ρ) hfull ha (by rw [← e2]; exact hob.2)
    simp only [NOp.evS, NOp.ev]
    rw [e2]
    exact this
  all_goals try (simp only [Option.map_eq_some_iff] at h; obtain ⟨b, hb, e⟩ := h; cases e; done)
  all_goals try (exact absurd (Option.some.inj h) (by simp))
  all_goals try (cases h; done)
  all_goals (repeat' split at h) <;> first | (cases h; done) | (simp only [Option.map_eq_some_iff] at h; obtain ⟨b, hb, e⟩ := h; cases e; done)

end
end Go.Vm
